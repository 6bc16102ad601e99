/-
  The table of package session: entries, each with its slices.
-/
import Derived.Test.YtbiohhfibkolgaaRp
namespace Go.Proofs.Ytbiohhfibkolgaa
open Go.Sx
set_option linter.unusedVariables false
set_option linter.unusedSimpArgs false
set_option maxRecDepth 100000
set_option maxHeartbeats 4000000

structure En where
  seq : Int
  r : Rp
def En.zero : En := ⟨0, Rp.zero⟩
def En.cs (e : En) : List Value := .int .i64 e.seq :: e.r.cs
theorem En.len (e : En) : e.cs.length = 13 := rfl
abbrev En.own (e : En) : HProp := star e.r.rd e.r.rn
abbrev tcs (E : List En) : List Value := flat En.cs E
abbrev tab (bt : Nat) (E : List En) : HProp := own bt (.cells (tcs E).toArray 96 (0, 0))
abbrev owns (E : List En) : HProp := bigS En.own E
theorem tab_rd {bt c : Nat} {E : List En} {e : En} (hc : E[c]? = some e) : RdN (tab bt E) bt (0 + c * 13) e.cs := RdN.elem rdn_all En.len hc
theorem tab_r {bt c : Nat} {E : List En} {e : En} (hc : E[c]? = some e) : RdN (tab bt E) bt (0 + 0 + c * 13 + 1) e.r.cs := by
  have h := (tab_rd (bt := bt) hc).sub (k := 1) (ys := e.r.cs) fun j u hj => by rw [Nat.add_comm]; exact hj
  rwa [show 0 + c * 13 + 1 = 0 + 0 + c * 13 + 1 by omega] at h
theorem vw_big {α : Type} {f : α → HProp} {l : List α} {i n : Nat} {x : α} {v : Value} {xs : List Value} (hi : l[i]? = some x) (h : Vw (f x) v n xs) : Vw (bigS f l) v n xs := fun w R s => by
  rw [bigS_pick f hi, star_assoc] at s; exact h w _ s
theorem vw_left {A B : HProp} {v : Value} {n : Nat} {xs : List Value} (h : Vw A v n xs) : Vw (star A B) v n xs := fun w R s => by rw [star_assoc] at s; exact h w _ s
theorem vw_right {A B : HProp} {v : Value} {n : Nat} {xs : List Value} (h : Vw B v n xs) : Vw (star A B) v n xs := fun w R s => by rw [star_comm A, star_assoc] at s; exact h w _ s
theorem En.in {E : List En} {c : Nat} {e : En} (hc : E[c]? = some e) : e.r.In (owns E) := ⟨vw_big hc (vw_left Vw.row), vw_big hc (vw_right Vw.row)⟩
theorem own_zeros : ∀ (n : Nat) (H : List HProp), SubH H (owns (List.replicate n En.zero) :: H)
  | 0, H => fun w F s => by show sat w (star (St (emp :: H)) F); rw [St_cons, emp_star]; exact s
  | n + 1, H => fun w F s => by
    have h := own_zeros n H w F s
    have h2 := (SubH.rown (e := 5) (size := 1) (SubH.rown (e := 46) (size := 8) (SubH.refl (owns (List.replicate n En.zero) :: H)))) w F h
    show sat w (star (St (owns (En.zero :: List.replicate n En.zero) :: H)) F)
    simp only [St_cons, bigS, star_assoc] at h2 ⊢
    exact h2
theorem own_set {E : List En} {c : Nat} {e e' : En} (hc : E[c]? = some e) (H : List HProp) : SubH (e'.r.rd :: e'.r.rn :: owns E :: H) (owns (E.set c e') :: H) := fun w F s => by
  have h1 : ∀ w F, sat w (star (owns E) F) → sat w (star (owns (E.eraseIdx c)) F) := fun w F s => by
    rw [show owns E = star e.own (owns (E.eraseIdx c)) from bigS_pick En.own hc, star_assoc] at s
    exact sat_star_right s
  have h2 := SubH.turn 2 rfl h1 w F s
  rw [show owns (E.set c e') = star e'.own (owns (E.eraseIdx c)) from bigS_set En.own hc]
  simp only [List.set_cons_succ, List.set_cons_zero, St_cons, star_assoc] at h2 ⊢
  exact h2

end Go.Proofs.Ytbiohhfibkolgaa
