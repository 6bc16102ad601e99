/-
  Appends and slice literals as rows: of bytes, of things of k cells each.
-/
import Derived.Test.YtbbmhppkhcodfaaSxFlat
namespace Go.Sx
set_option linter.unusedVariables false
set_option linter.unusedSimpArgs false
theorem SubH.rown {H L : List HProp} {e : TypeId} {size : Nat} (h : SubH H L) : SubH H (row e size (.slice none 0 0) 0 [] :: L) := fun w F s => by
  rw [St_cons, star_assoc]; exact row_nil (h w F s)
section
variable {P : Program} {L : HProp}
theorem Src.celv {src : Value} {l : List UInt8} (h : Vw L src l.length (cel l)) : Src P L 1 src l.length (cel l) := Src.of_vw h (by rw [cel_length, Nat.mul_one]) (cel_one l)
theorem Src.strl {l : List UInt8} : Src P L 1 (.string (Sx.str l)) l.length (cel l) := by
  have h := Src.str (P := P) L (Sx.str l)
  rw [str_size, bts_str] at h; exact h
theorem Src.flatv {α : Type} {f : α → List Value} {size : Nat} {src : Value} {l : List α} (hk : ∀ x, (f x).length = size) (h1 : ∀ x, ∀ v ∈ f x, v.oneCell' = true) (h : Vw L src l.length (flat f l)) : Src P L size src l.length (flat f l) :=
  Src.of_vw h (flat_len hk l) (flat_one' h1 l)
variable {n : Nat} {Γ : Env} {d : Option Tmp} {ty : TypeId} {pos : String} {aft : Array Edge} {g : Option (Nat × Bool)}
/-- bytes behind bytes -/
theorem eff_appB {t t2 e : TypeId} {z : Value} {x y : Operand} {p : Option Addr} {src : Value} {c : Nat} {l l2 : List UInt8} {H : List HProp} (i : Nat) (ht : Slc P t e 1 1 z)
    (h2 : (∃ e', P.underlying t2 = some (.slice e')) ∨ P.underlying t2 = some .string) (hx : ev Γ x = some (.slice p l.length c)) (hy : ev Γ y = some src)
    (hi : H[i]? = some (row e 1 (.slice p l.length c) l.length (cel l))) (hs : Src P (St (H.eraseIdx i)) 1 src l2.length (cel l2)) (hb : l.length + l2.length ≤ 140737488355328) :
    EFF P n Γ ⟨d, .call { callee := .builtin .append, args := #[x, y], argTypes := #[t, t2] }, ty, pos, aft, g⟩ (St H)
      (fun v' H' => ∃ p' c', v' = .slice p' (l ++ l2).length c' ∧ (p' = none ↔ p = none ∧ l2.length = 0) ∧ H' = H.set i (row e 1 (.slice p' (l ++ l2).length c') (l ++ l2).length (cel (l ++ l2)))) := fun a w F K Q f s hK =>
  eff_append i ht h2 hx hy hi hs (by omega) (by simp only [maxLen]; omega) a w F K Q f s fun v' w' H' hp hs' => hK v' w' H' (by
    obtain ⟨A, ⟨p', c', rfl, hn, rfl⟩, rfl⟩ := hp
    refine ⟨p', c', by rw [List.length_append], hn, ?_⟩
    rw [List.length_append, cel_append]) hs'
/-- things behind things -/
theorem eff_appF {α : Type} {f : α → List Value} {t t2 e : TypeId} {size bytes : Nat} {z : Value} {x y : Operand} {p : Option Addr} {src : Value} {c : Nat} {l l2 : List α} {H : List HProp} (i : Nat) (ht : Slc P t e size bytes z)
    (h2 : (∃ e', P.underlying t2 = some (.slice e')) ∨ P.underlying t2 = some .string) (hx : ev Γ x = some (.slice p l.length c)) (hy : ev Γ y = some src)
    (hi : H[i]? = some (row e size (.slice p l.length c) l.length (flat f l))) (hs : Src P (St (H.eraseIdx i)) size src l2.length (flat f l2)) (hb : (l.length + l2.length) * bytes ≤ 140737488355328) (hm : l.length + l2.length ≤ 140737488355328) :
    EFF P n Γ ⟨d, .call { callee := .builtin .append, args := #[x, y], argTypes := #[t, t2] }, ty, pos, aft, g⟩ (St H)
      (fun v' H' => ∃ p' c', v' = .slice p' (l ++ l2).length c' ∧ (p' = none ↔ p = none ∧ l2.length = 0) ∧ H' = H.set i (row e size (.slice p' (l ++ l2).length c') (l ++ l2).length (flat f (l ++ l2)))) := fun a w F K Q f0 s hK =>
  eff_append i ht h2 hx hy hi hs hb (by simp only [maxLen]; omega) a w F K Q f0 s fun v' w' H' hp hs' => hK v' w' H' (by
    obtain ⟨A, ⟨p', c', rfl, hn, rfl⟩, rfl⟩ := hp
    refine ⟨p', c', by rw [List.length_append], hn, ?_⟩
    rw [List.length_append, flat_append]) hs'
/-- a slice literal, as a row -/
theorem eff_lit {t e : TypeId} {k size bytes : Nat} {z : Value} {ps : List (Nat × Operand)} {vs : List (Nat × Value)} {cs : List Value} {H : List HProp} (ht : Slc P t e size bytes z) (hx : evp Γ ps = some vs) (h : SBld P t k vs e cs) (hl : cs.length = k * size) (hk : k ≤ 16777216) :
    EFF P n Γ ⟨d, .buildSlice t k ps.toArray, ty, pos, aft, g⟩ (St H) (fun u H' => ∃ b, u = .slice (some ⟨b, 0, none⟩) k k ∧ H' = row e size (.slice (some ⟨b, 0, none⟩) k k) k cs :: H) := fun a w F K Q f s hK =>
  eff_buildSlice hx h a w F K Q f s fun v' w' H' hp hs' => by
    obtain ⟨b, rfl, rfl⟩ := hp
    refine hK _ w' _ ⟨b, rfl, rfl⟩ ?_
    rw [St_cons, star_assoc] at hs' ⊢
    exact row_mk (Nat.le_refl _) (by simp only [maxLen]; omega) hl (by rw [← hl]; exact List.take_length) (warm_zero cs) hs'
end
end Go.Sx
namespace Go.Sx
/-- a call that takes some atoms, and reads all the others -/
theorem eff_callM {P : Program} {n : Nat} {Γ : Env} {o : Oper} {H Pre Rest : List HProp} {Φ : Value → List HProp → Prop} {f : FuncId} {xs : List Operand} {tys : Array TypeId} {vs : List Value}
    (hc : ∀ args w, (callFunc f args).run P w = .ok (.enter f args) w)
    (hop : o.op = .call { callee := .value (.func f), args := xs.toArray, argTypes := tys }) (hv : evs Γ xs = some vs)
    (hs : Split H Pre Rest) (ht : Tri P f vs (Pre ++ [St Rest]) (fun v H' => ∃ K, Φ v K ∧ H' = K ++ [St Rest])) : EFF P n Γ o (St H) (fun v H' => ∃ K, Φ v K ∧ H' = K ++ Rest) := by
  have h2 : Split H (Pre ++ [St Rest]) [] := by
    unfold Split at *
    rw [hs, St_append, St_cons, St_nil, star_emp, star_emp]
  have h3 := eff_call (n := n) hc hop hv h2 ht
  intro a w F K Q f' s hK
  refine h3 a w F K Q f' s fun v w' H' hp hs' => ?_
  obtain ⟨L, ⟨K', hΦ, rfl⟩, rfl⟩ := hp
  refine hK v w' (K' ++ Rest) ⟨K', hΦ, rfl⟩ ?_
  simp only [St_append, St_cons, St_nil, star_emp] at hs' ⊢
  exact hs'
theorem Vw.cons {A : HProp} {H : List HProp} {v : Value} {n : Nat} {xs : List Value} (h : Vw (St H) v n xs) : Vw (St (A :: H)) v n xs := fun w R s => by
  rw [St_cons, star_comm A, star_assoc] at s; exact h w _ s
theorem RdN.cons {A : HProp} {H : List HProp} {b o : Nat} {xs : List Value} (h : RdN (St H) b o xs) : RdN (St (A :: H)) b o xs := fun j u hj w R s => by
  rw [St_cons, star_comm A, star_assoc] at s; exact h j u hj w _ s
end Go.Sx
