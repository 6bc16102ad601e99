/-
  The walk of SftpIds.
-/
import Derived.Test.YtigaolglnnjnmaaSfG
import Derived.Test.YtigaolglnnjnmaaSxOpen
import Derived.Test.YtigaolglnnjnmaaAuthA
import Derived.Test.YtigaolglnnjnmaaQw
namespace Go.Proofs.Ytigaolglnnjnmaa
open Go.Sx
set_option linter.unusedVariables false
set_option linter.unusedSimpArgs false
set_option maxRecDepth 100000
set_option maxHeartbeats 4000000

theorem ops_packS {n : Nat} {ops : Array Oper} {l : List Oper} {Γ : Env} {H : List HProp} {Q : Post} (h : ∀ V2, V2 = St H → Ops Try.prog n ops l Γ [V2] Q) : Ops Try.prog n ops l Γ H Q :=
  ops_sub' (fun w F s => by rw [St_cons, St_nil, star_emp]; exact s) (h (St H) rfl)
theorem sub_of {H L : List HProp} (h : SubH H L) : SubH [St H] L := fun w F s => h w F (by rw [St_cons, St_nil, star_emp] at s; exact s)
/-- two writings that differ by the id alone -/
structure Idr (a : Nat) (x y : List UInt8) : Prop where
  len : x.length = y.length
  pos : x.length ≠ 0 → 5 ≤ x.length
  hd : ∀ (h : 0 < x.length) (h' : 0 < y.length), x[0] = y[0]
  tl : x.drop 5 = y.drop 5
  id : x.length ≠ 0 → (x.drop 1).take 4 = be a 4
structure Pr where
  x : Slv UInt8
  y : Slv UInt8
def Pr.cs (p : Pr) : List Value := [p.x.v, p.y.v]
theorem Pr.len (p : Pr) : p.cs.length = 2 := rfl
structure Pr.Ok (U : HProp) (a : Nat) (p : Pr) : Prop where
  x : Vw U p.x.v p.x.l.length (cel p.x.l)
  y : Vw U p.y.v p.y.l.length (cel p.y.l)
  cx : p.x.l.length ≤ p.x.c
  cy : p.y.l.length ≤ p.y.c
  id : Idr a p.x.l p.y.l
theorem doneS_pre2 {fn : Func} {n : Nat} {Ψ : Value → List HProp → Prop} {Γ : Env} {H H2 : List HProp} (hs : SubH H H2) (h : DoneS Try.prog fn n Ψ .ret Γ H2) : DoneS Try.prog fn n Ψ .ret Γ H := by
  obtain ⟨v, L, h1, h2, h3⟩ := h
  exact ⟨v, L, fun a w F f s => h1 a w F f (hs w F s), h2, hs.trans h3⟩
end Go.Proofs.Ytigaolglnnjnmaa
