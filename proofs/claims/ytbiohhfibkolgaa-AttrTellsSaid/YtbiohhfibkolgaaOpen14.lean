/-
  Attributes that came in are opened.
-/
import Derived.Test.YtbiohhfibkolgaaLaw14
import Derived.Test.YtbiohhfibkolgaaShell
namespace Go.Proofs.Ytbiohhfibkolgaa
open Go.Sx
set_option linter.unusedVariables false
set_option linter.unusedSimpArgs false
set_option maxRecDepth 100000

open Go.ChangeShapes Go.WideShapes Go.ChangeAt Go.RowKit Go.Deep
theorem open_attrs {H : Type} {enc : TypeId × Value → H} {W : World} {v : Value} {d : DataW H} {p : List MemPlace} {r : Reach} {base b0 : Nat} {spare : Nat → Bool} {held : Bool} (hv : Value.okWide Try.prog W r b0 30 v) (h : DataW.Trod enc Try.prog W base spare held 30 v d p) :
    ∃ x : At, v = x.v ∧ x.Ok := by
  obtain ⟨cs, rfl, hl, hf⟩ := open_struct Try.underlying30 (by kernel_rfl) (by kernel_rfl) hv h
  have hf' : ∀ (i : Nat) (f : Field) (k : IntKind) (m : Int), k.min = 0 → k.max = m → (True) → (#[⟨ "Flags", 27, 0, false, "", "", 0⟩, ⟨ "Size", 28, 1, false, "", "", 8⟩, ⟨ "Uid", 27, 2, false, "", "", 16⟩, ⟨ "Gid", 27, 3, false, "", "", 20⟩, ⟨ "Mode", 27, 4, false, "", "", 24⟩, ⟨ "Atime", 27, 5, false, "", "", 28⟩, ⟨ "Mtime", 27, 6, false, "", "", 32⟩] : Array Field)[i]? = some f → Try.prog.underlying f.type = some (.int k) → ∃ a : Nat, cs[i]? = some (.int k (a : Int)) ∧ (a : Int) ≤ m := by
    intro i f k m h0 h1 _ hi hk
    obtain ⟨c, y, n, hc, ht⟩ := hf i f hi
    obtain ⟨z, hz, _, hw⟩ := DataW.trod_int hk ht
    obtain ⟨a, rfl, ha⟩ := wf_nat hw h0 h1
    simp only [List.cons.injEq, and_true] at hz
    exact ⟨a, by rw [hc, hz], ha⟩

  obtain ⟨a0, e0, m0⟩ := hf' 0 _ .u32 4294967295 rfl rfl trivial rfl Try.underlying27
  obtain ⟨a1, e1, m1⟩ := hf' 1 _ .u64 18446744073709551615 rfl rfl trivial rfl Try.underlying28
  obtain ⟨a2, e2, m2⟩ := hf' 2 _ .u32 4294967295 rfl rfl trivial rfl Try.underlying27
  obtain ⟨a3, e3, m3⟩ := hf' 3 _ .u32 4294967295 rfl rfl trivial rfl Try.underlying27
  obtain ⟨a4, e4, m4⟩ := hf' 4 _ .u32 4294967295 rfl rfl trivial rfl Try.underlying27
  obtain ⟨a5, e5, m5⟩ := hf' 5 _ .u32 4294967295 rfl rfl trivial rfl Try.underlying27
  obtain ⟨a6, e6, m6⟩ := hf' 6 _ .u32 4294967295 rfl rfl trivial rfl Try.underlying27
  refine ⟨⟨a0, a1, a2, a3, a4, a5, a6⟩, ?_, ⟨by simp only; omega, by simp only; omega, by simp only; omega, by simp only; omega, by simp only; omega, by simp only; omega, by simp only; omega⟩⟩
  match cs, hl with
  | [x0, x1, x2, x3, x4, x5, x6], _ =>
    simp only [List.getElem?_cons_zero, List.getElem?_cons_succ, Option.some.injEq] at e0 e1 e2 e3 e4 e5 e6
    subst e0; subst e1; subst e2; subst e3; subst e4; subst e5; subst e6
    rfl

end Go.Proofs.Ytbiohhfibkolgaa
