/-
  Lists that came in, opened.
-/
import Derived.Test.YtigaolglnnjnmaaDoorNgL
import Derived.Test.YtigaolglnnjnmaaDoorSxOpen
namespace Go.Proofs.YtigaolglnnjnmaaDoor
open Go.Sx
open Go.ChangeShapes
open Go.WideShapes
open Go.ChangeAt
open Go.RowKit
set_option linter.unusedVariables false
set_option linter.unusedSimpArgs false
set_option maxRecDepth 100000
set_option maxHeartbeats 4000000

theorem flat_one {α : Type} (f : α → Value) (l : List α) : flat (fun x => [f x]) l = l.map f := by
  induction l with
  | nil => rfl
  | cons x r ih => rw [flat_cons, ih]; rfl
theorem opens_array {P : Program} {W : World} {t e : TypeId} {α : Type} {f : α → List Value} {ok : α → Prop} {n : Nat} (ht : P.underlying t = some (.array n e)) (k : Nat) (hk : ∀ x, (f x).length = k) (hc : P.cellsOf e = k) (hct : P.cellsOf t = n * k) (he : Opens P W e f ok) :
    Opens P W t (flat f) (fun l => l.length = n ∧ ∀ x ∈ l, ok x) := fun H enc fuel cs x h => by
  obtain ⟨xs, m, _, _, hl, hn, hi⟩ := DataW.trod_array ht h
  obtain ⟨l, hlen, hq⟩ := list_of (fun i (y : α) => ok y ∧ (cs.drop (i * k)).take k = f y) n fun i hil => by
    have h1 := hi i hil
    rw [List.getElem?_eq_getElem (by omega), hc] at h1
    obtain ⟨y, h2, h3⟩ := he H enc _ _ _ h1
    exact ⟨y, h3, h2⟩
  refine ⟨l, ?_, hlen, fun y hy => ?_⟩
  · have key : ∀ (l : List α) (cs : List Value), cs.length = l.length * k → (∀ (i : Nat) (y : α), l[i]? = some y → (cs.drop (i * k)).take k = f y) → cs = flat f l := by
      intro l
      induction l with
      | nil => intro cs h1 _; have h2 : cs = [] := List.eq_nil_of_length_eq_zero (by simpa using h1); rw [h2]; rfl
      | cons y r ih =>
        intro cs h1 h2
        rw [flat_cons, ← h2 0 y rfl, Nat.zero_mul, List.drop_zero, ← ih (cs.drop k) (by rw [List.length_drop, h1, List.length_cons, Nat.succ_mul]; omega) (fun i z hz => by
          have := h2 (i + 1) z (by simpa using hz)
          rw [List.drop_drop, show k + i * k = (i + 1) * k by rw [Nat.succ_mul]; omega]; exact this), List.take_append_drop]
    exact key l cs (by rw [hl, hct, hlen]) (fun i y h => (hq i y h).2)
  · obtain ⟨i, h1⟩ := List.mem_iff_getElem?.1 hy
    exact (hq i y h1).1
theorem op_na {W : World} : Opens Tryd.prog W 44 (fun l : List Lt => l.map Slv.v) (fun l => l.length = 10 ∧ ∀ x ∈ l, x.Ok (ro W) (fun y : List UInt8 => [.string (str y)]) (fun y => y.length ≤ maxLen)) := fun H enc fuel cs x h => by
  obtain ⟨l, h1, h2⟩ := opens_array Tryd.underlying44 1 (fun _ => rfl) (by kernel_rfl) (by kernel_rfl) (opens_slice Tryd.underlying24 1 (fun _ => rfl) (by kernel_rfl) (by decide) (opens_str Tryd.underlying9)) H enc fuel cs x h
  exact ⟨l, by rw [h1, flat_one], h2⟩

theorem op_li {W : World} : Opens Tryd.prog W 46 Li.cs (Li.Ok (ro W)) := fun H enc fuel cs x h => by
  obtain ⟨e, n, hg⟩ := opens_fields Tryd.underlying46 [1, 10, 1] (by kernel_rfl) h
  obtain ⟨x0, t0⟩ := hg 0 ⟨ "Cookie", 22, 0, false, "", "", 0⟩ rfl
  rw [show Tryd.prog.cellsOf 22 = 1 by kernel_rfl] at t0
  obtain ⟨y0, e0, k0⟩ := (opens_slice Tryd.underlying22 1 (fun _ => rfl) (by kernel_rfl) (by decide) (opens_byte Tryd.underlying5)) H enc _ _ _ t0
  have z0 : (cs.drop (0)).take 1 = (fun s => [Slv.v s]) y0 := e0
  obtain ⟨x1, t1⟩ := hg 1 ⟨ "Names", 44, 1, false, "", "", 24⟩ rfl
  rw [show Tryd.prog.cellsOf 44 = 10 by kernel_rfl] at t1
  obtain ⟨y1, e1, k1⟩ := op_na H enc _ _ _ t1
  have z1 : (cs.drop (0 + 1)).take 10 = (fun l : List Lt => l.map Slv.v) y1 := e1
  obtain ⟨x2, t2⟩ := hg 2 ⟨ "Follows", 4, 11, false, "", "", 264⟩ rfl
  rw [show Tryd.prog.cellsOf 4 = 1 by kernel_rfl] at t2
  obtain ⟨y2, e2, k2⟩ := (opens_bool Tryd.underlying4) H enc _ _ _ t2
  have z2 : (cs.drop (0 + 1 + 10)).take 1 = (fun b : Bool => [.bool b]) y2 := e2
  refine ⟨⟨y0.p, y0.c, y0.l, y1, y2⟩, ?_, ⟨k1.1, k0.b, k0.cap, by have h1 := k0.cap; have h2 := k0.max; simp only [maxLen] at h2; show y0.l.length ≤ _; omega, fun s hs => ⟨(k1.2 s hs).vw, (k1.2 s hs).cap, by have h1 := (k1.2 s hs).cap; have h2 := (k1.2 s hs).max; simp only [maxLen] at h2; omega⟩⟩⟩
  rw [e]; simp only [chunks]
  rw [z0, z1, z2]; rfl
end Go.Proofs.YtigaolglnnjnmaaDoor
