/-
  Package strongroomref15: its tree, and how it lies.
  Package strongroomref15: what only reads.
  Package strongroomref15: holder, attributes, Read.
  Package strongroomref15: Read, List.
  Package strongroomref15: New, Make, Remove.
-/
import Derived.Test.YtbbmhppkhcodfaaTrTb
import Derived.Test.YtbbmhppkhcodfaaSxRowA
import Derived.Test.YtbbmhppkhcodfaaTrX
import Derived.Test.YtbbmhppkhcodfaaSxSub
import Derived.Test.YtbbmhppkhcodfaaWire
import Derived.Test.YtbbmhppkhcodfaaSxFork
namespace Go.Proofs.Ytbbmhppkhcodfaa
open Go.Sx
set_option linter.unusedVariables false
set_option linter.unusedSimpArgs false
set_option maxRecDepth 100000
set_option maxHeartbeats 4000000

/-- a thing of the document's tree, as it lies -/
structure Th where
  id : Nat
  par : Int
  name : List UInt8
  dir : Bool
  bp : Option Addr
  bc : Nat
  b : List UInt8
  a : At
def Th.cs (x : Th) : List Value := [.int .i64 (x.id : Int), .int .i64 x.par, .string (str x.name), .bool x.dir, .slice x.bp x.b.length x.bc] ++ x.a.cs
theorem Th.len (x : Th) : x.cs.length = 12 := rfl
theorem Th.one (x : Th) : ∀ v ∈ x.cs, v.oneCell' = true := fun v hv => by
  simp only [Th.cs, At.cs, List.mem_append, List.mem_cons, List.not_mem_nil, or_false] at hv
  rcases hv with (rfl | rfl | rfl | rfl | rfl) | rfl | rfl | rfl | rfl | rfl | rfl | rfl <;> rfl
def Th.co (x : Th) : Co := ⟨x.id, x.par, x.dir, x.name, x.b, x.a⟩
abbrev rowT (p : Option Addr) (c : Nat) (l : List Th) : HProp := row 109 12 (.slice p l.length c) l.length (flat Th.cs l)
def thB (x : Th) : HProp := rowD x.bp x.bc x.b
def ths (l : List Th) : HProp := St (l.map thB)
structure Rt where
  tb : Nat
  p : Option Addr
  c : Nat
  next : Nat
  L : List Th
def Rt.cs (w : Rt) : List Value := [.slice w.p w.L.length w.c, .int .i64 (w.next : Int)]
def rtL (w : Rt) : List HProp := [own w.tb (.cells w.cs.toArray 74 (0, 0)), rowT w.p w.c w.L, ths w.L]
def rtree (w : Rt) : HProp := St (rtL w)
abbrev Rt.v (w : Rt) : Value := .pointer (some ⟨w.tb, 0, none⟩)
/-- V lets the document's tree be read -/
structure Rv (V : HProp) (w : Rt) : Prop where
  cs : RdN V w.tb 0 w.cs
  ls : Vw V (.slice w.p w.L.length w.c) w.L.length (flat Th.cs w.L)
  b : ∀ x ∈ w.L, Vw V (.slice x.bp x.b.length x.bc) x.b.length (cel x.b)
  caps : ∀ u R, sat u (star V R) → ∀ x ∈ w.L, x.b.length ≤ x.bc
  few : w.L.length ≤ 100000
theorem Rv.pick {H : List HProp} {A : HProp} {w : Rt} (i : Nat) (hi : H[i]? = some A) (h : Rv A w) : Rv (St H) w :=
  ⟨RdN.of_pick i hi h.cs, Vw.pick i hi h.ls, fun x hx => Vw.pick i hi (h.b x hx), fun u R s => by rw [St_pick hi, star_assoc] at s; exact h.caps u _ s, h.few⟩
theorem ths_pick {l : List Th} {x : Th} (h : x ∈ l) : ∃ i : Nat, (l.map thB)[i]? = some (thB x) := by
  obtain ⟨i, hi⟩ := List.mem_iff_getElem?.1 h
  exact ⟨i, by rw [List.getElem?_map, hi]; rfl⟩
theorem ths_b {l : List Th} {x : Th} (h : x ∈ l) : Vw (ths l) (.slice x.bp x.b.length x.bc) x.b.length (cel x.b) := by
  obtain ⟨i, hi⟩ := ths_pick h
  exact Vw.pick i hi Vw.row
theorem ths_caps {l : List Th} {x : Th} (h : x ∈ l) {u : World} {R : HProp} (s : sat u (star (ths l) R)) : x.b.length ≤ x.bc := by
  obtain ⟨i, hi⟩ := ths_pick h
  rw [ths, St_pick hi, star_assoc] at s; rw [thB, rowD, ← star_emp (row _ _ _ _ _), ← St_nil, ← St_cons] at s; exact row_caps 0 rfl s
theorem rtree_rv {w : Rt} (h : w.L.length ≤ 100000) : Rv (rtree w) w :=
  ⟨RdN.of_pick 0 rfl rdn_all, Vw.pick 1 rfl Vw.row, fun x hx => Vw.pick 2 rfl (ths_b hx), fun u R s x hx => by
    rw [rtree, St_pick (L := rtL w) (i := 2) rfl, star_assoc] at s; exact ths_caps hx s, h⟩
/-- the place of a number -/
def atI (l : List Th) (k : Int) : Int := match l.findIdx? (fun x => decide ((x.id : Int) = k)) with
  | some i => (i : Int)
  | none => -1
def tAt (l : List Th) (k : Int) : Option Th := l.find? (fun x => decide ((x.id : Int) = k))
theorem atI_hit {l : List Th} {k : Int} {i : Nat} {x : Th} (hi : l[i]? = some x) (hk : (x.id : Int) = k) (hno : ∀ (j : Nat) y, l[j]? = some y → j < i → (y.id : Int) ≠ k) : atI l k = i ∧ tAt l k = some x := by
  obtain ⟨hlt, he⟩ := List.getElem?_eq_some_iff.1 hi
  have h1 : l.findIdx? (fun x => decide ((x.id : Int) = k)) = some i := by
    rw [List.findIdx?_eq_some_iff_getElem]; refine ⟨hlt, by rw [he]; exact decide_eq_true hk, fun j hj => ?_⟩; have := hno j l[j] (List.getElem?_eq_getElem (by omega)) hj
    simpa using this
  have h2 : tAt l k = some x := by
    unfold tAt; rw [List.find?_eq_some_iff_getElem]; refine ⟨decide_eq_true hk, i, hlt, he, fun j hj => ?_⟩; have := hno j l[j] (List.getElem?_eq_getElem (by omega)) hj
    simpa using this
  exact ⟨by unfold atI; rw [h1], h2⟩
theorem atI_miss {l : List Th} {k : Int} (hno : ∀ (j : Nat) y, l[j]? = some y → (y.id : Int) ≠ k) : atI l k = -1 ∧ tAt l k = none := by
  have all : ∀ x ∈ l, (x.id : Int) ≠ k := fun x hx => by
    obtain ⟨j, hj⟩ := List.mem_iff_getElem?.1 hx
    exact hno j x hj
  have h1 : l.findIdx? (fun x => decide ((x.id : Int) = k)) = none := List.findIdx?_eq_none_iff.2 fun x hx => decide_eq_false (all x hx)
  exact ⟨by unfold atI; rw [h1], List.find?_eq_none.2 fun x hx => by simpa using all x hx⟩
theorem atI_cases (l : List Th) (k : Int) : (atI l k = -1 ∧ tAt l k = none) ∨ ∃ (i : Nat) (x : Th), atI l k = i ∧ l[i]? = some x ∧ tAt l k = some x ∧ (x.id : Int) = k := by
  cases h : l.findIdx? (fun x => decide ((x.id : Int) = k)) with
  | none =>
    have h1 := List.findIdx?_eq_none_iff.1 h
    exact .inl (atI_miss fun j y hj => by simpa using h1 y (List.mem_of_getElem? hj))
  | some i =>
    obtain ⟨hlt, h1, h2⟩ := List.findIdx?_eq_some_iff_getElem.1 h
    have hx : (l[i].id : Int) = k := by simpa using h1
    obtain ⟨g1, g2⟩ := atI_hit (List.getElem?_eq_getElem hlt) hx fun j y hj hji => by
      obtain ⟨hl, he⟩ := List.getElem?_eq_some_iff.1 hj
      have := h2 j hji
      rw [he] at this; simpa using this
    exact .inr ⟨i, l[i], g1, List.getElem?_eq_getElem hlt, g2, hx⟩
theorem at_step {l : List Th} {k : Int} {i : Nat} {x : Th} (h : ∀ (j : Nat) y, l[j]? = some y → j < i → (y.id : Int) ≠ k) (hi : l[i]? = some x) (hx : ¬ (x.id : Int) = k) : ∀ (j : Nat) y, l[j]? = some y → j < i + 1 → (y.id : Int) ≠ k := fun j y hj hji => by
  by_cases e : j = i
  · subst e; rw [hi] at hj; injection hj with hj; rw [← hj]; exact hx
  · exact h j y hj (by omega)
/-- the thing of a name in another -/
def kidT (l : List Th) (i : Int) (s : List UInt8) : Option Th := l.find? (fun x => decide (x.par = i) && decide (x.name = s))
def kidI (l : List Th) (i : Int) (s : List UInt8) : Int := match kidT l i s with
  | some x => (x.id : Int)
  | none => -1
theorem kidT_hit {l : List Th} {k : Int} {s : List UInt8} {i : Nat} {x : Th} (hi : l[i]? = some x) (hk : x.par = k ∧ x.name = s) (hno : ∀ (j : Nat) y, l[j]? = some y → j < i → ¬ (y.par = k ∧ y.name = s)) : kidT l k s = some x := by
  obtain ⟨hlt, he⟩ := List.getElem?_eq_some_iff.1 hi
  unfold kidT; rw [List.find?_eq_some_iff_getElem]; refine ⟨by rw [decide_eq_true hk.1, decide_eq_true hk.2]; rfl, i, hlt, he, fun j hj => ?_⟩; have := hno j l[j] (List.getElem?_eq_getElem (by omega)) hj
  simp only [Bool.not_eq_true', Bool.and_eq_false_iff, decide_eq_false_iff_not]
  by_cases e : l[j].par = k
  · exact .inr fun e2 => this ⟨e, e2⟩
  · exact .inl e
theorem kidT_miss {l : List Th} {k : Int} {s : List UInt8} (hno : ∀ (j : Nat) y, l[j]? = some y → ¬ (y.par = k ∧ y.name = s)) : kidT l k s = none := by
  refine List.find?_eq_none.2 fun x hx => ?_
  obtain ⟨j, hj⟩ := List.mem_iff_getElem?.1 hx
  have := hno j x hj
  simpa using this
theorem kid_step {l : List Th} {k : Int} {s : List UInt8} {i : Nat} {x : Th} (h : ∀ (j : Nat) y, l[j]? = some y → j < i → ¬ (y.par = k ∧ y.name = s)) (hi : l[i]? = some x) (hx : ¬ (x.par = k ∧ x.name = s)) : ∀ (j : Nat) y, l[j]? = some y → j < i + 1 → ¬ (y.par = k ∧ y.name = s) := fun j y hj hji => by
  by_cases e : j = i
  · subst e; rw [hi] at hj; injection hj with hj; rw [← hj]; exact hx
  · exact h j y hj (by omega)
theorem kidI_hit {l : List Th} {k : Int} {s : List UInt8} {x : Th} (h : kidT l k s = some x) : kidI l k s = x.id := by unfold kidI; rw [h]
theorem kidI_miss {l : List Th} {k : Int} {s : List UInt8} (h : kidT l k s = none) : kidI l k s = -1 := by unfold kidI; rw [h]
theorem kidI_cases (l : List Th) (k : Int) (s : List UInt8) : (kidI l k s = -1 ∧ kidT l k s = none) ∨ ∃ x, kidI l k s = x.id ∧ kidT l k s = some x := by
  cases h : kidT l k s with
  | none => exact .inl ⟨kidI_miss h, rfl⟩
  | some x => exact .inr ⟨x, kidI_hit h, rfl⟩
def dirR (l : List Th) (k : Int) : Bool := match tAt l k with
  | some x => x.dir
  | none => false
theorem dirR_hit {l : List Th} {k : Int} {x : Th} (h : tAt l k = some x) : dirR l k = x.dir := by unfold dirR; rw [h]
theorem dirR_miss {l : List Th} {k : Int} (h : tAt l k = none) : dirR l k = false := by unfold dirR; rw [h]
def lookR (l : List Th) : Int → List (List UInt8) → Int × Int
  | k, [] => (k, 0)
  | k, s :: p => if dirR l k = true then (match kidT l k s with
    | some x => lookR l x.id p
    | none => (0, 22)) else (0, 22)
theorem lookR_file {l : List Th} {k : Int} {s : List UInt8} {p : List (List UInt8)} (h : dirR l k = false) : lookR l k (s :: p) = (0, 22) := by unfold lookR; rw [if_neg (by rw [h]; decide)]
theorem lookR_none {l : List Th} {k : Int} {s : List UInt8} {p : List (List UInt8)} (hd : dirR l k = true) (h : kidT l k s = none) : lookR l k (s :: p) = (0, 22) := by
  show (if dirR l k = true then _ else _) = _
  rw [if_pos hd, h]
theorem lookR_some {l : List Th} {k : Int} {s : List UInt8} {p : List (List UInt8)} {x : Th} (hd : dirR l k = true) (h : kidT l k s = some x) : lookR l k (s :: p) = lookR l x.id p := by
  show (if dirR l k = true then _ else _) = _
  rw [if_pos hd, h]
/-- what should hold a path -/
def holdR (l : List Th) (p : List (List UInt8)) : Int × Int :=
  if ptOk (lastN p) = true then
    (if (lookR l 0 (p.take (p.length - 1))).2 ≠ 0 then (0, 22) else
      if dirR l (lookR l 0 (p.take (p.length - 1))).1 = true then (if (kidT l (lookR l 0 (p.take (p.length - 1))).1 (lastN p)).isSome = true then (0, 21) else ((lookR l 0 (p.take (p.length - 1))).1, 0)) else (0, 23))
  else (0, 20)
def fileR (l : List Th) (k : Int) : Int × Int := match tAt l k with
  | none => (0, 22)
  | some x => if x.dir = true then (0, 23) else (atI l k, 0)

end Go.Proofs.Ytbbmhppkhcodfaa
namespace Go.Proofs.Ytbbmhppkhcodfaa
open Go.Sx
set_option linter.unusedVariables false
set_option linter.unusedSimpArgs false
set_option maxRecDepth 100000
set_option maxHeartbeats 4000000

theorem rat_spec {V : HProp} {w : Rt} (hT : Rv V w) (k : Int) : Tri Try.prog 89 [w.v, .int .i64 k] [V] (fun v H' => ∃ K, (v = .int .i64 (atI w.L k) ∧ K = []) ∧ H' = K ++ [V]) := by
  have hfew := hT.few
  refine tri_of_wpS Try.func89 rfl Try.ntmps89 (by simp) ?_; refine wp_seq' (wp_region' (ops_ro' rfl (ro_assign rfl) rfl (ops_nil (Then_normal (wp_seq' ?_))))); refine wp_seq' (wp_region' (ops_ro' rfl (ro_assign rfl) rfl (ops_nil (Then_normal (wp_block' ?_))))); refine wp_loopK 2 (fun m Δ LL => ∃ (i : Nat), (i + m = w.L.length ∧ (∀ (j : Nat) y, w.L[j]? = some y → j < i → (y.id : Int) ≠ k)) ∧ Δ = [(5, .int .i64 (i : Nat))] ∧ LL = [V]) (m := w.L.length) (Has.cons (k := 0) rfl (Has.cons (k := 1) rfl (Has.nil _))) (kept ⟨0, ⟨by omega, fun j y _ h => by omega⟩, rfl, rfl⟩ (by repeat (first | exact Has.nil _ | refine Has.cons rfl ?_)) (by repeat (first | exact Has.nil _ | refine Has.cons rfl ?_)) (by repeat (first | exact SubH.nil _ | refine SubH.cons 0 rfl ?_ | refine SubH.cons 1 rfl ?_ | refine SubH.cons 2 rfl ?_ | refine SubH.cons 3 rfl ?_ | refine SubH.cons 4 rfl ?_ | refine SubH.cons 5 rfl ?_ | refine SubH.cons 6 rfl ?_ | refine SubH.cons 7 rfl ?_ | refine SubH.rown ?_))) ?_; rintro m Δ LL ⟨i, ⟨hm, hno⟩, rfl, rfl⟩; simp only [zA, zB]; refine wp_seq' (wp_seq' (wp_region' (ops_ro' rfl (ro_move rfl) rfl (ops_ro' rfl (ro_move rfl) rfl (ops_ro' rfl (ro_nilCheck rfl) rfl ?_))))); refine ops_ro' rfl (ro_fieldAddr fa74_0 rfl) rfl (ops_ro' rfl (ro_load sc72 rfl (Rd.pick 0 rfl (hT.cs 0 _ rfl))) rfl (ops_ro' rfl (ro_sliceLen Try.underlying72 rfl) rfl (ops_ro' rfl (ro_lss rfl rfl rfl) rfl (ops_nil (Then_normal ?_))))); refine wp_cond' rfl (fun hc12 => ?_) (fun hc12 => ?_)
  · replace hc12 := of_decide_eq_true hc12
    have hi : i < w.L.length := by omega
    obtain ⟨x, hxi⟩ : ∃ x, w.L[i]? = some x := ⟨_, List.getElem?_eq_getElem hi⟩
    have hls := hT.ls
    refine wp_know (fun u F s => vw_ptr (Vw.pick (H := [V]) 0 rfl hls) s (by omega)) ?_; rintro ⟨b0, o0, hwp⟩; rw [hwp] at hls; refine wp_skip' ?_; refine Then_normal (wp_seq' (wp_block' ?_)); refine wp_seq' (wp_region' (ops_ro' rfl (ro_move rfl) rfl (ops_ro' rfl (ro_nilCheck rfl) rfl (ops_ro' rfl (ro_fieldAddr fa74_0 rfl) rfl (ops_ro' rfl (ro_load sc72 rfl (Rd.pick 0 rfl (hT.cs 0 _ rfl))) rfl ?_)))))
    try rw [hwp]
    refine ops_ro' rfl (ro_move rfl) rfl (ops_ro' rfl (ro_indexSlice sl72 rfl rfl rfl (by omega)) rfl (ops_ro' rfl (ro_fieldAddr fa109_0 rfl) rfl (ops_ro' rfl (ro_load sc3 rfl (Rd.pick 0 rfl (Rd.elem (j := 0) (vw_rdn hls) Th.len hxi rfl))) rfl (ops_ro' rfl (ro_move rfl) rfl (ops_ro' rfl (ro_eql rfl rfl rfl) rfl ?_))))); refine ops_nil (Then_normal (wp_cond' rfl (fun hc24 => ?_) (fun hc24 => ?_)))
    · replace hc24 := of_decide_eq_true hc24
      refine wp_seq' (wp_region' (ops_ro' rfl (ro_move rfl) rfl (ops_ro' rfl (ro_assign rfl) rfl (ops_nil (Then_normal ?_))))); refine wp_ret' ?_; refine InBlock_ret ?_; refine Then_ret ?_; refine Then_ret ?_; refine InBlock_ret ?_; refine Then_ret ?_; refine' doneS_ret (res1 rfl rfl) ?_ ?_
      rotate_left 1
      exact ⟨_, ⟨by rw [(atI_hit hxi hc24 hno).1], rfl⟩, rfl⟩
      exact SubH.refl _
    · replace hc24 := of_decide_eq_false hc24
      refine wp_skip' ?_; refine InBlock_normal ?_; refine Then_normal (wp_region' (ops_ro' rfl (ro_move rfl) rfl (ops_ro' rfl (ro_add rfl rfl (wrap_inc (by omega))) rfl (ops_ro' rfl (ro_assign rfl) rfl (ops_nil ?_))))); refine Then_normal (back (m - 1) (by omega) (kept ⟨i + 1, ⟨by omega, at_step hno hxi hc24⟩, rfl, rfl⟩ ?_ ?_ ?_))
      · exact (by repeat (first | exact Has.nil _ | refine Has.cons rfl ?_))
      · exact (by repeat (first | exact Has.nil _ | refine Has.cons rfl ?_))
      · exact SubH.refl _
  · replace hc12 := of_decide_eq_false hc12
    refine wp_exit' ?_; refine Then_exit ?_; refine Then_exit ?_; refine InBlock_here ?_; refine Then_normal (wp_seq' (wp_region' (ops_ro' rfl (ro_assign rfl) rfl (ops_nil (Then_normal ?_))))); refine wp_ret' ?_; refine' doneS_ret (res1 rfl rfl) ?_ ?_
    rotate_left 1
    exact ⟨_, ⟨by rw [(atI_miss fun j y hj => hno j y hj (by have := (List.getElem?_eq_some_iff.1 hj).1; omega)).1], rfl⟩, rfl⟩
    exact SubH.refl _
theorem rkid_spec {V : HProp} {w : Rt} (hT : Rv V w) (k : Int) (s : List UInt8) : Tri Try.prog 95 [w.v, .int .i64 k, .string (str s)] [V] (fun v H' => ∃ K, (v = .int .i64 (kidI w.L k s) ∧ K = []) ∧ H' = K ++ [V]) := by
  have hfew := hT.few
  refine tri_of_wpS Try.func95 rfl Try.ntmps95 (by simp) ?_; refine wp_seq' (wp_region' (ops_ro' rfl (ro_assign rfl) rfl (ops_nil (Then_normal (wp_seq' ?_))))); refine wp_seq' (wp_region' (ops_ro' rfl (ro_assign rfl) rfl (ops_nil (Then_normal (wp_block' ?_))))); refine wp_loopK 2 (fun m Δ LL => ∃ (i : Nat), (i + m = w.L.length ∧ (∀ (j : Nat) y, w.L[j]? = some y → j < i → ¬ (y.par = k ∧ y.name = s))) ∧ Δ = [(7, .int .i64 (i : Nat))] ∧ LL = [V]) (m := w.L.length) (Has.cons (k := 0) rfl (Has.cons (k := 1) rfl (Has.cons (k := 2) rfl (Has.nil _)))) (kept ⟨0, ⟨by omega, fun j y _ h => by omega⟩, rfl, rfl⟩ (by repeat (first | exact Has.nil _ | refine Has.cons rfl ?_)) (by repeat (first | exact Has.nil _ | refine Has.cons rfl ?_)) (by repeat (first | exact SubH.nil _ | refine SubH.cons 0 rfl ?_ | refine SubH.cons 1 rfl ?_ | refine SubH.cons 2 rfl ?_ | refine SubH.cons 3 rfl ?_ | refine SubH.cons 4 rfl ?_ | refine SubH.cons 5 rfl ?_ | refine SubH.cons 6 rfl ?_ | refine SubH.cons 7 rfl ?_ | refine SubH.rown ?_))) ?_; rintro m Δ LL ⟨i, ⟨hm, hno⟩, rfl, rfl⟩; simp only [zA, zB]; refine wp_seq' (wp_seq' (wp_region' (ops_ro' rfl (ro_move rfl) rfl (ops_ro' rfl (ro_move rfl) rfl (ops_ro' rfl (ro_nilCheck rfl) rfl ?_))))); refine ops_ro' rfl (ro_fieldAddr fa74_0 rfl) rfl (ops_ro' rfl (ro_load sc72 rfl (Rd.pick 0 rfl (hT.cs 0 _ rfl))) rfl (ops_ro' rfl (ro_sliceLen Try.underlying72 rfl) rfl (ops_ro' rfl (ro_lss rfl rfl rfl) rfl (ops_nil (Then_normal ?_))))); refine wp_cond' rfl (fun hc14 => ?_) (fun hc14 => ?_)
  · replace hc14 := of_decide_eq_true hc14
    have hi : i < w.L.length := by omega
    obtain ⟨x, hxi⟩ : ∃ x, w.L[i]? = some x := ⟨_, List.getElem?_eq_getElem hi⟩
    have hls := hT.ls
    refine wp_know (fun u F s => vw_ptr (Vw.pick (H := [V]) 0 rfl hls) s (by omega)) ?_; rintro ⟨b0, o0, hwp⟩; rw [hwp] at hls; refine wp_skip' ?_; refine Then_normal (wp_seq' (wp_block' ?_)); refine wp_seq' (wp_region' (ops_ro' rfl (ro_move rfl) rfl (ops_ro' rfl (ro_nilCheck rfl) rfl (ops_ro' rfl (ro_fieldAddr fa74_0 rfl) rfl (ops_ro' rfl (ro_load sc72 rfl (Rd.pick 0 rfl (hT.cs 0 _ rfl))) rfl ?_)))))
    try rw [hwp]
    refine ops_ro' rfl (ro_move rfl) rfl (ops_ro' rfl (ro_indexSlice sl72 rfl rfl rfl (by omega)) rfl (ops_ro' rfl (ro_fieldAddr fa109_1 rfl) rfl (ops_ro' rfl (ro_load sc3 rfl (Rd.pick 0 rfl (Rd.elem (j := 1) (vw_rdn hls) Th.len hxi rfl))) rfl (ops_ro' rfl (ro_move rfl) rfl (ops_ro' rfl (ro_eql rfl rfl rfl) rfl ?_))))); refine ops_split rfl rfl rfl (fun hg27 => ?_) (fun hg27 => ?_)
    · replace hg27 := of_decide_eq_true hg27
      refine ops_ro' rfl (ro_move rfl) rfl (ops_ro' rfl (ro_nilCheck rfl) rfl (ops_ro' rfl (ro_fieldAddr fa74_0 rfl) rfl (ops_ro' rfl (ro_load sc72 rfl (Rd.pick 0 rfl (hT.cs 0 _ rfl))) rfl ?_)))
      try rw [hwp]
      refine ops_ro' rfl (ro_move rfl) rfl (ops_ro' rfl (ro_indexSlice sl72 rfl rfl rfl (by omega)) rfl (ops_ro' rfl (ro_fieldAddr fa109_2 rfl) rfl (ops_ro' rfl (ro_load sc9 rfl (Rd.pick 0 rfl (Rd.elem (j := 2) (vw_rdn hls) Th.len hxi rfl))) rfl (ops_ro' rfl (ro_move rfl) rfl (ops_ro' rfl (ro_eqlS rfl rfl rfl) rfl ?_))))); refine ops_ro' rfl (ro_pick rfl rfl) rfl (ops_nil (Then_normal (wp_cond' rfl (fun hc38 => ?_) (fun hc38 => ?_))))
      · replace hc38 := of_decide_eq_true hc38
        refine wp_seq' (wp_region' (ops_ro' rfl (ro_move rfl) rfl (ops_ro' rfl (ro_nilCheck rfl) rfl (ops_ro' rfl (ro_fieldAddr fa74_0 rfl) rfl (ops_ro' rfl (ro_load sc72 rfl (Rd.pick 0 rfl (hT.cs 0 _ rfl))) rfl ?_)))))
        try rw [hwp]
        refine ops_ro' rfl (ro_move rfl) rfl (ops_ro' rfl (ro_indexSlice sl72 rfl rfl rfl (by omega)) rfl (ops_ro' rfl (ro_fieldAddr fa109_0 rfl) rfl (ops_ro' rfl (ro_load sc3 rfl (Rd.pick 0 rfl (Rd.elem (j := 0) (vw_rdn hls) Th.len hxi rfl))) rfl (ops_ro' rfl (ro_assign rfl) rfl (ops_nil ?_))))); refine Then_normal (wp_ret' ?_); refine InBlock_ret ?_; refine Then_ret ?_; refine Then_ret ?_; refine InBlock_ret ?_; refine Then_ret ?_; refine' doneS_ret (res1 rfl rfl) ?_ ?_
        rotate_left 1
        exact ⟨_, ⟨by rw [kidI_hit (kidT_hit hxi ⟨hg27, hc38⟩ hno)], rfl⟩, rfl⟩
        exact SubH.refl _
      · replace hc38 := of_decide_eq_false hc38
        refine wp_skip' ?_; refine InBlock_normal ?_; refine Then_normal (wp_region' (ops_ro' rfl (ro_move rfl) rfl (ops_ro' rfl (ro_add rfl rfl (wrap_inc (by omega))) rfl (ops_ro' rfl (ro_assign rfl) rfl (ops_nil ?_))))); refine Then_normal (back (m - 1) (by omega) (kept ⟨i + 1, ⟨by omega, kid_step hno hxi (fun h => by first | exact hg27 h.1 | exact hc38 h.2)⟩, rfl, rfl⟩ ?_ ?_ ?_))
        · exact (by repeat (first | exact Has.nil _ | refine Has.cons rfl ?_))
        · exact (by repeat (first | exact Has.nil _ | refine Has.cons rfl ?_))
        · exact SubH.refl _
    · replace hg27 := of_decide_eq_false hg27
      refine ops_skip' rfl rfl (ops_skip' rfl rfl (ops_skip' rfl rfl (ops_skip' rfl rfl ?_)))
      try rw [hwp]
      refine ops_skip' rfl rfl (ops_skip' rfl rfl (ops_skip' rfl rfl (ops_skip' rfl rfl (ops_skip' rfl rfl (ops_skip' rfl rfl ?_))))); refine ops_ro' rfl (ro_pick rfl rfl) rfl (ops_nil (Then_normal (wp_condF rfl ?_))); refine wp_skip' ?_; refine InBlock_normal ?_; refine Then_normal (wp_region' (ops_ro' rfl (ro_move rfl) rfl (ops_ro' rfl (ro_add rfl rfl (wrap_inc (by omega))) rfl (ops_ro' rfl (ro_assign rfl) rfl (ops_nil ?_))))); refine Then_normal (back (m - 1) (by omega) (kept ⟨i + 1, ⟨by omega, kid_step hno hxi (fun h => by first | exact hg27 h.1 | exact hc38 h.2)⟩, rfl, rfl⟩ ?_ ?_ ?_))
      · exact (by repeat (first | exact Has.nil _ | refine Has.cons rfl ?_))
      · exact (by repeat (first | exact Has.nil _ | refine Has.cons rfl ?_))
      · exact SubH.refl _
  · replace hc14 := of_decide_eq_false hc14
    refine wp_exit' ?_; refine Then_exit ?_; refine Then_exit ?_; refine InBlock_here ?_; refine Then_normal (wp_seq' (wp_region' (ops_ro' rfl (ro_assign rfl) rfl (ops_nil (Then_normal ?_))))); refine wp_ret' ?_; refine' doneS_ret (res1 rfl rfl) ?_ ?_
    rotate_left 1
    exact ⟨_, ⟨by rw [kidI_miss (kidT_miss fun j y hj => hno j y hj (by have := (List.getElem?_eq_some_iff.1 hj).1; omega))], rfl⟩, rfl⟩
    exact SubH.refl _


theorem rdir_spec {V : HProp} {w : Rt} (hT : Rv V w) (k : Int) : Tri Try.prog 71 [w.v, .int .i64 k] [V] (fun v H' => ∃ K, (v = .bool (dirR w.L k) ∧ K = []) ∧ H' = K ++ [V]) := by
  rcases atI_cases w.L k with ⟨ha, ht⟩ | ⟨i, x, ha, hxi, ht, hxk⟩
  · skip; refine tri_of_wpS Try.func71 rfl Try.ntmps71 (by simp) ?_; refine wp_seq' (wp_region' (ops_ro' rfl (ro_assign rfl) rfl (ops_nil (Then_normal (wp_seq' ?_))))); refine wp_region' (ops_ro' rfl (ro_move rfl) rfl (ops_ro' rfl (ro_move rfl) rfl (ops_eff' rfl (eff_call Try.call89 rfl rfl (by repeat (first | exact Split.nil _ | apply Split.cons 0 rfl | apply Split.cons 1 rfl | apply Split.cons 2 rfl | apply Split.cons 3 rfl | apply Split.cons 4 rfl | apply Split.cons 5 rfl | apply Split.cons 6 rfl | apply Split.cons 7 rfl)) (rat_spec hT k)) rfl ?_))); rintro _ H' ⟨_, ⟨_, ⟨rfl, rfl⟩, rfl⟩, hH⟩; simp only [zA, zB, zC, zD, zE, zF] at hH; subst hH; rw [ha]; refine ops_ro' rfl (ro_assign rfl) rfl (ops_nil (Then_normal (wp_seq' (wp_region' (ops_ro' rfl (ro_move rfl) rfl ?_))))); refine ops_ro' rfl (ro_geq rfl rfl (decide_eq_false (by omega))) rfl (ops_ro' rfl (ro_move (v := .bool false) rfl) rfl (ops_skip' rfl rfl (ops_skip' rfl rfl (ops_skip' rfl rfl (ops_skip' rfl rfl ?_))))); refine ops_skip' rfl rfl (ops_skip' rfl rfl (ops_skip' rfl rfl (ops_skip' rfl rfl (ops_ro' rfl (ro_pick rfl rfl) rfl (ops_ro' rfl (ro_assign rfl) rfl ?_))))); refine ops_nil (Then_normal (wp_ret' ?_)); refine' doneS_ret (res1 rfl rfl) ?_ ?_
    rotate_left 1
    exact ⟨_, ⟨by rw [dirR_miss ht], rfl⟩, rfl⟩
    exact SubH.refl _
  · have hi := (List.getElem?_eq_some_iff.1 hxi).1
    refine tri_of_wpS Try.func71 rfl Try.ntmps71 (by simp) ?_; refine wp_seq' (wp_region' (ops_ro' rfl (ro_assign rfl) rfl (ops_nil (Then_normal (wp_seq' ?_))))); refine wp_region' (ops_ro' rfl (ro_move rfl) rfl (ops_ro' rfl (ro_move rfl) rfl (ops_eff' rfl (eff_call Try.call89 rfl rfl (by repeat (first | exact Split.nil _ | apply Split.cons 0 rfl | apply Split.cons 1 rfl | apply Split.cons 2 rfl | apply Split.cons 3 rfl | apply Split.cons 4 rfl | apply Split.cons 5 rfl | apply Split.cons 6 rfl | apply Split.cons 7 rfl)) (rat_spec hT k)) rfl ?_))); rintro _ H' ⟨_, ⟨_, ⟨rfl, rfl⟩, rfl⟩, hH⟩; simp only [zA, zB, zC, zD, zE, zF] at hH; subst hH; rw [ha]; refine ops_ro' rfl (ro_assign rfl) rfl (ops_nil (Then_normal (wp_seq' ?_))); have hls := hT.ls
    refine wp_know (fun u F s => vw_ptr (Vw.pick (H := [V]) 0 rfl hls) s (by omega)) ?_; rintro ⟨b0, o0, hwp⟩; rw [hwp] at hls; refine wp_region' (ops_ro' rfl (ro_move rfl) rfl (ops_ro' rfl (ro_geq rfl rfl (decide_eq_true (by omega))) rfl (ops_ro' rfl (ro_move (v := .bool true) rfl) rfl (ops_ro' rfl (ro_move rfl) rfl (ops_ro' rfl (ro_nilCheck rfl) rfl ?_))))); refine ops_ro' rfl (ro_fieldAddr fa74_0 rfl) rfl (ops_ro' rfl (ro_load sc72 rfl (Rd.pick 0 rfl (hT.cs 0 _ rfl))) rfl ?_)
    try rw [hwp]
    refine ops_ro' rfl (ro_move rfl) rfl (ops_ro' rfl (ro_indexSlice sl72 rfl rfl rfl (by omega)) rfl (ops_ro' rfl (ro_fieldAddr fa109_3 rfl) rfl (ops_ro' rfl (ro_load sc4 rfl (Rd.pick 0 rfl (Rd.elem (j := 3) (vw_rdn hls) Th.len hxi rfl))) rfl (ops_ro' rfl (ro_pick rfl rfl) rfl (ops_ro' rfl (ro_assign rfl) rfl ?_))))); refine ops_nil (Then_normal (wp_ret' ?_)); refine' doneS_ret (res1 rfl rfl) ?_ ?_
    rotate_left 1
    exact ⟨_, ⟨by rw [dirR_hit ht], rfl⟩, rfl⟩
    exact SubH.refl _
theorem rcount_spec {V : HProp} {w : Rt} (hT : Rv V w) : Tri Try.prog 68 [w.v] [V] (fun v H' => ∃ K, (v = .int .i64 (w.L.length : Int) ∧ K = []) ∧ H' = K ++ [V]) := by
  refine tri_of_wpS Try.func68 rfl Try.ntmps68 (by simp) ?_; refine wp_seq' (wp_region' (ops_ro' rfl (ro_assign rfl) rfl (ops_nil (Then_normal (wp_seq' ?_))))); refine wp_region' (ops_ro' rfl (ro_move rfl) rfl (ops_ro' rfl (ro_nilCheck rfl) rfl (ops_ro' rfl (ro_fieldAddr fa74_0 rfl) rfl (ops_ro' rfl (ro_load sc72 rfl (Rd.pick 0 rfl (hT.cs 0 _ rfl))) rfl (ops_ro' rfl (ro_sliceLen Try.underlying72 rfl) rfl ?_))))); refine ops_ro' rfl (ro_assign rfl) rfl (ops_nil (Then_normal (wp_ret' ?_))); refine' doneS_ret (res1 rfl rfl) ?_ ?_
  rotate_left 1
  exact ⟨_, ⟨rfl, rfl⟩, rfl⟩
  exact SubH.refl _
theorem sumT_snoc {l : List Th} {i : Nat} {x : Th} (h : l[i]? = some x) : ((l.take (i + 1)).map fun x : Th => x.b.length).sum = ((l.take i).map fun x : Th => x.b.length).sum + x.b.length := by
  obtain ⟨hi, he⟩ := List.getElem?_eq_some_iff.1 h
  rw [List.take_succ_eq_append_getElem hi, List.map_append, List.sum_append, he]; simp
theorem sumT_le (l : List Th) (i : Nat) : ((l.take i).map fun x : Th => x.b.length).sum ≤ (l.map fun x : Th => x.b.length).sum := by
  conv => rhs; rw [← List.take_append_drop i l, List.map_append, List.sum_append]
  omega
theorem rbytes_spec {V : HProp} {w : Rt} (hT : Rv V w) (hs : (w.L.map fun x : Th => x.b.length).sum ≤ 9223372036854775807) : Tri Try.prog 69 [w.v] [V] (fun v H' => ∃ K, (v = .int .i64 (((w.L.map fun x : Th => x.b.length).sum : Nat) : Int) ∧ K = []) ∧ H' = K ++ [V]) := by
  have hfew := hT.few
  refine tri_of_wpS Try.func69 rfl Try.ntmps69 (by simp) ?_; refine wp_seq' (wp_region' (ops_ro' rfl (ro_assign rfl) rfl (ops_nil (Then_normal (wp_seq' ?_))))); refine wp_region' (ops_ro' rfl (ro_assign rfl) rfl (ops_nil (Then_normal (wp_seq' (wp_seq' ?_))))); refine wp_region' (ops_ro' rfl (ro_assign rfl) rfl (ops_nil (Then_normal (wp_block' ?_)))); refine wp_loopK 3 (fun m Δ LL => ∃ (i : Nat), (i + m = w.L.length) ∧ Δ = [(3, .int .i64 ((((w.L.take i).map fun x : Th => x.b.length).sum : Nat) : Int)), (4, .int .i64 (i : Nat))] ∧ LL = [V]) (m := w.L.length) (Has.cons (k := 0) rfl (Has.nil _)) (kept ⟨0, by omega, rfl, rfl⟩ (by repeat (first | exact Has.nil _ | refine Has.cons rfl ?_)) (by repeat (first | exact Has.nil _ | refine Has.cons rfl ?_)) (by repeat (first | exact SubH.nil _ | refine SubH.cons 0 rfl ?_ | refine SubH.cons 1 rfl ?_ | refine SubH.cons 2 rfl ?_ | refine SubH.cons 3 rfl ?_ | refine SubH.cons 4 rfl ?_ | refine SubH.cons 5 rfl ?_ | refine SubH.cons 6 rfl ?_ | refine SubH.cons 7 rfl ?_ | refine SubH.rown ?_))) ?_; rintro m Δ LL ⟨i, hm, rfl, rfl⟩; simp only [zA, zB]; refine wp_seq' (wp_seq' (wp_region' (ops_ro' rfl (ro_move rfl) rfl (ops_ro' rfl (ro_move rfl) rfl (ops_ro' rfl (ro_nilCheck rfl) rfl ?_))))); refine ops_ro' rfl (ro_fieldAddr fa74_0 rfl) rfl (ops_ro' rfl (ro_load sc72 rfl (Rd.pick 0 rfl (hT.cs 0 _ rfl))) rfl (ops_ro' rfl (ro_sliceLen Try.underlying72 rfl) rfl (ops_ro' rfl (ro_lss rfl rfl rfl) rfl (ops_nil (Then_normal ?_))))); refine wp_cond' rfl (fun hc11 => ?_) (fun hc11 => ?_)
  · replace hc11 := of_decide_eq_true hc11
    have hi : i < w.L.length := by omega
    obtain ⟨x, hxi⟩ : ∃ x, w.L[i]? = some x := ⟨_, List.getElem?_eq_getElem hi⟩
    have hls := hT.ls
    refine wp_know (fun u F s => vw_ptr (Vw.pick (H := [V]) 0 rfl hls) s (by omega)) ?_; rintro ⟨b0, o0, hwp⟩; rw [hwp] at hls; have hs1 := sumT_snoc hxi
    have hs2 := sumT_le w.L (i + 1)
    refine wp_skip' ?_; refine Then_normal (wp_seq' (wp_block' ?_)); refine wp_region' (ops_ro' rfl (ro_move rfl) rfl (ops_ro' rfl (ro_move rfl) rfl (ops_ro' rfl (ro_nilCheck rfl) rfl (ops_ro' rfl (ro_fieldAddr fa74_0 rfl) rfl (ops_ro' rfl (ro_load sc72 rfl (Rd.pick 0 rfl (hT.cs 0 _ rfl))) rfl ?_)))))
    try rw [hwp]
    refine ops_ro' rfl (ro_move rfl) rfl (ops_ro' rfl (ro_indexSlice sl72 rfl rfl rfl (by omega)) rfl (ops_ro' rfl (ro_fieldAddr fa109_4 rfl) rfl (ops_ro' rfl (ro_load sc30 rfl (Rd.pick 0 rfl (Rd.elem (j := 4) (vw_rdn hls) Th.len hxi rfl))) rfl (ops_ro' rfl (ro_sliceLen Try.underlying30 rfl) rfl ?_)))); refine ops_ro' rfl (ro_add rfl rfl (show IntKind.i64.wrap (((((w.L.take i).map fun x : Th => x.b.length).sum : Nat) : Int) + ((x.b.length : Nat) : Int)) = ((((w.L.take (i + 1)).map fun x : Th => x.b.length).sum : Nat) : Int) by rw [wrap_i64_in (by omega) (by omega)]; omega)) rfl (ops_ro' rfl (ro_assign rfl) rfl (ops_nil (InBlock_normal ?_))); refine Then_normal (wp_region' (ops_ro' rfl (ro_move rfl) rfl (ops_ro' rfl (ro_add rfl rfl (wrap_inc (by omega))) rfl (ops_ro' rfl (ro_assign rfl) rfl (ops_nil ?_))))); refine Then_normal (back (m - 1) (by omega) (kept ⟨i + 1, by omega, rfl, rfl⟩ ?_ ?_ ?_))
    · exact (by repeat (first | exact Has.nil _ | refine Has.cons rfl ?_))
    · exact (by repeat (first | exact Has.nil _ | refine Has.cons rfl ?_))
    · exact SubH.refl _
  · replace hc11 := of_decide_eq_false hc11
    refine wp_exit' ?_; refine Then_exit ?_; refine Then_exit ?_; refine InBlock_here ?_; refine Then_normal (wp_seq' (wp_region' (ops_ro' rfl (ro_move rfl) rfl (ops_ro' rfl (ro_assign rfl) rfl (ops_nil ?_))))); refine Then_normal (wp_ret' ?_); refine' doneS_ret (res1 rfl rfl) ?_ ?_
    rotate_left 1
    exact ⟨_, ⟨by rw [List.take_of_length_le (by omega)], rfl⟩, rfl⟩
    exact SubH.refl _
theorem rfile_spec {V : HProp} {w : Rt} (hT : Rv V w) (k : Int) : Tri Try.prog 90 [w.v, .int .i64 k] [V] (fun v H' => ∃ K, (v = .tuple #[.int .i64 (fileR w.L k).1, .int .i64 (fileR w.L k).2] ∧ K = []) ∧ H' = K ++ [V]) := by
  rcases atI_cases w.L k with ⟨ha, ht⟩ | ⟨i, x, ha, hxi, ht, hxk⟩
  · skip; refine tri_of_wpS Try.func90 rfl Try.ntmps90 (by simp) ?_; refine wp_seq' (wp_region' (ops_ro' rfl (ro_assign rfl) rfl (ops_ro' rfl (ro_assign rfl) rfl (ops_nil (Then_normal ?_))))); refine wp_seq' (wp_region' (ops_ro' rfl (ro_move rfl) rfl (ops_ro' rfl (ro_move rfl) rfl (ops_eff' rfl (eff_call Try.call89 rfl rfl (by repeat (first | exact Split.nil _ | apply Split.cons 0 rfl | apply Split.cons 1 rfl | apply Split.cons 2 rfl | apply Split.cons 3 rfl | apply Split.cons 4 rfl | apply Split.cons 5 rfl | apply Split.cons 6 rfl | apply Split.cons 7 rfl)) (rat_spec hT k)) rfl ?_)))); rintro _ H' ⟨_, ⟨_, ⟨rfl, rfl⟩, rfl⟩, hH⟩; simp only [zA, zB, zC, zD, zE, zF] at hH; subst hH; rw [ha]; refine ops_ro' rfl (ro_assign rfl) rfl (ops_nil (Then_normal (wp_seq' (wp_seq' (wp_region' ?_))))); refine ops_ro' rfl (ro_move rfl) rfl (ops_ro' rfl (ro_lss rfl rfl (decide_eq_true (by omega))) rfl (ops_nil (Then_normal (wp_condT rfl ?_)))); refine wp_seq' (wp_region' (ops_ro' rfl (ro_assign rfl) rfl (ops_ro' rfl (ro_assign rfl) rfl (ops_nil (Then_normal ?_))))); refine wp_ret' ?_; refine Then_ret ?_; refine' doneS_ret (res2 rfl rfl rfl) ?_ ?_
    rotate_left 1
    exact ⟨_, ⟨by unfold fileR; rw [ht], rfl⟩, rfl⟩
    exact SubH.refl _
  · have hi := (List.getElem?_eq_some_iff.1 hxi).1
    refine tri_of_wpS Try.func90 rfl Try.ntmps90 (by simp) ?_; refine wp_seq' (wp_region' (ops_ro' rfl (ro_assign rfl) rfl (ops_ro' rfl (ro_assign rfl) rfl (ops_nil (Then_normal ?_))))); refine wp_seq' (wp_region' (ops_ro' rfl (ro_move rfl) rfl (ops_ro' rfl (ro_move rfl) rfl (ops_eff' rfl (eff_call Try.call89 rfl rfl (by repeat (first | exact Split.nil _ | apply Split.cons 0 rfl | apply Split.cons 1 rfl | apply Split.cons 2 rfl | apply Split.cons 3 rfl | apply Split.cons 4 rfl | apply Split.cons 5 rfl | apply Split.cons 6 rfl | apply Split.cons 7 rfl)) (rat_spec hT k)) rfl ?_)))); rintro _ H' ⟨_, ⟨_, ⟨rfl, rfl⟩, rfl⟩, hH⟩; simp only [zA, zB, zC, zD, zE, zF] at hH; subst hH; rw [ha]; refine ops_ro' rfl (ro_assign rfl) rfl (ops_nil (Then_normal (wp_seq' (wp_seq' (wp_region' ?_))))); refine ops_ro' rfl (ro_move rfl) rfl (ops_ro' rfl (ro_lss rfl rfl (decide_eq_false (by omega))) rfl (ops_nil (Then_normal (wp_condF rfl ?_)))); refine wp_skip' ?_; refine Then_normal (wp_seq' (wp_seq' ?_)); have hls := hT.ls
    refine wp_know (fun u F s => vw_ptr (Vw.pick (H := [V]) 0 rfl hls) s (by omega)) ?_; rintro ⟨b0, o0, hwp⟩; rw [hwp] at hls; refine wp_region' (ops_ro' rfl (ro_move rfl) rfl (ops_ro' rfl (ro_nilCheck rfl) rfl (ops_ro' rfl (ro_fieldAddr fa74_0 rfl) rfl (ops_ro' rfl (ro_load sc72 rfl (Rd.pick 0 rfl (hT.cs 0 _ rfl))) rfl ?_))))
    try rw [hwp]
    refine ops_ro' rfl (ro_move rfl) rfl (ops_ro' rfl (ro_indexSlice sl72 rfl rfl rfl (by omega)) rfl (ops_ro' rfl (ro_fieldAddr fa109_3 rfl) rfl (ops_ro' rfl (ro_load sc4 rfl (Rd.pick 0 rfl (Rd.elem (j := 3) (vw_rdn hls) Th.len hxi rfl))) rfl (ops_nil (Then_normal ?_))))); refine wp_cond' rfl (fun hc19 => ?_) (fun hc19 => ?_)
    · skip; refine wp_seq' (wp_region' (ops_ro' rfl (ro_assign rfl) rfl (ops_ro' rfl (ro_assign rfl) rfl (ops_nil (Then_normal ?_))))); refine wp_ret' ?_; refine Then_ret ?_; refine' doneS_ret (res2 rfl rfl rfl) ?_ ?_
      rotate_left 1
      exact ⟨_, ⟨by unfold fileR; rw [ht]; simp only; rw [if_pos hc19], rfl⟩, rfl⟩
      exact SubH.refl _
    · skip; refine wp_skip' ?_; refine Then_normal (wp_seq' (wp_region' (ops_ro' rfl (ro_move rfl) rfl (ops_ro' rfl (ro_assign rfl) rfl (ops_ro' rfl (ro_assign rfl) rfl ?_))))); refine ops_nil (Then_normal (wp_ret' ?_)); refine' doneS_ret (res2 rfl rfl rfl) ?_ ?_
      rotate_left 1
      exact ⟨_, ⟨by unfold fileR; rw [ht]; simp only; rw [if_neg (by rw [hc19]; decide), ha], rfl⟩, rfl⟩
      exact SubH.refl _
theorem rlook_spec {V : HProp} {w : Rt} (hT : Rv V w) (q : Option Addr) (cq : Nat) (p : List (List UInt8)) (hV : Vw V (.slice q p.length cq) p.length (txs p)) (hl : p.length ≤ 100000) : Tri Try.prog 66 [w.v, .slice q p.length cq] [V] (fun v H' => ∃ K, (v = .tuple #[.int .i64 (lookR w.L 0 p).1, .int .i64 (lookR w.L 0 p).2] ∧ K = []) ∧ H' = K ++ [V]) := by
  refine tri_of_wpS Try.func66 rfl Try.ntmps66 (by simp) ?_; refine wp_seq' (wp_region' (ops_ro' rfl (ro_assign rfl) rfl (ops_ro' rfl (ro_assign rfl) rfl (ops_nil (Then_normal ?_))))); refine wp_seq' (wp_region' (ops_ro' rfl (ro_assign rfl) rfl (ops_nil (Then_normal (wp_seq' ?_))))); refine wp_seq' (wp_region' (ops_ro' rfl (ro_assign rfl) rfl (ops_nil (Then_normal (wp_block' ?_))))); refine wp_loopK 3 (fun m Δ LL => ∃ (i : Nat) (k : Int), (i + m = p.length ∧ lookR w.L 0 p = lookR w.L k (p.drop i)) ∧ Δ = [(6, .int .i64 k), (7, .int .i64 (i : Nat))] ∧ LL = [V]) (m := p.length) (Has.cons (k := 0) rfl (Has.cons (k := 1) rfl (Has.nil _))) (kept ⟨0, 0, ⟨by omega, rfl⟩, rfl, rfl⟩ (by repeat (first | exact Has.nil _ | refine Has.cons rfl ?_)) (by repeat (first | exact Has.nil _ | refine Has.cons rfl ?_)) (by repeat (first | exact SubH.nil _ | refine SubH.cons 0 rfl ?_ | refine SubH.cons 1 rfl ?_ | refine SubH.cons 2 rfl ?_ | refine SubH.cons 3 rfl ?_ | refine SubH.cons 4 rfl ?_ | refine SubH.cons 5 rfl ?_ | refine SubH.cons 6 rfl ?_ | refine SubH.cons 7 rfl ?_ | refine SubH.rown ?_))) ?_; rintro m Δ LL ⟨i, k, ⟨hm, hf⟩, rfl, rfl⟩; simp only [zA, zB]; refine wp_seq' (wp_seq' (wp_region' (ops_ro' rfl (ro_move rfl) rfl (ops_ro' rfl (ro_move rfl) rfl (ops_ro' rfl (ro_sliceLen Try.underlying29 rfl) rfl ?_))))); refine ops_ro' rfl (ro_lss rfl rfl rfl) rfl (ops_nil (Then_normal (wp_cond' rfl (fun hc11 => ?_) (fun hc11 => ?_))))
  · replace hc11 := of_decide_eq_true hc11
    have hi : i < p.length := by omega
    have hdr : p.drop i = p[i] :: p.drop (i + 1) := List.drop_eq_getElem_cons hi
    refine wp_know (fun u F s => vw_ptr (Vw.pick (H := [V]) 0 rfl hV) s (by omega)) ?_; rintro ⟨b0, o0, rfl⟩; refine wp_skip' ?_; refine Then_normal (wp_seq' (wp_block' ?_)); refine wp_seq' (wp_seq' (wp_region' (ops_ro' rfl (ro_move rfl) rfl (ops_ro' rfl (ro_move rfl) rfl (ops_eff' rfl (eff_call Try.call71 rfl rfl (by repeat (first | exact Split.nil _ | apply Split.cons 0 rfl | apply Split.cons 1 rfl | apply Split.cons 2 rfl | apply Split.cons 3 rfl | apply Split.cons 4 rfl | apply Split.cons 5 rfl | apply Split.cons 6 rfl | apply Split.cons 7 rfl)) (rdir_spec hT k)) rfl ?_))))); rintro _ H' ⟨_, ⟨_, ⟨rfl, rfl⟩, rfl⟩, hH⟩; simp only [zA, zB, zC, zD, zE, zF] at hH; subst hH; refine ops_ro' rfl (ro_not rfl rfl) rfl (ops_nil (Then_normal (wp_cond' rfl (fun hc17 => ?_) (fun hc17 => ?_))))
    · simp only [Bool.and_eq_true, decide_eq_true_eq, Bool.not_eq_true', decide_eq_false_iff_not, bne_iff_ne, ne_eq] at hc17; have hd : dirR w.L k = false := by simpa using hc17
      refine wp_seq' (wp_region' (ops_ro' rfl (ro_assign rfl) rfl (ops_ro' rfl (ro_assign rfl) rfl (ops_nil (Then_normal ?_))))); refine wp_ret' ?_; refine Then_ret ?_; refine InBlock_ret ?_; refine Then_ret ?_; refine Then_ret ?_; refine InBlock_ret ?_; refine Then_ret ?_; refine' doneS_ret (res2 rfl rfl rfl) ?_ ?_
      rotate_left 1
      exact ⟨_, ⟨by rw [hf, hdr, lookR_file hd], rfl⟩, rfl⟩
      exact SubH.refl _
    · simp only [Bool.and_eq_false_iff, decide_eq_false_iff_not, Bool.not_eq_false', decide_eq_true_eq] at hc17; have hd : dirR w.L k = true := by simpa using hc17
      refine wp_skip' ?_; refine Then_normal (wp_seq' (wp_region' (ops_ro' rfl (ro_move rfl) rfl (ops_ro' rfl (ro_move rfl) rfl (ops_ro' rfl (ro_move rfl) rfl ?_))))); refine ops_ro' rfl (ro_move rfl) rfl (ops_ro' rfl (ro_indexSlice sl29 rfl rfl rfl (by omega)) rfl (ops_ro' rfl (ro_load sc9 rfl (Rd.pick 0 rfl (Rd.elem (j := 0) (vw_rdn hV) Tx.len (List.getElem?_eq_getElem hi) rfl))) rfl ?_)); refine ops_eff' rfl (eff_call Try.call95 rfl rfl (by repeat (first | exact Split.nil _ | apply Split.cons 0 rfl | apply Split.cons 1 rfl | apply Split.cons 2 rfl | apply Split.cons 3 rfl | apply Split.cons 4 rfl | apply Split.cons 5 rfl | apply Split.cons 6 rfl | apply Split.cons 7 rfl)) (rkid_spec hT k p[i])) rfl ?_; rintro _ H' ⟨_, ⟨_, ⟨rfl, rfl⟩, rfl⟩, hH⟩; simp only [zA, zB, zC, zD, zE, zF] at hH; subst hH; refine ops_ro' rfl (ro_assign rfl) rfl (ops_nil (Then_normal (wp_seq' (wp_region' (ops_ro' rfl (ro_move rfl) rfl ?_))))); refine ops_ro' rfl (ro_lss rfl rfl rfl) rfl (ops_nil (Then_normal (wp_cond' rfl (fun hc26 => ?_) (fun hc26 => ?_))))
      · replace hc26 := of_decide_eq_true hc26
        have hz : kidT w.L k p[i] = none := by
          rcases kidI_cases w.L k p[i] with ⟨_, h⟩ | ⟨z, h, _⟩
          · exact h
          · omega
        refine wp_seq' (wp_region' (ops_ro' rfl (ro_assign rfl) rfl (ops_ro' rfl (ro_assign rfl) rfl (ops_nil (Then_normal ?_))))); refine wp_ret' ?_; refine InBlock_ret ?_; refine Then_ret ?_; refine Then_ret ?_; refine InBlock_ret ?_; refine Then_ret ?_; refine' doneS_ret (res2 rfl rfl rfl) ?_ ?_
        rotate_left 1
        exact ⟨_, ⟨by rw [hf, hdr, lookR_none hd hz], rfl⟩, rfl⟩
        exact SubH.refl _
      · replace hc26 := of_decide_eq_false hc26
        obtain ⟨z, hz1, hz⟩ : ∃ z, kidI w.L k p[i] = z.id ∧ kidT w.L k p[i] = some z := by
          rcases kidI_cases w.L k p[i] with ⟨h, _⟩ | h
          · omega
          · exact h
        rw [hz1]; refine wp_skip' ?_; refine InBlock_normal ?_; refine Then_normal (wp_region' (ops_ro' rfl (ro_move rfl) rfl (ops_ro' rfl (ro_add rfl rfl (wrap_inc (by omega))) rfl (ops_ro' rfl (ro_assign rfl) rfl (ops_nil ?_))))); refine Then_normal (back (m - 1) (by omega) (kept ⟨i + 1, (z.id : Int), ⟨by omega, by rw [hf, hdr, lookR_some hd hz]⟩, rfl, rfl⟩ ?_ ?_ ?_))
        · exact (by repeat (first | exact Has.nil _ | refine Has.cons rfl ?_))
        · exact (by repeat (first | exact Has.nil _ | refine Has.cons rfl ?_))
        · exact SubH.refl _
  · replace hc11 := of_decide_eq_false hc11
    refine wp_exit' ?_; refine Then_exit ?_; refine Then_exit ?_; refine InBlock_here ?_; refine Then_normal (wp_seq' (wp_region' (ops_ro' rfl (ro_move rfl) rfl (ops_ro' rfl (ro_assign rfl) rfl (ops_ro' rfl (ro_assign rfl) rfl ?_))))); refine ops_nil (Then_normal (wp_ret' ?_)); refine' doneS_ret (res2 rfl rfl rfl) ?_ ?_
    rotate_left 1
    exact ⟨_, ⟨by rw [hf, List.drop_of_length_le (by omega)]; rfl, rfl⟩, rfl⟩
    exact SubH.refl _

end Go.Proofs.Ytbbmhppkhcodfaa
namespace Go.Proofs.Ytbbmhppkhcodfaa
open Go.Sx
set_option linter.unusedVariables false
set_option linter.unusedSimpArgs false
set_option maxRecDepth 100000
set_option maxHeartbeats 4000000

theorem holdR_name {l : List Th} {p : List (List UInt8)} (h : ptOk (lastN p) = false) : holdR l p = (0, 20) := by unfold holdR; rw [if_neg (by rw [h]; decide)]
theorem holdR_none {l : List Th} {p : List (List UInt8)} {k e : Int} (h : ptOk (lastN p) = true) (hz : lookR l 0 (p.take (p.length - 1)) = (k, e)) (he : e ≠ 0) : holdR l p = (0, 22) := by unfold holdR; rw [if_pos h, hz]; simp only; rw [if_pos he]
theorem holdR_file {l : List Th} {p : List (List UInt8)} {k : Int} (h : ptOk (lastN p) = true) (hz : lookR l 0 (p.take (p.length - 1)) = (k, 0)) (hd : dirR l k = false) : holdR l p = (0, 23) := by unfold holdR; rw [if_pos h, hz]; simp only; rw [if_neg (by decide), if_neg (by rw [hd]; decide)]
theorem kidI_neg {l : List Th} {k : Int} {s : List UInt8} : (kidT l k s).isSome = true ↔ 0 ≤ kidI l k s := by
  rcases kidI_cases l k s with ⟨h1, h2⟩ | ⟨x, h1, h2⟩
  · rw [h1, h2]; simp
  · rw [h1, h2]; simp
theorem holdR_had {l : List Th} {p : List (List UInt8)} {k : Int} (h : ptOk (lastN p) = true) (hz : lookR l 0 (p.take (p.length - 1)) = (k, 0)) (hd : dirR l k = true) (hk : kidI l k (lastN p) ≥ 0) : holdR l p = (0, 21) := by unfold holdR; rw [if_pos h, hz]; simp only; rw [if_neg (by decide), if_pos hd, if_pos (kidI_neg.2 hk)]
theorem holdR_ok {l : List Th} {p : List (List UInt8)} {k : Int} (h : ptOk (lastN p) = true) (hz : lookR l 0 (p.take (p.length - 1)) = (k, 0)) (hd : dirR l k = true) (hk : ¬ kidI l k (lastN p) ≥ 0) : holdR l p = (k, 0) := by unfold holdR; rw [if_pos h, hz]; simp only; rw [if_neg (by decide), if_pos hd, if_neg (fun h => hk (kidI_neg.1 h))]
theorem rhold_spec {V : HProp} {w : Rt} (hT : Rv V w) (q : Option Addr) (cq : Nat) (p : List (List UInt8)) (hV : Vw V (.slice q p.length cq) p.length (txs p)) (hcq : p.length ≤ cq) (hl : p.length ≤ 100000) (hp : p ≠ []) (hln : (lastN p).length ≤ 9223372036854775807) : Tri Try.prog 88 [w.v, .slice q p.length cq] [V] (fun v H' => ∃ K, (v = .tuple #[.int .i64 (holdR w.L p).1, .int .i64 (holdR w.L p).2] ∧ K = []) ∧ H' = K ++ [V]) := by
  have hp1 := List.length_pos_iff.2 hp
  have hlast := lastN_at hp
  refine tri_know (fun u F s => vw_ptr (Vw.pick (H := [V]) 0 rfl hV) s (by omega)) ?_; rintro ⟨b1, o1, rfl⟩; refine tri_of_wpS Try.func88 rfl Try.ntmps88 (by simp) ?_; refine wp_seq' (wp_region' (ops_ro' rfl (ro_assign rfl) rfl (ops_ro' rfl (ro_assign rfl) rfl (ops_nil (Then_normal ?_))))); refine wp_seq' (wp_seq' (wp_region' (ops_ro' rfl (ro_move rfl) rfl (ops_ro' rfl (ro_move rfl) rfl (ops_ro' rfl (ro_sliceLen Try.underlying29 rfl) rfl ?_))))); refine ops_ro' rfl (ro_sub rfl rfl (wrap_dec (by omega) (by omega))) rfl (ops_ro' rfl (ro_indexSlice sl29 rfl rfl rfl (by omega)) rfl (ops_ro' rfl (ro_load sc9 rfl (Rd.pick 0 rfl (Rd.elem (j := 0) (vw_rdn hV) Tx.len hlast rfl))) rfl (ops_eff' rfl (eff_call Try.call104 rfl rfl (by repeat (first | exact Split.nil _ | apply Split.cons 0 rfl | apply Split.cons 1 rfl | apply Split.cons 2 rfl | apply Split.cons 3 rfl | apply Split.cons 4 rfl | apply Split.cons 5 rfl | apply Split.cons 6 rfl | apply Split.cons 7 rfl)) (qtRight_spec (lastN p) hln)) rfl ?_))); rintro _ H' ⟨_, ⟨rfl, rfl⟩, hH⟩; simp only [zA, zB, zC, zD, zE, zF] at hH; subst hH; refine ops_ro' rfl (ro_not rfl rfl) rfl (ops_nil (Then_normal (wp_cond' rfl (fun hc15 => ?_) (fun hc15 => ?_))))
  · simp only [Bool.and_eq_true, decide_eq_true_eq, Bool.not_eq_true', decide_eq_false_iff_not, bne_iff_ne, ne_eq] at hc15; refine wp_seq' (wp_region' (ops_ro' rfl (ro_assign rfl) rfl (ops_ro' rfl (ro_assign rfl) rfl (ops_nil (Then_normal ?_))))); refine wp_ret' ?_; refine Then_ret ?_; refine' doneS_ret (res2 rfl rfl rfl) ?_ ?_
    rotate_left 1
    exact ⟨_, ⟨by rw [holdR_name (by simpa using hc15)], rfl⟩, rfl⟩
    exact SubH.refl _
  · simp only [Bool.and_eq_false_iff, decide_eq_false_iff_not, Bool.not_eq_false', decide_eq_true_eq] at hc15; have hok : ptOk (lastN p) = true := by simpa using hc15
    refine wp_skip' ?_; refine Then_normal (wp_seq' (wp_region' (ops_ro' rfl (ro_move rfl) rfl (ops_ro' rfl (ro_move rfl) rfl (ops_ro' rfl (ro_move rfl) rfl ?_))))); refine ops_ro' rfl (ro_sliceLen Try.underlying29 rfl) rfl (ops_ro' rfl (ro_sub rfl rfl (wrap_dec (by omega) (by omega))) rfl (ops_eff' rfl (eff_sliceF 0 rfl Tx.len sl29 rfl (hV) rfl (bnd_of rfl rfl) (by omega) (by omega) hcq) rfl ?_)); rintro _ _ ⟨p22, rfl, hv22, hn22, rfl⟩; rw [show List.take (p.length - 1 - 0) (List.drop 0 p) = p.take (p.length - 1) from by simp] at hv22 ⊢; refine ops_eff' rfl (eff_call Try.call66 rfl rfl (by repeat (first | exact Split.nil _ | apply Split.cons 0 rfl | apply Split.cons 1 rfl | apply Split.cons 2 rfl | apply Split.cons 3 rfl | apply Split.cons 4 rfl | apply Split.cons 5 rfl | apply Split.cons 6 rfl | apply Split.cons 7 rfl)) (rlook_spec hT p22 _ (p.take (p.length - 1)) hv22 (by rw [List.length_take]; omega))) rfl ?_; rintro _ H' ⟨_, ⟨_, ⟨rfl, rfl⟩, rfl⟩, hH⟩; simp only [zA, zB, zC, zD, zE, zF] at hH; subst hH; obtain ⟨⟨k, e⟩, hz⟩ : ∃ z, lookR w.L 0 (p.take (p.length - 1)) = z := ⟨_, rfl⟩
    rw [hz]; dsimp only; refine ops_ro' rfl (ro_move rfl) rfl (ops_ro' rfl (ro_extract rfl rfl) rfl (ops_ro' rfl (ro_extract rfl rfl) rfl (ops_ro' rfl (ro_assign rfl) rfl (ops_ro' rfl (ro_assign rfl) rfl (ops_nil ?_))))); refine Then_normal (wp_seq' (wp_seq' (wp_region' (ops_ro' rfl (ro_move rfl) rfl (ops_ro' rfl (ro_neq rfl rfl rfl) rfl ?_))))); refine ops_nil (Then_normal (wp_cond' rfl (fun hc27 => ?_) (fun hc27 => ?_)))
    · replace hc27 := of_decide_eq_true hc27
      refine wp_seq' (wp_region' (ops_ro' rfl (ro_assign rfl) rfl (ops_ro' rfl (ro_assign rfl) rfl (ops_nil (Then_normal ?_))))); refine wp_ret' ?_; refine Then_ret ?_; refine' doneS_ret (res2 rfl rfl rfl) ?_ ?_
      rotate_left 1
      exact ⟨_, ⟨by rw [holdR_none hok hz hc27], rfl⟩, rfl⟩
      exact SubH.refl _
    · replace hc27 := of_decide_eq_false hc27
      obtain rfl : e = 0 := Classical.byContradiction hc27
      refine wp_skip' ?_; refine Then_normal (wp_seq' (wp_seq' (wp_region' (ops_ro' rfl (ro_move rfl) rfl (ops_ro' rfl (ro_move rfl) rfl ?_))))); refine ops_eff' rfl (eff_call Try.call71 rfl rfl (by repeat (first | exact Split.nil _ | apply Split.cons 0 rfl | apply Split.cons 1 rfl | apply Split.cons 2 rfl | apply Split.cons 3 rfl | apply Split.cons 4 rfl | apply Split.cons 5 rfl | apply Split.cons 6 rfl | apply Split.cons 7 rfl)) (rdir_spec hT k)) rfl ?_; rintro _ H' ⟨_, ⟨_, ⟨rfl, rfl⟩, rfl⟩, hH⟩; simp only [zA, zB, zC, zD, zE, zF] at hH; subst hH; refine ops_ro' rfl (ro_not rfl rfl) rfl (ops_nil (Then_normal (wp_cond' rfl (fun hc31 => ?_) (fun hc31 => ?_))))
      · simp only [Bool.and_eq_true, decide_eq_true_eq, Bool.not_eq_true', decide_eq_false_iff_not, bne_iff_ne, ne_eq] at hc31; refine wp_seq' (wp_region' (ops_ro' rfl (ro_assign rfl) rfl (ops_ro' rfl (ro_assign rfl) rfl (ops_nil (Then_normal ?_))))); refine wp_ret' ?_; refine Then_ret ?_; refine' doneS_ret (res2 rfl rfl rfl) ?_ ?_
        rotate_left 1
        exact ⟨_, ⟨by rw [holdR_file hok hz (by simpa using hc31)], rfl⟩, rfl⟩
        exact SubH.refl _
      · simp only [Bool.and_eq_false_iff, decide_eq_false_iff_not, Bool.not_eq_false', decide_eq_true_eq] at hc31; have hd : dirR w.L k = true := by simpa using hc31
        refine wp_skip' ?_; refine Then_normal (wp_seq' (wp_seq' (wp_region' (ops_ro' rfl (ro_move rfl) rfl (ops_ro' rfl (ro_move rfl) rfl ?_))))); refine ops_ro' rfl (ro_move rfl) rfl (ops_ro' rfl (ro_move rfl) rfl (ops_ro' rfl (ro_sliceLen Try.underlying29 rfl) rfl (ops_ro' rfl (ro_sub rfl rfl (wrap_dec (by omega) (by omega))) rfl (ops_ro' rfl (ro_indexSlice sl29 rfl rfl rfl (by omega)) rfl (ops_ro' rfl (ro_load sc9 rfl (Rd.pick 0 rfl (Rd.elem (j := 0) (vw_rdn hV) Tx.len hlast rfl))) rfl ?_))))); refine ops_eff' rfl (eff_call Try.call95 rfl rfl (by repeat (first | exact Split.nil _ | apply Split.cons 0 rfl | apply Split.cons 1 rfl | apply Split.cons 2 rfl | apply Split.cons 3 rfl | apply Split.cons 4 rfl | apply Split.cons 5 rfl | apply Split.cons 6 rfl | apply Split.cons 7 rfl)) (rkid_spec hT k (lastN p))) rfl ?_; rintro _ H' ⟨_, ⟨_, ⟨rfl, rfl⟩, rfl⟩, hH⟩; simp only [zA, zB, zC, zD, zE, zF] at hH; subst hH; refine ops_ro' rfl (ro_geq rfl rfl rfl) rfl (ops_nil (Then_normal (wp_cond' rfl (fun hc41 => ?_) (fun hc41 => ?_))))
        · replace hc41 := of_decide_eq_true hc41
          refine wp_seq' (wp_region' (ops_ro' rfl (ro_assign rfl) rfl (ops_ro' rfl (ro_assign rfl) rfl (ops_nil (Then_normal ?_))))); refine wp_ret' ?_; refine Then_ret ?_; refine' doneS_ret (res2 rfl rfl rfl) ?_ ?_
          rotate_left 1
          exact ⟨_, ⟨by rw [holdR_had hok hz hd hc41], rfl⟩, rfl⟩
          exact SubH.refl _
        · replace hc41 := of_decide_eq_false hc41
          refine wp_skip' ?_; refine Then_normal (wp_seq' (wp_region' (ops_ro' rfl (ro_move rfl) rfl (ops_ro' rfl (ro_assign rfl) rfl (ops_ro' rfl (ro_assign rfl) rfl ?_))))); refine ops_nil (Then_normal (wp_ret' ?_)); refine' doneS_ret (res2 rfl rfl rfl) ?_ ?_
          rotate_left 1
          exact ⟨_, ⟨by rw [holdR_ok hok hz hd hc41], rfl⟩, rfl⟩
          exact SubH.refl _


theorem th_at {V : HProp} {b o i : Nat} {l : List Th} {x : Th} (h : RdN V b o (flat Th.cs l)) (hi : l[i]? = some x) : RdN V b (o + i * 12 + 5) x.a.cs := fun j v hj => by
  have h1 := (RdN.elem h Th.len hi) (5 + j) v (by rw [Th.cs, List.getElem?_append_right (by simp)]; simpa using hj)
  rw [show o + i * 12 + 5 + j = o + i * 12 + (5 + j) by omega]; exact h1
def Th.told (x : Th) : At := { x.a with s := x.b.length }
theorem rtold_spec {V : HProp} {w : Rt} (hT : Rv V w) {i : Nat} {x : Th} (hxi : w.L[i]? = some x) (hl : x.b.length ≤ 100000000) : Tri Try.prog 96 [w.v, .int .i64 (i : Int)] [V] (fun v H' => ∃ K, (v = x.told.v ∧ K = []) ∧ H' = K ++ [V]) := by
  have hi := (List.getElem?_eq_some_iff.1 hxi).1
  have hfew := hT.few
  refine tri_of_wpS Try.func96 rfl Try.ntmps96 (by simp) ?_; refine wp_seq' (wp_region' (ops_eff' rfl (eff_alloc z40) rfl ?_)); rintro _ _ ⟨b4, rfl, rfl⟩; refine ops_nil (Then_normal (wp_seq' ?_)); have hls := hT.ls
  refine wp_know (fun u F s => vw_ptr (Vw.pick (H := [_, V]) 1 rfl hls) s (by omega)) ?_; rintro ⟨b0, o0, hwp⟩; rw [hwp] at hls; refine wp_region' (ops_ro' rfl (ro_move rfl) rfl (ops_ro' rfl (ro_nilCheck rfl) rfl (ops_ro' rfl (ro_fieldAddr fa74_0 rfl) rfl (ops_ro' rfl (ro_load sc72 rfl (Rd.pick 1 rfl ((hT.cs 0 _ rfl)))) rfl ?_))))
  try rw [hwp]
  refine ops_ro' rfl (ro_move rfl) rfl (ops_ro' rfl (ro_indexSlice sl72 rfl rfl rfl (by omega)) rfl (ops_ro' rfl (ro_fieldAddr fa109_5 rfl) rfl (ops_ro' rfl (ro_loadA ag40 rfl (RdN.of_pick 1 rfl ((th_at (vw_rdn hls) hxi))) rfl) rfl (ops_eff' rfl (eff_alloc z40) rfl ?_)))); rintro _ _ ⟨b5, rfl, rfl⟩; refine ops_eff0 rfl (eff_storeA 0 ag40 rfl rfl rfl rfl rfl (Nat.le_of_ble_eq_true rfl) (warm_zero _)) rfl ?_; rintro _ _ rfl; simp only [zE, zF]; refine ops_nil (Then_normal (wp_seq' (wp_region' (ops_ro' rfl (ro_move rfl) rfl (ops_ro' rfl (ro_nilCheck rfl) rfl ?_))))); refine ops_ro' rfl (ro_fieldAddr fa74_0 rfl) rfl (ops_ro' rfl (ro_load sc72 rfl (Rd.pick 2 rfl ((hT.cs 0 _ rfl)))) rfl ?_)
  try rw [hwp]
  refine ops_ro' rfl (ro_move rfl) rfl (ops_ro' rfl (ro_indexSlice sl72 rfl rfl rfl (by omega)) rfl (ops_ro' rfl (ro_fieldAddr fa109_4 rfl) rfl (ops_ro' rfl (ro_load sc30 rfl (Rd.pick 2 rfl ((Rd.elem (j := 4) (vw_rdn hls) Th.len hxi rfl)))) rfl (ops_ro' rfl (ro_sliceLen Try.underlying30 rfl) rfl (ops_ro' rfl (ro_conv Try.underlying3 Try.underlying34 rfl (wrap_u64_in (by omega) (by omega))) rfl ?_))))); refine ops_ro' rfl (ro_fieldAddr fa40_1 rfl) rfl (ops_eff0 rfl (eff_store 0 sc34 rfl rfl rfl rfl (Nat.le_of_ble_eq_true rfl) (warm_zero _)) rfl ?_); rintro _ _ rfl; simp only [zE, zF]; refine ops_nil (Then_normal (wp_seq' (wp_region' (ops_ro' rfl (ro_loadA ag40 rfl (RdN.of_pick 0 rfl rdn_all) rfl) rfl (ops_eff0 rfl (eff_storeA 1 ag40 rfl rfl rfl rfl rfl (Nat.le_of_ble_eq_true rfl) (warm_zero _)) rfl ?_))))); rintro _ _ rfl; simp only [zE, zF]; refine ops_nil (Then_normal (wp_ret' ?_)); refine' doneS_ret (resv1 rfl (rv_cellA ag40 rfl (RdN.of_pick 1 rfl rdn_all) rfl)) ?_ ?_
  rotate_left 1
  exact ⟨_, ⟨rfl, rfl⟩, rfl⟩
  exact (SubH.cons 2 rfl (SubH.nil _))
def attR (l : List Th) (k : Int) : At × Int := match tAt l k with
  | some x => (x.told, 0)
  | none => (At.zero, 22)


theorem rattrs_spec {V : HProp} {w : Rt} (hT : Rv V w) (k : Int) (hl : ∀ x ∈ w.L, x.b.length ≤ 100000000) : Tri Try.prog 70 [w.v, .int .i64 k] [V] (fun v H' => ∃ K, (v = .tuple #[(attR w.L k).1.v, .int .i64 (attR w.L k).2] ∧ K = []) ∧ H' = K ++ [V]) := by
  rcases atI_cases w.L k with ⟨ha, ht⟩ | ⟨i, x, ha, hxi, ht, hxk⟩
  · skip; refine tri_of_wpS Try.func70 rfl Try.ntmps70 (by simp) ?_; refine wp_seq' (wp_region' (ops_eff' rfl (eff_alloc z40) rfl ?_)); rintro _ _ ⟨b4, rfl, rfl⟩; refine ops_ro' rfl (ro_assign rfl) rfl (ops_nil (Then_normal (wp_seq' (wp_region' (ops_ro' rfl (ro_move rfl) rfl ?_))))); refine ops_ro' rfl (ro_move rfl) rfl (ops_eff' rfl (eff_callM (Pre := []) Try.call89 rfl rfl (Split.nil _) (rat_spec (Rv.pick 1 rfl hT) k)) rfl ?_); rintro _ H' ⟨_, ⟨rfl, rfl⟩, hH⟩; simp only [zA, zB, zC, zD, zE, zF] at hH; subst hH; rw [ha]; refine ops_ro' rfl (ro_assign rfl) rfl (ops_nil (Then_normal (wp_seq' (wp_seq' (wp_region' ?_))))); refine ops_ro' rfl (ro_move rfl) rfl (ops_ro' rfl (ro_lss rfl rfl (decide_eq_true (by omega))) rfl (ops_nil (Then_normal (wp_condT rfl ?_)))); refine wp_seq' (wp_region' (ops_ro' rfl (ro_build rfl (bld_struct (cs := At.zero.cs) st40 rfl)) rfl (ops_eff0 rfl (eff_storeA 0 ag40 rfl rfl rfl rfl rfl (Nat.le_of_ble_eq_true rfl) (warm_zero _)) rfl ?_))); rintro _ _ rfl; simp only [zE, zF]; refine ops_ro' rfl (ro_assign rfl) rfl (ops_nil (Then_normal (wp_ret' ?_))); refine Then_ret ?_; refine' doneS_ret (resv2 rfl (rv_cellA ag40 rfl (RdN.of_pick 0 rfl rdn_all) rfl) (rv_tmp rfl)) ?_ ?_
    rotate_left 1
    exact ⟨_, ⟨by unfold attR; rw [ht]; rfl, rfl⟩, rfl⟩
    exact (SubH.cons 1 rfl (SubH.nil _))
  · have hi := (List.getElem?_eq_some_iff.1 hxi).1
    have hfew := hT.few
    have hxl := hl x (List.mem_of_getElem? hxi)
    refine tri_of_wpS Try.func70 rfl Try.ntmps70 (by simp) ?_; refine wp_seq' (wp_region' (ops_eff' rfl (eff_alloc z40) rfl ?_)); rintro _ _ ⟨b4, rfl, rfl⟩; refine ops_ro' rfl (ro_assign rfl) rfl (ops_nil (Then_normal (wp_seq' (wp_region' (ops_ro' rfl (ro_move rfl) rfl ?_))))); refine ops_ro' rfl (ro_move rfl) rfl (ops_eff' rfl (eff_callM (Pre := []) Try.call89 rfl rfl (Split.nil _) (rat_spec (Rv.pick 1 rfl hT) k)) rfl ?_); rintro _ H' ⟨_, ⟨rfl, rfl⟩, hH⟩; simp only [zA, zB, zC, zD, zE, zF] at hH; subst hH; rw [ha]; refine ops_ro' rfl (ro_assign rfl) rfl (ops_nil (Then_normal (wp_seq' (wp_seq' (wp_region' ?_))))); refine ops_ro' rfl (ro_move rfl) rfl (ops_ro' rfl (ro_lss rfl rfl (decide_eq_false (by omega))) rfl (ops_nil (Then_normal (wp_condF rfl ?_)))); refine wp_skip' ?_; refine Then_normal (wp_seq' (wp_region' (ops_ro' rfl (ro_move rfl) rfl (ops_ro' rfl (ro_move rfl) rfl (ops_eff' rfl (eff_callM (Pre := []) Try.call96 rfl rfl (Split.nil _) (rtold_spec (Rv.pick 1 rfl hT) hxi hxl)) rfl ?_))))); rintro _ H' ⟨_, ⟨rfl, rfl⟩, hH⟩; simp only [zA, zB, zC, zD, zE, zF] at hH; subst hH; refine ops_eff0 rfl (eff_storeA 0 ag40 rfl rfl rfl rfl rfl (Nat.le_of_ble_eq_true rfl) (warm_zero _)) rfl ?_; rintro _ _ rfl; simp only [zE, zF]; refine ops_ro' rfl (ro_assign rfl) rfl (ops_nil (Then_normal (wp_ret' ?_))); refine' doneS_ret (resv2 rfl (rv_cellA ag40 rfl (RdN.of_pick 0 rfl rdn_all) rfl) (rv_tmp rfl)) ?_ ?_
    rotate_left 1
    exact ⟨_, ⟨by unfold attR; rw [ht]; rfl, rfl⟩, rfl⟩
    exact (SubH.cons 1 rfl (SubH.nil _))

end Go.Proofs.Ytbbmhppkhcodfaa
namespace Go.Proofs.Ytbbmhppkhcodfaa
open Go.Sx
set_option linter.unusedVariables false
set_option linter.unusedSimpArgs false
set_option maxRecDepth 100000
set_option maxHeartbeats 4000000

def readL (b : List UInt8) (a n : Nat) : List UInt8 × Int := if b.length ≤ a then ([], 10) else ((b.drop a).take (min (b.drop a).length (min n 32768)), 0)
theorem readL_end {b : List UInt8} {a n : Nat} (h : b.length ≤ a) : readL b a n = ([], 10) := by unfold readL; rw [if_pos h]
def readR (l : List Th) (k : Int) (a n : Nat) : List UInt8 × Int := match tAt l k with
  | none => ([], 22)
  | some x => if x.dir = true then ([], 23) else readL x.b a n
theorem rread_spec {V : HProp} {w : Rt} (hT : Rv V w) (id : Int) (at' : Nat) (ha : at' < 18446744073709551616) (n : Nat) (hn : n < 4294967296) (hl : ∀ x ∈ w.L, x.b.length ≤ 100000000) : Tri Try.prog 65 [w.v, .int .i64 id, .int .u64 (at' : Int), .int .u32 (n : Int)] [V]
    (fun v H' => ∃ K, (∃ p c, v = .tuple #[.slice p (readR w.L id at' n).1.length c, .int .i64 (readR w.L id at' n).2] ∧ K = [row 5 1 (.slice p ((readR w.L id at' n).1).length c) ((readR w.L id at' n).1).length (cel ((readR w.L id at' n).1))]) ∧ H' = K ++ [V]) := by
  rcases atI_cases w.L id with ⟨ha2, ht⟩ | ⟨i, x, ha2, hxi, ht, hxk⟩
  · have hf : fileR w.L id = (0, 22) := by unfold fileR; rw [ht]
    have hR : readR w.L id at' n = ([], 22) := by unfold readR; rw [ht]
    rw [hR]; refine tri_of_wpS Try.func65 rfl Try.ntmps65 (by simp) ?_; refine wp_seq' (wp_region' (ops_ro' rfl (ro_assign rfl) rfl (ops_ro' rfl (ro_assign rfl) rfl (ops_nil (Then_normal ?_))))); refine wp_seq' (wp_region' (ops_ro' rfl (ro_move rfl) rfl (ops_ro' rfl (ro_move rfl) rfl (ops_eff' rfl (eff_call Try.call90 rfl rfl (by repeat (first | exact Split.nil _ | apply Split.cons 0 rfl | apply Split.cons 1 rfl | apply Split.cons 2 rfl | apply Split.cons 3 rfl | apply Split.cons 4 rfl | apply Split.cons 5 rfl | apply Split.cons 6 rfl | apply Split.cons 7 rfl)) (rfile_spec hT id)) rfl ?_)))); rintro _ H' ⟨_, ⟨_, ⟨rfl, rfl⟩, rfl⟩, hH⟩; simp only [zA, zB, zC, zD, zE, zF] at hH; subst hH; rw [hf]; dsimp only; refine ops_ro' rfl (ro_move rfl) rfl (ops_ro' rfl (ro_extract rfl rfl) rfl (ops_ro' rfl (ro_extract rfl rfl) rfl (ops_ro' rfl (ro_assign rfl) rfl (ops_ro' rfl (ro_assign rfl) rfl (ops_nil ?_))))); refine Then_normal (wp_seq' (wp_seq' (wp_region' (ops_ro' rfl (ro_move rfl) rfl (ops_ro' rfl (ro_neq rfl rfl (decide_eq_true (by omega))) rfl ?_))))); refine ops_nil (Then_normal (wp_condT rfl ?_)); refine wp_seq' (wp_heap (fun u F s => nil_row 5 1 u F s) ?_); refine wp_region' (ops_ro' rfl (ro_move rfl) rfl (ops_ro' rfl (ro_assign rfl) rfl (ops_ro' rfl (ro_assign rfl) rfl (ops_nil (Then_normal ?_))))); refine wp_ret' ?_; refine Then_ret ?_; refine' doneS_ret (res2 rfl rfl rfl) ?_ ?_
    rotate_left 1
    exact ⟨_, ⟨none, 0, rfl, rfl⟩, rfl⟩
    exact SubH.refl _
  · by_cases hd : x.dir = true
    · have hf : fileR w.L id = (0, 23) := by unfold fileR; rw [ht]; simp only; rw [if_pos hd]
      have hR : readR w.L id at' n = ([], 23) := by unfold readR; rw [ht]; simp only; rw [if_pos hd]
      rw [hR]; refine tri_of_wpS Try.func65 rfl Try.ntmps65 (by simp) ?_; refine wp_seq' (wp_region' (ops_ro' rfl (ro_assign rfl) rfl (ops_ro' rfl (ro_assign rfl) rfl (ops_nil (Then_normal ?_))))); refine wp_seq' (wp_region' (ops_ro' rfl (ro_move rfl) rfl (ops_ro' rfl (ro_move rfl) rfl (ops_eff' rfl (eff_call Try.call90 rfl rfl (by repeat (first | exact Split.nil _ | apply Split.cons 0 rfl | apply Split.cons 1 rfl | apply Split.cons 2 rfl | apply Split.cons 3 rfl | apply Split.cons 4 rfl | apply Split.cons 5 rfl | apply Split.cons 6 rfl | apply Split.cons 7 rfl)) (rfile_spec hT id)) rfl ?_)))); rintro _ H' ⟨_, ⟨_, ⟨rfl, rfl⟩, rfl⟩, hH⟩; simp only [zA, zB, zC, zD, zE, zF] at hH; subst hH; rw [hf]; dsimp only; refine ops_ro' rfl (ro_move rfl) rfl (ops_ro' rfl (ro_extract rfl rfl) rfl (ops_ro' rfl (ro_extract rfl rfl) rfl (ops_ro' rfl (ro_assign rfl) rfl (ops_ro' rfl (ro_assign rfl) rfl (ops_nil ?_))))); refine Then_normal (wp_seq' (wp_seq' (wp_region' (ops_ro' rfl (ro_move rfl) rfl (ops_ro' rfl (ro_neq rfl rfl (decide_eq_true (by omega))) rfl ?_))))); refine ops_nil (Then_normal (wp_condT rfl ?_)); refine wp_seq' (wp_heap (fun u F s => nil_row 5 1 u F s) ?_); refine wp_region' (ops_ro' rfl (ro_move rfl) rfl (ops_ro' rfl (ro_assign rfl) rfl (ops_ro' rfl (ro_assign rfl) rfl (ops_nil (Then_normal ?_))))); refine wp_ret' ?_; refine Then_ret ?_; refine' doneS_ret (res2 rfl rfl rfl) ?_ ?_
      rotate_left 1
      exact ⟨_, ⟨none, 0, rfl, rfl⟩, rfl⟩
      exact SubH.refl _
    · have hf : fileR w.L id = ((i : Int), 0) := by unfold fileR; rw [ht]; simp only; rw [if_neg hd, ha2]
      have hR : readR w.L id at' n = readL x.b at' n := by unfold readR; rw [ht]; simp only; rw [if_neg hd]
      rw [hR]; have hi := (List.getElem?_eq_some_iff.1 hxi).1
      have hxl := hl x (List.mem_of_getElem? hxi)
      have hfew := hT.few
      refine tri_of_wpS Try.func65 rfl Try.ntmps65 (by simp) ?_; refine wp_seq' (wp_region' (ops_ro' rfl (ro_assign rfl) rfl (ops_ro' rfl (ro_assign rfl) rfl (ops_nil (Then_normal ?_))))); refine wp_seq' (wp_region' (ops_ro' rfl (ro_move rfl) rfl (ops_ro' rfl (ro_move rfl) rfl (ops_eff' rfl (eff_call Try.call90 rfl rfl (by repeat (first | exact Split.nil _ | apply Split.cons 0 rfl | apply Split.cons 1 rfl | apply Split.cons 2 rfl | apply Split.cons 3 rfl | apply Split.cons 4 rfl | apply Split.cons 5 rfl | apply Split.cons 6 rfl | apply Split.cons 7 rfl)) (rfile_spec hT id)) rfl ?_)))); rintro _ H' ⟨_, ⟨_, ⟨rfl, rfl⟩, rfl⟩, hH⟩; simp only [zA, zB, zC, zD, zE, zF] at hH; subst hH; rw [hf]; dsimp only; refine ops_ro' rfl (ro_move rfl) rfl (ops_ro' rfl (ro_extract rfl rfl) rfl (ops_ro' rfl (ro_extract rfl rfl) rfl (ops_ro' rfl (ro_assign rfl) rfl (ops_ro' rfl (ro_assign rfl) rfl (ops_nil ?_))))); refine Then_normal (wp_seq' (wp_seq' (wp_region' (ops_ro' rfl (ro_move rfl) rfl (ops_ro' rfl (ro_neq rfl rfl (decide_eq_false (by omega))) rfl ?_))))); refine ops_nil (Then_normal (wp_condF rfl ?_)); refine wp_skip' ?_; refine Then_normal (wp_seq' ?_); have hls := hT.ls
      refine wp_know (fun u F s => vw_ptr (Vw.pick (H := [V]) 0 rfl hls) s (by omega)) ?_; rintro ⟨b0, o0, hwp⟩; rw [hwp] at hls; refine wp_region' (ops_ro' rfl (ro_move rfl) rfl (ops_ro' rfl (ro_nilCheck rfl) rfl (ops_ro' rfl (ro_fieldAddr fa74_0 rfl) rfl (ops_ro' rfl (ro_load sc72 rfl (Rd.pick 0 rfl ((hT.cs 0 _ rfl)))) rfl ?_))))
      try rw [hwp]
      refine ops_ro' rfl (ro_move rfl) rfl (ops_ro' rfl (ro_indexSlice sl72 rfl rfl rfl (by omega)) rfl (ops_ro' rfl (ro_fieldAddr fa109_4 rfl) rfl (ops_ro' rfl (ro_load sc30 rfl (Rd.pick 0 rfl ((Rd.elem (j := 4) (vw_rdn hls) Th.len hxi rfl)))) rfl (ops_ro' rfl (ro_assign rfl) rfl (ops_nil ?_))))); refine Then_normal (wp_seq' (wp_seq' (wp_region' (ops_ro' rfl (ro_move rfl) rfl (ops_ro' rfl (ro_move rfl) rfl ?_))))); refine ops_ro' rfl (ro_sliceLen Try.underlying30 rfl) rfl (ops_ro' rfl (ro_conv Try.underlying3 Try.underlying34 rfl (wrap_u64_in (by omega) (by omega))) rfl (ops_ro' rfl (ro_geq rfl rfl rfl) rfl (ops_nil (Then_normal (wp_cond' rfl (fun hc34 => ?_) (fun hc34 => ?_))))))
      · replace hc34 := of_decide_eq_true hc34
        refine wp_seq' (wp_heap (fun u F s => nil_row 5 1 u F s) ?_); refine wp_region' (ops_ro' rfl (ro_assign rfl) rfl (ops_ro' rfl (ro_assign rfl) rfl (ops_nil (Then_normal (wp_ret' ?_))))); refine Then_ret ?_; refine' doneS_ret (res2 rfl rfl rfl) ?_ ?_
        rotate_left 1
        exact ⟨_, ⟨none, 0, by rw [readL_end (by omega)] <;> rfl, by rw [readL_end (by omega)] <;> rfl⟩, rfl⟩
        exact SubH.refl _
      · replace hc34 := of_decide_eq_false hc34
        refine wp_skip' ?_; refine Then_normal (wp_seq' (wp_know (fun u F s => hT.caps u F (by rwa [St_cons, St_nil, star_emp] at s) x (List.mem_of_getElem? hxi)) ?_)); intro hcx; refine wp_region' (ops_ro' rfl (ro_move rfl) rfl (ops_ro' rfl (ro_move rfl) rfl (ops_eff' rfl (eff_sliceB 0 rfl sl30 rfl ((hT.b x (List.mem_of_getElem? hxi))) (bnd_of rfl rfl) rfl (by omega) (by omega) hcx) rfl ?_))); rintro _ _ ⟨p37, rfl, hv37, hn37, rfl⟩; have hda : List.take (x.b.length - at') (List.drop at' x.b) = x.b.drop at' := List.take_of_length_le (by simp)
        rw [hda] at hv37 ⊢; have hll : (x.b.drop at').length = x.b.length - at' := List.length_drop
        obtain ⟨y, hy⟩ : ∃ y, y = x.b.drop at' := ⟨_, rfl⟩
        rw [← hy] at hv37 hll ⊢; refine ops_ro' rfl (ro_assign rfl) rfl (ops_nil (Then_normal ?_)); refine wp_cutK 1010 (fun Δ LL => ∃ (n2 : Nat), (n2 = min n 32768) ∧ Δ = [(3, .int .u32 (n2 : Int))] ∧ LL = [V]) (Has.cons (k := 12) rfl (Has.nil _)) ?_ ?_
        · refine wp_seq' (wp_region' (ops_ro' rfl (ro_move rfl) rfl (ops_ro' rfl (ro_gtr rfl rfl rfl) rfl (ops_nil (Then_normal ?_))))); refine wp_cond' rfl (fun hc39 => ?_) (fun hc39 => ?_)
          · replace hc39 := of_decide_eq_true hc39
            refine wp_region' (ops_ro' rfl (ro_assign rfl) rfl (ops_nil (Then_normal (over_cut (kept ⟨32768, (by omega), rfl, rfl⟩ ?_ ?_ ?_)))))
            · exact (by repeat (first | exact Has.nil _ | refine Has.cons rfl ?_))
            · exact (by repeat (first | exact Has.nil _ | refine Has.cons rfl ?_))
            · exact SubH.refl _
          · replace hc39 := of_decide_eq_false hc39
            refine wp_skip' ?_; refine Then_normal (over_cut (kept ⟨n, (by omega), rfl, rfl⟩ ?_ ?_ ?_))
            · exact (by repeat (first | exact Has.nil _ | refine Has.cons rfl ?_))
            · exact (by repeat (first | exact Has.nil _ | refine Has.cons rfl ?_))
            · exact SubH.refl _
        · rintro Δ LL ⟨n2, hn2, rfl, rfl⟩; simp only [zA, zB]; refine wp_cutK 1012 (fun Δ LL => ∃ (p12 : Option Addr) (c12 : Nat) (z : List UInt8), (Vw V (.slice p12 z.length c12) z.length (cel z) ∧ z = y.take (min y.length n2)) ∧ Δ = [(12, .slice p12 z.length c12)] ∧ LL = [V]) (Has.nil _) ?_ ?_
          · refine wp_seq' (wp_region' (ops_ro' rfl (ro_move rfl) rfl (ops_ro' rfl (ro_conv Try.underlying37 Try.underlying34 rfl (wrap_u64_in (by omega) (by omega))) rfl (ops_ro' rfl (ro_move rfl) rfl (ops_ro' rfl (ro_sliceLen Try.underlying30 rfl) rfl ?_))))); refine ops_ro' rfl (ro_conv Try.underlying3 Try.underlying34 rfl (wrap_u64_in (by omega) (by omega))) rfl (ops_ro' rfl (ro_lss rfl rfl rfl) rfl (ops_nil (Then_normal (wp_cond' rfl (fun hc45 => ?_) (fun hc45 => ?_)))))
            · replace hc45 := of_decide_eq_true hc45
              refine wp_region' (ops_ro' rfl (ro_move rfl) rfl (ops_ro' rfl (ro_move rfl) rfl (ops_eff' rfl (eff_sliceB 0 rfl sl30 rfl (hv37) rfl (bnd_of rfl rfl) (by omega) (by omega) (by omega)) rfl ?_))); rintro _ _ ⟨p48, rfl, hv48, hn48, rfl⟩; rw [Nat.sub_zero, List.drop_zero] at hv48 ⊢; refine ops_ro' rfl (ro_assign rfl) rfl (ops_nil (Then_normal (over_cut (kept ⟨p48, _, y.take n2, ⟨hv48, by rw [Nat.min_eq_right (by omega)]⟩, rfl, rfl⟩ ?_ ?_ ?_))))
              · exact (by repeat (first | exact Has.nil _ | refine Has.cons rfl ?_))
              · exact (by repeat (first | exact Has.nil _ | refine Has.cons rfl ?_))
              · exact SubH.refl _
            · replace hc45 := of_decide_eq_false hc45
              refine wp_skip' ?_; refine Then_normal (over_cut (kept ⟨p37, _, y, ⟨hv37, by rw [List.take_of_length_le (by omega)]⟩, rfl, rfl⟩ ?_ ?_ ?_))
              · exact (by repeat (first | exact Has.nil _ | refine Has.cons rfl ?_))
              · exact (by repeat (first | exact Has.nil _ | refine Has.cons rfl ?_))
              · exact SubH.refl _
          · rintro Δ LL ⟨p12, c12, z, ⟨hz12, hz⟩, rfl, rfl⟩; simp only [zA, zB]; refine wp_seq' ?_; have hzl : z.length ≤ y.length := by rw [hz, List.length_take]; omega
            refine wp_region' (ops_eff' rfl (eff_lit sl30 rfl (sbld (cs := cel []) [] sl30 (by decide) (by kernel_rfl) rfl) rfl (by decide)) rfl ?_); rintro _ _ ⟨b49, rfl, rfl⟩; refine ops_ro' rfl (ro_move rfl) rfl (ops_eff' rfl (eff_appB (l := []) (l2 := z) 0 sl30 (.inl ⟨5, Try.underlying30⟩) rfl rfl rfl (Src.celv (Vw.pick 0 rfl hz12)) (by first | omega | (simp only [List.length_append, List.length_cons, List.length_nil, List.length_take, List.length_drop] at *; omega))) rfl ?_); rintro _ _ ⟨p51, c51, rfl, hn51, rfl⟩; simp only [zE, zF, zB]; refine ops_ro' rfl (ro_assign rfl) rfl (ops_ro' rfl (ro_assign rfl) rfl (ops_nil (Then_normal (wp_ret' ?_)))); refine' doneS_ret (res2 rfl rfl rfl) ?_ ?_
            rotate_left 1
            have hR : readL x.b at' n = (z, 0) := by unfold readL; rw [if_neg (by omega), ← hy, hz, hn2]
            rw [hR]; exact ⟨_, ⟨p51, c51, rfl, rfl⟩, rfl⟩
            exact SubH.refl _


/-- a name put in at its place -/
def insN (l : List Nm) (x : Nm) : List Nm := l.take (plc (l.map Nm.n) x.n) ++ x :: l.drop (plc (l.map Nm.n) x.n)
theorem ins_eq {l : List Nm} {x : Nm} {j : Nat} (h : plc (l.map Nm.n) x.n = j) : l.take j ++ [x] ++ l.drop j = insN l x := by
  subst h; unfold insN; rw [List.append_assoc]; rfl
theorem insN_len (l : List Nm) (x : Nm) : (insN l x).length = l.length + 1 := by
  have h := plc_le (l.map Nm.n) x.n
  rw [List.length_map] at h; unfold insN; rw [List.length_append, List.length_cons, List.length_take, List.length_drop]; omega
/-- what is listed of what stands in k -/
def lsR (l : List Th) (k : Int) : List Nm := (l.filter fun x => decide (x.par = k)).foldl (fun o x => insN o ⟨x.name, x.told⟩) []
theorem lsR_no {l : List Th} {k : Int} {i : Nat} {x : Th} (hi : l[i]? = some x) (h : x.par ≠ k) : lsR (l.take (i + 1)) k = lsR (l.take i) k := by
  obtain ⟨hlt, he⟩ := List.getElem?_eq_some_iff.1 hi
  unfold lsR; rw [List.take_succ_eq_append_getElem hlt, he, List.filter_append, List.filter_cons, if_neg (by simpa using h), List.filter_nil, List.append_nil]
theorem lsR_yes {l : List Th} {k : Int} {i : Nat} {x : Th} (hi : l[i]? = some x) (h : x.par = k) : lsR (l.take (i + 1)) k = insN (lsR (l.take i) k) ⟨x.name, x.told⟩ := by
  obtain ⟨hlt, he⟩ := List.getElem?_eq_some_iff.1 hi
  unfold lsR; rw [List.take_succ_eq_append_getElem hlt, he, List.filter_append, List.filter_cons, if_pos (by simpa using h), List.filter_nil, List.foldl_append]; rfl
theorem ins_step {o : List Nm} {s : List UInt8} {j : Nat} {z : Nm} (h : ∀ (q : Nat) z, o[q]? = some z → q < j → cmp z.n s < 0) (hj : o[j]? = some z) (hz : cmp z.n s < 0) : ∀ (q : Nat) z, o[q]? = some z → q < j + 1 → cmp z.n s < 0 := fun q y hq hlt => by
  by_cases e : q = j
  · subst e; rw [hj] at hq; injection hq with hq; rw [← hq]; exact hz
  · exact h q y hq (by omega)
theorem ins_at {o : List Nm} {s : List UInt8} {j : Nat} (hj : j ≤ o.length) (h : ∀ (q : Nat) z, o[q]? = some z → q < j → cmp z.n s < 0) (hn : ∀ z, o[j]? = some z → ¬ cmp z.n s < 0) : plc (o.map Nm.n) s = j := by
  refine plc_eq (by rw [List.length_map]; exact hj) (fun q hq hlt => ?_) (fun hq => ?_)
  · rw [List.getElem_map]; exact h q _ (List.getElem?_eq_getElem (by simpa using hq)) hlt
  · rw [List.getElem_map]; exact hn _ (List.getElem?_eq_getElem (by simpa using hq))
def listR (l : List Th) (k : Int) : List Nm × Int := match tAt l k with
  | none => ([], 22)
  | some x => if x.dir = true then (lsR l k, 0) else ([], 23)
theorem rlist_spec {V : HProp} {w : Rt} (hT : Rv V w) (id : Int) (hl : ∀ x ∈ w.L, x.b.length ≤ 100000000) : Tri Try.prog 67 [w.v, .int .i64 id] [V]
    (fun v H' => ∃ K, (∃ p c, v = .tuple #[.slice p (listR w.L id).1.length c, .int .i64 (listR w.L id).2] ∧ K = [row 93 8 (.slice p ((listR w.L id).1).length c) ((listR w.L id).1).length (flat Nm.cs ((listR w.L id).1))]) ∧ H' = K ++ [V]) := by
  have hfew := hT.few
  rcases atI_cases w.L id with ⟨ha, ht⟩ | ⟨i, x, ha, hxi, ht, hxk⟩
  · have hR : listR w.L id = ([], 22) := by unfold listR; rw [ht]
    rw [hR]; refine tri_of_wpS Try.func67 rfl Try.ntmps67 (by simp) ?_; refine wp_seq' (wp_region' (ops_ro' rfl (ro_assign rfl) rfl (ops_ro' rfl (ro_assign rfl) rfl (ops_nil (Then_normal ?_))))); refine wp_seq' (wp_region' (ops_ro' rfl (ro_move rfl) rfl (ops_ro' rfl (ro_move rfl) rfl (ops_eff' rfl (eff_call Try.call89 rfl rfl (by repeat (first | exact Split.nil _ | apply Split.cons 0 rfl | apply Split.cons 1 rfl | apply Split.cons 2 rfl | apply Split.cons 3 rfl | apply Split.cons 4 rfl | apply Split.cons 5 rfl | apply Split.cons 6 rfl | apply Split.cons 7 rfl)) (rat_spec hT id)) rfl ?_)))); rintro _ H' ⟨_, ⟨_, ⟨rfl, rfl⟩, rfl⟩, hH⟩; simp only [zA, zB, zC, zD, zE, zF] at hH; subst hH; rw [ha]; refine ops_ro' rfl (ro_assign rfl) rfl (ops_nil (Then_normal (wp_seq' (wp_seq' (wp_region' ?_))))); refine ops_ro' rfl (ro_move rfl) rfl (ops_ro' rfl (ro_lss rfl rfl (decide_eq_true (by omega))) rfl (ops_nil (Then_normal (wp_condT rfl ?_)))); refine wp_seq' (wp_heap (fun u F s => nil_row 93 8 u F s) ?_); refine wp_region' (ops_ro' rfl (ro_assign rfl) rfl (ops_ro' rfl (ro_assign rfl) rfl (ops_nil (Then_normal (wp_ret' ?_))))); refine Then_ret ?_; refine' doneS_ret (res2 rfl rfl rfl) ?_ ?_
    rotate_left 1
    exact ⟨_, ⟨none, 0, rfl, rfl⟩, rfl⟩
    exact SubH.refl _
  · have hi := (List.getElem?_eq_some_iff.1 hxi).1
    by_cases hd : x.dir = true
    · have hR : listR w.L id = (lsR w.L id, 0) := by unfold listR; rw [ht]; simp only; rw [if_pos hd]
      rw [hR]; refine tri_of_wpS Try.func67 rfl Try.ntmps67 (by simp) ?_; refine wp_seq' (wp_region' (ops_ro' rfl (ro_assign rfl) rfl (ops_ro' rfl (ro_assign rfl) rfl (ops_nil (Then_normal ?_))))); refine wp_seq' (wp_region' (ops_ro' rfl (ro_move rfl) rfl (ops_ro' rfl (ro_move rfl) rfl (ops_eff' rfl (eff_call Try.call89 rfl rfl (by repeat (first | exact Split.nil _ | apply Split.cons 0 rfl | apply Split.cons 1 rfl | apply Split.cons 2 rfl | apply Split.cons 3 rfl | apply Split.cons 4 rfl | apply Split.cons 5 rfl | apply Split.cons 6 rfl | apply Split.cons 7 rfl)) (rat_spec hT id)) rfl ?_)))); rintro _ H' ⟨_, ⟨_, ⟨rfl, rfl⟩, rfl⟩, hH⟩; simp only [zA, zB, zC, zD, zE, zF] at hH; subst hH; rw [ha]; refine ops_ro' rfl (ro_assign rfl) rfl (ops_nil (Then_normal (wp_seq' (wp_seq' (wp_region' ?_))))); refine ops_ro' rfl (ro_move rfl) rfl (ops_ro' rfl (ro_lss rfl rfl (decide_eq_false (by omega))) rfl (ops_nil (Then_normal (wp_condF rfl ?_)))); refine wp_skip' ?_; refine Then_normal (wp_seq' (wp_seq' ?_)); have hls := hT.ls
      refine wp_know (fun u F s => vw_ptr (Vw.pick (H := [V]) 0 rfl hls) s (by omega)) ?_; rintro ⟨b0, o0, hwp⟩; rw [hwp] at hls; refine wp_region' (ops_ro' rfl (ro_move rfl) rfl (ops_ro' rfl (ro_nilCheck rfl) rfl (ops_ro' rfl (ro_fieldAddr fa74_0 rfl) rfl (ops_ro' rfl (ro_load sc72 rfl (Rd.pick 0 rfl ((hT.cs 0 _ rfl)))) rfl ?_))))
      try rw [hwp]
      refine ops_ro' rfl (ro_move rfl) rfl (ops_ro' rfl (ro_indexSlice sl72 rfl rfl rfl (by omega)) rfl (ops_ro' rfl (ro_fieldAddr fa109_3 rfl) rfl (ops_ro' rfl (ro_load sc4 rfl (Rd.pick 0 rfl ((Rd.elem (j := 3) (vw_rdn hls) Th.len hxi rfl)))) rfl ?_))); rw [hd]; refine ops_ro' rfl (ro_not rfl rfl) rfl ?_
      try simp only [Bool.not_true, Bool.not_false]
      refine ops_nil (Then_normal (wp_condF rfl ?_)); refine wp_skip' ?_; refine Then_normal (wp_seq' (wp_heap (fun u F s => nil_row 93 8 u F s) ?_)); refine wp_region' (ops_ro' rfl (ro_assign rfl) rfl (ops_nil (Then_normal (wp_seq' (wp_seq' ?_))))); refine wp_region' (ops_ro' rfl (ro_assign rfl) rfl (ops_nil (Then_normal (wp_block' ?_)))); refine wp_loopK 8 (fun m Δ LL => ∃ (i : Nat) (p7 : Option Addr) (c7 : Nat) (o : List Nm), (i + m = w.L.length ∧ o = lsR (w.L.take i) id ∧ o.length ≤ i) ∧ Δ = [(7, .slice p7 o.length c7), (8, .int .i64 (i : Nat))] ∧ LL = [row 93 8 (.slice p7 (o).length c7) (o).length (flat Nm.cs (o)), V]) (m := w.L.length) (Has.cons (k := 0) rfl (Has.cons (k := 1) rfl (Has.nil _))) (kept ⟨0, none, 0, [], ⟨by omega, rfl, by simp⟩, rfl, rfl⟩ (by repeat (first | exact Has.nil _ | refine Has.cons rfl ?_)) (by repeat (first | exact Has.nil _ | refine Has.cons rfl ?_)) (by repeat (first | exact SubH.nil _ | refine SubH.cons 0 rfl ?_ | refine SubH.cons 1 rfl ?_ | refine SubH.cons 2 rfl ?_ | refine SubH.cons 3 rfl ?_ | refine SubH.cons 4 rfl ?_ | refine SubH.cons 5 rfl ?_ | refine SubH.cons 6 rfl ?_ | refine SubH.cons 7 rfl ?_ | refine SubH.rown ?_))) ?_; rintro m Δ LL ⟨i, p7, c7, o, ⟨hm, ho, hol⟩, rfl, rfl⟩; simp only [zA, zB]; refine wp_seq' (wp_seq' (wp_region' (ops_ro' rfl (ro_move rfl) rfl (ops_ro' rfl (ro_move rfl) rfl (ops_ro' rfl (ro_nilCheck rfl) rfl ?_))))); refine ops_ro' rfl (ro_fieldAddr fa74_0 rfl) rfl (ops_ro' rfl (ro_load sc72 rfl (Rd.pick 1 rfl ((hT.cs 0 _ rfl)))) rfl (ops_ro' rfl (ro_sliceLen Try.underlying72 rfl) rfl (ops_ro' rfl (ro_lss rfl rfl rfl) rfl (ops_nil (Then_normal ?_))))); refine wp_cond' rfl (fun hc31 => ?_) (fun hc31 => ?_)
      · replace hc31 := of_decide_eq_true hc31
        have hi2 : i < w.L.length := by omega
        obtain ⟨y, hyi⟩ : ∃ y, w.L[i]? = some y := ⟨_, List.getElem?_eq_getElem hi2⟩
        have hyl := hl y (List.mem_of_getElem? hyi)
        refine wp_skip' ?_; refine Then_normal (wp_seq' (wp_block' ?_)); refine wp_seq' (wp_seq' (wp_region' (ops_ro' rfl (ro_move rfl) rfl (ops_ro' rfl (ro_nilCheck rfl) rfl (ops_ro' rfl (ro_fieldAddr fa74_0 rfl) rfl ?_))))); refine ops_ro' rfl (ro_load sc72 rfl (Rd.pick 1 rfl ((hT.cs 0 _ rfl)))) rfl ?_
        try rw [hwp]
        refine ops_ro' rfl (ro_move rfl) rfl (ops_ro' rfl (ro_indexSlice sl72 rfl rfl rfl (by omega)) rfl (ops_ro' rfl (ro_fieldAddr fa109_1 rfl) rfl (ops_ro' rfl (ro_load sc3 rfl (Rd.pick 1 rfl ((Rd.elem (j := 1) (vw_rdn hls) Th.len hyi rfl)))) rfl (ops_ro' rfl (ro_move rfl) rfl (ops_ro' rfl (ro_neq rfl rfl rfl) rfl ?_))))); refine ops_nil (Then_normal (wp_cond' rfl (fun hc43 => ?_) (fun hc43 => ?_)))
        · replace hc43 := of_decide_eq_true hc43
          refine wp_exit' ?_; refine Then_exit ?_; refine InBlock_here ?_; refine Then_normal (wp_region' (ops_ro' rfl (ro_move rfl) rfl (ops_ro' rfl (ro_add rfl rfl (wrap_inc (by omega))) rfl (ops_ro' rfl (ro_assign rfl) rfl (ops_nil ?_))))); refine Then_normal (back (m - 1) (by omega) (kept ⟨i + 1, p7, c7, o, ⟨by omega, by rw [lsR_no hyi hc43, ho], by omega⟩, rfl, rfl⟩ ?_ ?_ ?_))
          · exact (by repeat (first | exact Has.nil _ | refine Has.cons rfl ?_))
          · exact (by repeat (first | exact Has.nil _ | refine Has.cons rfl ?_))
          · exact SubH.refl _
        · replace hc43 := of_decide_eq_false hc43
          refine wp_skip' ?_; refine Then_normal (wp_seq' (wp_region' (ops_ro' rfl (ro_assign rfl) rfl (ops_nil (Then_normal ?_))))); refine wp_cutK 1014 (fun Δ LL => ∃ (j : Nat), (j ≤ o.length ∧ plc (o.map Nm.n) y.name = j) ∧ Δ = [(9, .int .i64 (j : Nat))] ∧ LL = [row 93 8 (.slice p7 (o).length c7) (o).length (flat Nm.cs (o)), V]) (Has.cons (k := 0) rfl (Has.cons (k := 1) rfl (Has.cons (k := 7) rfl (Has.cons (k := 8) rfl (Has.nil _))))) ?_ ?_
          · refine wp_block' ?_; refine wp_loopK 12 (fun m Δ LL => ∃ (j : Nat), (j + m = o.length ∧ (∀ (q : Nat) z, o[q]? = some z → q < j → cmp z.n y.name < 0)) ∧ Δ = [(9, .int .i64 (j : Nat))] ∧ LL = [row 93 8 (.slice p7 (o).length c7) (o).length (flat Nm.cs (o)), V]) (m := o.length) (Has.cons (k := 0) rfl (Has.cons (k := 1) rfl (Has.cons (k := 7) rfl (Has.cons (k := 8) rfl (Has.nil _))))) (kept ⟨0, ⟨by omega, fun q z _ h => by omega⟩, rfl, rfl⟩ (by repeat (first | exact Has.nil _ | refine Has.cons rfl ?_)) (by repeat (first | exact Has.nil _ | refine Has.cons rfl ?_)) (by repeat (first | exact SubH.nil _ | refine SubH.cons 0 rfl ?_ | refine SubH.cons 1 rfl ?_ | refine SubH.cons 2 rfl ?_ | refine SubH.cons 3 rfl ?_ | refine SubH.cons 4 rfl ?_ | refine SubH.cons 5 rfl ?_ | refine SubH.cons 6 rfl ?_ | refine SubH.cons 7 rfl ?_ | refine SubH.rown ?_))) ?_; rintro mj Δ LL ⟨j, ⟨hmj, hlo⟩, rfl, rfl⟩; simp only [zA, zB]; refine wp_seq' (wp_seq' (wp_know (p := o.length ≠ 0 → ∃ b, p7 = some ⟨b, 0, none⟩) (fun u F s h0 => row_ptr' 0 rfl s h0) ?_)); intro hp7; refine wp_draw 20 (by kernel_rfl) (Split.all _) ?_; refine any_ro' (i := 0) (by kernel_rfl) rfl rfl (ro_move rfl) rfl (fun _ _ _ h => h) ?_; refine any_ro' (i := 1) (by kernel_rfl) rfl rfl (ro_move rfl) rfl (fun _ _ _ h => h) ?_; refine any_ro' (i := 2) (by kernel_rfl) rfl rfl (ro_sliceLen Try.underlying54 rfl) rfl (fun _ _ _ h => h) ?_; refine any_ro' (i := 3) (by kernel_rfl) rfl rfl (ro_lss rfl rfl rfl) rfl (fun _ _ _ h => h) ?_; refine any_split (i := 4) (by kernel_rfl) rfl rfl rfl rfl (fun _ _ _ h => h) (fun hg48 => ?_) (fun hg48 => ?_)
            · replace hg48 := of_decide_eq_true hg48
              have hj : j < o.length := by omega
              obtain ⟨z, hoj⟩ : ∃ z, o[j]? = some z := ⟨_, List.getElem?_eq_getElem hj⟩
              obtain ⟨b7, rfl⟩ := hp7 (by omega)
              refine any_ro' (i := 5) (by kernel_rfl) rfl rfl (ro_move rfl) rfl (fun _ _ _ h => h) ?_; refine any_ro' (i := 6) (by kernel_rfl) rfl rfl (ro_move rfl) rfl (fun _ _ _ h => h) ?_; refine any_ro' (i := 7) (by kernel_rfl) rfl rfl (ro_indexSlice sl54 rfl rfl rfl (by omega)) rfl (fun _ _ _ h => h) ?_; refine any_ro' (i := 8) (by kernel_rfl) rfl rfl (ro_fieldAddr fa93_0 rfl) rfl (fun _ _ _ h => h) ?_; refine any_ro' (i := 9) (by kernel_rfl) rfl rfl (ro_load sc9 rfl (Rd.pick 0 rfl ((row_elem Nm.len hoj 0 _ rfl)))) rfl (fun _ _ _ h => h) ?_; refine any_ro' (i := 10) (by kernel_rfl) rfl rfl (ro_move rfl) rfl (fun _ _ _ h => h) ?_; refine any_ro' (i := 11) (by kernel_rfl) rfl rfl (ro_nilCheck rfl) rfl (fun _ _ _ h => h) ?_; refine any_ro' (i := 12) (by kernel_rfl) rfl rfl (ro_fieldAddr fa74_0 rfl) rfl (fun _ _ _ h => h) ?_; refine any_ro' (i := 13) (by kernel_rfl) rfl rfl (ro_load sc72 rfl (Rd.pick 1 rfl ((hT.cs 0 _ rfl)))) rfl (fun _ _ _ h => h) ?_
              try rw [hwp]
              refine any_ro' (i := 14) (by kernel_rfl) rfl rfl (ro_move rfl) rfl (fun _ _ _ h => h) ?_; refine any_ro' (i := 15) (by kernel_rfl) rfl rfl (ro_indexSlice sl72 rfl rfl rfl (by omega)) rfl (fun _ _ _ h => h) ?_; refine any_ro' (i := 16) (by kernel_rfl) rfl rfl (ro_fieldAddr fa109_2 rfl) rfl (fun _ _ _ h => h) ?_; refine any_ro' (i := 17) (by kernel_rfl) rfl rfl (ro_load sc9 rfl (Rd.pick 1 rfl ((Rd.elem (j := 2) (vw_rdn hls) Th.len hyi rfl)))) rfl (fun _ _ _ h => h) ?_; refine any_ro' (i := 18) (by kernel_rfl) rfl rfl (ro_lssS rfl rfl rfl) rfl (fun _ _ _ h => h) ?_; refine any_ro' (i := 19) (by kernel_rfl) rfl rfl (ro_pick rfl rfl) rfl (fun _ _ _ h => h) ?_; refine any_doneL (by kernel_rfl) ?_; refine Then_normal (wp_cond' rfl (fun hc63 => ?_) (fun hc63 => ?_))
              · replace hc63 := of_decide_eq_true hc63
                refine wp_skip' ?_; refine Then_normal (wp_block' ?_); refine wp_region' (ops_ro' rfl (ro_move rfl) rfl (ops_ro' rfl (ro_add rfl rfl (wrap_inc (by omega))) rfl (ops_ro' rfl (ro_assign rfl) rfl (ops_nil (InBlock_normal ?_))))); refine Then_normal (back (mj - 1) (by omega) (kept ⟨j + 1, ⟨by omega, ins_step hlo hoj hc63⟩, rfl, rfl⟩ ?_ ?_ ?_))
                · exact (by repeat (first | exact Has.nil _ | refine Has.cons rfl ?_))
                · exact (by repeat (first | exact Has.nil _ | refine Has.cons rfl ?_))
                · exact SubH.refl _
              · replace hc63 := of_decide_eq_false hc63
                refine wp_exit' ?_; refine Then_exit ?_; refine Then_exit ?_; refine InBlock_here ?_; refine Then_normal (over_cut (kept ⟨j, ⟨by omega, ins_at (by omega) hlo (fun z2 hz => by rw [hoj] at hz; injection hz with hz; rw [← hz]; simpa using hc63)⟩, rfl, rfl⟩ ?_ ?_ ?_))
                · exact (by repeat (first | exact Has.nil _ | refine Has.cons rfl ?_))
                · exact (by repeat (first | exact Has.nil _ | refine Has.cons rfl ?_))
                · exact SubH.refl _
            · replace hg48 := of_decide_eq_false hg48
              refine any_skip' (i := 5) (by kernel_rfl) rfl rfl rfl (fun _ _ _ h => h) ?_; refine any_skip' (i := 6) (by kernel_rfl) rfl rfl rfl (fun _ _ _ h => h) ?_; refine any_skip' (i := 7) (by kernel_rfl) rfl rfl rfl (fun _ _ _ h => h) ?_; refine any_skip' (i := 8) (by kernel_rfl) rfl rfl rfl (fun _ _ _ h => h) ?_; refine any_skip' (i := 9) (by kernel_rfl) rfl rfl rfl (fun _ _ _ h => h) ?_; refine any_skip' (i := 10) (by kernel_rfl) rfl rfl rfl (fun _ _ _ h => h) ?_; refine any_skip' (i := 11) (by kernel_rfl) rfl rfl rfl (fun _ _ _ h => h) ?_; refine any_skip' (i := 12) (by kernel_rfl) rfl rfl rfl (fun _ _ _ h => h) ?_; refine any_skip' (i := 13) (by kernel_rfl) rfl rfl rfl (fun _ _ _ h => h) ?_
              try rw [hwp]
              refine any_skip' (i := 14) (by kernel_rfl) rfl rfl rfl (fun _ _ _ h => h) ?_; refine any_skip' (i := 15) (by kernel_rfl) rfl rfl rfl (fun _ _ _ h => h) ?_; refine any_skip' (i := 16) (by kernel_rfl) rfl rfl rfl (fun _ _ _ h => h) ?_; refine any_skip' (i := 17) (by kernel_rfl) rfl rfl rfl (fun _ _ _ h => h) ?_; refine any_skip' (i := 18) (by kernel_rfl) rfl rfl rfl (fun _ _ _ h => h) ?_; refine any_ro' (i := 19) (by kernel_rfl) rfl rfl (ro_pick rfl rfl) rfl (fun _ _ _ h => h) ?_; refine any_doneL (by kernel_rfl) ?_; refine Then_normal (wp_condF rfl ?_); refine wp_exit' ?_; refine Then_exit ?_; refine Then_exit ?_; refine InBlock_here ?_; refine Then_normal ?_; refine over_cut (kept ⟨j, ⟨by omega, ins_at (by omega) hlo (fun z hz => absurd (List.getElem?_eq_some_iff.1 hz).1 (by omega))⟩, rfl, rfl⟩ ?_ ?_ ?_)
              · exact (by repeat (first | exact Has.nil _ | refine Has.cons rfl ?_))
              · exact (by repeat (first | exact Has.nil _ | refine Has.cons rfl ?_))
              · exact SubH.refl _
          · rintro Δ LL ⟨j, ⟨hjl, hpl⟩, rfl, rfl⟩; simp only [zA, zB]; refine wp_seq' (wp_know (fun u F s => row_shp 0 rfl s) ?_); intro hsh; have hc7 := hsh.2
            have hv69 := vw_subF (A := row 93 8 (.slice p7 (o).length c7) (o).length (flat Nm.cs (o))) Vw.row Nm.len (Nat.zero_le j) hjl hsh.2
            rw [show List.take (j - 0) (List.drop 0 o) = o.take j from by simp] at hv69; refine wp_draw 19 (by kernel_rfl) (Split.cons 1 rfl (Split.nil _)) ?_; refine any_ro' (i := 1) (by kernel_rfl) rfl rfl (ro_move rfl) rfl (fun _ _ _ h => h) ?_; refine any_ro' (i := 2) (by kernel_rfl) rfl rfl (ro_move rfl) rfl (fun _ _ _ h => h) ?_; refine any_ro' (i := 3) (by kernel_rfl) rfl rfl (ro_sliceP sl54 rfl hsh rfl (bnd_of rfl rfl) (by omega) (by omega)) rfl (fun _ _ _ h => h) ?_; rw [show List.take (j - 0) (List.drop 0 o) = o.take j from by simp]; refine any_ro' (i := 5) (by kernel_rfl) rfl rfl (ro_move rfl) rfl (fun _ _ _ h => h) ?_; refine any_ro' (i := 6) (by kernel_rfl) rfl rfl (ro_nilCheck rfl) rfl (fun _ _ _ h => h) ?_; refine any_ro' (i := 7) (by kernel_rfl) rfl rfl (ro_fieldAddr fa74_0 rfl) rfl (fun _ _ _ h => h) ?_; refine any_ro' (i := 8) (by kernel_rfl) rfl rfl (ro_load sc72 rfl (Rd.pick 0 rfl ((hT.cs 0 _ rfl)))) rfl (fun _ _ _ h => h) ?_
            try rw [hwp]
            refine any_ro' (i := 9) (by kernel_rfl) rfl rfl (ro_move rfl) rfl (fun _ _ _ h => h) ?_; refine any_ro' (i := 10) (by kernel_rfl) rfl rfl (ro_indexSlice sl72 rfl rfl rfl (by omega)) rfl (fun _ _ _ h => h) ?_; refine any_ro' (i := 11) (by kernel_rfl) rfl rfl (ro_fieldAddr fa109_2 rfl) rfl (fun _ _ _ h => h) ?_; refine any_ro' (i := 12) (by kernel_rfl) rfl rfl (ro_load sc9 rfl (Rd.pick 0 rfl ((Rd.elem (j := 2) (vw_rdn hls) Th.len hyi rfl)))) rfl (fun _ _ _ h => h) ?_; refine any_ro' (i := 13) (by kernel_rfl) rfl rfl (ro_move rfl) rfl (fun _ _ _ h => h) ?_; refine any_ro' (i := 14) (by kernel_rfl) rfl rfl (ro_move rfl) rfl (fun _ _ _ h => h) ?_; refine any_eff' (i := 0) (by kernel_rfl) rfl rfl (eff_lit sl54 rfl (sbld (cs := flat Nm.cs []) [] sl54 (by decide) (by kernel_rfl) rfl) rfl (by decide)) rfl ?_; rintro _ _ ⟨b66, rfl, rfl⟩; refine any_eff' (i := 4) (by kernel_rfl) rfl rfl (eff_appF (f := Nm.cs) (l := []) (l2 := o.take j) 0 sl54 (.inl ⟨93, Try.underlying54⟩) rfl rfl rfl (Src.flatv Nm.len Nm.one (Vw.pick 0 rfl hv69)) (by first | omega | (simp only [List.length_append, List.length_cons, List.length_nil, List.length_take, List.length_drop] at *; omega)) (by first | omega | (simp only [List.length_append, List.length_cons, List.length_nil, List.length_take, List.length_drop] at *; omega))) rfl ?_; rintro _ _ ⟨p70, c70, rfl, hn70, rfl⟩; simp only [zE, zF, zB]; refine any_callL' (i := 15) (by kernel_rfl) rfl rfl (eff_callM (Pre := []) Try.call96 rfl rfl (Split.nil _) (rtold_spec (Rv.pick 0 rfl hT) hyi hyl)) rfl ?_; rintro _ _ ⟨rfl, rfl⟩; simp only [zA, zB]; refine any_ro' (i := 16) (by kernel_rfl) rfl rfl (ro_build rfl (bld_struct (cs := Nm.cs ⟨y.name, y.told⟩) st93 rfl)) rfl (fun _ _ _ h => h) ?_; refine any_eff' (i := 17) (by kernel_rfl) rfl rfl (eff_lit sl54 rfl (sbld (cs := flat Nm.cs [⟨y.name, y.told⟩]) [(.string ByteArray.empty), (.int .u32 0), (.int .u64 0), (.int .u32 0), (.int .u32 0), (.int .u32 0), (.int .u32 0), (.int .u32 0)] sl54 (by decide) (by kernel_rfl) rfl) rfl (by decide)) rfl ?_; rintro _ _ ⟨b83, rfl, rfl⟩; refine any_eff' (i := 18) (by kernel_rfl) rfl rfl (eff_appF (f := Nm.cs) (l2 := [⟨y.name, y.told⟩]) 1 sl54 (.inl ⟨93, Try.underlying54⟩) rfl rfl rfl (Src.flatv Nm.len Nm.one (Vw.pick 0 rfl Vw.row)) (by simp only [List.length_append, List.length_cons, List.length_nil, List.length_take]; omega) (by simp only [List.length_append, List.length_cons, List.length_nil, List.length_take]; omega)) rfl ?_; rintro _ _ ⟨p84, c84, rfl, hn84, rfl⟩; simp only [zE, zF]; refine any_unlock (m' := 20) (L' := []) (by kernel_rfl) unlock ?_; simp only [zA, zB, List.append_nil]; refine any_ro' (i := 19) (by kernel_rfl) rfl rfl (ro_assign rfl) rfl (fun _ _ _ h => h) ?_; refine any_doneH (by kernel_rfl) ?_; refine Then_normal (wp_region' (ops_ro' rfl (ro_move rfl) rfl (ops_ro' rfl (ro_move rfl) rfl (ops_ro' rfl (ro_move rfl) rfl (ops_eff' rfl (eff_sliceF 3 rfl Nm.len sl54 rfl Vw.row (bnd_of rfl rfl) rfl (by omega) (by omega) hc7) rfl ?_))))); rintro _ _ ⟨p88, rfl, hv88, hn88, rfl⟩; rw [show List.take (o.length - j) (List.drop j o) = o.drop j from List.take_of_length_le (by simp)] at hv88 ⊢; refine ops_eff' rfl (eff_appF (f := Nm.cs) (l2 := o.drop j) 2 sl54 (.inl ⟨93, Try.underlying54⟩) rfl rfl rfl (Src.flatv Nm.len Nm.one (Vw.pick 2 rfl hv88)) (by simp only [List.length_append, List.length_cons, List.length_nil, List.length_take, List.length_drop]; omega) (by simp only [List.length_append, List.length_cons, List.length_nil, List.length_take, List.length_drop]; omega)) rfl ?_; rintro _ _ ⟨p89, c89, rfl, hn89, rfl⟩; simp only [zE, zF]; rw [ins_eq (x := ⟨y.name, y.told⟩) hpl]; refine ops_ro' rfl (ro_assign rfl) rfl (ops_nil (InBlock_normal ?_)); refine Then_normal (wp_region' (ops_ro' rfl (ro_move rfl) rfl (ops_ro' rfl (ro_add rfl rfl (wrap_inc (by omega))) rfl (ops_ro' rfl (ro_assign rfl) rfl (ops_nil ?_))))); refine Then_normal (back (m - 1) (by omega) (kept ⟨i + 1, p89, c89, insN o ⟨y.name, y.told⟩, ⟨by omega, by rw [lsR_yes hyi (Classical.byContradiction hc43), ho], by rw [insN_len]; omega⟩, rfl, rfl⟩ ?_ ?_ ?_))
            · exact (by repeat (first | exact Has.nil _ | refine Has.cons rfl ?_))
            · exact (by repeat (first | exact Has.nil _ | refine Has.cons rfl ?_))
            · exact (SubH.cons 2 rfl (SubH.cons 0 rfl (SubH.nil _)))
      · replace hc31 := of_decide_eq_false hc31
        refine wp_exit' ?_; refine Then_exit ?_; refine Then_exit ?_; refine InBlock_here ?_; refine Then_normal (wp_seq' (wp_region' (ops_ro' rfl (ro_move rfl) rfl (ops_ro' rfl (ro_assign rfl) rfl (ops_ro' rfl (ro_assign rfl) rfl ?_))))); refine ops_nil (Then_normal (wp_ret' ?_)); obtain rfl : o = lsR w.L id := by rw [ho, List.take_of_length_le (by omega)]
        refine' doneS_ret (res2 rfl rfl rfl) ?_ ?_
        rotate_left 1
        exact ⟨_, ⟨p7, c7, rfl, rfl⟩, rfl⟩
        exact SubH.refl _
    · have hR : listR w.L id = ([], 23) := by unfold listR; rw [ht]; simp only; rw [if_neg hd]
      rw [hR]
      replace hd : x.dir = false := by simpa using hd
      refine tri_of_wpS Try.func67 rfl Try.ntmps67 (by simp) ?_; refine wp_seq' (wp_region' (ops_ro' rfl (ro_assign rfl) rfl (ops_ro' rfl (ro_assign rfl) rfl (ops_nil (Then_normal ?_))))); refine wp_seq' (wp_region' (ops_ro' rfl (ro_move rfl) rfl (ops_ro' rfl (ro_move rfl) rfl (ops_eff' rfl (eff_call Try.call89 rfl rfl (by repeat (first | exact Split.nil _ | apply Split.cons 0 rfl | apply Split.cons 1 rfl | apply Split.cons 2 rfl | apply Split.cons 3 rfl | apply Split.cons 4 rfl | apply Split.cons 5 rfl | apply Split.cons 6 rfl | apply Split.cons 7 rfl)) (rat_spec hT id)) rfl ?_)))); rintro _ H' ⟨_, ⟨_, ⟨rfl, rfl⟩, rfl⟩, hH⟩; simp only [zA, zB, zC, zD, zE, zF] at hH; subst hH; rw [ha]; refine ops_ro' rfl (ro_assign rfl) rfl (ops_nil (Then_normal (wp_seq' (wp_seq' (wp_region' ?_))))); refine ops_ro' rfl (ro_move rfl) rfl (ops_ro' rfl (ro_lss rfl rfl (decide_eq_false (by omega))) rfl (ops_nil (Then_normal (wp_condF rfl ?_)))); refine wp_skip' ?_; refine Then_normal (wp_seq' (wp_seq' ?_)); have hls := hT.ls
      refine wp_know (fun u F s => vw_ptr (Vw.pick (H := [V]) 0 rfl hls) s (by omega)) ?_; rintro ⟨b0, o0, hwp⟩; rw [hwp] at hls; refine wp_region' (ops_ro' rfl (ro_move rfl) rfl (ops_ro' rfl (ro_nilCheck rfl) rfl (ops_ro' rfl (ro_fieldAddr fa74_0 rfl) rfl (ops_ro' rfl (ro_load sc72 rfl (Rd.pick 0 rfl ((hT.cs 0 _ rfl)))) rfl ?_))))
      try rw [hwp]
      refine ops_ro' rfl (ro_move rfl) rfl (ops_ro' rfl (ro_indexSlice sl72 rfl rfl rfl (by omega)) rfl (ops_ro' rfl (ro_fieldAddr fa109_3 rfl) rfl (ops_ro' rfl (ro_load sc4 rfl (Rd.pick 0 rfl ((Rd.elem (j := 3) (vw_rdn hls) Th.len hxi rfl)))) rfl ?_))); rw [hd]; refine ops_ro' rfl (ro_not rfl rfl) rfl (ops_nil (Then_normal (wp_condT rfl ?_))); refine wp_seq' (wp_heap (fun u F s => nil_row 93 8 u F s) ?_); refine wp_region' (ops_ro' rfl (ro_assign rfl) rfl (ops_ro' rfl (ro_assign rfl) rfl (ops_nil (Then_normal (wp_ret' ?_))))); refine Then_ret ?_; refine' doneS_ret (res2 rfl rfl rfl) ?_ ?_
      rotate_left 1
      exact ⟨_, ⟨none, 0, rfl, rfl⟩, rfl⟩
      exact SubH.refl _

end Go.Proofs.Ytbbmhppkhcodfaa
namespace Go.Proofs.Ytbbmhppkhcodfaa
open Go.Sx
set_option linter.unusedVariables false
set_option linter.unusedSimpArgs false
set_option maxRecDepth 100000
set_option maxHeartbeats 4000000

theorem doneS_pre3 {fn : Func} {n : Nat} {Ψ : Value → List HProp → Prop} {Γ : Env} {H H2 : List HProp} (hs : SubH H H2) (h : DoneS Try.prog fn n Ψ .ret Γ H2) : DoneS Try.prog fn n Ψ .ret Γ H := by
  obtain ⟨v, L, h1, h2, h3⟩ := h
  exact ⟨v, L, fun a w F f s => h1 a w F f (hs w F s), h2, hs.trans h3⟩
theorem rtree_open {w : Rt} {L : List HProp} {u : World} {F : HProp} (s : sat u (star (St (rtree w :: L)) F)) : sat u (star (St (rtL w ++ L)) F) := by
  rw [St_cons, rtree, ← St_append] at s; exact s
theorem rtree_shut {w : Rt} {L : List HProp} {u : World} {F : HProp} (s : sat u (star (St (rtL w ++ L)) F)) : sat u (star (St (rtree w :: L)) F) := by
  rw [St_cons, rtree, ← St_append]; exact s
/-- nothing lies behind no bytes -/
theorem ths_nil (x : Th) (h : x.bp = none ∧ x.bc = 0 ∧ x.b = []) {l : List Th} {u : World} {F : HProp} (s : sat u (star (ths l) F)) : sat u (star (ths (l ++ [x])) F) := by
  obtain ⟨id, par, name, dir, bp, bc, b, a⟩ := x
  obtain ⟨rfl, rfl, rfl⟩ := h
  unfold ths at s ⊢; rw [List.map_append, St_append, star_assoc, star_left_comm, List.map_cons, List.map_nil, St_cons, St_nil, star_emp]; exact row_nil s
def root15 : Th := (⟨0, -1, [], true, none, 0, [], (⟨15, 0, 0, 0, 16877, 0, 0⟩ : At)⟩ : Th)
theorem rnew_close {b3 b5 : Nat} : SubH [own b5 (.cells ([.slice (some ⟨b3, 0, none⟩) 1 1, .int .i64 1] : List Value).toArray 74 (0, 0)), row 109 12 (.slice (some ⟨b3, 0, none⟩) 1 1) 1 (flat Th.cs [(⟨0, -1, [], true, none, 0, [], (⟨15, 0, 0, 0, 16877, 0, 0⟩ : At)⟩ : Th)])] [rtree (⟨b5, some ⟨b3, 0, none⟩, 1, 1, [(⟨0, -1, [], true, none, 0, [], (⟨15, 0, 0, 0, 16877, 0, 0⟩ : At)⟩ : Th)]⟩ : Rt)] := fun u F s => by
  refine rtree_shut (w := (⟨b5, some ⟨b3, 0, none⟩, 1, 1, [(⟨0, -1, [], true, none, 0, [], (⟨15, 0, 0, 0, 16877, 0, 0⟩ : At)⟩ : Th)]⟩ : Rt)) (L := []) ?_; have e : ∀ X : HProp, sat u X → sat u (star (ths []) X) := fun X hX => by rw [show ths [] = emp from rfl, emp_star]; exact hX
  have s1 := ths_nil (⟨0, -1, [], true, none, 0, [], (⟨15, 0, 0, 0, 16877, 0, 0⟩ : At)⟩ : Th) ⟨rfl, rfl, rfl⟩ (e _ s)
  show sat u (star (St [own b5 _, rowT (some ⟨b3, 0, none⟩) 1 [(⟨0, -1, [], true, none, 0, [], (⟨15, 0, 0, 0, 16877, 0, 0⟩ : At)⟩ : Th)], ths [(⟨0, -1, [], true, none, 0, [], (⟨15, 0, 0, 0, 16877, 0, 0⟩ : At)⟩ : Th)]]) F)
  rw [St_cons, St_cons, St_nil, star_emp] at s1; rw [St_cons, St_cons, St_cons, St_nil, star_emp, star_assoc, star_assoc]; rw [star_left_comm, star_assoc] at s1; rw [star_left_comm (row _ _ _ _ _)] at s1
  have s2 : sat u (star (own b5 (.cells ([.slice (some ⟨b3, 0, none⟩) 1 1, .int .i64 1] : List Value).toArray 74 (0, 0))) (star (ths [(⟨0, -1, [], true, none, 0, [], (⟨15, 0, 0, 0, 16877, 0, 0⟩ : At)⟩ : Th)]) (star (row 109 12 (.slice (some ⟨b3, 0, none⟩) 1 1) 1 (flat Th.cs [(⟨0, -1, [], true, none, 0, [], (⟨15, 0, 0, 0, 16877, 0, 0⟩ : At)⟩ : Th)])) F))) := by
    simpa only [List.nil_append, star_left_comm, star_assoc] using s1
  rw [star_left_comm (ths _)] at s2; exact s2
theorem rnew_spec : Tri Try.prog 31 [] [] (fun v H' => ∃ w : Rt, v = w.v ∧ w.L = [root15] ∧ w.next = 1 ∧ H' = [rtree w]) := by
  refine tri_of_wpS Try.func31 rfl Try.ntmps31 (by simp) ?_; refine wp_seq' (wp_region' (ops_ro' rfl (ro_assign rfl) rfl (ops_nil (Then_normal (wp_seq' ?_))))); refine wp_region' (ops_ro' rfl (ro_build rfl (bld_struct (cs := At.cs (⟨15, 0, 0, 0, 16877, 0, 0⟩ : At)) st40 rfl)) rfl (ops_ro' rfl (ro_build rfl (bld_struct (cs := Th.cs (⟨0, -1, [], true, none, 0, [], (⟨15, 0, 0, 0, 16877, 0, 0⟩ : At)⟩ : Th)) st109 rfl)) rfl (ops_eff' rfl (eff_lit sl72 rfl (sbld (cs := flat Th.cs [(⟨0, -1, [], true, none, 0, [], (⟨15, 0, 0, 0, 16877, 0, 0⟩ : At)⟩ : Th)]) [(.int .i64 0), (.int .i64 0), (.string ByteArray.empty), (.bool false), (.slice none 0 0), (.int .u32 0), (.int .u64 0), (.int .u32 0), (.int .u32 0), (.int .u32 0), (.int .u32 0), (.int .u32 0)] sl72 (by decide) (by kernel_rfl) rfl) rfl (by decide)) rfl ?_))); rintro _ _ ⟨b3, rfl, rfl⟩; refine ops_ro' rfl (ro_build rfl (bld_struct (cs := [.slice (some ⟨b3, 0, none⟩) 1 1, .int .i64 1]) st74 rfl)) rfl (ops_eff' rfl (eff_box rfl) rfl ?_); rintro _ _ ⟨b5, rfl, rfl⟩; refine ops_ro' rfl (ro_assign rfl) rfl (ops_nil (Then_normal (wp_ret' ?_))); refine doneS_pre3 (H2 := [rtree (⟨b5, some ⟨b3, 0, none⟩, 1, 1, [(⟨0, -1, [], true, none, 0, [], (⟨15, 0, 0, 0, 16877, 0, 0⟩ : At)⟩ : Th)]⟩ : Rt)]) (fun u F s => rnew_close u F s) ?_; refine' doneS_ret (res1 rfl rfl) ?_ ?_
  rotate_left 1
  exact ⟨(⟨b5, some ⟨b3, 0, none⟩, 1, 1, [(⟨0, -1, [], true, none, 0, [], (⟨15, 0, 0, 0, 16877, 0, 0⟩ : At)⟩ : Th)]⟩ : Rt), rfl, rfl, rfl, rfl⟩
  exact SubH.refl _

end Go.Proofs.Ytbbmhppkhcodfaa
