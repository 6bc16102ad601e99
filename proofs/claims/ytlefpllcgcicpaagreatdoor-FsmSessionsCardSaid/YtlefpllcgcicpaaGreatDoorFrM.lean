/-
  A tree and the document's that hold the same things: they do after each call.
  A tree and the document's that hold the same things: they do after Write, Set and Rename.
  What was saved tells all that was there.
  Package fsm: its machine, and how it lies; status, of, named.
  Package fsm: the least free handle; a handle by its name.
  Package fsm: a handle is set.
  Package strongroomref16: its handles; stat, why, free.
-/
import Derived.Test.YtlefpllcgcicpaaGreatDoorTrSt
import Derived.Test.YtlefpllcgcicpaaGreatDoorLib
import Derived.Test.YtlefpllcgcicpaaGreatDoorSxRowA
namespace Go.Proofs.YtlefpllcgcicpaaGreatDoor
open Go.Sx
set_option linter.unusedVariables false
set_option linter.unusedSimpArgs false
set_option maxRecDepth 100000
set_option maxHeartbeats 4000000

def updC (k : Nat) (f : Co → Co) (c : Co) : Co := if c.id = k then f c else c
section
variable {t : Tr} {w : Rt} {r : Nd} (hW : Wf t r) (h : RelW t w)
include hW h
omit hW h in
end

end Go.Proofs.YtlefpllcgcicpaaGreatDoor
namespace Go.Proofs.YtlefpllcgcicpaaGreatDoor
open Go.Sx
set_option linter.unusedVariables false
set_option linter.unusedSimpArgs false
set_option maxRecDepth 100000
set_option maxHeartbeats 4000000

section
variable {t : Tr} {w : Rt} {r : Nd} (hW : Wf t r) (h : RelW t w)
include hW h
omit hW h in
omit hW h in
omit hW h in
omit hW h in
end

end Go.Proofs.YtlefpllcgcicpaaGreatDoor
namespace Go.Proofs.YtlefpllcgcicpaaGreatDoor
open Go.Sx
set_option linter.unusedVariables false
set_option linter.unusedSimpArgs false
set_option maxRecDepth 100000
set_option maxHeartbeats 4000000

section
variable {A B : Tr} {rA rB : Nd} (hA : Wf A rA) (hB : Wf B rB) (fA : ∀ u ∈ A.ns, u.a.f = 15) (fB : ∀ u ∈ B.ns, u.a.f = 15) (nA : A.next ≤ 9223372036854775807) (nB : B.next ≤ 9223372036854775807)
include hA hB fA fB nA nB
end
end Go.Proofs.YtlefpllcgcicpaaGreatDoor
namespace Go.Proofs.YtlefpllcgcicpaaGreatDoor
open Go.Sx
set_option linter.unusedVariables false
set_option linter.unusedSimpArgs false
set_option maxRecDepth 100000
set_option maxHeartbeats 4000000

/-- a handle of a session, as it lies -/
structure Hd where
  used : Bool
  id : Int
  dir : Bool
  flags : Nat
  np : Option Addr
  nc : Nat
  names : List Nm
def Hd.cs (h : Hd) : List Value := [.bool h.used, .int .i64 h.id, .bool h.dir, .int .u32 (h.flags : Int), .slice h.np h.names.length h.nc]
theorem Hd.len (h : Hd) : h.cs.length = 5 := rfl
def Hd.zero : Hd := ⟨false, 0, false, 0, none, 0, []⟩
def rowN (h : Hd) : HProp := row 87 8 (.slice h.np h.names.length h.nc) h.names.length (flat Nm.cs h.names)
/-- a machine -/
structure Ma where
  mb : Nat
  t : Tr
  hs : List Hd
def Ma.cs (m : Ma) : List Value := .pointer (some ⟨m.t.tb, 0, none⟩) :: flat Hd.cs m.hs
def maL (m : Ma) : List HProp := [own m.mb (.cells m.cs.toArray 71 (0, 0)), tree m.t, St (m.hs.map rowN)]
def mach (m : Ma) : HProp := St (maL m)
abbrev Ma.v (m : Ma) : Value := .pointer (some ⟨m.mb, 0, none⟩)
/-- a reply, as it lies -/
structure Rep where
  kind : Int
  status : Int
  handle : List UInt8
  dp : Option Addr
  dc : Nat
  data : List UInt8
  np : Option Addr
  nc : Nat
  names : List Nm
  a : At
def Rep.cs (x : Rep) : List Value := [.int .i64 x.kind, .int .i64 x.status, .string (str x.handle), .slice x.dp x.data.length x.dc, .slice x.np x.names.length x.nc] ++ x.a.cs
abbrev Rep.v (x : Rep) : Value := .agg x.cs.toArray
def Rep.stat (k : Int) : Rep := ⟨1, k, [], none, 0, [], none, 0, [], At.zero⟩
theorem status_spec (k : Int) : Tri Tryz.prog 28 [.int .i64 k] [] (fun v H' => v = (Rep.stat k).v ∧ H' = []) := by
  refine tri_of_wpS Tryz.func28 rfl Tryz.ntmps28 (by simp) ?_
  refine wp_seq' ?_
  refine wp_region' ?_
  refine ops_eff' rfl (eff_alloc z32) rfl ?_
  rintro _ _ ⟨b2, rfl, rfl⟩
  refine ops_nil ?_
  refine Then_normal ?_
  refine wp_seq' ?_
  refine wp_region' ?_
  refine ops_ro' rfl (ro_move rfl) rfl ?_
  refine ops_ro' rfl (ro_build rfl (bld_struct (cs := (Rep.stat k).cs) st32 rfl)) rfl ?_
  refine ops_eff0 rfl (eff_storeA 0 ag32 rfl rfl rfl rfl rfl (Nat.le_of_ble_eq_true rfl) (warm_zero _)) rfl ?_
  rintro _ _ rfl
  simp only [List.set_cons_zero, List.set_cons_succ]
  refine ops_nil ?_
  refine Then_normal ?_
  refine wp_ret' ?_
  refine' doneS_ret (resv1 rfl (rv_cellA ag32 rfl (by first | exact RdN.of_pick 0 rfl rdn_all | exact RdN.of_pick 1 rfl rdn_all | exact RdN.of_pick 2 rfl rdn_all | exact RdN.of_pick 3 rfl rdn_all) rfl)) ?_ ?_
  rotate_left 1
  exact ⟨rfl, rfl⟩
  exact (SubH.nil _)
/-- a refusal as a reply -/
def ofE (e : Int) : Rep := if e = 0 then Rep.stat 0 else if e = 22 then Rep.stat 2 else Rep.stat 4
theorem of_spec (e : Int) : Tri Tryz.prog 32 [.int .i64 e] [] (fun v H' => v = (ofE e).v ∧ H' = []) := by
  refine tri_of_wpS Tryz.func32 rfl Tryz.ntmps32 (by simp) ?_
  refine wp_seq' ?_
  refine wp_region' ?_
  refine ops_eff' rfl (eff_alloc z32) rfl ?_
  rintro _ _ ⟨b2, rfl, rfl⟩
  refine ops_nil ?_
  refine Then_normal ?_
  refine wp_seq' ?_
  refine wp_seq' ?_
  refine wp_region' ?_
  refine ops_ro' rfl (ro_move rfl) rfl ?_
  refine ops_nil ?_
  refine Then_normal ?_
  refine wp_block' ?_
  refine wp_seq' ?_
  refine wp_region' ?_
  refine ops_ro' rfl (ro_eql rfl rfl rfl) rfl ?_
  refine ops_ro' rfl (ro_assign rfl) rfl ?_
  refine ops_nil ?_
  refine Then_normal ?_
  refine wp_cond' rfl (fun hc4 => ?_) (fun hc4 => ?_)
  · replace hc4 := of_decide_eq_true hc4
    refine wp_seq' ?_
    refine wp_region' ?_
    refine ops_eff' rfl (eff_call Tryz.call28 rfl rfl (by repeat (first | exact Split.nil _ | apply Split.cons 0 rfl | apply Split.cons 1 rfl | apply Split.cons 2 rfl | apply Split.cons 3 rfl | apply Split.cons 4 rfl | apply Split.cons 5 rfl | apply Split.cons 6 rfl | apply Split.cons 7 rfl | apply Split.cons 8 rfl | apply Split.cons 9 rfl | apply Split.cons 10 rfl | apply Split.cons 11 rfl)) (status_spec 0)) rfl ?_
    rintro _ H' ⟨_, ⟨rfl, rfl⟩, hH⟩
    simp only [List.cons_append, List.nil_append, List.eraseIdx_cons_zero, List.eraseIdx_cons_succ, List.set_cons_zero, List.set_cons_succ] at hH
    subst hH
    refine ops_eff0 rfl (eff_storeA 0 ag32 rfl rfl rfl rfl rfl (Nat.le_of_ble_eq_true rfl) (warm_zero _)) rfl ?_
    rintro _ _ rfl
    simp only [List.set_cons_zero, List.set_cons_succ]
    refine ops_nil ?_
    refine Then_normal ?_
    refine wp_ret' ?_
    refine InBlock_ret ?_
    refine Then_ret ?_
    refine' doneS_ret (resv1 rfl (rv_cellA ag32 rfl (by first | exact RdN.of_pick 0 rfl rdn_all | exact RdN.of_pick 1 rfl rdn_all | exact RdN.of_pick 2 rfl rdn_all | exact RdN.of_pick 3 rfl rdn_all) rfl)) ?_ ?_
    rotate_left 1
    exact ⟨(by rw [ofE, if_pos (by omega)]; rfl), rfl⟩
    exact (SubH.nil _)
  · replace hc4 := of_decide_eq_false hc4
    refine wp_seq' ?_
    refine wp_region' ?_
    refine ops_ro' rfl (ro_eql rfl rfl rfl) rfl ?_
    refine ops_ro' rfl (ro_assign rfl) rfl ?_
    refine ops_nil ?_
    refine Then_normal ?_
    refine wp_cond' rfl (fun hc7 => ?_) (fun hc7 => ?_)
    · replace hc7 := of_decide_eq_true hc7
      refine wp_seq' ?_
      refine wp_region' ?_
      refine ops_eff' rfl (eff_call Tryz.call28 rfl rfl (by repeat (first | exact Split.nil _ | apply Split.cons 0 rfl | apply Split.cons 1 rfl | apply Split.cons 2 rfl | apply Split.cons 3 rfl | apply Split.cons 4 rfl | apply Split.cons 5 rfl | apply Split.cons 6 rfl | apply Split.cons 7 rfl | apply Split.cons 8 rfl | apply Split.cons 9 rfl | apply Split.cons 10 rfl | apply Split.cons 11 rfl)) (status_spec 2)) rfl ?_
      rintro _ H' ⟨_, ⟨rfl, rfl⟩, hH⟩
      simp only [List.cons_append, List.nil_append, List.eraseIdx_cons_zero, List.eraseIdx_cons_succ, List.set_cons_zero, List.set_cons_succ] at hH
      subst hH
      refine ops_eff0 rfl (eff_storeA 0 ag32 rfl rfl rfl rfl rfl (Nat.le_of_ble_eq_true rfl) (warm_zero _)) rfl ?_
      rintro _ _ rfl
      simp only [List.set_cons_zero, List.set_cons_succ]
      refine ops_nil ?_
      refine Then_normal ?_
      refine wp_ret' ?_
      refine InBlock_ret ?_
      refine Then_ret ?_
      refine' doneS_ret (resv1 rfl (rv_cellA ag32 rfl (by first | exact RdN.of_pick 0 rfl rdn_all | exact RdN.of_pick 1 rfl rdn_all | exact RdN.of_pick 2 rfl rdn_all | exact RdN.of_pick 3 rfl rdn_all) rfl)) ?_ ?_
      rotate_left 1
      exact ⟨(by rw [ofE, if_neg (by omega), if_pos (by omega)]; rfl), rfl⟩
      exact (SubH.nil _)
    · replace hc7 := of_decide_eq_false hc7
      refine wp_skip' ?_
      refine InBlock_normal ?_
      refine Then_normal ?_
      refine wp_seq' ?_
      refine wp_region' ?_
      refine ops_eff' rfl (eff_call Tryz.call28 rfl rfl (by repeat (first | exact Split.nil _ | apply Split.cons 0 rfl | apply Split.cons 1 rfl | apply Split.cons 2 rfl | apply Split.cons 3 rfl | apply Split.cons 4 rfl | apply Split.cons 5 rfl | apply Split.cons 6 rfl | apply Split.cons 7 rfl | apply Split.cons 8 rfl | apply Split.cons 9 rfl | apply Split.cons 10 rfl | apply Split.cons 11 rfl)) (status_spec 4)) rfl ?_
      rintro _ H' ⟨_, ⟨rfl, rfl⟩, hH⟩
      simp only [List.cons_append, List.nil_append, List.eraseIdx_cons_zero, List.eraseIdx_cons_succ, List.set_cons_zero, List.set_cons_succ] at hH
      subst hH
      refine ops_eff0 rfl (eff_storeA 0 ag32 rfl rfl rfl rfl rfl (Nat.le_of_ble_eq_true rfl) (warm_zero _)) rfl ?_
      rintro _ _ rfl
      simp only [List.set_cons_zero, List.set_cons_succ]
      refine ops_nil ?_
      refine Then_normal ?_
      refine wp_ret' ?_
      refine' doneS_ret (resv1 rfl (rv_cellA ag32 rfl (by first | exact RdN.of_pick 0 rfl rdn_all | exact RdN.of_pick 1 rfl rdn_all | exact RdN.of_pick 2 rfl rdn_all | exact RdN.of_pick 3 rfl rdn_all) rfl)) ?_ ?_
      rotate_left 1
      exact ⟨(by rw [ofE, if_neg (by omega), if_neg (by omega)]; rfl), rfl⟩
      exact (SubH.nil _)


theorem dec_len {i : Nat} (hi : i < 100) : (Go.Lib.decDigits i).length ≤ 2 := by
  by_cases h : i < 10
  · rw [Go.Lib.decDigits_one h]; simp
  · rw [Go.Lib.decDigits_two h hi]; simp
theorem itoa_spec (i : Nat) (hi : i < 100) : Tri Tryz.prog 85 [.int .i64 (i : Int)] [] (fun v H' => v = .string (str (Go.Lib.decDigits i)) ∧ H' = []) := fun w F s =>
  (Tryz.strconv_Itoa_small i hi w).mono fun e w' ⟨he, hw⟩ => ⟨_, [], he, ⟨rfl, rfl⟩, hw ▸ s⟩
/-- a handle's name -/
def hname (i : Nat) : List UInt8 := 104 :: Go.Lib.decDigits i
theorem named_spec (i : Nat) (hi : i < 100) : Tri Tryz.prog 42 [.int .i64 (i : Int)] [] (fun v H' => v = .string (str (hname i)) ∧ H' = []) := by
  refine tri_of_wpS Tryz.func42 rfl Tryz.ntmps42 (by simp) ?_
  refine wp_seq' ?_
  refine wp_region' ?_
  refine ops_ro' rfl (ro_assign rfl) rfl ?_
  refine ops_nil ?_
  refine Then_normal ?_
  refine wp_seq' ?_
  refine wp_region' ?_
  refine ops_ro' rfl (ro_move rfl) rfl ?_
  refine ops_eff' rfl (eff_call Tryz.call85 rfl rfl (by repeat (first | exact Split.nil _ | apply Split.cons 0 rfl | apply Split.cons 1 rfl | apply Split.cons 2 rfl | apply Split.cons 3 rfl | apply Split.cons 4 rfl | apply Split.cons 5 rfl | apply Split.cons 6 rfl | apply Split.cons 7 rfl | apply Split.cons 8 rfl | apply Split.cons 9 rfl | apply Split.cons 10 rfl | apply Split.cons 11 rfl)) (itoa_spec i hi)) rfl ?_
  rintro _ H' ⟨_, ⟨rfl, rfl⟩, hH⟩
  simp only [List.cons_append, List.nil_append, List.eraseIdx_cons_zero, List.eraseIdx_cons_succ, List.set_cons_zero, List.set_cons_succ] at hH
  subst hH
  refine ops_ro' rfl (ro_addS (a := [104]) rfl rfl (by have := dec_len hi; simp only [List.length_cons, List.length_nil]; omega)) rfl ?_
  refine ops_ro' rfl (ro_assign rfl) rfl ?_
  refine ops_nil ?_
  refine Then_normal ?_
  refine wp_ret' ?_
  refine' doneS_ret (res1 rfl rfl) ?_ ?_
  rotate_left 1
  exact ⟨rfl, rfl⟩
  exact SubH.refl _

end Go.Proofs.YtlefpllcgcicpaaGreatDoor
namespace Go.Proofs.YtlefpllcgcicpaaGreatDoor
open Go.Sx
set_option linter.unusedVariables false
set_option linter.unusedSimpArgs false
set_option maxRecDepth 100000
set_option maxHeartbeats 4000000

/-- a session's handle -/
def hdA (hs : List Hd) (s i : Nat) : Hd := hs.getD (s * 16 + i) Hd.zero
/-- V lets a machine's handles be read -/
def Hv (V : HProp) (mb : Nat) (hs : List Hd) : Prop := RdN V mb 1 (flat Hd.cs hs)
theorem seat_at {V : HProp} {mb s : Nat} {hs : List Hd} (h : Hv V mb hs) (hl : hs.length = 256) (h16 : s < 16) : RdN V mb (0 + 1 + s * 80) (flat Hd.cs ((hs.drop (s * 16)).take 16)) := fun j v hj => by
  have e : flat Hd.cs ((hs.drop (s * 16)).take 16) = ((flat Hd.cs hs).drop (s * 16 * 5)).take (16 * 5) := by rw [flat_drop Hd.len, flat_take Hd.len]
  rw [e, List.getElem?_take] at hj
  split at hj
  · rw [List.getElem?_drop] at hj
    have := h (s * 16 * 5 + j) v hj
    rw [show 0 + 1 + s * 80 + j = 1 + (s * 16 * 5 + j) by omega]; exact this
  · cases hj
theorem seat_get {s i : Nat} {hs : List Hd} (hl : hs.length = 256) (h16 : s < 16) (hi : i < 16) : ((hs.drop (s * 16)).take 16)[i]? = some (hdA hs s i) := by
  rw [List.getElem?_take, if_pos hi, List.getElem?_drop]
  unfold hdA
  rw [List.getD_eq_getElem?_getD, List.getElem?_eq_getElem (by omega)]
  rfl
/-- the least that is free -/
def freeH (hs : List Hd) (s : Nat) : Option Nat := (List.range 16).find? fun i => !(hdA hs s i).used
def freeV : Option Nat → Value
  | some i => .tuple #[.int .i64 (i : Int), .bool true]
  | none => .tuple #[.int .i64 0, .bool false]
theorem free_step {hs : List Hd} {s i : Nat} (h : ∀ j, j < i → (hdA hs s j).used = true) (hi : (hdA hs s i).used = true) : ∀ j, j < i + 1 → (hdA hs s j).used = true := fun j hj => by
  by_cases e : j = i
  · subst e; exact hi
  · exact h j (by omega)
theorem free_hit {hs : List Hd} {s i : Nat} (h : ∀ j, j < i → (hdA hs s j).used = true) (hi : i < 16) (hu : (hdA hs s i).used = false) : freeH hs s = some i := by
  unfold freeH
  rw [List.find?_eq_some_iff_getElem]
  refine ⟨by rw [hu]; rfl, i, by simpa using hi, by simp, fun j hj => ?_⟩
  have := h j hj
  simp [this]
theorem free_miss {hs : List Hd} {s : Nat} (h : ∀ j, j < 16 → (hdA hs s j).used = true) : freeH hs s = none := by
  unfold freeH
  rw [List.find?_eq_none]
  intro j hj
  have := h j (by simpa using hj)
  simp [this]
theorem free_spec {V : HProp} {mb : Nat} {hs : List Hd} (hM : Hv V mb hs) (hl : hs.length = 256) (s : Nat) (hs16 : s < 16) : Tri Tryz.prog 124 [.pointer (some ⟨mb, 0, none⟩), .int .i64 (s : Int)] [V] (fun v H' => ∃ K, (v = freeV (freeH hs s) ∧ K = []) ∧ H' = K ++ [V]) := by
  refine tri_of_wpS Tryz.func124 rfl Tryz.ntmps124 (by simp) ?_
  refine wp_seq' ?_
  refine wp_region' ?_
  refine ops_ro' rfl (ro_assign rfl) rfl ?_
  refine ops_ro' rfl (ro_assign rfl) rfl ?_
  refine ops_nil ?_
  refine Then_normal ?_
  refine wp_seq' ?_
  refine wp_seq' ?_
  refine wp_region' ?_
  refine ops_ro' rfl (ro_move rfl) rfl ?_
  refine ops_ro' rfl (ro_move rfl) rfl ?_
  refine ops_ro' rfl (ro_nilCheck rfl) rfl ?_
  refine ops_ro' rfl (ro_fieldAddr fa71_1 rfl) rfl ?_
  refine ops_ro' rfl (ro_indexArr Tryz.underlying69 (fun w => Tryz.sizeOf68 w) rfl rfl rfl (by omega)) rfl ?_
  refine ops_ro' rfl (ro_loadA ag68 rfl (RdN.of_pick 0 rfl (seat_at hM hl hs16)) (by rw [flat_len Hd.len, List.length_take, List.length_drop]; omega)) rfl ?_
  refine ops_ro' rfl (ro_move rfl) rfl ?_
  refine ops_nil ?_
  refine Then_normal ?_
  refine wp_block' ?_
  refine wp_loopK 2 (fun m Δ LL => ∃ (i : Nat), (i + m = 16 ∧ (∀ j, j < i → (hdA hs s j).used = true)) ∧ Δ = [(14, .int .i64 (i : Nat))] ∧ LL = [V]) (m := 16) (Has.cons (k := 13) rfl (Has.nil _)) (kept ⟨0, ⟨by omega, fun j h => by omega⟩, rfl, rfl⟩ (by repeat (first | exact Has.nil _ | refine Has.cons rfl ?_)) (by repeat (first | exact Has.nil _ | refine Has.cons rfl ?_)) (by repeat (first | exact SubH.nil _ | refine SubH.cons 0 rfl ?_ | refine SubH.cons 1 rfl ?_ | refine SubH.cons 2 rfl ?_ | refine SubH.cons 3 rfl ?_ | refine SubH.cons 4 rfl ?_ | refine SubH.cons 5 rfl ?_ | refine SubH.cons 6 rfl ?_ | refine SubH.cons 7 rfl ?_ | refine SubH.cons 8 rfl ?_ | refine SubH.cons 9 rfl ?_ | refine SubH.cons 10 rfl ?_ | refine SubH.cons 11 rfl ?_ | refine SubH.cons 12 rfl ?_ | refine SubH.cons 13 rfl ?_ | refine SubH.rown ?_))) ?_
  rintro m Δ LL ⟨i, ⟨hm, hno⟩, rfl, rfl⟩
  simp only [List.cons_append, List.nil_append]
  refine wp_seq' ?_
  refine wp_region' ?_
  refine ops_ro' rfl (ro_lss rfl rfl rfl) rfl ?_
  refine ops_nil ?_
  refine Then_normal ?_
  refine wp_seq' ?_
  refine wp_cond' rfl (fun hc15 => ?_) (fun hc15 => ?_)
  · replace hc15 := of_decide_eq_true hc15
    have hi : i < 16 := by omega
    refine wp_skip' ?_
    refine Then_normal ?_
    refine wp_seq' ?_
    refine wp_block' ?_
    refine wp_seq' ?_
    refine wp_region' ?_
    refine ops_ro' rfl (ro_move rfl) rfl ?_
    refine ops_ro' rfl (ro_indexF Hd.len Tryz.underlying68 ag67 rfl rfl rfl hi (seat_get hl hs16 hi)) rfl ?_
    refine ops_eff' rfl (eff_alloc z67) rfl ?_
    rintro _ _ ⟨b7, rfl, rfl⟩
    refine ops_ro' rfl (ro_assign rfl) rfl ?_
    refine ops_eff0 rfl (eff_storeA 0 ag67 rfl rfl rfl rfl rfl (Nat.le_of_ble_eq_true rfl) (warm_zero _)) rfl ?_
    rintro _ _ rfl
    simp only [List.set_cons_zero, List.set_cons_succ]
    refine ops_nil ?_
    refine Then_normal ?_
    refine wp_seq' ?_
    refine wp_region' ?_
    refine ops_ro' rfl (ro_fieldAddr fa67_0 rfl) rfl ?_
    refine ops_ro' rfl (ro_load sc4 rfl (Rd.pick 0 rfl (Rd.own rfl))) rfl ?_
    refine ops_ro' rfl (ro_not rfl rfl) rfl ?_
    refine ops_nil ?_
    refine Then_normal ?_
    refine wp_cond' rfl (fun hc20 => ?_) (fun hc20 => ?_)
    · simp only [Bool.and_eq_true, decide_eq_true_eq, Bool.not_eq_true', decide_eq_false_iff_not, bne_iff_ne, ne_eq] at hc20
      refine wp_seq' ?_
      refine wp_region' ?_
      refine ops_ro' rfl (ro_move rfl) rfl ?_
      refine ops_ro' rfl (ro_assign rfl) rfl ?_
      refine ops_ro' rfl (ro_assign rfl) rfl ?_
      refine ops_nil ?_
      refine Then_normal ?_
      refine wp_ret' ?_
      refine InBlock_ret ?_
      refine Then_ret ?_
      refine Then_ret ?_
      refine InBlock_ret ?_
      refine Then_ret ?_
      refine' doneS_ret (res2 rfl rfl rfl) ?_ ?_
      rotate_left 1
      exact ⟨[], ⟨(by rw [free_hit hno hi (by simpa using hc20)]; rfl), rfl⟩, rfl⟩
      exact (SubH.cons 1 rfl (SubH.nil _))
    · simp only [Bool.and_eq_false_iff, decide_eq_false_iff_not, Bool.not_eq_false', decide_eq_true_eq] at hc20
      refine wp_skip' ?_
      refine InBlock_normal ?_
      refine Then_normal ?_
      refine wp_region' ?_
      refine ops_ro' rfl (ro_add rfl rfl (wrap_inc (by omega))) rfl ?_
      refine ops_ro' rfl (ro_move rfl) rfl ?_
      refine ops_nil ?_
      refine Then_normal ?_
      refine back (m - 1) (by omega) (kept ⟨i + 1, ⟨by omega, free_step hno hc20⟩, rfl, rfl⟩ ?_ ?_ ?_)
      · exact (by repeat (first | exact Has.nil _ | refine Has.cons rfl ?_))
      · exact (by repeat (first | exact Has.nil _ | refine Has.cons rfl ?_))
      · exact (SubH.cons 1 rfl (SubH.nil _))
  · replace hc15 := of_decide_eq_false hc15
    refine wp_exit' ?_
    refine Then_exit ?_
    refine Then_exit ?_
    refine InBlock_here ?_
    refine Then_normal ?_
    refine wp_seq' ?_
    refine wp_region' ?_
    refine ops_ro' rfl (ro_assign rfl) rfl ?_
    refine ops_ro' rfl (ro_assign rfl) rfl ?_
    refine ops_nil ?_
    refine Then_normal ?_
    refine wp_ret' ?_
    refine' doneS_ret (res2 rfl rfl rfl) ?_ ?_
    rotate_left 1
    exact ⟨[], ⟨(by rw [free_miss (fun j hj => hno j (by omega))]; rfl), rfl⟩, rfl⟩
    exact SubH.refl _
theorem hd_rd {V : HProp} {mb s i : Nat} {hs : List Hd} (h : Hv V mb hs) (hl : hs.length = 256) (h16 : s < 16) (hi : i < 16) : RdN V mb (0 + 1 + s * 80 + i * 5) (hdA hs s i).cs := fun j v hj => by
  have e : hs[s * 16 + i]? = some (hdA hs s i) := by
    unfold hdA
    rw [List.getD_eq_getElem?_getD, List.getElem?_eq_getElem (by omega)]
    rfl
  have h1 := flat_get Hd.len e hj
  have h2 := h ((s * 16 + i) * 5 + j) v h1
  rw [show 0 + 1 + s * 80 + i * 5 + j = 1 + ((s * 16 + i) * 5 + j) by omega]; exact h2
/-- a session's handle of a name -/
def findH (hs : List Hd) (s : Nat) (nm : List UInt8) : Option Nat := (List.range 16).find? fun i => (hdA hs s i).used && decide (hname i = nm)
def findV (mb s : Nat) : Option Nat → Value
  | some i => .pointer (some ⟨mb, 0 + 1 + s * 80 + i * 5, none⟩)
  | none => .pointer none
theorem find_step {hs : List Hd} {s i : Nat} {nm : List UInt8} (h : ∀ j, j < i → ¬ ((hdA hs s j).used = true ∧ hname j = nm)) (hi : ¬ ((hdA hs s i).used = true ∧ hname i = nm)) : ∀ j, j < i + 1 → ¬ ((hdA hs s j).used = true ∧ hname j = nm) := fun j hj => by
  by_cases e : j = i
  · subst e; exact hi
  · exact h j (by omega)
theorem find_hit {hs : List Hd} {s i : Nat} {nm : List UInt8} (h : ∀ j, j < i → ¬ ((hdA hs s j).used = true ∧ hname j = nm)) (hi : i < 16) (hu : (hdA hs s i).used = true ∧ hname i = nm) : findH hs s nm = some i := by
  unfold findH
  rw [List.find?_eq_some_iff_getElem]
  refine ⟨by rw [hu.1, decide_eq_true hu.2]; rfl, i, by simpa using hi, by simp, fun j hj => ?_⟩
  have := h j hj
  simp only [List.getElem_range, Bool.not_eq_true', Bool.and_eq_false_iff, decide_eq_false_iff_not]
  by_cases e : (hdA hs s j).used = true
  · exact .inr fun e2 => this ⟨e, e2⟩
  · exact .inl (by simpa using e)
theorem find_miss {hs : List Hd} {s : Nat} {nm : List UInt8} (h : ∀ j, j < 16 → ¬ ((hdA hs s j).used = true ∧ hname j = nm)) : findH hs s nm = none := by
  unfold findH
  rw [List.find?_eq_none]
  intro j hj
  have := h j (by simpa using hj)
  simpa using this
theorem hfind_spec {V : HProp} {mb : Nat} {hs : List Hd} (hM : Hv V mb hs) (hl : hs.length = 256) (s : Nat) (hs16 : s < 16) (nm : List UInt8) : Tri Tryz.prog 68 [.pointer (some ⟨mb, 0, none⟩), .int .i64 (s : Int), .string (str nm)] [V] (fun v H' => ∃ K, (v = findV mb s (findH hs s nm) ∧ K = []) ∧ H' = K ++ [V]) := by
  refine tri_of_wpS Tryz.func68 rfl Tryz.ntmps68 (by simp) ?_
  refine wp_seq' ?_
  refine wp_region' ?_
  refine ops_ro' rfl (ro_assign rfl) rfl ?_
  refine ops_nil ?_
  refine Then_normal ?_
  refine wp_seq' ?_
  refine wp_seq' ?_
  refine wp_region' ?_
  refine ops_ro' rfl (ro_move rfl) rfl ?_
  refine ops_nil ?_
  refine Then_normal ?_
  refine wp_block' ?_
  refine wp_loopK 2 (fun m Δ LL => ∃ (i : Nat), (i + m = 16 ∧ (∀ j, j < i → ¬ ((hdA hs s j).used = true ∧ hname j = nm))) ∧ Δ = [(9, .int .i64 (i : Nat))] ∧ LL = [V]) (m := 16) (Has.cons (k := 0) rfl (Has.cons (k := 1) rfl (Has.cons (k := 2) rfl (Has.nil _)))) (kept ⟨0, ⟨by omega, fun j h => by omega⟩, rfl, rfl⟩ (by repeat (first | exact Has.nil _ | refine Has.cons rfl ?_)) (by repeat (first | exact Has.nil _ | refine Has.cons rfl ?_)) (by repeat (first | exact SubH.nil _ | refine SubH.cons 0 rfl ?_ | refine SubH.cons 1 rfl ?_ | refine SubH.cons 2 rfl ?_ | refine SubH.cons 3 rfl ?_ | refine SubH.cons 4 rfl ?_ | refine SubH.cons 5 rfl ?_ | refine SubH.cons 6 rfl ?_ | refine SubH.cons 7 rfl ?_ | refine SubH.cons 8 rfl ?_ | refine SubH.cons 9 rfl ?_ | refine SubH.cons 10 rfl ?_ | refine SubH.cons 11 rfl ?_ | refine SubH.cons 12 rfl ?_ | refine SubH.cons 13 rfl ?_ | refine SubH.rown ?_))) ?_
  rintro m Δ LL ⟨i, ⟨hm, hno⟩, rfl, rfl⟩
  simp only [List.cons_append, List.nil_append]
  refine wp_seq' ?_
  refine wp_region' ?_
  refine ops_ro' rfl (ro_lss rfl rfl rfl) rfl ?_
  refine ops_nil ?_
  refine Then_normal ?_
  refine wp_seq' ?_
  refine wp_cond' rfl (fun hc10 => ?_) (fun hc10 => ?_)
  · replace hc10 := of_decide_eq_true hc10
    have hi : i < 16 := by omega
    refine wp_skip' ?_
    refine Then_normal ?_
    refine wp_seq' ?_
    refine wp_block' ?_
    refine wp_seq' ?_
    refine wp_region' ?_
    refine ops_ro' rfl (ro_move rfl) rfl ?_
    refine ops_ro' rfl (ro_assign rfl) rfl ?_
    refine ops_nil ?_
    refine Then_normal ?_
    refine wp_seq' ?_
    refine wp_region' ?_
    refine ops_ro' rfl (ro_move rfl) rfl ?_
    refine ops_ro' rfl (ro_move rfl) rfl ?_
    refine ops_ro' rfl (ro_move rfl) rfl ?_
    refine ops_ro' rfl (ro_nilCheck rfl) rfl ?_
    refine ops_ro' rfl (ro_fieldAddr fa71_1 rfl) rfl ?_
    refine ops_ro' rfl (ro_indexArr Tryz.underlying69 (fun w => Tryz.sizeOf68 w) rfl rfl rfl (by omega)) rfl ?_
    refine ops_ro' rfl (ro_indexArr Tryz.underlying68 (fun w => Tryz.sizeOf67 w) rfl rfl rfl (by omega)) rfl ?_
    refine ops_ro' rfl (ro_assign rfl) rfl ?_
    refine ops_nil ?_
    refine Then_normal ?_
    refine wp_seq' ?_
    refine wp_region' ?_
    refine ops_ro' rfl (ro_move rfl) rfl ?_
    refine ops_ro' rfl (ro_nilCheck rfl) rfl ?_
    refine ops_ro' rfl (ro_fieldAddr fa67_0 rfl) rfl ?_
    refine ops_ro' rfl (ro_load sc4 rfl (Rd.pick 0 rfl ((hd_rd hM hl hs16 hi 0 _ rfl)))) rfl ?_
    refine ops_split rfl rfl rfl (fun hg23 => ?_) (fun hg23 => ?_)
    · skip
      refine ops_ro' rfl (ro_move rfl) rfl ?_
      refine ops_eff' rfl (eff_call Tryz.call42 rfl rfl (by repeat (first | exact Split.nil _ | apply Split.cons 0 rfl | apply Split.cons 1 rfl | apply Split.cons 2 rfl | apply Split.cons 3 rfl | apply Split.cons 4 rfl | apply Split.cons 5 rfl | apply Split.cons 6 rfl | apply Split.cons 7 rfl | apply Split.cons 8 rfl | apply Split.cons 9 rfl | apply Split.cons 10 rfl | apply Split.cons 11 rfl)) (named_spec i (by omega))) rfl ?_
      rintro _ H' ⟨_, ⟨rfl, rfl⟩, hH⟩
      simp only [List.cons_append, List.nil_append, List.eraseIdx_cons_zero, List.eraseIdx_cons_succ, List.set_cons_zero, List.set_cons_succ] at hH
      subst hH
      refine ops_ro' rfl (ro_move rfl) rfl ?_
      refine ops_ro' rfl (ro_eqlS rfl rfl rfl) rfl ?_
      refine ops_ro' rfl (ro_pick rfl rfl) rfl ?_
      refine ops_nil ?_
      refine Then_normal ?_
      refine wp_cond' rfl (fun hc28 => ?_) (fun hc28 => ?_)
      · replace hc28 := of_decide_eq_true hc28
        refine wp_seq' ?_
        refine wp_region' ?_
        refine ops_ro' rfl (ro_move rfl) rfl ?_
        refine ops_ro' rfl (ro_assign rfl) rfl ?_
        refine ops_nil ?_
        refine Then_normal ?_
        refine wp_ret' ?_
        refine InBlock_ret ?_
        refine Then_ret ?_
        refine Then_ret ?_
        refine InBlock_ret ?_
        refine Then_ret ?_
        refine' doneS_ret (res1 rfl rfl) ?_ ?_
        rotate_left 1
        exact ⟨[], ⟨(by rw [find_hit hno hi (by simp_all)]; rfl), rfl⟩, rfl⟩
        exact SubH.refl _
      · replace hc28 := of_decide_eq_false hc28
        refine wp_skip' ?_
        refine InBlock_normal ?_
        refine Then_normal ?_
        refine wp_region' ?_
        refine ops_ro' rfl (ro_add rfl rfl (wrap_inc (by omega))) rfl ?_
        refine ops_ro' rfl (ro_move rfl) rfl ?_
        refine ops_nil ?_
        refine Then_normal ?_
        refine back (m - 1) (by omega) (kept ⟨i + 1, ⟨by omega, find_step hno (by intro h; simp_all)⟩, rfl, rfl⟩ ?_ ?_ ?_)
        · exact (by repeat (first | exact Has.nil _ | refine Has.cons rfl ?_))
        · exact (by repeat (first | exact Has.nil _ | refine Has.cons rfl ?_))
        · exact SubH.refl _
    · skip
      refine ops_skip' rfl rfl ?_
      refine ops_skip' rfl rfl ?_
      refine ops_skip' rfl rfl ?_
      refine ops_skip' rfl rfl ?_
      refine ops_ro' rfl (ro_pick rfl rfl) rfl ?_
      refine ops_nil ?_
      refine Then_normal ?_
      refine wp_condF rfl ?_
      refine wp_skip' ?_
      refine InBlock_normal ?_
      refine Then_normal ?_
      refine wp_region' ?_
      refine ops_ro' rfl (ro_add rfl rfl (wrap_inc (by omega))) rfl ?_
      refine ops_ro' rfl (ro_move rfl) rfl ?_
      refine ops_nil ?_
      refine Then_normal ?_
      refine back (m - 1) (by omega) (kept ⟨i + 1, ⟨by omega, find_step hno (by intro h; simp_all)⟩, rfl, rfl⟩ ?_ ?_ ?_)
      · exact (by repeat (first | exact Has.nil _ | refine Has.cons rfl ?_))
      · exact (by repeat (first | exact Has.nil _ | refine Has.cons rfl ?_))
      · exact SubH.refl _
  · replace hc10 := of_decide_eq_false hc10
    refine wp_exit' ?_
    refine Then_exit ?_
    refine Then_exit ?_
    refine InBlock_here ?_
    refine Then_normal ?_
    refine wp_seq' ?_
    refine wp_region' ?_
    refine ops_ro' rfl (ro_assign rfl) rfl ?_
    refine ops_nil ?_
    refine Then_normal ?_
    refine wp_ret' ?_
    refine' doneS_ret (res1 rfl rfl) ?_ ?_
    rotate_left 1
    exact ⟨[], ⟨(by rw [find_miss (fun j hj => hno j (by omega))]; rfl), rfl⟩, rfl⟩
    exact SubH.refl _

end Go.Proofs.YtlefpllcgcicpaaGreatDoor
namespace Go.Proofs.YtlefpllcgcicpaaGreatDoor
open Go.Sx
set_option linter.unusedVariables false
set_option linter.unusedSimpArgs false
set_option maxRecDepth 100000
set_option maxHeartbeats 4000000

/-- a handle is set, as it lies -/
theorem ma_set {p : Value} {hs : List Hd} {s i : Nat} {y : Hd} (hl : hs.length = 256) (h16 : s < 16) (hi : i < 16) : over (p :: flat Hd.cs hs) (0 + 1 + s * 80 + i * 5) y.cs = p :: flat Hd.cs (hs.set (s * 16 + i) y) := by
  have e : hs[s * 16 + i]? = some (hdA hs s i) := by
    unfold hdA
    rw [List.getD_eq_getElem?_getD, List.getElem?_eq_getElem (by omega)]
    rfl
  rw [show p :: flat Hd.cs hs = [p] ++ flat Hd.cs hs from rfl, show 0 + 1 + s * 80 + i * 5 = [p].length + ((s * 16 + i) * 5 + 0) by simp only [List.length_cons, List.length_nil]; omega, over_app_right]
  rw [flat_part Hd.len e (by rw [Hd.len]; omega) (y := y) ?_]
  · rfl
  · unfold over
    rw [List.take_zero, List.nil_append, Nat.zero_add, Hd.len, List.drop_of_length_le (by rw [Hd.len]; omega), List.append_nil]
/-- the names of a handle that is set are another row -/
theorem rows_set : ∀ {l : List Hd} {i : Nat} {x y : Hd} (_ : l[i]? = some x) {u : World} {F : HProp} (_ : sat u (star (St (l.map rowN)) (star (rowN y) F))), sat u (star (St ((l.set i y).map rowN)) F)
  | z :: l, 0, x, y, h, u, F, s => by
    have e : St ((z :: l).map rowN) = star (rowN z) (St (l.map rowN)) := by rw [List.map_cons, St_cons]
    have e2 : St (((z :: l).set 0 y).map rowN) = star (rowN y) (St (l.map rowN)) := by show St (rowN y :: l.map rowN) = _; rw [St_cons]
    rw [e, star_assoc] at s
    have s := sat_star_right s
    rw [star_left_comm, ← star_assoc] at s
    rw [e2]; exact s
  | z :: l, i + 1, x, y, h, u, F, s => by
    have e : St ((z :: l).map rowN) = star (rowN z) (St (l.map rowN)) := by rw [List.map_cons, St_cons]
    have e2 : St (((z :: l).set (i + 1) y).map rowN) = star (rowN z) (St ((l.set i y).map rowN)) := by show St (rowN z :: (l.set i y).map rowN) = _; rw [St_cons]
    rw [e, star_assoc, star_left_comm, star_left_comm (rowN z)] at s
    have s := rows_set (l := l) (i := i) (x := x) (y := y) (by simpa using h) s
    rw [star_left_comm, ← star_assoc] at s
    rw [e2]; exact s


/-- a request, as it lies -/
structure Qr where
  kind : Int
  path : List UInt8
  dest : List UInt8
  handle : List UInt8
  off : Nat
  len : Nat
  dp : Option Addr
  dc : Nat
  data : List UInt8
  flags : Nat
  a : At
def Qr.cs (q : Qr) : List Value := [.int .i64 q.kind, .string (str q.path), .string (str q.dest), .string (str q.handle), .int .u64 (q.off : Int), .int .u32 (q.len : Int), .slice q.dp q.data.length q.dc, .int .u32 (q.flags : Int)] ++ q.a.cs
abbrev Qr.v (q : Qr) : Value := .agg q.cs.toArray
theorem hv_own {mb : Nat} {p0 : Value} {hs : List Hd} : Hv (own mb (.cells (p0 :: flat Hd.cs hs).toArray 71 (0, 0))) mb hs := fun j v hj => by
  refine Rd.own ?_
  rw [Nat.add_comm, List.getElem?_cons_succ]; exact hj
theorem hv_pick {H : List HProp} {A : HProp} {mb : Nat} {hs : List Hd} (i : Nat) (hi : H[i]? = some A) (h : Hv A mb hs) : Hv (St H) mb hs := RdN.of_pick i hi h
theorem find_lt {hs : List Hd} {s i : Nat} {nm : List UInt8} (h : findH hs s nm = some i) : i < 16 := by
  have := List.mem_of_find?_eq_some h
  simpa using this
theorem close_spec {V : HProp} {mb : Nat} {p0 : Value} {hs : List Hd} (hl : hs.length = 256) (s : Nat) (hs16 : s < 16) (q : Qr) : Tri Tryz.prog 65 [.pointer (some ⟨mb, 0, none⟩), .int .i64 (s : Int), q.v] [own mb (.cells (p0 :: flat Hd.cs hs).toArray 71 (0, 0)), V]
    (fun v H' => ∃ k hs', v = (Rep.stat k).v ∧ ((findH hs s q.handle = none ∧ k = 4 ∧ hs' = hs) ∨ ∃ i, findH hs s q.handle = some i ∧ k = 0 ∧ hs' = hs.set (s * 16 + i) Hd.zero) ∧ H' = [own mb (.cells (p0 :: flat Hd.cs hs').toArray 71 (0, 0)), V]) := by
  cases hf : findH hs s q.handle with
  | none =>
    refine tri_of_wpS Tryz.func65 rfl Tryz.ntmps65 (by simp) ?_
    refine wp_seq' ?_
    refine wp_region' ?_
    refine ops_eff' rfl (eff_box rfl) rfl ?_
    rintro _ _ ⟨b5, rfl, rfl⟩
    refine ops_eff' rfl (eff_alloc z32) rfl ?_
    rintro _ _ ⟨b6, rfl, rfl⟩
    refine ops_nil ?_
    refine Then_normal ?_
    refine wp_seq' ?_
    refine wp_region' ?_
    refine ops_ro' rfl (ro_move rfl) rfl ?_
    refine ops_ro' rfl (ro_move rfl) rfl ?_
    refine ops_ro' rfl (ro_fieldAddr fa35_3 rfl) rfl ?_
    refine ops_ro' rfl (ro_load sc9 rfl (Rd.pick 1 rfl (Rd.own rfl))) rfl ?_
    refine ops_eff' rfl (eff_callM (Pre := []) Tryz.call68 rfl rfl (Split.nil _) (hfind_spec (by first | exact hv_pick 0 rfl hv_own | exact hv_pick 1 rfl hv_own | exact hv_pick 2 rfl hv_own) hl s hs16 q.handle)) rfl ?_
    rintro _ H' ⟨_, ⟨rfl, rfl⟩, hH⟩
    simp only [List.cons_append, List.nil_append, List.eraseIdx_cons_zero, List.eraseIdx_cons_succ, List.set_cons_zero, List.set_cons_succ] at hH
    subst hH
    rw [hf]
    dsimp only [findV]
    refine ops_ro' rfl (ro_assign rfl) rfl ?_
    refine ops_nil ?_
    refine Then_normal ?_
    refine wp_seq' ?_
    refine wp_seq' ?_
    refine wp_region' ?_
    refine ops_ro' rfl (ro_move rfl) rfl ?_
    refine ops_ro' rfl (ro_ptrEqlNil Tryz.underlying116 rfl rfl rfl) rfl ?_
    refine ops_nil ?_
    refine Then_normal ?_
    refine wp_condT rfl ?_
    refine wp_seq' ?_
    refine wp_region' ?_
    refine ops_eff' rfl (eff_call Tryz.call28 rfl rfl (by repeat (first | exact Split.nil _ | apply Split.cons 0 rfl | apply Split.cons 1 rfl | apply Split.cons 2 rfl | apply Split.cons 3 rfl | apply Split.cons 4 rfl | apply Split.cons 5 rfl | apply Split.cons 6 rfl | apply Split.cons 7 rfl | apply Split.cons 8 rfl | apply Split.cons 9 rfl | apply Split.cons 10 rfl | apply Split.cons 11 rfl)) (status_spec 4)) rfl ?_
    rintro _ H' ⟨_, ⟨rfl, rfl⟩, hH⟩
    simp only [List.cons_append, List.nil_append, List.eraseIdx_cons_zero, List.eraseIdx_cons_succ, List.set_cons_zero, List.set_cons_succ] at hH
    subst hH
    refine ops_eff0 rfl (eff_storeA 0 ag32 rfl rfl rfl rfl rfl (Nat.le_of_ble_eq_true rfl) (warm_zero _)) rfl ?_
    rintro _ _ rfl
    simp only [List.set_cons_zero, List.set_cons_succ]
    refine ops_nil ?_
    refine Then_normal ?_
    refine wp_ret' ?_
    refine Then_ret ?_
    refine' doneS_ret (resv1 rfl (rv_cellA ag32 rfl (by first | exact RdN.of_pick 0 rfl rdn_all | exact RdN.of_pick 1 rfl rdn_all | exact RdN.of_pick 2 rfl rdn_all | exact RdN.of_pick 3 rfl rdn_all) rfl)) ?_ ?_
    rotate_left 1
    exact ⟨4, hs, rfl, .inl ⟨(by first | exact hf | trivial), rfl, rfl⟩, rfl⟩
    exact (SubH.cons 2 rfl (SubH.cons 2 rfl (SubH.nil _)))
  | some i =>
    have hi := find_lt hf
    refine tri_of_wpS Tryz.func65 rfl Tryz.ntmps65 (by simp) ?_
    refine wp_seq' ?_
    refine wp_region' ?_
    refine ops_eff' rfl (eff_box rfl) rfl ?_
    rintro _ _ ⟨b5, rfl, rfl⟩
    refine ops_eff' rfl (eff_alloc z32) rfl ?_
    rintro _ _ ⟨b6, rfl, rfl⟩
    refine ops_nil ?_
    refine Then_normal ?_
    refine wp_seq' ?_
    refine wp_region' ?_
    refine ops_ro' rfl (ro_move rfl) rfl ?_
    refine ops_ro' rfl (ro_move rfl) rfl ?_
    refine ops_ro' rfl (ro_fieldAddr fa35_3 rfl) rfl ?_
    refine ops_ro' rfl (ro_load sc9 rfl (Rd.pick 1 rfl (Rd.own rfl))) rfl ?_
    refine ops_eff' rfl (eff_callM (Pre := []) Tryz.call68 rfl rfl (Split.nil _) (hfind_spec (by first | exact hv_pick 0 rfl hv_own | exact hv_pick 1 rfl hv_own | exact hv_pick 2 rfl hv_own) hl s hs16 q.handle)) rfl ?_
    rintro _ H' ⟨_, ⟨rfl, rfl⟩, hH⟩
    simp only [List.cons_append, List.nil_append, List.eraseIdx_cons_zero, List.eraseIdx_cons_succ, List.set_cons_zero, List.set_cons_succ] at hH
    subst hH
    rw [hf]
    dsimp only [findV]
    refine ops_ro' rfl (ro_assign rfl) rfl ?_
    refine ops_nil ?_
    refine Then_normal ?_
    refine wp_seq' ?_
    refine wp_seq' ?_
    refine wp_region' ?_
    refine ops_ro' rfl (ro_move rfl) rfl ?_
    refine ops_ro' rfl (ro_ptrEqlNil Tryz.underlying116 rfl rfl rfl) rfl ?_
    refine ops_nil ?_
    refine Then_normal ?_
    refine wp_condF rfl ?_
    refine wp_skip' ?_
    refine Then_normal ?_
    refine wp_seq' ?_
    refine wp_region' ?_
    refine ops_ro' rfl (ro_move rfl) rfl ?_
    refine ops_ro' rfl (ro_build rfl (bld_struct (cs := Hd.zero.cs) st67 rfl)) rfl ?_
    refine ops_ro' rfl (ro_nilCheck rfl) rfl ?_
    refine ops_eff0 rfl (eff_storeA 2 ag67 rfl rfl rfl rfl rfl (by simp only [List.length_cons, flat_len Hd.len, Hd.len, hl]; omega) (warm_zero _)) rfl ?_
    rintro _ _ rfl
    simp only [List.set_cons_zero, List.set_cons_succ]
    rw [ma_set (y := Hd.zero) hl hs16 hi]
    refine ops_nil ?_
    refine Then_normal ?_
    refine wp_seq' ?_
    refine wp_region' ?_
    refine ops_eff' rfl (eff_call Tryz.call28 rfl rfl (by repeat (first | exact Split.nil _ | apply Split.cons 0 rfl | apply Split.cons 1 rfl | apply Split.cons 2 rfl | apply Split.cons 3 rfl | apply Split.cons 4 rfl | apply Split.cons 5 rfl | apply Split.cons 6 rfl | apply Split.cons 7 rfl | apply Split.cons 8 rfl | apply Split.cons 9 rfl | apply Split.cons 10 rfl | apply Split.cons 11 rfl)) (status_spec 0)) rfl ?_
    rintro _ H' ⟨_, ⟨rfl, rfl⟩, hH⟩
    simp only [List.cons_append, List.nil_append, List.eraseIdx_cons_zero, List.eraseIdx_cons_succ, List.set_cons_zero, List.set_cons_succ] at hH
    subst hH
    refine ops_eff0 rfl (eff_storeA 0 ag32 rfl rfl rfl rfl rfl (Nat.le_of_ble_eq_true rfl) (warm_zero _)) rfl ?_
    rintro _ _ rfl
    simp only [List.set_cons_zero, List.set_cons_succ]
    refine ops_nil ?_
    refine Then_normal ?_
    refine wp_ret' ?_
    refine' doneS_ret (resv1 rfl (rv_cellA ag32 rfl (by first | exact RdN.of_pick 0 rfl rdn_all | exact RdN.of_pick 1 rfl rdn_all | exact RdN.of_pick 2 rfl rdn_all | exact RdN.of_pick 3 rfl rdn_all) rfl)) ?_ ?_
    rotate_left 1
    exact ⟨0, _, rfl, .inr ⟨i, (by first | exact hf | rfl), rfl, rfl⟩, rfl⟩
    exact (SubH.cons 2 rfl (SubH.cons 2 rfl (SubH.nil _)))

end Go.Proofs.YtlefpllcgcicpaaGreatDoor
namespace Go.Proofs.YtlefpllcgcicpaaGreatDoor
open Go.Sx
set_option linter.unusedVariables false
set_option linter.unusedSimpArgs false
set_option maxRecDepth 100000
set_option maxHeartbeats 4000000

/-- a handle of the document's machine, as it lies -/
structure Hr where
  used : Bool
  id : Int
  dir : Bool
  may : Nat
  np : Option Addr
  nc : Nat
  l : List Nm
  at' : Nat
def Hr.cs (h : Hr) : List Value := [.bool h.used, .int .i64 h.id, .bool h.dir, .int .u32 (h.may : Int), .slice h.np h.l.length h.nc, .int .i64 (h.at' : Int)]
theorem Hr.len (h : Hr) : h.cs.length = 6 := rfl
def Hr.zero : Hr := ⟨false, 0, false, 0, none, 0, [], 0⟩
def hrA (hs : List Hr) (s i : Nat) : Hr := hs.getD (s * 16 + i) Hr.zero
def Hw (V : HProp) (mb : Nat) (hs : List Hr) : Prop := RdN V mb 1 (flat Hr.cs hs)
def rfreeH (hs : List Hr) (s : Nat) : Option Nat := (List.range 16).find? fun i => !(hrA hs s i).used
def rfreeI : Option Nat → Int
  | some i => i
  | none => -1
end Go.Proofs.YtlefpllcgcicpaaGreatDoor
