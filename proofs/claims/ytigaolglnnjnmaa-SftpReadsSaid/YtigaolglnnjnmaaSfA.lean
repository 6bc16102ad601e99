/-
  Package sftp: what kinds ask; requests written.
-/
import Derived.Test.YtigaolglnnjnmaaWire2
import Derived.Test.YtigaolglnnjnmaaRd1
import Derived.Test.YtigaolglnnjnmaaAttrGet
import Derived.Test.YtigaolglnnjnmaaPAttr
namespace Go.Proofs.Ytigaolglnnjnmaa
open Go.Sx
set_option linter.unusedVariables false
set_option linter.unusedSimpArgs false
set_option maxRecDepth 100000
set_option maxHeartbeats 4000000

/-- what a kind of request asks -/
structure Ax where
  pa : Bool
  to : Bool
  ha : Bool
  off : Bool
  len : Bool
  da : Bool
  fl : Bool
  at' : Bool
def Ax.cs (a : Ax) : List Value := [.bool a.pa, .bool a.to, .bool a.ha, .bool a.off, .bool a.len, .bool a.da, .bool a.fl, .bool a.at']
def axOf (k : Int) : Ax × Bool := if k = 3 then (⟨true, false, false, false, false, false, true, true⟩, true) else if k = 4 ∨ k = 8 ∨ k = 12 then (⟨false, false, true, false, false, false, false, false⟩, true) else if k = 5 then (⟨false, false, true, true, true, false, false, false⟩, true) else if k = 6 then (⟨false, false, true, true, false, true, false, false⟩, true) else if k = 7 ∨ k = 11 ∨ k = 13 ∨ k = 15 ∨ k = 16 ∨ k = 17 then (⟨true, false, false, false, false, false, false, false⟩, true) else if k = 9 ∨ k = 14 then (⟨true, false, false, false, false, false, false, true⟩, true) else if k = 10 then (⟨false, false, true, false, false, false, false, true⟩, true) else if k = 18 then (⟨true, true, false, false, false, false, false, false⟩, true) else (⟨false, false, false, false, false, false, false, false⟩, false)
/-- a request: what it holds -/
structure Rc where
  k : Int
  pa : List UInt8
  to : List UInt8
  ha : List UInt8
  off : Nat
  len : Nat
  da : List UInt8
  fl : Nat
  at' : At
deriving DecidableEq
def Rc.zero : Rc := ⟨0, [], [], [], 0, 0, [], 0, At.zero⟩
def Rc.cs (c : Rc) (p : Option Addr) (n : Nat) : List Value := [.int .i64 c.k, .string (str c.pa), .string (str c.to), .string (str c.ha), .int .u64 c.off, .int .u32 c.len, .slice p c.da.length n, .int .u32 c.fl, .int .u32 c.at'.f, .int .u64 c.at'.s, .int .u32 c.at'.u, .int .u32 c.at'.g, .int .u32 c.at'.m, .int .u32 c.at'.a, .int .u32 c.at'.t]
abbrev Rc.v (c : Rc) (p : Option Addr) (n : Nat) : Value := .agg (c.cs p n).toArray
structure Rc.Ok (c : Rc) : Prop where
  k : -9223372036854775808 ≤ c.k ∧ c.k ≤ 9223372036854775807
  off : c.off < 18446744073709551616
  len : c.len < 4294967296
  fl : c.fl < 4294967296
  at' : c.at'.Ok


theorem sfOf_spec (k : Int) : Tri Try.prog 61 [.int .i64 k] [] (fun v H' => v = .tuple #[.agg (axOf k).1.cs.toArray, .bool (axOf k).2] ∧ H' = []) := by
  refine tri_of_wpS Try.func61 rfl Try.ntmps61 (by simp) ?_
  refine wp_seq' ?_
  refine wp_region' ?_
  refine ops_eff' rfl (eff_alloc z107) rfl ?_
  rintro _ _ ⟨b2, rfl, rfl⟩
  refine ops_ro' rfl (ro_assign rfl) rfl ?_
  refine ops_nil ?_
  refine Then_normal ?_
  refine wp_seq' ?_
  refine wp_seq' ?_
  refine wp_region' ?_
  refine ops_ro' rfl (ro_move rfl) rfl ?_
  refine ops_nil ?_
  refine Then_normal ?_
  refine wp_block' ?_
  refine wp_seq' ?_
  refine wp_region' ?_
  refine ops_ro' rfl (ro_eql rfl rfl rfl) rfl ?_
  refine ops_ro' rfl (ro_assign rfl) rfl ?_
  refine ops_nil ?_
  refine Then_normal ?_
  refine wp_cond' rfl (fun hc5 => ?_) (fun hc5 => ?_)
  · replace hc5 := of_decide_eq_true hc5
    refine wp_seq' ?_
    refine wp_region' ?_
    refine ops_ro' rfl (ro_build rfl (bld_struct (cs := [_, _, _, _, _, _, _, _]) st107 rfl)) rfl ?_
    refine ops_eff0 rfl (eff_storeA 0 ag107 rfl rfl rfl rfl rfl (Nat.le_of_ble_eq_true rfl) (warm_zero _)) rfl ?_
    rintro _ _ rfl
    refine ops_ro' rfl (ro_assign rfl) rfl ?_
    refine ops_nil ?_
    refine Then_normal ?_
    refine wp_ret' ?_
    refine InBlock_ret ?_
    refine Then_ret ?_
    refine' doneS_ret (resv2 rfl (rv_cellA ag107 rfl (by first | exact RdN.of_pick 0 rfl rdn_all | exact RdN.of_pick 1 rfl rdn_all | exact RdN.of_pick 2 rfl rdn_all | exact RdN.of_pick 3 rfl rdn_all | exact RdN.of_pick 4 rfl rdn_all | exact RdN.of_pick 5 rfl rdn_all) rfl) (rv_tmp rfl)) ?_ ?_
    rotate_left 1
    have HX : axOf k = (⟨true, false, false, false, false, false, true, true⟩, true) := by unfold axOf; rw [if_pos (by omega)]
    rw [HX]
    exact ⟨rfl, rfl⟩
    exact (SubH.nil _)
  · replace hc5 := of_decide_eq_false hc5
    refine wp_seq' ?_
    refine wp_seq' ?_
    refine wp_region' ?_
    refine ops_ro' rfl (ro_eql rfl rfl rfl) rfl ?_
    refine ops_ro' rfl (ro_assign rfl) rfl ?_
    refine ops_nil ?_
    refine Then_normal ?_
    refine wp_cond' rfl (fun hc8 => ?_) (fun hc8 => ?_)
    · replace hc8 := of_decide_eq_true hc8
      refine wp_skip' ?_
      refine Then_normal ?_
      refine wp_cond' rfl (fun hc8 => ?_) (fun hc8 => ?_)
      · replace hc8 := of_decide_eq_true hc8
        refine wp_seq' ?_
        refine wp_region' ?_
        refine ops_ro' rfl (ro_build rfl (bld_struct (cs := [_, _, _, _, _, _, _, _]) st107 rfl)) rfl ?_
        refine ops_eff0 rfl (eff_storeA 0 ag107 rfl rfl rfl rfl rfl (Nat.le_of_ble_eq_true rfl) (warm_zero _)) rfl ?_
        rintro _ _ rfl
        refine ops_ro' rfl (ro_assign rfl) rfl ?_
        refine ops_nil ?_
        refine Then_normal ?_
        refine wp_ret' ?_
        refine InBlock_ret ?_
        refine Then_ret ?_
        refine' doneS_ret (resv2 rfl (rv_cellA ag107 rfl (by first | exact RdN.of_pick 0 rfl rdn_all | exact RdN.of_pick 1 rfl rdn_all | exact RdN.of_pick 2 rfl rdn_all | exact RdN.of_pick 3 rfl rdn_all | exact RdN.of_pick 4 rfl rdn_all | exact RdN.of_pick 5 rfl rdn_all) rfl) (rv_tmp rfl)) ?_ ?_
        rotate_left 1
        have HX : axOf k = (⟨false, false, true, false, false, false, false, false⟩, true) := by unfold axOf; rw [if_neg (by omega)]; rw [if_pos (by omega)]
        rw [HX]
        exact ⟨rfl, rfl⟩
        exact (SubH.nil _)
      · replace hc8 := of_decide_eq_false hc8
        exfalso; omega
    · replace hc8 := of_decide_eq_false hc8
      refine wp_seq' ?_
      refine wp_region' ?_
      refine ops_ro' rfl (ro_eql rfl rfl rfl) rfl ?_
      refine ops_ro' rfl (ro_assign rfl) rfl ?_
      refine ops_nil ?_
      refine Then_normal ?_
      refine wp_cond' rfl (fun hc8 => ?_) (fun hc8 => ?_)
      · replace hc8 := of_decide_eq_true hc8
        refine wp_skip' ?_
        refine Then_normal ?_
        refine wp_cond' rfl (fun hc8 => ?_) (fun hc8 => ?_)
        · replace hc8 := of_decide_eq_true hc8
          refine wp_seq' ?_
          refine wp_region' ?_
          refine ops_ro' rfl (ro_build rfl (bld_struct (cs := [_, _, _, _, _, _, _, _]) st107 rfl)) rfl ?_
          refine ops_eff0 rfl (eff_storeA 0 ag107 rfl rfl rfl rfl rfl (Nat.le_of_ble_eq_true rfl) (warm_zero _)) rfl ?_
          rintro _ _ rfl
          refine ops_ro' rfl (ro_assign rfl) rfl ?_
          refine ops_nil ?_
          refine Then_normal ?_
          refine wp_ret' ?_
          refine InBlock_ret ?_
          refine Then_ret ?_
          refine' doneS_ret (resv2 rfl (rv_cellA ag107 rfl (by first | exact RdN.of_pick 0 rfl rdn_all | exact RdN.of_pick 1 rfl rdn_all | exact RdN.of_pick 2 rfl rdn_all | exact RdN.of_pick 3 rfl rdn_all | exact RdN.of_pick 4 rfl rdn_all | exact RdN.of_pick 5 rfl rdn_all) rfl) (rv_tmp rfl)) ?_ ?_
          rotate_left 1
          have HX : axOf k = (⟨false, false, true, false, false, false, false, false⟩, true) := by unfold axOf; rw [if_neg (by omega)]; rw [if_pos (by omega)]
          rw [HX]
          exact ⟨rfl, rfl⟩
          exact (SubH.nil _)
        · replace hc8 := of_decide_eq_false hc8
          exfalso; omega
      · replace hc8 := of_decide_eq_false hc8
        refine wp_region' ?_
        refine ops_ro' rfl (ro_eql rfl rfl rfl) rfl ?_
        refine ops_ro' rfl (ro_assign rfl) rfl ?_
        refine ops_nil ?_
        refine Then_normal ?_
        refine wp_cond' rfl (fun hc8 => ?_) (fun hc8 => ?_)
        · replace hc8 := of_decide_eq_true hc8
          refine wp_seq' ?_
          refine wp_region' ?_
          refine ops_ro' rfl (ro_build rfl (bld_struct (cs := [_, _, _, _, _, _, _, _]) st107 rfl)) rfl ?_
          refine ops_eff0 rfl (eff_storeA 0 ag107 rfl rfl rfl rfl rfl (Nat.le_of_ble_eq_true rfl) (warm_zero _)) rfl ?_
          rintro _ _ rfl
          refine ops_ro' rfl (ro_assign rfl) rfl ?_
          refine ops_nil ?_
          refine Then_normal ?_
          refine wp_ret' ?_
          refine InBlock_ret ?_
          refine Then_ret ?_
          refine' doneS_ret (resv2 rfl (rv_cellA ag107 rfl (by first | exact RdN.of_pick 0 rfl rdn_all | exact RdN.of_pick 1 rfl rdn_all | exact RdN.of_pick 2 rfl rdn_all | exact RdN.of_pick 3 rfl rdn_all | exact RdN.of_pick 4 rfl rdn_all | exact RdN.of_pick 5 rfl rdn_all) rfl) (rv_tmp rfl)) ?_ ?_
          rotate_left 1
          have HX : axOf k = (⟨false, false, true, false, false, false, false, false⟩, true) := by unfold axOf; rw [if_neg (by omega)]; rw [if_pos (by omega)]
          rw [HX]
          exact ⟨rfl, rfl⟩
          exact (SubH.nil _)
        · replace hc8 := of_decide_eq_false hc8
          refine wp_seq' ?_
          refine wp_region' ?_
          refine ops_ro' rfl (ro_eql rfl rfl rfl) rfl ?_
          refine ops_ro' rfl (ro_assign rfl) rfl ?_
          refine ops_nil ?_
          refine Then_normal ?_
          refine wp_cond' rfl (fun hc13 => ?_) (fun hc13 => ?_)
          · replace hc13 := of_decide_eq_true hc13
            refine wp_seq' ?_
            refine wp_region' ?_
            refine ops_ro' rfl (ro_build rfl (bld_struct (cs := [_, _, _, _, _, _, _, _]) st107 rfl)) rfl ?_
            refine ops_eff0 rfl (eff_storeA 0 ag107 rfl rfl rfl rfl rfl (Nat.le_of_ble_eq_true rfl) (warm_zero _)) rfl ?_
            rintro _ _ rfl
            refine ops_ro' rfl (ro_assign rfl) rfl ?_
            refine ops_nil ?_
            refine Then_normal ?_
            refine wp_ret' ?_
            refine InBlock_ret ?_
            refine Then_ret ?_
            refine' doneS_ret (resv2 rfl (rv_cellA ag107 rfl (by first | exact RdN.of_pick 0 rfl rdn_all | exact RdN.of_pick 1 rfl rdn_all | exact RdN.of_pick 2 rfl rdn_all | exact RdN.of_pick 3 rfl rdn_all | exact RdN.of_pick 4 rfl rdn_all | exact RdN.of_pick 5 rfl rdn_all) rfl) (rv_tmp rfl)) ?_ ?_
            rotate_left 1
            have HX : axOf k = (⟨false, false, true, true, true, false, false, false⟩, true) := by unfold axOf; rw [if_neg (by omega)]; rw [if_neg (by omega)]; rw [if_pos (by omega)]
            rw [HX]
            exact ⟨rfl, rfl⟩
            exact (SubH.nil _)
          · replace hc13 := of_decide_eq_false hc13
            refine wp_seq' ?_
            refine wp_region' ?_
            refine ops_ro' rfl (ro_eql rfl rfl rfl) rfl ?_
            refine ops_ro' rfl (ro_assign rfl) rfl ?_
            refine ops_nil ?_
            refine Then_normal ?_
            refine wp_cond' rfl (fun hc16 => ?_) (fun hc16 => ?_)
            · replace hc16 := of_decide_eq_true hc16
              refine wp_seq' ?_
              refine wp_region' ?_
              refine ops_ro' rfl (ro_build rfl (bld_struct (cs := [_, _, _, _, _, _, _, _]) st107 rfl)) rfl ?_
              refine ops_eff0 rfl (eff_storeA 0 ag107 rfl rfl rfl rfl rfl (Nat.le_of_ble_eq_true rfl) (warm_zero _)) rfl ?_
              rintro _ _ rfl
              refine ops_ro' rfl (ro_assign rfl) rfl ?_
              refine ops_nil ?_
              refine Then_normal ?_
              refine wp_ret' ?_
              refine InBlock_ret ?_
              refine Then_ret ?_
              refine' doneS_ret (resv2 rfl (rv_cellA ag107 rfl (by first | exact RdN.of_pick 0 rfl rdn_all | exact RdN.of_pick 1 rfl rdn_all | exact RdN.of_pick 2 rfl rdn_all | exact RdN.of_pick 3 rfl rdn_all | exact RdN.of_pick 4 rfl rdn_all | exact RdN.of_pick 5 rfl rdn_all) rfl) (rv_tmp rfl)) ?_ ?_
              rotate_left 1
              have HX : axOf k = (⟨false, false, true, true, false, true, false, false⟩, true) := by unfold axOf; rw [if_neg (by omega)]; rw [if_neg (by omega)]; rw [if_neg (by omega)]; rw [if_pos (by omega)]
              rw [HX]
              exact ⟨rfl, rfl⟩
              exact (SubH.nil _)
            · replace hc16 := of_decide_eq_false hc16
              refine wp_seq' ?_
              refine wp_seq' ?_
              refine wp_region' ?_
              refine ops_ro' rfl (ro_eql rfl rfl rfl) rfl ?_
              refine ops_ro' rfl (ro_assign rfl) rfl ?_
              refine ops_nil ?_
              refine Then_normal ?_
              refine wp_cond' rfl (fun hc19 => ?_) (fun hc19 => ?_)
              · replace hc19 := of_decide_eq_true hc19
                refine wp_skip' ?_
                refine Then_normal ?_
                refine wp_cond' rfl (fun hc19 => ?_) (fun hc19 => ?_)
                · replace hc19 := of_decide_eq_true hc19
                  refine wp_seq' ?_
                  refine wp_region' ?_
                  refine ops_ro' rfl (ro_build rfl (bld_struct (cs := [_, _, _, _, _, _, _, _]) st107 rfl)) rfl ?_
                  refine ops_eff0 rfl (eff_storeA 0 ag107 rfl rfl rfl rfl rfl (Nat.le_of_ble_eq_true rfl) (warm_zero _)) rfl ?_
                  rintro _ _ rfl
                  refine ops_ro' rfl (ro_assign rfl) rfl ?_
                  refine ops_nil ?_
                  refine Then_normal ?_
                  refine wp_ret' ?_
                  refine InBlock_ret ?_
                  refine Then_ret ?_
                  refine' doneS_ret (resv2 rfl (rv_cellA ag107 rfl (by first | exact RdN.of_pick 0 rfl rdn_all | exact RdN.of_pick 1 rfl rdn_all | exact RdN.of_pick 2 rfl rdn_all | exact RdN.of_pick 3 rfl rdn_all | exact RdN.of_pick 4 rfl rdn_all | exact RdN.of_pick 5 rfl rdn_all) rfl) (rv_tmp rfl)) ?_ ?_
                  rotate_left 1
                  have HX : axOf k = (⟨true, false, false, false, false, false, false, false⟩, true) := by unfold axOf; rw [if_neg (by omega)]; rw [if_neg (by omega)]; rw [if_neg (by omega)]; rw [if_neg (by omega)]; rw [if_pos (by omega)]
                  rw [HX]
                  exact ⟨rfl, rfl⟩
                  exact (SubH.nil _)
                · replace hc19 := of_decide_eq_false hc19
                  exfalso; omega
              · replace hc19 := of_decide_eq_false hc19
                refine wp_seq' ?_
                refine wp_region' ?_
                refine ops_ro' rfl (ro_eql rfl rfl rfl) rfl ?_
                refine ops_ro' rfl (ro_assign rfl) rfl ?_
                refine ops_nil ?_
                refine Then_normal ?_
                refine wp_cond' rfl (fun hc19 => ?_) (fun hc19 => ?_)
                · replace hc19 := of_decide_eq_true hc19
                  refine wp_skip' ?_
                  refine Then_normal ?_
                  refine wp_cond' rfl (fun hc19 => ?_) (fun hc19 => ?_)
                  · replace hc19 := of_decide_eq_true hc19
                    refine wp_seq' ?_
                    refine wp_region' ?_
                    refine ops_ro' rfl (ro_build rfl (bld_struct (cs := [_, _, _, _, _, _, _, _]) st107 rfl)) rfl ?_
                    refine ops_eff0 rfl (eff_storeA 0 ag107 rfl rfl rfl rfl rfl (Nat.le_of_ble_eq_true rfl) (warm_zero _)) rfl ?_
                    rintro _ _ rfl
                    refine ops_ro' rfl (ro_assign rfl) rfl ?_
                    refine ops_nil ?_
                    refine Then_normal ?_
                    refine wp_ret' ?_
                    refine InBlock_ret ?_
                    refine Then_ret ?_
                    refine' doneS_ret (resv2 rfl (rv_cellA ag107 rfl (by first | exact RdN.of_pick 0 rfl rdn_all | exact RdN.of_pick 1 rfl rdn_all | exact RdN.of_pick 2 rfl rdn_all | exact RdN.of_pick 3 rfl rdn_all | exact RdN.of_pick 4 rfl rdn_all | exact RdN.of_pick 5 rfl rdn_all) rfl) (rv_tmp rfl)) ?_ ?_
                    rotate_left 1
                    have HX : axOf k = (⟨true, false, false, false, false, false, false, false⟩, true) := by unfold axOf; rw [if_neg (by omega)]; rw [if_neg (by omega)]; rw [if_neg (by omega)]; rw [if_neg (by omega)]; rw [if_pos (by omega)]
                    rw [HX]
                    exact ⟨rfl, rfl⟩
                    exact (SubH.nil _)
                  · replace hc19 := of_decide_eq_false hc19
                    exfalso; omega
                · replace hc19 := of_decide_eq_false hc19
                  refine wp_seq' ?_
                  refine wp_region' ?_
                  refine ops_ro' rfl (ro_eql rfl rfl rfl) rfl ?_
                  refine ops_ro' rfl (ro_assign rfl) rfl ?_
                  refine ops_nil ?_
                  refine Then_normal ?_
                  refine wp_cond' rfl (fun hc19 => ?_) (fun hc19 => ?_)
                  · replace hc19 := of_decide_eq_true hc19
                    refine wp_skip' ?_
                    refine Then_normal ?_
                    refine wp_cond' rfl (fun hc19 => ?_) (fun hc19 => ?_)
                    · replace hc19 := of_decide_eq_true hc19
                      refine wp_seq' ?_
                      refine wp_region' ?_
                      refine ops_ro' rfl (ro_build rfl (bld_struct (cs := [_, _, _, _, _, _, _, _]) st107 rfl)) rfl ?_
                      refine ops_eff0 rfl (eff_storeA 0 ag107 rfl rfl rfl rfl rfl (Nat.le_of_ble_eq_true rfl) (warm_zero _)) rfl ?_
                      rintro _ _ rfl
                      refine ops_ro' rfl (ro_assign rfl) rfl ?_
                      refine ops_nil ?_
                      refine Then_normal ?_
                      refine wp_ret' ?_
                      refine InBlock_ret ?_
                      refine Then_ret ?_
                      refine' doneS_ret (resv2 rfl (rv_cellA ag107 rfl (by first | exact RdN.of_pick 0 rfl rdn_all | exact RdN.of_pick 1 rfl rdn_all | exact RdN.of_pick 2 rfl rdn_all | exact RdN.of_pick 3 rfl rdn_all | exact RdN.of_pick 4 rfl rdn_all | exact RdN.of_pick 5 rfl rdn_all) rfl) (rv_tmp rfl)) ?_ ?_
                      rotate_left 1
                      have HX : axOf k = (⟨true, false, false, false, false, false, false, false⟩, true) := by unfold axOf; rw [if_neg (by omega)]; rw [if_neg (by omega)]; rw [if_neg (by omega)]; rw [if_neg (by omega)]; rw [if_pos (by omega)]
                      rw [HX]
                      exact ⟨rfl, rfl⟩
                      exact (SubH.nil _)
                    · replace hc19 := of_decide_eq_false hc19
                      exfalso; omega
                  · replace hc19 := of_decide_eq_false hc19
                    refine wp_seq' ?_
                    refine wp_region' ?_
                    refine ops_ro' rfl (ro_eql rfl rfl rfl) rfl ?_
                    refine ops_ro' rfl (ro_assign rfl) rfl ?_
                    refine ops_nil ?_
                    refine Then_normal ?_
                    refine wp_cond' rfl (fun hc19 => ?_) (fun hc19 => ?_)
                    · replace hc19 := of_decide_eq_true hc19
                      refine wp_skip' ?_
                      refine Then_normal ?_
                      refine wp_cond' rfl (fun hc19 => ?_) (fun hc19 => ?_)
                      · replace hc19 := of_decide_eq_true hc19
                        refine wp_seq' ?_
                        refine wp_region' ?_
                        refine ops_ro' rfl (ro_build rfl (bld_struct (cs := [_, _, _, _, _, _, _, _]) st107 rfl)) rfl ?_
                        refine ops_eff0 rfl (eff_storeA 0 ag107 rfl rfl rfl rfl rfl (Nat.le_of_ble_eq_true rfl) (warm_zero _)) rfl ?_
                        rintro _ _ rfl
                        refine ops_ro' rfl (ro_assign rfl) rfl ?_
                        refine ops_nil ?_
                        refine Then_normal ?_
                        refine wp_ret' ?_
                        refine InBlock_ret ?_
                        refine Then_ret ?_
                        refine' doneS_ret (resv2 rfl (rv_cellA ag107 rfl (by first | exact RdN.of_pick 0 rfl rdn_all | exact RdN.of_pick 1 rfl rdn_all | exact RdN.of_pick 2 rfl rdn_all | exact RdN.of_pick 3 rfl rdn_all | exact RdN.of_pick 4 rfl rdn_all | exact RdN.of_pick 5 rfl rdn_all) rfl) (rv_tmp rfl)) ?_ ?_
                        rotate_left 1
                        have HX : axOf k = (⟨true, false, false, false, false, false, false, false⟩, true) := by unfold axOf; rw [if_neg (by omega)]; rw [if_neg (by omega)]; rw [if_neg (by omega)]; rw [if_neg (by omega)]; rw [if_pos (by omega)]
                        rw [HX]
                        exact ⟨rfl, rfl⟩
                        exact (SubH.nil _)
                      · replace hc19 := of_decide_eq_false hc19
                        exfalso; omega
                    · replace hc19 := of_decide_eq_false hc19
                      refine wp_seq' ?_
                      refine wp_region' ?_
                      refine ops_ro' rfl (ro_eql rfl rfl rfl) rfl ?_
                      refine ops_ro' rfl (ro_assign rfl) rfl ?_
                      refine ops_nil ?_
                      refine Then_normal ?_
                      refine wp_cond' rfl (fun hc19 => ?_) (fun hc19 => ?_)
                      · replace hc19 := of_decide_eq_true hc19
                        refine wp_skip' ?_
                        refine Then_normal ?_
                        refine wp_cond' rfl (fun hc19 => ?_) (fun hc19 => ?_)
                        · replace hc19 := of_decide_eq_true hc19
                          refine wp_seq' ?_
                          refine wp_region' ?_
                          refine ops_ro' rfl (ro_build rfl (bld_struct (cs := [_, _, _, _, _, _, _, _]) st107 rfl)) rfl ?_
                          refine ops_eff0 rfl (eff_storeA 0 ag107 rfl rfl rfl rfl rfl (Nat.le_of_ble_eq_true rfl) (warm_zero _)) rfl ?_
                          rintro _ _ rfl
                          refine ops_ro' rfl (ro_assign rfl) rfl ?_
                          refine ops_nil ?_
                          refine Then_normal ?_
                          refine wp_ret' ?_
                          refine InBlock_ret ?_
                          refine Then_ret ?_
                          refine' doneS_ret (resv2 rfl (rv_cellA ag107 rfl (by first | exact RdN.of_pick 0 rfl rdn_all | exact RdN.of_pick 1 rfl rdn_all | exact RdN.of_pick 2 rfl rdn_all | exact RdN.of_pick 3 rfl rdn_all | exact RdN.of_pick 4 rfl rdn_all | exact RdN.of_pick 5 rfl rdn_all) rfl) (rv_tmp rfl)) ?_ ?_
                          rotate_left 1
                          have HX : axOf k = (⟨true, false, false, false, false, false, false, false⟩, true) := by unfold axOf; rw [if_neg (by omega)]; rw [if_neg (by omega)]; rw [if_neg (by omega)]; rw [if_neg (by omega)]; rw [if_pos (by omega)]
                          rw [HX]
                          exact ⟨rfl, rfl⟩
                          exact (SubH.nil _)
                        · replace hc19 := of_decide_eq_false hc19
                          exfalso; omega
                      · replace hc19 := of_decide_eq_false hc19
                        refine wp_region' ?_
                        refine ops_ro' rfl (ro_eql rfl rfl rfl) rfl ?_
                        refine ops_ro' rfl (ro_assign rfl) rfl ?_
                        refine ops_nil ?_
                        refine Then_normal ?_
                        refine wp_cond' rfl (fun hc19 => ?_) (fun hc19 => ?_)
                        · replace hc19 := of_decide_eq_true hc19
                          refine wp_seq' ?_
                          refine wp_region' ?_
                          refine ops_ro' rfl (ro_build rfl (bld_struct (cs := [_, _, _, _, _, _, _, _]) st107 rfl)) rfl ?_
                          refine ops_eff0 rfl (eff_storeA 0 ag107 rfl rfl rfl rfl rfl (Nat.le_of_ble_eq_true rfl) (warm_zero _)) rfl ?_
                          rintro _ _ rfl
                          refine ops_ro' rfl (ro_assign rfl) rfl ?_
                          refine ops_nil ?_
                          refine Then_normal ?_
                          refine wp_ret' ?_
                          refine InBlock_ret ?_
                          refine Then_ret ?_
                          refine' doneS_ret (resv2 rfl (rv_cellA ag107 rfl (by first | exact RdN.of_pick 0 rfl rdn_all | exact RdN.of_pick 1 rfl rdn_all | exact RdN.of_pick 2 rfl rdn_all | exact RdN.of_pick 3 rfl rdn_all | exact RdN.of_pick 4 rfl rdn_all | exact RdN.of_pick 5 rfl rdn_all) rfl) (rv_tmp rfl)) ?_ ?_
                          rotate_left 1
                          have HX : axOf k = (⟨true, false, false, false, false, false, false, false⟩, true) := by unfold axOf; rw [if_neg (by omega)]; rw [if_neg (by omega)]; rw [if_neg (by omega)]; rw [if_neg (by omega)]; rw [if_pos (by omega)]
                          rw [HX]
                          exact ⟨rfl, rfl⟩
                          exact (SubH.nil _)
                        · replace hc19 := of_decide_eq_false hc19
                          refine wp_seq' ?_
                          refine wp_seq' ?_
                          refine wp_region' ?_
                          refine ops_ro' rfl (ro_eql rfl rfl rfl) rfl ?_
                          refine ops_ro' rfl (ro_assign rfl) rfl ?_
                          refine ops_nil ?_
                          refine Then_normal ?_
                          refine wp_cond' rfl (fun hc27 => ?_) (fun hc27 => ?_)
                          · replace hc27 := of_decide_eq_true hc27
                            refine wp_skip' ?_
                            refine Then_normal ?_
                            refine wp_cond' rfl (fun hc27 => ?_) (fun hc27 => ?_)
                            · replace hc27 := of_decide_eq_true hc27
                              refine wp_seq' ?_
                              refine wp_region' ?_
                              refine ops_ro' rfl (ro_build rfl (bld_struct (cs := [_, _, _, _, _, _, _, _]) st107 rfl)) rfl ?_
                              refine ops_eff0 rfl (eff_storeA 0 ag107 rfl rfl rfl rfl rfl (Nat.le_of_ble_eq_true rfl) (warm_zero _)) rfl ?_
                              rintro _ _ rfl
                              refine ops_ro' rfl (ro_assign rfl) rfl ?_
                              refine ops_nil ?_
                              refine Then_normal ?_
                              refine wp_ret' ?_
                              refine InBlock_ret ?_
                              refine Then_ret ?_
                              refine' doneS_ret (resv2 rfl (rv_cellA ag107 rfl (by first | exact RdN.of_pick 0 rfl rdn_all | exact RdN.of_pick 1 rfl rdn_all | exact RdN.of_pick 2 rfl rdn_all | exact RdN.of_pick 3 rfl rdn_all | exact RdN.of_pick 4 rfl rdn_all | exact RdN.of_pick 5 rfl rdn_all) rfl) (rv_tmp rfl)) ?_ ?_
                              rotate_left 1
                              have HX : axOf k = (⟨true, false, false, false, false, false, false, true⟩, true) := by unfold axOf; rw [if_neg (by omega)]; rw [if_neg (by omega)]; rw [if_neg (by omega)]; rw [if_neg (by omega)]; rw [if_neg (by omega)]; rw [if_pos (by omega)]
                              rw [HX]
                              exact ⟨rfl, rfl⟩
                              exact (SubH.nil _)
                            · replace hc27 := of_decide_eq_false hc27
                              exfalso; omega
                          · replace hc27 := of_decide_eq_false hc27
                            refine wp_region' ?_
                            refine ops_ro' rfl (ro_eql rfl rfl rfl) rfl ?_
                            refine ops_ro' rfl (ro_assign rfl) rfl ?_
                            refine ops_nil ?_
                            refine Then_normal ?_
                            refine wp_cond' rfl (fun hc27 => ?_) (fun hc27 => ?_)
                            · replace hc27 := of_decide_eq_true hc27
                              refine wp_seq' ?_
                              refine wp_region' ?_
                              refine ops_ro' rfl (ro_build rfl (bld_struct (cs := [_, _, _, _, _, _, _, _]) st107 rfl)) rfl ?_
                              refine ops_eff0 rfl (eff_storeA 0 ag107 rfl rfl rfl rfl rfl (Nat.le_of_ble_eq_true rfl) (warm_zero _)) rfl ?_
                              rintro _ _ rfl
                              refine ops_ro' rfl (ro_assign rfl) rfl ?_
                              refine ops_nil ?_
                              refine Then_normal ?_
                              refine wp_ret' ?_
                              refine InBlock_ret ?_
                              refine Then_ret ?_
                              refine' doneS_ret (resv2 rfl (rv_cellA ag107 rfl (by first | exact RdN.of_pick 0 rfl rdn_all | exact RdN.of_pick 1 rfl rdn_all | exact RdN.of_pick 2 rfl rdn_all | exact RdN.of_pick 3 rfl rdn_all | exact RdN.of_pick 4 rfl rdn_all | exact RdN.of_pick 5 rfl rdn_all) rfl) (rv_tmp rfl)) ?_ ?_
                              rotate_left 1
                              have HX : axOf k = (⟨true, false, false, false, false, false, false, true⟩, true) := by unfold axOf; rw [if_neg (by omega)]; rw [if_neg (by omega)]; rw [if_neg (by omega)]; rw [if_neg (by omega)]; rw [if_neg (by omega)]; rw [if_pos (by omega)]
                              rw [HX]
                              exact ⟨rfl, rfl⟩
                              exact (SubH.nil _)
                            · replace hc27 := of_decide_eq_false hc27
                              refine wp_seq' ?_
                              refine wp_region' ?_
                              refine ops_ro' rfl (ro_eql rfl rfl rfl) rfl ?_
                              refine ops_ro' rfl (ro_assign rfl) rfl ?_
                              refine ops_nil ?_
                              refine Then_normal ?_
                              refine wp_cond' rfl (fun hc31 => ?_) (fun hc31 => ?_)
                              · replace hc31 := of_decide_eq_true hc31
                                refine wp_seq' ?_
                                refine wp_region' ?_
                                refine ops_ro' rfl (ro_build rfl (bld_struct (cs := [_, _, _, _, _, _, _, _]) st107 rfl)) rfl ?_
                                refine ops_eff0 rfl (eff_storeA 0 ag107 rfl rfl rfl rfl rfl (Nat.le_of_ble_eq_true rfl) (warm_zero _)) rfl ?_
                                rintro _ _ rfl
                                refine ops_ro' rfl (ro_assign rfl) rfl ?_
                                refine ops_nil ?_
                                refine Then_normal ?_
                                refine wp_ret' ?_
                                refine InBlock_ret ?_
                                refine Then_ret ?_
                                refine' doneS_ret (resv2 rfl (rv_cellA ag107 rfl (by first | exact RdN.of_pick 0 rfl rdn_all | exact RdN.of_pick 1 rfl rdn_all | exact RdN.of_pick 2 rfl rdn_all | exact RdN.of_pick 3 rfl rdn_all | exact RdN.of_pick 4 rfl rdn_all | exact RdN.of_pick 5 rfl rdn_all) rfl) (rv_tmp rfl)) ?_ ?_
                                rotate_left 1
                                have HX : axOf k = (⟨false, false, true, false, false, false, false, true⟩, true) := by unfold axOf; rw [if_neg (by omega)]; rw [if_neg (by omega)]; rw [if_neg (by omega)]; rw [if_neg (by omega)]; rw [if_neg (by omega)]; rw [if_neg (by omega)]; rw [if_pos (by omega)]
                                rw [HX]
                                exact ⟨rfl, rfl⟩
                                exact (SubH.nil _)
                              · replace hc31 := of_decide_eq_false hc31
                                refine wp_seq' ?_
                                refine wp_region' ?_
                                refine ops_ro' rfl (ro_eql rfl rfl rfl) rfl ?_
                                refine ops_ro' rfl (ro_assign rfl) rfl ?_
                                refine ops_nil ?_
                                refine Then_normal ?_
                                refine wp_cond' rfl (fun hc34 => ?_) (fun hc34 => ?_)
                                · replace hc34 := of_decide_eq_true hc34
                                  refine wp_seq' ?_
                                  refine wp_region' ?_
                                  refine ops_ro' rfl (ro_build rfl (bld_struct (cs := [_, _, _, _, _, _, _, _]) st107 rfl)) rfl ?_
                                  refine ops_eff0 rfl (eff_storeA 0 ag107 rfl rfl rfl rfl rfl (Nat.le_of_ble_eq_true rfl) (warm_zero _)) rfl ?_
                                  rintro _ _ rfl
                                  refine ops_ro' rfl (ro_assign rfl) rfl ?_
                                  refine ops_nil ?_
                                  refine Then_normal ?_
                                  refine wp_ret' ?_
                                  refine InBlock_ret ?_
                                  refine Then_ret ?_
                                  refine' doneS_ret (resv2 rfl (rv_cellA ag107 rfl (by first | exact RdN.of_pick 0 rfl rdn_all | exact RdN.of_pick 1 rfl rdn_all | exact RdN.of_pick 2 rfl rdn_all | exact RdN.of_pick 3 rfl rdn_all | exact RdN.of_pick 4 rfl rdn_all | exact RdN.of_pick 5 rfl rdn_all) rfl) (rv_tmp rfl)) ?_ ?_
                                  rotate_left 1
                                  have HX : axOf k = (⟨true, true, false, false, false, false, false, false⟩, true) := by unfold axOf; rw [if_neg (by omega)]; rw [if_neg (by omega)]; rw [if_neg (by omega)]; rw [if_neg (by omega)]; rw [if_neg (by omega)]; rw [if_neg (by omega)]; rw [if_neg (by omega)]; rw [if_pos (by omega)]
                                  rw [HX]
                                  exact ⟨rfl, rfl⟩
                                  exact (SubH.nil _)
                                · replace hc34 := of_decide_eq_false hc34
                                  refine wp_skip' ?_
                                  refine InBlock_normal ?_
                                  refine Then_normal ?_
                                  refine wp_seq' ?_
                                  refine wp_region' ?_
                                  refine ops_ro' rfl (ro_build rfl (bld_struct (cs := [_, _, _, _, _, _, _, _]) st107 rfl)) rfl ?_
                                  refine ops_eff0 rfl (eff_storeA 0 ag107 rfl rfl rfl rfl rfl (Nat.le_of_ble_eq_true rfl) (warm_zero _)) rfl ?_
                                  rintro _ _ rfl
                                  refine ops_ro' rfl (ro_assign rfl) rfl ?_
                                  refine ops_nil ?_
                                  refine Then_normal ?_
                                  refine wp_ret' ?_
                                  refine' doneS_ret (resv2 rfl (rv_cellA ag107 rfl (by first | exact RdN.of_pick 0 rfl rdn_all | exact RdN.of_pick 1 rfl rdn_all | exact RdN.of_pick 2 rfl rdn_all | exact RdN.of_pick 3 rfl rdn_all | exact RdN.of_pick 4 rfl rdn_all | exact RdN.of_pick 5 rfl rdn_all) rfl) (rv_tmp rfl)) ?_ ?_
                                  rotate_left 1
                                  have HX : axOf k = (⟨false, false, false, false, false, false, false, false⟩, false) := by unfold axOf; rw [if_neg (by omega)]; rw [if_neg (by omega)]; rw [if_neg (by omega)]; rw [if_neg (by omega)]; rw [if_neg (by omega)]; rw [if_neg (by omega)]; rw [if_neg (by omega)]; rw [if_neg (by omega)]; 
                                  rw [HX]
                                  exact ⟨rfl, rfl⟩
                                  exact (SubH.nil _)
def encE (a : Ax × Bool) (c : Rc) : Int := if a.2 = false then 23 else if a.1.at' = true ∧ c.at'.right = false then 12 else if (a.1.pa = true ∧ 256 < c.pa.length) ∨ (a.1.to = true ∧ 256 < c.to.length) ∨ (a.1.ha = true ∧ 256 < c.ha.length) ∨ (a.1.da = true ∧ 32768 < c.da.length) then 3 else 0
theorem encE_zero {a : Ax × Bool} {c : Rc} (h : encE a c = 0) : a.2 = true ∧ (a.1.at' = true → c.at'.right = true) ∧ (a.1.pa = true → c.pa.length ≤ 256) ∧ (a.1.to = true → c.to.length ≤ 256) ∧ (a.1.ha = true → c.ha.length ≤ 256) ∧ (a.1.da = true → c.da.length ≤ 32768) := by
  unfold encE at h
  split at h
  · cases h
  split at h
  · cases h
  split at h
  · cases h
  rename_i h1 h2 h3
  refine ⟨by simpa using h1, fun e => ?_, fun e => ?_, fun e => ?_, fun e => ?_, fun e => ?_⟩
  · cases hr : c.at'.right with
    | true => rfl
    | false => exact absurd ⟨e, hr⟩ h2
  · refine Classical.byContradiction fun hn => h3 (.inl ⟨e, by omega⟩)
  · refine Classical.byContradiction fun hn => h3 (.inr (.inl ⟨e, by omega⟩))
  · refine Classical.byContradiction fun hn => h3 (.inr (.inr (.inl ⟨e, by omega⟩)))
  · refine Classical.byContradiction fun hn => h3 (.inr (.inr (.inr ⟨e, by omega⟩)))
def opt (b : Bool) (l : List UInt8) : List UInt8 := if b = true then l else []
theorem opt_t {b : Bool} {l : List UInt8} (h : b = true) : opt b l = l := by unfold opt; rw [if_pos h]
theorem opt_f {b : Bool} {l : List UInt8} (h : ¬ b = true) : opt b l = [] := by unfold opt; rw [if_neg h]
def txB (s : List UInt8) : List UInt8 := be s.length 4 ++ s
/-- a request's bytes -/
def reqB (a : Ax) (id : Nat) (c : Rc) : List UInt8 := b8 c.k :: be id 4 ++ opt a.pa (txB c.pa) ++ opt a.to (txB c.to) ++ opt a.ha (txB c.ha) ++ opt a.off (be c.off 8) ++ opt a.len (be c.len 4) ++ opt a.da (txB c.da) ++ opt a.fl (be c.fl 4) ++ opt a.at' c.at'.enc
def encB (a : Ax × Bool) (id : Nat) (c : Rc) : List UInt8 := if encE a c = 0 then reqB a.1 id c else []
theorem At.enc_le2 (x : At) : x.enc.length ≤ 32 := by
  have l1 := x.e1_le
  have l2 := x.e2_le
  have l3 := x.e3_le
  have l4 := x.e4_le
  unfold At.enc
  simp only [List.length_append, be_length]; omega
theorem sfEnc_spec (V : HProp) (id : Nat) (hid : id < 4294967296) (c : Rc) (hk : c.Ok) (dp : Option Addr) (dn : Nat) (hV : Vw V (.slice dp c.da.length dn) c.da.length (cel c.da)) : Tri Try.prog 29 [.int .u32 (id : Int), c.v dp dn] [V]
    (fun v H' => ∃ K, (∃ p n, v = .tuple #[.slice p (encB (axOf c.k) id c).length n, .int .i64 (encE (axOf c.k) c)] ∧ K = [row 5 1 (.slice p (encB (axOf c.k) id c).length n) (encB (axOf c.k) id c).length (cel (encB (axOf c.k) id c))]) ∧ H' = K ++ [V]) := by
  refine tri_of_wpS Try.func29 rfl Try.ntmps29 (by simp) ?_
  refine wp_seq' ?_
  refine wp_region' ?_
  refine ops_eff' rfl (eff_box rfl) rfl ?_
  rintro _ _ ⟨b3, rfl, rfl⟩
  refine ops_ro' rfl (ro_assign rfl) rfl ?_
  refine ops_ro' rfl (ro_assign rfl) rfl ?_
  refine ops_nil ?_
  refine Then_normal ?_
  refine wp_seq' ?_
  refine wp_region' ?_
  refine ops_ro' rfl (ro_fieldAddr fa56_0 rfl) rfl ?_
  refine ops_ro' rfl (ro_load sc3 rfl (Rd.pick 0 rfl (Rd.own rfl))) rfl ?_
  refine ops_eff' rfl (eff_call Try.call61 rfl rfl (by repeat (first | exact Split.nil _ | apply Split.cons 0 rfl | apply Split.cons 1 rfl | apply Split.cons 2 rfl | apply Split.cons 3 rfl | apply Split.cons 4 rfl | apply Split.cons 5 rfl | apply Split.cons 6 rfl | apply Split.cons 7 rfl | apply Split.cons 8 rfl | apply Split.cons 9 rfl | apply Split.cons 10 rfl | apply Split.cons 11 rfl)) (sfOf_spec c.k)) rfl ?_
  rintro _ H' ⟨_, ⟨rfl, rfl⟩, hH⟩
  simp only [List.cons_append, List.nil_append, List.eraseIdx_cons_zero, List.eraseIdx_cons_succ, List.set_cons_zero, List.set_cons_succ] at hH
  subst hH
  obtain ⟨⟨a, ok⟩, ha⟩ : ∃ z, z = axOf c.k := ⟨_, rfl⟩
  rw [← ha]
  simp only
  refine ops_ro' rfl (ro_move rfl) rfl ?_
  refine ops_ro' rfl (ro_extract rfl rfl) rfl ?_
  refine ops_ro' rfl (ro_extract rfl rfl) rfl ?_
  refine ops_eff' rfl (eff_alloc z107) rfl ?_
  rintro _ _ ⟨b6, rfl, rfl⟩
  refine ops_eff0 rfl (eff_storeA 0 ag107 rfl rfl rfl rfl rfl (Nat.le_of_ble_eq_true rfl) (warm_zero _)) rfl ?_
  rintro _ _ rfl
  refine ops_ro' rfl (ro_assign rfl) rfl ?_
  refine ops_nil ?_
  refine Then_normal ?_
  refine wp_cutK 1008 (fun Δ LL => (encE (a, ok) c = 0) ∧ Δ = [] ∧ LL = [own b3 (.cells (c.cs dp dn).toArray 56 (0, 0)), own b6 (.cells (a.cs).toArray 107 (0, 0)), V]) (Has.cons (k := 0) rfl (Has.cons (k := 3) rfl (Has.cons (k := 6) rfl (Has.nil _)))) ?_ ?_
  · refine wp_block' ?_
    refine wp_seq' ?_
    refine wp_region' ?_
    refine ops_ro' rfl (ro_move rfl) rfl ?_
    refine ops_ro' rfl (ro_not rfl rfl) rfl ?_
    refine ops_ro' rfl (ro_assign rfl) rfl ?_
    refine ops_nil ?_
    refine Then_normal ?_
    refine wp_cond' rfl (fun hc15 => ?_) (fun hc15 => ?_)
    · simp only [Bool.and_eq_true, decide_eq_true_eq, Bool.not_eq_true', decide_eq_false_iff_not, bne_iff_ne, ne_eq] at hc15
      refine wp_seq' ?_
      refine wp_region' ?_
      refine ops_ro' rfl (ro_assign rfl) rfl ?_
      refine ops_ro' rfl (ro_assign rfl) rfl ?_
      refine ops_nil ?_
      refine Then_normal ?_
      refine wp_ret' ?_
      refine InBlock_ret ?_
      refine Then_ret ?_
      refine' doneS_ret (res2 rfl rfl rfl) ?_ ?_
      rotate_left 1
      have HE : encE (a, ok) c = 23 := by unfold encE; rw [if_pos (by simp_all)]
      have HB : encB (a, ok) id c = [] := by unfold encB; rw [if_neg (by rw [HE]; decide)]
      rw [HE, HB]
      exact ⟨_, ⟨none, 0, rfl, rfl⟩, rfl⟩
      exact (SubH.rown (SubH.cons 2 rfl (SubH.nil _)))
    · simp only [Bool.and_eq_false_iff, decide_eq_false_iff_not, Bool.not_eq_false', decide_eq_true_eq] at hc15
      refine wp_seq' ?_
      refine wp_region' ?_
      refine ops_ro' rfl (ro_fieldAddr fa107_7 rfl) rfl ?_
      refine ops_ro' rfl (ro_load sc4 rfl (Rd.pick 0 rfl (Rd.own rfl))) rfl ?_
      refine ops_split rfl rfl rfl (fun hg21 => ?_) (fun hg21 => ?_)
      · skip
        refine ops_ro' rfl (ro_fieldAddr fa56_8 rfl) rfl ?_
        refine ops_ro' rfl (ro_loadA ag54 rfl (RdN.of_pick 1 rfl (rdn_sub 7)) rfl) rfl ?_
        refine ops_eff' rfl (eff_call Try.call66 rfl rfl (by repeat (first | exact Split.nil _ | apply Split.cons 0 rfl | apply Split.cons 1 rfl | apply Split.cons 2 rfl | apply Split.cons 3 rfl | apply Split.cons 4 rfl | apply Split.cons 5 rfl | apply Split.cons 6 rfl | apply Split.cons 7 rfl | apply Split.cons 8 rfl | apply Split.cons 9 rfl | apply Split.cons 10 rfl | apply Split.cons 11 rfl)) (right_spec c.at' hk.at')) rfl ?_
        rintro _ H' ⟨_, ⟨rfl, rfl⟩, hH⟩
        simp only [List.cons_append, List.nil_append, List.eraseIdx_cons_zero, List.eraseIdx_cons_succ, List.set_cons_zero, List.set_cons_succ] at hH
        subst hH
        refine ops_ro' rfl (ro_not rfl rfl) rfl ?_
        refine ops_ro' rfl (ro_pick rfl rfl) rfl ?_
        refine ops_ro' rfl (ro_assign rfl) rfl ?_
        refine ops_nil ?_
        refine Then_normal ?_
        refine wp_cond' rfl (fun hc18 => ?_) (fun hc18 => ?_)
        · simp only [Bool.and_eq_true, decide_eq_true_eq, Bool.not_eq_true', decide_eq_false_iff_not, bne_iff_ne, ne_eq] at hc18
          refine wp_seq' ?_
          refine wp_region' ?_
          refine ops_ro' rfl (ro_assign rfl) rfl ?_
          refine ops_ro' rfl (ro_assign rfl) rfl ?_
          refine ops_nil ?_
          refine Then_normal ?_
          refine wp_ret' ?_
          refine InBlock_ret ?_
          refine Then_ret ?_
          refine' doneS_ret (res2 rfl rfl rfl) ?_ ?_
          rotate_left 1
          have HE : encE (a, ok) c = 12 := by unfold encE; rw [if_neg (by simp_all), if_pos (by simp_all)]
          have HB : encB (a, ok) id c = [] := by unfold encB; rw [if_neg (by rw [HE]; decide)]
          rw [HE, HB]
          exact ⟨_, ⟨none, 0, rfl, rfl⟩, rfl⟩
          exact (SubH.rown (SubH.cons 2 rfl (SubH.nil _)))
        · simp only [Bool.and_eq_false_iff, decide_eq_false_iff_not, Bool.not_eq_false', decide_eq_true_eq] at hc18
          refine wp_seq' ?_
          refine wp_region' ?_
          refine ops_ro' rfl (ro_fieldAddr fa107_0 rfl) rfl ?_
          refine ops_ro' rfl (ro_load sc4 rfl (Rd.pick 0 rfl (Rd.own rfl))) rfl ?_
          refine ops_split rfl rfl rfl (fun hg30 => ?_) (fun hg30 => ?_)
          · skip
            refine ops_ro' rfl (ro_fieldAddr fa56_1 rfl) rfl ?_
            refine ops_ro' rfl (ro_load sc9 rfl (Rd.pick 1 rfl (Rd.own rfl))) rfl ?_
            refine ops_ro' rfl (ro_lenS (t' := 0) Try.underlying9 rfl) rfl ?_
            refine ops_ro' rfl (ro_gtr rfl rfl rfl) rfl ?_
            refine ops_ro' rfl (ro_pick rfl rfl) rfl ?_
            refine ops_split rfl rfl rfl (fun hg36 => ?_) (fun hg36 => ?_)
            · replace hg36 := of_decide_eq_true hg36
              refine ops_skip' rfl rfl ?_
              refine ops_skip' rfl rfl ?_
              refine ops_skip' rfl rfl ?_
              refine ops_skip' rfl rfl ?_
              refine ops_skip' rfl rfl ?_
              refine ops_skip' rfl rfl ?_
              refine ops_skip' rfl rfl ?_
              refine ops_skip' rfl rfl ?_
              refine ops_ro' rfl (ro_pick rfl rfl) rfl ?_
              refine ops_ro' rfl (ro_move (v := .bool true) rfl) rfl ?_
              refine ops_skip' rfl rfl ?_
              refine ops_skip' rfl rfl ?_
              refine ops_skip' rfl rfl ?_
              refine ops_skip' rfl rfl ?_
              refine ops_skip' rfl rfl ?_
              refine ops_skip' rfl rfl ?_
              refine ops_skip' rfl rfl ?_
              refine ops_skip' rfl rfl ?_
              refine ops_ro' rfl (ro_pick rfl rfl) rfl ?_
              refine ops_ro' rfl (ro_move (v := .bool true) rfl) rfl ?_
              refine ops_skip' rfl rfl ?_
              refine ops_skip' rfl rfl ?_
              refine ops_skip' rfl rfl ?_
              refine ops_skip' rfl rfl ?_
              refine ops_skip' rfl rfl ?_
              refine ops_skip' rfl rfl ?_
              refine ops_skip' rfl rfl ?_
              refine ops_skip' rfl rfl ?_
              refine ops_ro' rfl (ro_pick rfl rfl) rfl ?_
              refine ops_ro' rfl (ro_assign rfl) rfl ?_
              refine ops_nil ?_
              refine Then_normal ?_
              refine wp_condT rfl ?_
              refine wp_seq' ?_
              refine wp_region' ?_
              refine ops_ro' rfl (ro_assign rfl) rfl ?_
              refine ops_ro' rfl (ro_assign rfl) rfl ?_
              refine ops_nil ?_
              refine Then_normal ?_
              refine wp_ret' ?_
              refine InBlock_ret ?_
              refine Then_ret ?_
              refine' doneS_ret (res2 rfl rfl rfl) ?_ ?_
              rotate_left 1
              have HE : encE (a, ok) c = 3 := by unfold encE; rw [if_neg (by simp_all), if_neg (by simp_all), if_pos (by (first | (refine .inl ⟨?_, ?_⟩ <;> first | assumption | omega) | (refine .inr (.inl ⟨?_, ?_⟩) <;> first | assumption | omega) | (refine .inr (.inr (.inl ⟨?_, ?_⟩)) <;> first | assumption | omega) | (refine .inr (.inr (.inr ⟨?_, ?_⟩)) <;> first | assumption | omega)))]
              have HB : encB (a, ok) id c = [] := by unfold encB; rw [if_neg (by rw [HE]; decide)]
              rw [HE, HB]
              exact ⟨_, ⟨none, 0, rfl, rfl⟩, rfl⟩
              exact (SubH.rown (SubH.cons 2 rfl (SubH.nil _)))
            · replace hg36 := of_decide_eq_false hg36
              refine ops_ro' rfl (ro_fieldAddr fa107_1 rfl) rfl ?_
              refine ops_ro' rfl (ro_load sc4 rfl (Rd.pick 0 rfl (Rd.own rfl))) rfl ?_
              refine ops_split rfl rfl rfl (fun hg39 => ?_) (fun hg39 => ?_)
              · skip
                refine ops_ro' rfl (ro_fieldAddr fa56_2 rfl) rfl ?_
                refine ops_ro' rfl (ro_load sc9 rfl (Rd.pick 1 rfl (Rd.own rfl))) rfl ?_
                refine ops_ro' rfl (ro_lenS (t' := 0) Try.underlying9 rfl) rfl ?_
                refine ops_ro' rfl (ro_gtr rfl rfl rfl) rfl ?_
                refine ops_ro' rfl (ro_pick rfl rfl) rfl ?_
                refine ops_ro' rfl (ro_pick rfl rfl) rfl ?_
                refine ops_split rfl rfl rfl (fun hg46 => ?_) (fun hg46 => ?_)
                · replace hg46 := of_decide_eq_true hg46
                  refine ops_skip' rfl rfl ?_
                  refine ops_skip' rfl rfl ?_
                  refine ops_skip' rfl rfl ?_
                  refine ops_skip' rfl rfl ?_
                  refine ops_skip' rfl rfl ?_
                  refine ops_skip' rfl rfl ?_
                  refine ops_skip' rfl rfl ?_
                  refine ops_skip' rfl rfl ?_
                  refine ops_ro' rfl (ro_pick rfl rfl) rfl ?_
                  refine ops_ro' rfl (ro_move (v := .bool true) rfl) rfl ?_
                  refine ops_skip' rfl rfl ?_
                  refine ops_skip' rfl rfl ?_
                  refine ops_skip' rfl rfl ?_
                  refine ops_skip' rfl rfl ?_
                  refine ops_skip' rfl rfl ?_
                  refine ops_skip' rfl rfl ?_
                  refine ops_skip' rfl rfl ?_
                  refine ops_skip' rfl rfl ?_
                  refine ops_ro' rfl (ro_pick rfl rfl) rfl ?_
                  refine ops_ro' rfl (ro_assign rfl) rfl ?_
                  refine ops_nil ?_
                  refine Then_normal ?_
                  refine wp_condT rfl ?_
                  refine wp_seq' ?_
                  refine wp_region' ?_
                  refine ops_ro' rfl (ro_assign rfl) rfl ?_
                  refine ops_ro' rfl (ro_assign rfl) rfl ?_
                  refine ops_nil ?_
                  refine Then_normal ?_
                  refine wp_ret' ?_
                  refine InBlock_ret ?_
                  refine Then_ret ?_
                  refine' doneS_ret (res2 rfl rfl rfl) ?_ ?_
                  rotate_left 1
                  have HE : encE (a, ok) c = 3 := by unfold encE; rw [if_neg (by simp_all), if_neg (by simp_all), if_pos (by (first | (refine .inl ⟨?_, ?_⟩ <;> first | assumption | omega) | (refine .inr (.inl ⟨?_, ?_⟩) <;> first | assumption | omega) | (refine .inr (.inr (.inl ⟨?_, ?_⟩)) <;> first | assumption | omega) | (refine .inr (.inr (.inr ⟨?_, ?_⟩)) <;> first | assumption | omega)))]
                  have HB : encB (a, ok) id c = [] := by unfold encB; rw [if_neg (by rw [HE]; decide)]
                  rw [HE, HB]
                  exact ⟨_, ⟨none, 0, rfl, rfl⟩, rfl⟩
                  exact (SubH.rown (SubH.cons 2 rfl (SubH.nil _)))
                · replace hg46 := of_decide_eq_false hg46
                  refine ops_ro' rfl (ro_fieldAddr fa107_2 rfl) rfl ?_
                  refine ops_ro' rfl (ro_load sc4 rfl (Rd.pick 0 rfl (Rd.own rfl))) rfl ?_
                  refine ops_split rfl rfl rfl (fun hg49 => ?_) (fun hg49 => ?_)
                  · skip
                    refine ops_ro' rfl (ro_fieldAddr fa56_3 rfl) rfl ?_
                    refine ops_ro' rfl (ro_load sc9 rfl (Rd.pick 1 rfl (Rd.own rfl))) rfl ?_
                    refine ops_ro' rfl (ro_lenS (t' := 0) Try.underlying9 rfl) rfl ?_
                    refine ops_ro' rfl (ro_gtr rfl rfl rfl) rfl ?_
                    refine ops_ro' rfl (ro_pick rfl rfl) rfl ?_
                    refine ops_ro' rfl (ro_pick rfl rfl) rfl ?_
                    refine ops_split rfl rfl rfl (fun hg56 => ?_) (fun hg56 => ?_)
                    · replace hg56 := of_decide_eq_true hg56
                      refine ops_skip' rfl rfl ?_
                      refine ops_skip' rfl rfl ?_
                      refine ops_skip' rfl rfl ?_
                      refine ops_skip' rfl rfl ?_
                      refine ops_skip' rfl rfl ?_
                      refine ops_skip' rfl rfl ?_
                      refine ops_skip' rfl rfl ?_
                      refine ops_skip' rfl rfl ?_
                      refine ops_ro' rfl (ro_pick rfl rfl) rfl ?_
                      refine ops_ro' rfl (ro_assign rfl) rfl ?_
                      refine ops_nil ?_
                      refine Then_normal ?_
                      refine wp_condT rfl ?_
                      refine wp_seq' ?_
                      refine wp_region' ?_
                      refine ops_ro' rfl (ro_assign rfl) rfl ?_
                      refine ops_ro' rfl (ro_assign rfl) rfl ?_
                      refine ops_nil ?_
                      refine Then_normal ?_
                      refine wp_ret' ?_
                      refine InBlock_ret ?_
                      refine Then_ret ?_
                      refine' doneS_ret (res2 rfl rfl rfl) ?_ ?_
                      rotate_left 1
                      have HE : encE (a, ok) c = 3 := by unfold encE; rw [if_neg (by simp_all), if_neg (by simp_all), if_pos (by (first | (refine .inl ⟨?_, ?_⟩ <;> first | assumption | omega) | (refine .inr (.inl ⟨?_, ?_⟩) <;> first | assumption | omega) | (refine .inr (.inr (.inl ⟨?_, ?_⟩)) <;> first | assumption | omega) | (refine .inr (.inr (.inr ⟨?_, ?_⟩)) <;> first | assumption | omega)))]
                      have HB : encB (a, ok) id c = [] := by unfold encB; rw [if_neg (by rw [HE]; decide)]
                      rw [HE, HB]
                      exact ⟨_, ⟨none, 0, rfl, rfl⟩, rfl⟩
                      exact (SubH.rown (SubH.cons 2 rfl (SubH.nil _)))
                    · replace hg56 := of_decide_eq_false hg56
                      refine ops_ro' rfl (ro_fieldAddr fa107_5 rfl) rfl ?_
                      refine ops_ro' rfl (ro_load sc4 rfl (Rd.pick 0 rfl (Rd.own rfl))) rfl ?_
                      refine ops_split rfl rfl rfl (fun hg59 => ?_) (fun hg59 => ?_)
                      · skip
                        refine ops_ro' rfl (ro_fieldAddr fa56_6 rfl) rfl ?_
                        refine ops_ro' rfl (ro_load sc32 rfl (Rd.pick 1 rfl (Rd.own rfl))) rfl ?_
                        refine ops_ro' rfl (ro_sliceLen Try.underlying32 rfl) rfl ?_
                        refine ops_ro' rfl (ro_gtr rfl rfl rfl) rfl ?_
                        refine ops_ro' rfl (ro_pick rfl rfl) rfl ?_
                        refine ops_ro' rfl (ro_pick rfl rfl) rfl ?_
                        refine ops_ro' rfl (ro_assign rfl) rfl ?_
                        refine ops_nil ?_
                        refine Then_normal ?_
                        refine wp_cond' rfl (fun hc27 => ?_) (fun hc27 => ?_)
                        · replace hc27 := of_decide_eq_true hc27
                          refine wp_seq' ?_
                          refine wp_region' ?_
                          refine ops_ro' rfl (ro_assign rfl) rfl ?_
                          refine ops_ro' rfl (ro_assign rfl) rfl ?_
                          refine ops_nil ?_
                          refine Then_normal ?_
                          refine wp_ret' ?_
                          refine InBlock_ret ?_
                          refine Then_ret ?_
                          refine' doneS_ret (res2 rfl rfl rfl) ?_ ?_
                          rotate_left 1
                          have HE : encE (a, ok) c = 3 := by unfold encE; rw [if_neg (by simp_all), if_neg (by simp_all), if_pos (by (first | (refine .inl ⟨?_, ?_⟩ <;> first | assumption | omega) | (refine .inr (.inl ⟨?_, ?_⟩) <;> first | assumption | omega) | (refine .inr (.inr (.inl ⟨?_, ?_⟩)) <;> first | assumption | omega) | (refine .inr (.inr (.inr ⟨?_, ?_⟩)) <;> first | assumption | omega)))]
                          have HB : encB (a, ok) id c = [] := by unfold encB; rw [if_neg (by rw [HE]; decide)]
                          rw [HE, HB]
                          exact ⟨_, ⟨none, 0, rfl, rfl⟩, rfl⟩
                          exact (SubH.rown (SubH.cons 2 rfl (SubH.nil _)))
                        · replace hc27 := of_decide_eq_false hc27
                          refine wp_skip' ?_
                          refine InBlock_normal ?_
                          refine Then_normal ?_
                          refine over_cut (kept ⟨by unfold encE; rw [if_neg (by simp_all), if_neg (by simp_all), if_neg (by (rintro (⟨h1, h2⟩ | ⟨h1, h2⟩ | ⟨h1, h2⟩ | ⟨h1, h2⟩) <;> first | omega | (simp_all; done)))], rfl, rfl⟩ ?_ ?_ ?_)
                          · exact (by repeat (first | exact Has.nil _ | refine Has.cons rfl ?_))
                          · exact (by repeat (first | exact Has.nil _ | refine Has.cons rfl ?_))
                          · exact (SubH.cons 1 rfl (SubH.cons 0 rfl (SubH.cons 0 rfl (SubH.nil _))))
                      · skip
                        refine ops_skip' rfl rfl ?_
                        refine ops_skip' rfl rfl ?_
                        refine ops_skip' rfl rfl ?_
                        refine ops_skip' rfl rfl ?_
                        refine ops_ro' rfl (ro_pick rfl rfl) rfl ?_
                        refine ops_ro' rfl (ro_pick rfl rfl) rfl ?_
                        refine ops_ro' rfl (ro_assign rfl) rfl ?_
                        refine ops_nil ?_
                        refine Then_normal ?_
                        refine wp_condF rfl ?_
                        refine wp_skip' ?_
                        refine InBlock_normal ?_
                        refine Then_normal ?_
                        refine over_cut (kept ⟨by unfold encE; rw [if_neg (by simp_all), if_neg (by simp_all), if_neg (by (rintro (⟨h1, h2⟩ | ⟨h1, h2⟩ | ⟨h1, h2⟩ | ⟨h1, h2⟩) <;> first | omega | (simp_all; done)))], rfl, rfl⟩ ?_ ?_ ?_)
                        · exact (by repeat (first | exact Has.nil _ | refine Has.cons rfl ?_))
                        · exact (by repeat (first | exact Has.nil _ | refine Has.cons rfl ?_))
                        · exact (SubH.cons 1 rfl (SubH.cons 0 rfl (SubH.cons 0 rfl (SubH.nil _))))
                  · skip
                    refine ops_skip' rfl rfl ?_
                    refine ops_skip' rfl rfl ?_
                    refine ops_skip' rfl rfl ?_
                    refine ops_skip' rfl rfl ?_
                    refine ops_ro' rfl (ro_pick rfl rfl) rfl ?_
                    refine ops_ro' rfl (ro_pick rfl rfl) rfl ?_
                    refine ops_ro' rfl (ro_move (v := .bool false) rfl) rfl ?_
                    refine ops_ro' rfl (ro_fieldAddr fa107_5 rfl) rfl ?_
                    refine ops_ro' rfl (ro_load sc4 rfl (Rd.pick 0 rfl (Rd.own rfl))) rfl ?_
                    refine ops_split rfl rfl rfl (fun hg59 => ?_) (fun hg59 => ?_)
                    · skip
                      refine ops_ro' rfl (ro_fieldAddr fa56_6 rfl) rfl ?_
                      refine ops_ro' rfl (ro_load sc32 rfl (Rd.pick 1 rfl (Rd.own rfl))) rfl ?_
                      refine ops_ro' rfl (ro_sliceLen Try.underlying32 rfl) rfl ?_
                      refine ops_ro' rfl (ro_gtr rfl rfl rfl) rfl ?_
                      refine ops_ro' rfl (ro_pick rfl rfl) rfl ?_
                      refine ops_ro' rfl (ro_pick rfl rfl) rfl ?_
                      refine ops_ro' rfl (ro_assign rfl) rfl ?_
                      refine ops_nil ?_
                      refine Then_normal ?_
                      refine wp_cond' rfl (fun hc27 => ?_) (fun hc27 => ?_)
                      · replace hc27 := of_decide_eq_true hc27
                        refine wp_seq' ?_
                        refine wp_region' ?_
                        refine ops_ro' rfl (ro_assign rfl) rfl ?_
                        refine ops_ro' rfl (ro_assign rfl) rfl ?_
                        refine ops_nil ?_
                        refine Then_normal ?_
                        refine wp_ret' ?_
                        refine InBlock_ret ?_
                        refine Then_ret ?_
                        refine' doneS_ret (res2 rfl rfl rfl) ?_ ?_
                        rotate_left 1
                        have HE : encE (a, ok) c = 3 := by unfold encE; rw [if_neg (by simp_all), if_neg (by simp_all), if_pos (by (first | (refine .inl ⟨?_, ?_⟩ <;> first | assumption | omega) | (refine .inr (.inl ⟨?_, ?_⟩) <;> first | assumption | omega) | (refine .inr (.inr (.inl ⟨?_, ?_⟩)) <;> first | assumption | omega) | (refine .inr (.inr (.inr ⟨?_, ?_⟩)) <;> first | assumption | omega)))]
                        have HB : encB (a, ok) id c = [] := by unfold encB; rw [if_neg (by rw [HE]; decide)]
                        rw [HE, HB]
                        exact ⟨_, ⟨none, 0, rfl, rfl⟩, rfl⟩
                        exact (SubH.rown (SubH.cons 2 rfl (SubH.nil _)))
                      · replace hc27 := of_decide_eq_false hc27
                        refine wp_skip' ?_
                        refine InBlock_normal ?_
                        refine Then_normal ?_
                        refine over_cut (kept ⟨by unfold encE; rw [if_neg (by simp_all), if_neg (by simp_all), if_neg (by (rintro (⟨h1, h2⟩ | ⟨h1, h2⟩ | ⟨h1, h2⟩ | ⟨h1, h2⟩) <;> first | omega | (simp_all; done)))], rfl, rfl⟩ ?_ ?_ ?_)
                        · exact (by repeat (first | exact Has.nil _ | refine Has.cons rfl ?_))
                        · exact (by repeat (first | exact Has.nil _ | refine Has.cons rfl ?_))
                        · exact (SubH.cons 1 rfl (SubH.cons 0 rfl (SubH.cons 0 rfl (SubH.nil _))))
                    · skip
                      refine ops_skip' rfl rfl ?_
                      refine ops_skip' rfl rfl ?_
                      refine ops_skip' rfl rfl ?_
                      refine ops_skip' rfl rfl ?_
                      refine ops_ro' rfl (ro_pick rfl rfl) rfl ?_
                      refine ops_ro' rfl (ro_pick rfl rfl) rfl ?_
                      refine ops_ro' rfl (ro_assign rfl) rfl ?_
                      refine ops_nil ?_
                      refine Then_normal ?_
                      refine wp_condF rfl ?_
                      refine wp_skip' ?_
                      refine InBlock_normal ?_
                      refine Then_normal ?_
                      refine over_cut (kept ⟨by unfold encE; rw [if_neg (by simp_all), if_neg (by simp_all), if_neg (by (rintro (⟨h1, h2⟩ | ⟨h1, h2⟩ | ⟨h1, h2⟩ | ⟨h1, h2⟩) <;> first | omega | (simp_all; done)))], rfl, rfl⟩ ?_ ?_ ?_)
                      · exact (by repeat (first | exact Has.nil _ | refine Has.cons rfl ?_))
                      · exact (by repeat (first | exact Has.nil _ | refine Has.cons rfl ?_))
                      · exact (SubH.cons 1 rfl (SubH.cons 0 rfl (SubH.cons 0 rfl (SubH.nil _))))
              · skip
                refine ops_skip' rfl rfl ?_
                refine ops_skip' rfl rfl ?_
                refine ops_skip' rfl rfl ?_
                refine ops_skip' rfl rfl ?_
                refine ops_ro' rfl (ro_pick rfl rfl) rfl ?_
                refine ops_ro' rfl (ro_pick rfl rfl) rfl ?_
                refine ops_ro' rfl (ro_move (v := .bool false) rfl) rfl ?_
                refine ops_ro' rfl (ro_fieldAddr fa107_2 rfl) rfl ?_
                refine ops_ro' rfl (ro_load sc4 rfl (Rd.pick 0 rfl (Rd.own rfl))) rfl ?_
                refine ops_split rfl rfl rfl (fun hg49 => ?_) (fun hg49 => ?_)
                · skip
                  refine ops_ro' rfl (ro_fieldAddr fa56_3 rfl) rfl ?_
                  refine ops_ro' rfl (ro_load sc9 rfl (Rd.pick 1 rfl (Rd.own rfl))) rfl ?_
                  refine ops_ro' rfl (ro_lenS (t' := 0) Try.underlying9 rfl) rfl ?_
                  refine ops_ro' rfl (ro_gtr rfl rfl rfl) rfl ?_
                  refine ops_ro' rfl (ro_pick rfl rfl) rfl ?_
                  refine ops_ro' rfl (ro_pick rfl rfl) rfl ?_
                  refine ops_split rfl rfl rfl (fun hg56 => ?_) (fun hg56 => ?_)
                  · replace hg56 := of_decide_eq_true hg56
                    refine ops_skip' rfl rfl ?_
                    refine ops_skip' rfl rfl ?_
                    refine ops_skip' rfl rfl ?_
                    refine ops_skip' rfl rfl ?_
                    refine ops_skip' rfl rfl ?_
                    refine ops_skip' rfl rfl ?_
                    refine ops_skip' rfl rfl ?_
                    refine ops_skip' rfl rfl ?_
                    refine ops_ro' rfl (ro_pick rfl rfl) rfl ?_
                    refine ops_ro' rfl (ro_assign rfl) rfl ?_
                    refine ops_nil ?_
                    refine Then_normal ?_
                    refine wp_condT rfl ?_
                    refine wp_seq' ?_
                    refine wp_region' ?_
                    refine ops_ro' rfl (ro_assign rfl) rfl ?_
                    refine ops_ro' rfl (ro_assign rfl) rfl ?_
                    refine ops_nil ?_
                    refine Then_normal ?_
                    refine wp_ret' ?_
                    refine InBlock_ret ?_
                    refine Then_ret ?_
                    refine' doneS_ret (res2 rfl rfl rfl) ?_ ?_
                    rotate_left 1
                    have HE : encE (a, ok) c = 3 := by unfold encE; rw [if_neg (by simp_all), if_neg (by simp_all), if_pos (by (first | (refine .inl ⟨?_, ?_⟩ <;> first | assumption | omega) | (refine .inr (.inl ⟨?_, ?_⟩) <;> first | assumption | omega) | (refine .inr (.inr (.inl ⟨?_, ?_⟩)) <;> first | assumption | omega) | (refine .inr (.inr (.inr ⟨?_, ?_⟩)) <;> first | assumption | omega)))]
                    have HB : encB (a, ok) id c = [] := by unfold encB; rw [if_neg (by rw [HE]; decide)]
                    rw [HE, HB]
                    exact ⟨_, ⟨none, 0, rfl, rfl⟩, rfl⟩
                    exact (SubH.rown (SubH.cons 2 rfl (SubH.nil _)))
                  · replace hg56 := of_decide_eq_false hg56
                    refine ops_ro' rfl (ro_fieldAddr fa107_5 rfl) rfl ?_
                    refine ops_ro' rfl (ro_load sc4 rfl (Rd.pick 0 rfl (Rd.own rfl))) rfl ?_
                    refine ops_split rfl rfl rfl (fun hg59 => ?_) (fun hg59 => ?_)
                    · skip
                      refine ops_ro' rfl (ro_fieldAddr fa56_6 rfl) rfl ?_
                      refine ops_ro' rfl (ro_load sc32 rfl (Rd.pick 1 rfl (Rd.own rfl))) rfl ?_
                      refine ops_ro' rfl (ro_sliceLen Try.underlying32 rfl) rfl ?_
                      refine ops_ro' rfl (ro_gtr rfl rfl rfl) rfl ?_
                      refine ops_ro' rfl (ro_pick rfl rfl) rfl ?_
                      refine ops_ro' rfl (ro_pick rfl rfl) rfl ?_
                      refine ops_ro' rfl (ro_assign rfl) rfl ?_
                      refine ops_nil ?_
                      refine Then_normal ?_
                      refine wp_cond' rfl (fun hc27 => ?_) (fun hc27 => ?_)
                      · replace hc27 := of_decide_eq_true hc27
                        refine wp_seq' ?_
                        refine wp_region' ?_
                        refine ops_ro' rfl (ro_assign rfl) rfl ?_
                        refine ops_ro' rfl (ro_assign rfl) rfl ?_
                        refine ops_nil ?_
                        refine Then_normal ?_
                        refine wp_ret' ?_
                        refine InBlock_ret ?_
                        refine Then_ret ?_
                        refine' doneS_ret (res2 rfl rfl rfl) ?_ ?_
                        rotate_left 1
                        have HE : encE (a, ok) c = 3 := by unfold encE; rw [if_neg (by simp_all), if_neg (by simp_all), if_pos (by (first | (refine .inl ⟨?_, ?_⟩ <;> first | assumption | omega) | (refine .inr (.inl ⟨?_, ?_⟩) <;> first | assumption | omega) | (refine .inr (.inr (.inl ⟨?_, ?_⟩)) <;> first | assumption | omega) | (refine .inr (.inr (.inr ⟨?_, ?_⟩)) <;> first | assumption | omega)))]
                        have HB : encB (a, ok) id c = [] := by unfold encB; rw [if_neg (by rw [HE]; decide)]
                        rw [HE, HB]
                        exact ⟨_, ⟨none, 0, rfl, rfl⟩, rfl⟩
                        exact (SubH.rown (SubH.cons 2 rfl (SubH.nil _)))
                      · replace hc27 := of_decide_eq_false hc27
                        refine wp_skip' ?_
                        refine InBlock_normal ?_
                        refine Then_normal ?_
                        refine over_cut (kept ⟨by unfold encE; rw [if_neg (by simp_all), if_neg (by simp_all), if_neg (by (rintro (⟨h1, h2⟩ | ⟨h1, h2⟩ | ⟨h1, h2⟩ | ⟨h1, h2⟩) <;> first | omega | (simp_all; done)))], rfl, rfl⟩ ?_ ?_ ?_)
                        · exact (by repeat (first | exact Has.nil _ | refine Has.cons rfl ?_))
                        · exact (by repeat (first | exact Has.nil _ | refine Has.cons rfl ?_))
                        · exact (SubH.cons 1 rfl (SubH.cons 0 rfl (SubH.cons 0 rfl (SubH.nil _))))
                    · skip
                      refine ops_skip' rfl rfl ?_
                      refine ops_skip' rfl rfl ?_
                      refine ops_skip' rfl rfl ?_
                      refine ops_skip' rfl rfl ?_
                      refine ops_ro' rfl (ro_pick rfl rfl) rfl ?_
                      refine ops_ro' rfl (ro_pick rfl rfl) rfl ?_
                      refine ops_ro' rfl (ro_assign rfl) rfl ?_
                      refine ops_nil ?_
                      refine Then_normal ?_
                      refine wp_condF rfl ?_
                      refine wp_skip' ?_
                      refine InBlock_normal ?_
                      refine Then_normal ?_
                      refine over_cut (kept ⟨by unfold encE; rw [if_neg (by simp_all), if_neg (by simp_all), if_neg (by (rintro (⟨h1, h2⟩ | ⟨h1, h2⟩ | ⟨h1, h2⟩ | ⟨h1, h2⟩) <;> first | omega | (simp_all; done)))], rfl, rfl⟩ ?_ ?_ ?_)
                      · exact (by repeat (first | exact Has.nil _ | refine Has.cons rfl ?_))
                      · exact (by repeat (first | exact Has.nil _ | refine Has.cons rfl ?_))
                      · exact (SubH.cons 1 rfl (SubH.cons 0 rfl (SubH.cons 0 rfl (SubH.nil _))))
                · skip
                  refine ops_skip' rfl rfl ?_
                  refine ops_skip' rfl rfl ?_
                  refine ops_skip' rfl rfl ?_
                  refine ops_skip' rfl rfl ?_
                  refine ops_ro' rfl (ro_pick rfl rfl) rfl ?_
                  refine ops_ro' rfl (ro_pick rfl rfl) rfl ?_
                  refine ops_ro' rfl (ro_move (v := .bool false) rfl) rfl ?_
                  refine ops_ro' rfl (ro_fieldAddr fa107_5 rfl) rfl ?_
                  refine ops_ro' rfl (ro_load sc4 rfl (Rd.pick 0 rfl (Rd.own rfl))) rfl ?_
                  refine ops_split rfl rfl rfl (fun hg59 => ?_) (fun hg59 => ?_)
                  · skip
                    refine ops_ro' rfl (ro_fieldAddr fa56_6 rfl) rfl ?_
                    refine ops_ro' rfl (ro_load sc32 rfl (Rd.pick 1 rfl (Rd.own rfl))) rfl ?_
                    refine ops_ro' rfl (ro_sliceLen Try.underlying32 rfl) rfl ?_
                    refine ops_ro' rfl (ro_gtr rfl rfl rfl) rfl ?_
                    refine ops_ro' rfl (ro_pick rfl rfl) rfl ?_
                    refine ops_ro' rfl (ro_pick rfl rfl) rfl ?_
                    refine ops_ro' rfl (ro_assign rfl) rfl ?_
                    refine ops_nil ?_
                    refine Then_normal ?_
                    refine wp_cond' rfl (fun hc27 => ?_) (fun hc27 => ?_)
                    · replace hc27 := of_decide_eq_true hc27
                      refine wp_seq' ?_
                      refine wp_region' ?_
                      refine ops_ro' rfl (ro_assign rfl) rfl ?_
                      refine ops_ro' rfl (ro_assign rfl) rfl ?_
                      refine ops_nil ?_
                      refine Then_normal ?_
                      refine wp_ret' ?_
                      refine InBlock_ret ?_
                      refine Then_ret ?_
                      refine' doneS_ret (res2 rfl rfl rfl) ?_ ?_
                      rotate_left 1
                      have HE : encE (a, ok) c = 3 := by unfold encE; rw [if_neg (by simp_all), if_neg (by simp_all), if_pos (by (first | (refine .inl ⟨?_, ?_⟩ <;> first | assumption | omega) | (refine .inr (.inl ⟨?_, ?_⟩) <;> first | assumption | omega) | (refine .inr (.inr (.inl ⟨?_, ?_⟩)) <;> first | assumption | omega) | (refine .inr (.inr (.inr ⟨?_, ?_⟩)) <;> first | assumption | omega)))]
                      have HB : encB (a, ok) id c = [] := by unfold encB; rw [if_neg (by rw [HE]; decide)]
                      rw [HE, HB]
                      exact ⟨_, ⟨none, 0, rfl, rfl⟩, rfl⟩
                      exact (SubH.rown (SubH.cons 2 rfl (SubH.nil _)))
                    · replace hc27 := of_decide_eq_false hc27
                      refine wp_skip' ?_
                      refine InBlock_normal ?_
                      refine Then_normal ?_
                      refine over_cut (kept ⟨by unfold encE; rw [if_neg (by simp_all), if_neg (by simp_all), if_neg (by (rintro (⟨h1, h2⟩ | ⟨h1, h2⟩ | ⟨h1, h2⟩ | ⟨h1, h2⟩) <;> first | omega | (simp_all; done)))], rfl, rfl⟩ ?_ ?_ ?_)
                      · exact (by repeat (first | exact Has.nil _ | refine Has.cons rfl ?_))
                      · exact (by repeat (first | exact Has.nil _ | refine Has.cons rfl ?_))
                      · exact (SubH.cons 1 rfl (SubH.cons 0 rfl (SubH.cons 0 rfl (SubH.nil _))))
                  · skip
                    refine ops_skip' rfl rfl ?_
                    refine ops_skip' rfl rfl ?_
                    refine ops_skip' rfl rfl ?_
                    refine ops_skip' rfl rfl ?_
                    refine ops_ro' rfl (ro_pick rfl rfl) rfl ?_
                    refine ops_ro' rfl (ro_pick rfl rfl) rfl ?_
                    refine ops_ro' rfl (ro_assign rfl) rfl ?_
                    refine ops_nil ?_
                    refine Then_normal ?_
                    refine wp_condF rfl ?_
                    refine wp_skip' ?_
                    refine InBlock_normal ?_
                    refine Then_normal ?_
                    refine over_cut (kept ⟨by unfold encE; rw [if_neg (by simp_all), if_neg (by simp_all), if_neg (by (rintro (⟨h1, h2⟩ | ⟨h1, h2⟩ | ⟨h1, h2⟩ | ⟨h1, h2⟩) <;> first | omega | (simp_all; done)))], rfl, rfl⟩ ?_ ?_ ?_)
                    · exact (by repeat (first | exact Has.nil _ | refine Has.cons rfl ?_))
                    · exact (by repeat (first | exact Has.nil _ | refine Has.cons rfl ?_))
                    · exact (SubH.cons 1 rfl (SubH.cons 0 rfl (SubH.cons 0 rfl (SubH.nil _))))
          · skip
            refine ops_skip' rfl rfl ?_
            refine ops_skip' rfl rfl ?_
            refine ops_skip' rfl rfl ?_
            refine ops_skip' rfl rfl ?_
            refine ops_ro' rfl (ro_pick rfl rfl) rfl ?_
            refine ops_ro' rfl (ro_move (v := .bool false) rfl) rfl ?_
            refine ops_ro' rfl (ro_fieldAddr fa107_1 rfl) rfl ?_
            refine ops_ro' rfl (ro_load sc4 rfl (Rd.pick 0 rfl (Rd.own rfl))) rfl ?_
            refine ops_split rfl rfl rfl (fun hg39 => ?_) (fun hg39 => ?_)
            · skip
              refine ops_ro' rfl (ro_fieldAddr fa56_2 rfl) rfl ?_
              refine ops_ro' rfl (ro_load sc9 rfl (Rd.pick 1 rfl (Rd.own rfl))) rfl ?_
              refine ops_ro' rfl (ro_lenS (t' := 0) Try.underlying9 rfl) rfl ?_
              refine ops_ro' rfl (ro_gtr rfl rfl rfl) rfl ?_
              refine ops_ro' rfl (ro_pick rfl rfl) rfl ?_
              refine ops_ro' rfl (ro_pick rfl rfl) rfl ?_
              refine ops_split rfl rfl rfl (fun hg46 => ?_) (fun hg46 => ?_)
              · replace hg46 := of_decide_eq_true hg46
                refine ops_skip' rfl rfl ?_
                refine ops_skip' rfl rfl ?_
                refine ops_skip' rfl rfl ?_
                refine ops_skip' rfl rfl ?_
                refine ops_skip' rfl rfl ?_
                refine ops_skip' rfl rfl ?_
                refine ops_skip' rfl rfl ?_
                refine ops_skip' rfl rfl ?_
                refine ops_ro' rfl (ro_pick rfl rfl) rfl ?_
                refine ops_ro' rfl (ro_move (v := .bool true) rfl) rfl ?_
                refine ops_skip' rfl rfl ?_
                refine ops_skip' rfl rfl ?_
                refine ops_skip' rfl rfl ?_
                refine ops_skip' rfl rfl ?_
                refine ops_skip' rfl rfl ?_
                refine ops_skip' rfl rfl ?_
                refine ops_skip' rfl rfl ?_
                refine ops_skip' rfl rfl ?_
                refine ops_ro' rfl (ro_pick rfl rfl) rfl ?_
                refine ops_ro' rfl (ro_assign rfl) rfl ?_
                refine ops_nil ?_
                refine Then_normal ?_
                refine wp_condT rfl ?_
                refine wp_seq' ?_
                refine wp_region' ?_
                refine ops_ro' rfl (ro_assign rfl) rfl ?_
                refine ops_ro' rfl (ro_assign rfl) rfl ?_
                refine ops_nil ?_
                refine Then_normal ?_
                refine wp_ret' ?_
                refine InBlock_ret ?_
                refine Then_ret ?_
                refine' doneS_ret (res2 rfl rfl rfl) ?_ ?_
                rotate_left 1
                have HE : encE (a, ok) c = 3 := by unfold encE; rw [if_neg (by simp_all), if_neg (by simp_all), if_pos (by (first | (refine .inl ⟨?_, ?_⟩ <;> first | assumption | omega) | (refine .inr (.inl ⟨?_, ?_⟩) <;> first | assumption | omega) | (refine .inr (.inr (.inl ⟨?_, ?_⟩)) <;> first | assumption | omega) | (refine .inr (.inr (.inr ⟨?_, ?_⟩)) <;> first | assumption | omega)))]
                have HB : encB (a, ok) id c = [] := by unfold encB; rw [if_neg (by rw [HE]; decide)]
                rw [HE, HB]
                exact ⟨_, ⟨none, 0, rfl, rfl⟩, rfl⟩
                exact (SubH.rown (SubH.cons 2 rfl (SubH.nil _)))
              · replace hg46 := of_decide_eq_false hg46
                refine ops_ro' rfl (ro_fieldAddr fa107_2 rfl) rfl ?_
                refine ops_ro' rfl (ro_load sc4 rfl (Rd.pick 0 rfl (Rd.own rfl))) rfl ?_
                refine ops_split rfl rfl rfl (fun hg49 => ?_) (fun hg49 => ?_)
                · skip
                  refine ops_ro' rfl (ro_fieldAddr fa56_3 rfl) rfl ?_
                  refine ops_ro' rfl (ro_load sc9 rfl (Rd.pick 1 rfl (Rd.own rfl))) rfl ?_
                  refine ops_ro' rfl (ro_lenS (t' := 0) Try.underlying9 rfl) rfl ?_
                  refine ops_ro' rfl (ro_gtr rfl rfl rfl) rfl ?_
                  refine ops_ro' rfl (ro_pick rfl rfl) rfl ?_
                  refine ops_ro' rfl (ro_pick rfl rfl) rfl ?_
                  refine ops_split rfl rfl rfl (fun hg56 => ?_) (fun hg56 => ?_)
                  · replace hg56 := of_decide_eq_true hg56
                    refine ops_skip' rfl rfl ?_
                    refine ops_skip' rfl rfl ?_
                    refine ops_skip' rfl rfl ?_
                    refine ops_skip' rfl rfl ?_
                    refine ops_skip' rfl rfl ?_
                    refine ops_skip' rfl rfl ?_
                    refine ops_skip' rfl rfl ?_
                    refine ops_skip' rfl rfl ?_
                    refine ops_ro' rfl (ro_pick rfl rfl) rfl ?_
                    refine ops_ro' rfl (ro_assign rfl) rfl ?_
                    refine ops_nil ?_
                    refine Then_normal ?_
                    refine wp_condT rfl ?_
                    refine wp_seq' ?_
                    refine wp_region' ?_
                    refine ops_ro' rfl (ro_assign rfl) rfl ?_
                    refine ops_ro' rfl (ro_assign rfl) rfl ?_
                    refine ops_nil ?_
                    refine Then_normal ?_
                    refine wp_ret' ?_
                    refine InBlock_ret ?_
                    refine Then_ret ?_
                    refine' doneS_ret (res2 rfl rfl rfl) ?_ ?_
                    rotate_left 1
                    have HE : encE (a, ok) c = 3 := by unfold encE; rw [if_neg (by simp_all), if_neg (by simp_all), if_pos (by (first | (refine .inl ⟨?_, ?_⟩ <;> first | assumption | omega) | (refine .inr (.inl ⟨?_, ?_⟩) <;> first | assumption | omega) | (refine .inr (.inr (.inl ⟨?_, ?_⟩)) <;> first | assumption | omega) | (refine .inr (.inr (.inr ⟨?_, ?_⟩)) <;> first | assumption | omega)))]
                    have HB : encB (a, ok) id c = [] := by unfold encB; rw [if_neg (by rw [HE]; decide)]
                    rw [HE, HB]
                    exact ⟨_, ⟨none, 0, rfl, rfl⟩, rfl⟩
                    exact (SubH.rown (SubH.cons 2 rfl (SubH.nil _)))
                  · replace hg56 := of_decide_eq_false hg56
                    refine ops_ro' rfl (ro_fieldAddr fa107_5 rfl) rfl ?_
                    refine ops_ro' rfl (ro_load sc4 rfl (Rd.pick 0 rfl (Rd.own rfl))) rfl ?_
                    refine ops_split rfl rfl rfl (fun hg59 => ?_) (fun hg59 => ?_)
                    · skip
                      refine ops_ro' rfl (ro_fieldAddr fa56_6 rfl) rfl ?_
                      refine ops_ro' rfl (ro_load sc32 rfl (Rd.pick 1 rfl (Rd.own rfl))) rfl ?_
                      refine ops_ro' rfl (ro_sliceLen Try.underlying32 rfl) rfl ?_
                      refine ops_ro' rfl (ro_gtr rfl rfl rfl) rfl ?_
                      refine ops_ro' rfl (ro_pick rfl rfl) rfl ?_
                      refine ops_ro' rfl (ro_pick rfl rfl) rfl ?_
                      refine ops_ro' rfl (ro_assign rfl) rfl ?_
                      refine ops_nil ?_
                      refine Then_normal ?_
                      refine wp_cond' rfl (fun hc27 => ?_) (fun hc27 => ?_)
                      · replace hc27 := of_decide_eq_true hc27
                        refine wp_seq' ?_
                        refine wp_region' ?_
                        refine ops_ro' rfl (ro_assign rfl) rfl ?_
                        refine ops_ro' rfl (ro_assign rfl) rfl ?_
                        refine ops_nil ?_
                        refine Then_normal ?_
                        refine wp_ret' ?_
                        refine InBlock_ret ?_
                        refine Then_ret ?_
                        refine' doneS_ret (res2 rfl rfl rfl) ?_ ?_
                        rotate_left 1
                        have HE : encE (a, ok) c = 3 := by unfold encE; rw [if_neg (by simp_all), if_neg (by simp_all), if_pos (by (first | (refine .inl ⟨?_, ?_⟩ <;> first | assumption | omega) | (refine .inr (.inl ⟨?_, ?_⟩) <;> first | assumption | omega) | (refine .inr (.inr (.inl ⟨?_, ?_⟩)) <;> first | assumption | omega) | (refine .inr (.inr (.inr ⟨?_, ?_⟩)) <;> first | assumption | omega)))]
                        have HB : encB (a, ok) id c = [] := by unfold encB; rw [if_neg (by rw [HE]; decide)]
                        rw [HE, HB]
                        exact ⟨_, ⟨none, 0, rfl, rfl⟩, rfl⟩
                        exact (SubH.rown (SubH.cons 2 rfl (SubH.nil _)))
                      · replace hc27 := of_decide_eq_false hc27
                        refine wp_skip' ?_
                        refine InBlock_normal ?_
                        refine Then_normal ?_
                        refine over_cut (kept ⟨by unfold encE; rw [if_neg (by simp_all), if_neg (by simp_all), if_neg (by (rintro (⟨h1, h2⟩ | ⟨h1, h2⟩ | ⟨h1, h2⟩ | ⟨h1, h2⟩) <;> first | omega | (simp_all; done)))], rfl, rfl⟩ ?_ ?_ ?_)
                        · exact (by repeat (first | exact Has.nil _ | refine Has.cons rfl ?_))
                        · exact (by repeat (first | exact Has.nil _ | refine Has.cons rfl ?_))
                        · exact (SubH.cons 1 rfl (SubH.cons 0 rfl (SubH.cons 0 rfl (SubH.nil _))))
                    · skip
                      refine ops_skip' rfl rfl ?_
                      refine ops_skip' rfl rfl ?_
                      refine ops_skip' rfl rfl ?_
                      refine ops_skip' rfl rfl ?_
                      refine ops_ro' rfl (ro_pick rfl rfl) rfl ?_
                      refine ops_ro' rfl (ro_pick rfl rfl) rfl ?_
                      refine ops_ro' rfl (ro_assign rfl) rfl ?_
                      refine ops_nil ?_
                      refine Then_normal ?_
                      refine wp_condF rfl ?_
                      refine wp_skip' ?_
                      refine InBlock_normal ?_
                      refine Then_normal ?_
                      refine over_cut (kept ⟨by unfold encE; rw [if_neg (by simp_all), if_neg (by simp_all), if_neg (by (rintro (⟨h1, h2⟩ | ⟨h1, h2⟩ | ⟨h1, h2⟩ | ⟨h1, h2⟩) <;> first | omega | (simp_all; done)))], rfl, rfl⟩ ?_ ?_ ?_)
                      · exact (by repeat (first | exact Has.nil _ | refine Has.cons rfl ?_))
                      · exact (by repeat (first | exact Has.nil _ | refine Has.cons rfl ?_))
                      · exact (SubH.cons 1 rfl (SubH.cons 0 rfl (SubH.cons 0 rfl (SubH.nil _))))
                · skip
                  refine ops_skip' rfl rfl ?_
                  refine ops_skip' rfl rfl ?_
                  refine ops_skip' rfl rfl ?_
                  refine ops_skip' rfl rfl ?_
                  refine ops_ro' rfl (ro_pick rfl rfl) rfl ?_
                  refine ops_ro' rfl (ro_pick rfl rfl) rfl ?_
                  refine ops_ro' rfl (ro_move (v := .bool false) rfl) rfl ?_
                  refine ops_ro' rfl (ro_fieldAddr fa107_5 rfl) rfl ?_
                  refine ops_ro' rfl (ro_load sc4 rfl (Rd.pick 0 rfl (Rd.own rfl))) rfl ?_
                  refine ops_split rfl rfl rfl (fun hg59 => ?_) (fun hg59 => ?_)
                  · skip
                    refine ops_ro' rfl (ro_fieldAddr fa56_6 rfl) rfl ?_
                    refine ops_ro' rfl (ro_load sc32 rfl (Rd.pick 1 rfl (Rd.own rfl))) rfl ?_
                    refine ops_ro' rfl (ro_sliceLen Try.underlying32 rfl) rfl ?_
                    refine ops_ro' rfl (ro_gtr rfl rfl rfl) rfl ?_
                    refine ops_ro' rfl (ro_pick rfl rfl) rfl ?_
                    refine ops_ro' rfl (ro_pick rfl rfl) rfl ?_
                    refine ops_ro' rfl (ro_assign rfl) rfl ?_
                    refine ops_nil ?_
                    refine Then_normal ?_
                    refine wp_cond' rfl (fun hc27 => ?_) (fun hc27 => ?_)
                    · replace hc27 := of_decide_eq_true hc27
                      refine wp_seq' ?_
                      refine wp_region' ?_
                      refine ops_ro' rfl (ro_assign rfl) rfl ?_
                      refine ops_ro' rfl (ro_assign rfl) rfl ?_
                      refine ops_nil ?_
                      refine Then_normal ?_
                      refine wp_ret' ?_
                      refine InBlock_ret ?_
                      refine Then_ret ?_
                      refine' doneS_ret (res2 rfl rfl rfl) ?_ ?_
                      rotate_left 1
                      have HE : encE (a, ok) c = 3 := by unfold encE; rw [if_neg (by simp_all), if_neg (by simp_all), if_pos (by (first | (refine .inl ⟨?_, ?_⟩ <;> first | assumption | omega) | (refine .inr (.inl ⟨?_, ?_⟩) <;> first | assumption | omega) | (refine .inr (.inr (.inl ⟨?_, ?_⟩)) <;> first | assumption | omega) | (refine .inr (.inr (.inr ⟨?_, ?_⟩)) <;> first | assumption | omega)))]
                      have HB : encB (a, ok) id c = [] := by unfold encB; rw [if_neg (by rw [HE]; decide)]
                      rw [HE, HB]
                      exact ⟨_, ⟨none, 0, rfl, rfl⟩, rfl⟩
                      exact (SubH.rown (SubH.cons 2 rfl (SubH.nil _)))
                    · replace hc27 := of_decide_eq_false hc27
                      refine wp_skip' ?_
                      refine InBlock_normal ?_
                      refine Then_normal ?_
                      refine over_cut (kept ⟨by unfold encE; rw [if_neg (by simp_all), if_neg (by simp_all), if_neg (by (rintro (⟨h1, h2⟩ | ⟨h1, h2⟩ | ⟨h1, h2⟩ | ⟨h1, h2⟩) <;> first | omega | (simp_all; done)))], rfl, rfl⟩ ?_ ?_ ?_)
                      · exact (by repeat (first | exact Has.nil _ | refine Has.cons rfl ?_))
                      · exact (by repeat (first | exact Has.nil _ | refine Has.cons rfl ?_))
                      · exact (SubH.cons 1 rfl (SubH.cons 0 rfl (SubH.cons 0 rfl (SubH.nil _))))
                  · skip
                    refine ops_skip' rfl rfl ?_
                    refine ops_skip' rfl rfl ?_
                    refine ops_skip' rfl rfl ?_
                    refine ops_skip' rfl rfl ?_
                    refine ops_ro' rfl (ro_pick rfl rfl) rfl ?_
                    refine ops_ro' rfl (ro_pick rfl rfl) rfl ?_
                    refine ops_ro' rfl (ro_assign rfl) rfl ?_
                    refine ops_nil ?_
                    refine Then_normal ?_
                    refine wp_condF rfl ?_
                    refine wp_skip' ?_
                    refine InBlock_normal ?_
                    refine Then_normal ?_
                    refine over_cut (kept ⟨by unfold encE; rw [if_neg (by simp_all), if_neg (by simp_all), if_neg (by (rintro (⟨h1, h2⟩ | ⟨h1, h2⟩ | ⟨h1, h2⟩ | ⟨h1, h2⟩) <;> first | omega | (simp_all; done)))], rfl, rfl⟩ ?_ ?_ ?_)
                    · exact (by repeat (first | exact Has.nil _ | refine Has.cons rfl ?_))
                    · exact (by repeat (first | exact Has.nil _ | refine Has.cons rfl ?_))
                    · exact (SubH.cons 1 rfl (SubH.cons 0 rfl (SubH.cons 0 rfl (SubH.nil _))))
            · skip
              refine ops_skip' rfl rfl ?_
              refine ops_skip' rfl rfl ?_
              refine ops_skip' rfl rfl ?_
              refine ops_skip' rfl rfl ?_
              refine ops_ro' rfl (ro_pick rfl rfl) rfl ?_
              refine ops_ro' rfl (ro_pick rfl rfl) rfl ?_
              refine ops_ro' rfl (ro_move (v := .bool false) rfl) rfl ?_
              refine ops_ro' rfl (ro_fieldAddr fa107_2 rfl) rfl ?_
              refine ops_ro' rfl (ro_load sc4 rfl (Rd.pick 0 rfl (Rd.own rfl))) rfl ?_
              refine ops_split rfl rfl rfl (fun hg49 => ?_) (fun hg49 => ?_)
              · skip
                refine ops_ro' rfl (ro_fieldAddr fa56_3 rfl) rfl ?_
                refine ops_ro' rfl (ro_load sc9 rfl (Rd.pick 1 rfl (Rd.own rfl))) rfl ?_
                refine ops_ro' rfl (ro_lenS (t' := 0) Try.underlying9 rfl) rfl ?_
                refine ops_ro' rfl (ro_gtr rfl rfl rfl) rfl ?_
                refine ops_ro' rfl (ro_pick rfl rfl) rfl ?_
                refine ops_ro' rfl (ro_pick rfl rfl) rfl ?_
                refine ops_split rfl rfl rfl (fun hg56 => ?_) (fun hg56 => ?_)
                · replace hg56 := of_decide_eq_true hg56
                  refine ops_skip' rfl rfl ?_
                  refine ops_skip' rfl rfl ?_
                  refine ops_skip' rfl rfl ?_
                  refine ops_skip' rfl rfl ?_
                  refine ops_skip' rfl rfl ?_
                  refine ops_skip' rfl rfl ?_
                  refine ops_skip' rfl rfl ?_
                  refine ops_skip' rfl rfl ?_
                  refine ops_ro' rfl (ro_pick rfl rfl) rfl ?_
                  refine ops_ro' rfl (ro_assign rfl) rfl ?_
                  refine ops_nil ?_
                  refine Then_normal ?_
                  refine wp_condT rfl ?_
                  refine wp_seq' ?_
                  refine wp_region' ?_
                  refine ops_ro' rfl (ro_assign rfl) rfl ?_
                  refine ops_ro' rfl (ro_assign rfl) rfl ?_
                  refine ops_nil ?_
                  refine Then_normal ?_
                  refine wp_ret' ?_
                  refine InBlock_ret ?_
                  refine Then_ret ?_
                  refine' doneS_ret (res2 rfl rfl rfl) ?_ ?_
                  rotate_left 1
                  have HE : encE (a, ok) c = 3 := by unfold encE; rw [if_neg (by simp_all), if_neg (by simp_all), if_pos (by (first | (refine .inl ⟨?_, ?_⟩ <;> first | assumption | omega) | (refine .inr (.inl ⟨?_, ?_⟩) <;> first | assumption | omega) | (refine .inr (.inr (.inl ⟨?_, ?_⟩)) <;> first | assumption | omega) | (refine .inr (.inr (.inr ⟨?_, ?_⟩)) <;> first | assumption | omega)))]
                  have HB : encB (a, ok) id c = [] := by unfold encB; rw [if_neg (by rw [HE]; decide)]
                  rw [HE, HB]
                  exact ⟨_, ⟨none, 0, rfl, rfl⟩, rfl⟩
                  exact (SubH.rown (SubH.cons 2 rfl (SubH.nil _)))
                · replace hg56 := of_decide_eq_false hg56
                  refine ops_ro' rfl (ro_fieldAddr fa107_5 rfl) rfl ?_
                  refine ops_ro' rfl (ro_load sc4 rfl (Rd.pick 0 rfl (Rd.own rfl))) rfl ?_
                  refine ops_split rfl rfl rfl (fun hg59 => ?_) (fun hg59 => ?_)
                  · skip
                    refine ops_ro' rfl (ro_fieldAddr fa56_6 rfl) rfl ?_
                    refine ops_ro' rfl (ro_load sc32 rfl (Rd.pick 1 rfl (Rd.own rfl))) rfl ?_
                    refine ops_ro' rfl (ro_sliceLen Try.underlying32 rfl) rfl ?_
                    refine ops_ro' rfl (ro_gtr rfl rfl rfl) rfl ?_
                    refine ops_ro' rfl (ro_pick rfl rfl) rfl ?_
                    refine ops_ro' rfl (ro_pick rfl rfl) rfl ?_
                    refine ops_ro' rfl (ro_assign rfl) rfl ?_
                    refine ops_nil ?_
                    refine Then_normal ?_
                    refine wp_cond' rfl (fun hc27 => ?_) (fun hc27 => ?_)
                    · replace hc27 := of_decide_eq_true hc27
                      refine wp_seq' ?_
                      refine wp_region' ?_
                      refine ops_ro' rfl (ro_assign rfl) rfl ?_
                      refine ops_ro' rfl (ro_assign rfl) rfl ?_
                      refine ops_nil ?_
                      refine Then_normal ?_
                      refine wp_ret' ?_
                      refine InBlock_ret ?_
                      refine Then_ret ?_
                      refine' doneS_ret (res2 rfl rfl rfl) ?_ ?_
                      rotate_left 1
                      have HE : encE (a, ok) c = 3 := by unfold encE; rw [if_neg (by simp_all), if_neg (by simp_all), if_pos (by (first | (refine .inl ⟨?_, ?_⟩ <;> first | assumption | omega) | (refine .inr (.inl ⟨?_, ?_⟩) <;> first | assumption | omega) | (refine .inr (.inr (.inl ⟨?_, ?_⟩)) <;> first | assumption | omega) | (refine .inr (.inr (.inr ⟨?_, ?_⟩)) <;> first | assumption | omega)))]
                      have HB : encB (a, ok) id c = [] := by unfold encB; rw [if_neg (by rw [HE]; decide)]
                      rw [HE, HB]
                      exact ⟨_, ⟨none, 0, rfl, rfl⟩, rfl⟩
                      exact (SubH.rown (SubH.cons 2 rfl (SubH.nil _)))
                    · replace hc27 := of_decide_eq_false hc27
                      refine wp_skip' ?_
                      refine InBlock_normal ?_
                      refine Then_normal ?_
                      refine over_cut (kept ⟨by unfold encE; rw [if_neg (by simp_all), if_neg (by simp_all), if_neg (by (rintro (⟨h1, h2⟩ | ⟨h1, h2⟩ | ⟨h1, h2⟩ | ⟨h1, h2⟩) <;> first | omega | (simp_all; done)))], rfl, rfl⟩ ?_ ?_ ?_)
                      · exact (by repeat (first | exact Has.nil _ | refine Has.cons rfl ?_))
                      · exact (by repeat (first | exact Has.nil _ | refine Has.cons rfl ?_))
                      · exact (SubH.cons 1 rfl (SubH.cons 0 rfl (SubH.cons 0 rfl (SubH.nil _))))
                  · skip
                    refine ops_skip' rfl rfl ?_
                    refine ops_skip' rfl rfl ?_
                    refine ops_skip' rfl rfl ?_
                    refine ops_skip' rfl rfl ?_
                    refine ops_ro' rfl (ro_pick rfl rfl) rfl ?_
                    refine ops_ro' rfl (ro_pick rfl rfl) rfl ?_
                    refine ops_ro' rfl (ro_assign rfl) rfl ?_
                    refine ops_nil ?_
                    refine Then_normal ?_
                    refine wp_condF rfl ?_
                    refine wp_skip' ?_
                    refine InBlock_normal ?_
                    refine Then_normal ?_
                    refine over_cut (kept ⟨by unfold encE; rw [if_neg (by simp_all), if_neg (by simp_all), if_neg (by (rintro (⟨h1, h2⟩ | ⟨h1, h2⟩ | ⟨h1, h2⟩ | ⟨h1, h2⟩) <;> first | omega | (simp_all; done)))], rfl, rfl⟩ ?_ ?_ ?_)
                    · exact (by repeat (first | exact Has.nil _ | refine Has.cons rfl ?_))
                    · exact (by repeat (first | exact Has.nil _ | refine Has.cons rfl ?_))
                    · exact (SubH.cons 1 rfl (SubH.cons 0 rfl (SubH.cons 0 rfl (SubH.nil _))))
              · skip
                refine ops_skip' rfl rfl ?_
                refine ops_skip' rfl rfl ?_
                refine ops_skip' rfl rfl ?_
                refine ops_skip' rfl rfl ?_
                refine ops_ro' rfl (ro_pick rfl rfl) rfl ?_
                refine ops_ro' rfl (ro_pick rfl rfl) rfl ?_
                refine ops_ro' rfl (ro_move (v := .bool false) rfl) rfl ?_
                refine ops_ro' rfl (ro_fieldAddr fa107_5 rfl) rfl ?_
                refine ops_ro' rfl (ro_load sc4 rfl (Rd.pick 0 rfl (Rd.own rfl))) rfl ?_
                refine ops_split rfl rfl rfl (fun hg59 => ?_) (fun hg59 => ?_)
                · skip
                  refine ops_ro' rfl (ro_fieldAddr fa56_6 rfl) rfl ?_
                  refine ops_ro' rfl (ro_load sc32 rfl (Rd.pick 1 rfl (Rd.own rfl))) rfl ?_
                  refine ops_ro' rfl (ro_sliceLen Try.underlying32 rfl) rfl ?_
                  refine ops_ro' rfl (ro_gtr rfl rfl rfl) rfl ?_
                  refine ops_ro' rfl (ro_pick rfl rfl) rfl ?_
                  refine ops_ro' rfl (ro_pick rfl rfl) rfl ?_
                  refine ops_ro' rfl (ro_assign rfl) rfl ?_
                  refine ops_nil ?_
                  refine Then_normal ?_
                  refine wp_cond' rfl (fun hc27 => ?_) (fun hc27 => ?_)
                  · replace hc27 := of_decide_eq_true hc27
                    refine wp_seq' ?_
                    refine wp_region' ?_
                    refine ops_ro' rfl (ro_assign rfl) rfl ?_
                    refine ops_ro' rfl (ro_assign rfl) rfl ?_
                    refine ops_nil ?_
                    refine Then_normal ?_
                    refine wp_ret' ?_
                    refine InBlock_ret ?_
                    refine Then_ret ?_
                    refine' doneS_ret (res2 rfl rfl rfl) ?_ ?_
                    rotate_left 1
                    have HE : encE (a, ok) c = 3 := by unfold encE; rw [if_neg (by simp_all), if_neg (by simp_all), if_pos (by (first | (refine .inl ⟨?_, ?_⟩ <;> first | assumption | omega) | (refine .inr (.inl ⟨?_, ?_⟩) <;> first | assumption | omega) | (refine .inr (.inr (.inl ⟨?_, ?_⟩)) <;> first | assumption | omega) | (refine .inr (.inr (.inr ⟨?_, ?_⟩)) <;> first | assumption | omega)))]
                    have HB : encB (a, ok) id c = [] := by unfold encB; rw [if_neg (by rw [HE]; decide)]
                    rw [HE, HB]
                    exact ⟨_, ⟨none, 0, rfl, rfl⟩, rfl⟩
                    exact (SubH.rown (SubH.cons 2 rfl (SubH.nil _)))
                  · replace hc27 := of_decide_eq_false hc27
                    refine wp_skip' ?_
                    refine InBlock_normal ?_
                    refine Then_normal ?_
                    refine over_cut (kept ⟨by unfold encE; rw [if_neg (by simp_all), if_neg (by simp_all), if_neg (by (rintro (⟨h1, h2⟩ | ⟨h1, h2⟩ | ⟨h1, h2⟩ | ⟨h1, h2⟩) <;> first | omega | (simp_all; done)))], rfl, rfl⟩ ?_ ?_ ?_)
                    · exact (by repeat (first | exact Has.nil _ | refine Has.cons rfl ?_))
                    · exact (by repeat (first | exact Has.nil _ | refine Has.cons rfl ?_))
                    · exact (SubH.cons 1 rfl (SubH.cons 0 rfl (SubH.cons 0 rfl (SubH.nil _))))
                · skip
                  refine ops_skip' rfl rfl ?_
                  refine ops_skip' rfl rfl ?_
                  refine ops_skip' rfl rfl ?_
                  refine ops_skip' rfl rfl ?_
                  refine ops_ro' rfl (ro_pick rfl rfl) rfl ?_
                  refine ops_ro' rfl (ro_pick rfl rfl) rfl ?_
                  refine ops_ro' rfl (ro_assign rfl) rfl ?_
                  refine ops_nil ?_
                  refine Then_normal ?_
                  refine wp_condF rfl ?_
                  refine wp_skip' ?_
                  refine InBlock_normal ?_
                  refine Then_normal ?_
                  refine over_cut (kept ⟨by unfold encE; rw [if_neg (by simp_all), if_neg (by simp_all), if_neg (by (rintro (⟨h1, h2⟩ | ⟨h1, h2⟩ | ⟨h1, h2⟩ | ⟨h1, h2⟩) <;> first | omega | (simp_all; done)))], rfl, rfl⟩ ?_ ?_ ?_)
                  · exact (by repeat (first | exact Has.nil _ | refine Has.cons rfl ?_))
                  · exact (by repeat (first | exact Has.nil _ | refine Has.cons rfl ?_))
                  · exact (SubH.cons 1 rfl (SubH.cons 0 rfl (SubH.cons 0 rfl (SubH.nil _))))
      · skip
        refine ops_skip' rfl rfl ?_
        refine ops_skip' rfl rfl ?_
        refine ops_skip' rfl rfl ?_
        refine ops_skip' rfl rfl ?_
        refine ops_ro' rfl (ro_pick rfl rfl) rfl ?_
        refine ops_ro' rfl (ro_assign rfl) rfl ?_
        refine ops_nil ?_
        refine Then_normal ?_
        refine wp_condF rfl ?_
        refine wp_seq' ?_
        refine wp_region' ?_
        refine ops_ro' rfl (ro_fieldAddr fa107_0 rfl) rfl ?_
        refine ops_ro' rfl (ro_load sc4 rfl (Rd.pick 0 rfl (Rd.own rfl))) rfl ?_
        refine ops_split rfl rfl rfl (fun hg30 => ?_) (fun hg30 => ?_)
        · skip
          refine ops_ro' rfl (ro_fieldAddr fa56_1 rfl) rfl ?_
          refine ops_ro' rfl (ro_load sc9 rfl (Rd.pick 1 rfl (Rd.own rfl))) rfl ?_
          refine ops_ro' rfl (ro_lenS (t' := 0) Try.underlying9 rfl) rfl ?_
          refine ops_ro' rfl (ro_gtr rfl rfl rfl) rfl ?_
          refine ops_ro' rfl (ro_pick rfl rfl) rfl ?_
          refine ops_split rfl rfl rfl (fun hg36 => ?_) (fun hg36 => ?_)
          · replace hg36 := of_decide_eq_true hg36
            refine ops_skip' rfl rfl ?_
            refine ops_skip' rfl rfl ?_
            refine ops_skip' rfl rfl ?_
            refine ops_skip' rfl rfl ?_
            refine ops_skip' rfl rfl ?_
            refine ops_skip' rfl rfl ?_
            refine ops_skip' rfl rfl ?_
            refine ops_skip' rfl rfl ?_
            refine ops_ro' rfl (ro_pick rfl rfl) rfl ?_
            refine ops_ro' rfl (ro_move (v := .bool true) rfl) rfl ?_
            refine ops_skip' rfl rfl ?_
            refine ops_skip' rfl rfl ?_
            refine ops_skip' rfl rfl ?_
            refine ops_skip' rfl rfl ?_
            refine ops_skip' rfl rfl ?_
            refine ops_skip' rfl rfl ?_
            refine ops_skip' rfl rfl ?_
            refine ops_skip' rfl rfl ?_
            refine ops_ro' rfl (ro_pick rfl rfl) rfl ?_
            refine ops_ro' rfl (ro_move (v := .bool true) rfl) rfl ?_
            refine ops_skip' rfl rfl ?_
            refine ops_skip' rfl rfl ?_
            refine ops_skip' rfl rfl ?_
            refine ops_skip' rfl rfl ?_
            refine ops_skip' rfl rfl ?_
            refine ops_skip' rfl rfl ?_
            refine ops_skip' rfl rfl ?_
            refine ops_skip' rfl rfl ?_
            refine ops_ro' rfl (ro_pick rfl rfl) rfl ?_
            refine ops_ro' rfl (ro_assign rfl) rfl ?_
            refine ops_nil ?_
            refine Then_normal ?_
            refine wp_condT rfl ?_
            refine wp_seq' ?_
            refine wp_region' ?_
            refine ops_ro' rfl (ro_assign rfl) rfl ?_
            refine ops_ro' rfl (ro_assign rfl) rfl ?_
            refine ops_nil ?_
            refine Then_normal ?_
            refine wp_ret' ?_
            refine InBlock_ret ?_
            refine Then_ret ?_
            refine' doneS_ret (res2 rfl rfl rfl) ?_ ?_
            rotate_left 1
            have HE : encE (a, ok) c = 3 := by unfold encE; rw [if_neg (by simp_all), if_neg (by simp_all), if_pos (by (first | (refine .inl ⟨?_, ?_⟩ <;> first | assumption | omega) | (refine .inr (.inl ⟨?_, ?_⟩) <;> first | assumption | omega) | (refine .inr (.inr (.inl ⟨?_, ?_⟩)) <;> first | assumption | omega) | (refine .inr (.inr (.inr ⟨?_, ?_⟩)) <;> first | assumption | omega)))]
            have HB : encB (a, ok) id c = [] := by unfold encB; rw [if_neg (by rw [HE]; decide)]
            rw [HE, HB]
            exact ⟨_, ⟨none, 0, rfl, rfl⟩, rfl⟩
            exact (SubH.rown (SubH.cons 2 rfl (SubH.nil _)))
          · replace hg36 := of_decide_eq_false hg36
            refine ops_ro' rfl (ro_fieldAddr fa107_1 rfl) rfl ?_
            refine ops_ro' rfl (ro_load sc4 rfl (Rd.pick 0 rfl (Rd.own rfl))) rfl ?_
            refine ops_split rfl rfl rfl (fun hg39 => ?_) (fun hg39 => ?_)
            · skip
              refine ops_ro' rfl (ro_fieldAddr fa56_2 rfl) rfl ?_
              refine ops_ro' rfl (ro_load sc9 rfl (Rd.pick 1 rfl (Rd.own rfl))) rfl ?_
              refine ops_ro' rfl (ro_lenS (t' := 0) Try.underlying9 rfl) rfl ?_
              refine ops_ro' rfl (ro_gtr rfl rfl rfl) rfl ?_
              refine ops_ro' rfl (ro_pick rfl rfl) rfl ?_
              refine ops_ro' rfl (ro_pick rfl rfl) rfl ?_
              refine ops_split rfl rfl rfl (fun hg46 => ?_) (fun hg46 => ?_)
              · replace hg46 := of_decide_eq_true hg46
                refine ops_skip' rfl rfl ?_
                refine ops_skip' rfl rfl ?_
                refine ops_skip' rfl rfl ?_
                refine ops_skip' rfl rfl ?_
                refine ops_skip' rfl rfl ?_
                refine ops_skip' rfl rfl ?_
                refine ops_skip' rfl rfl ?_
                refine ops_skip' rfl rfl ?_
                refine ops_ro' rfl (ro_pick rfl rfl) rfl ?_
                refine ops_ro' rfl (ro_move (v := .bool true) rfl) rfl ?_
                refine ops_skip' rfl rfl ?_
                refine ops_skip' rfl rfl ?_
                refine ops_skip' rfl rfl ?_
                refine ops_skip' rfl rfl ?_
                refine ops_skip' rfl rfl ?_
                refine ops_skip' rfl rfl ?_
                refine ops_skip' rfl rfl ?_
                refine ops_skip' rfl rfl ?_
                refine ops_ro' rfl (ro_pick rfl rfl) rfl ?_
                refine ops_ro' rfl (ro_assign rfl) rfl ?_
                refine ops_nil ?_
                refine Then_normal ?_
                refine wp_condT rfl ?_
                refine wp_seq' ?_
                refine wp_region' ?_
                refine ops_ro' rfl (ro_assign rfl) rfl ?_
                refine ops_ro' rfl (ro_assign rfl) rfl ?_
                refine ops_nil ?_
                refine Then_normal ?_
                refine wp_ret' ?_
                refine InBlock_ret ?_
                refine Then_ret ?_
                refine' doneS_ret (res2 rfl rfl rfl) ?_ ?_
                rotate_left 1
                have HE : encE (a, ok) c = 3 := by unfold encE; rw [if_neg (by simp_all), if_neg (by simp_all), if_pos (by (first | (refine .inl ⟨?_, ?_⟩ <;> first | assumption | omega) | (refine .inr (.inl ⟨?_, ?_⟩) <;> first | assumption | omega) | (refine .inr (.inr (.inl ⟨?_, ?_⟩)) <;> first | assumption | omega) | (refine .inr (.inr (.inr ⟨?_, ?_⟩)) <;> first | assumption | omega)))]
                have HB : encB (a, ok) id c = [] := by unfold encB; rw [if_neg (by rw [HE]; decide)]
                rw [HE, HB]
                exact ⟨_, ⟨none, 0, rfl, rfl⟩, rfl⟩
                exact (SubH.rown (SubH.cons 2 rfl (SubH.nil _)))
              · replace hg46 := of_decide_eq_false hg46
                refine ops_ro' rfl (ro_fieldAddr fa107_2 rfl) rfl ?_
                refine ops_ro' rfl (ro_load sc4 rfl (Rd.pick 0 rfl (Rd.own rfl))) rfl ?_
                refine ops_split rfl rfl rfl (fun hg49 => ?_) (fun hg49 => ?_)
                · skip
                  refine ops_ro' rfl (ro_fieldAddr fa56_3 rfl) rfl ?_
                  refine ops_ro' rfl (ro_load sc9 rfl (Rd.pick 1 rfl (Rd.own rfl))) rfl ?_
                  refine ops_ro' rfl (ro_lenS (t' := 0) Try.underlying9 rfl) rfl ?_
                  refine ops_ro' rfl (ro_gtr rfl rfl rfl) rfl ?_
                  refine ops_ro' rfl (ro_pick rfl rfl) rfl ?_
                  refine ops_ro' rfl (ro_pick rfl rfl) rfl ?_
                  refine ops_split rfl rfl rfl (fun hg56 => ?_) (fun hg56 => ?_)
                  · replace hg56 := of_decide_eq_true hg56
                    refine ops_skip' rfl rfl ?_
                    refine ops_skip' rfl rfl ?_
                    refine ops_skip' rfl rfl ?_
                    refine ops_skip' rfl rfl ?_
                    refine ops_skip' rfl rfl ?_
                    refine ops_skip' rfl rfl ?_
                    refine ops_skip' rfl rfl ?_
                    refine ops_skip' rfl rfl ?_
                    refine ops_ro' rfl (ro_pick rfl rfl) rfl ?_
                    refine ops_ro' rfl (ro_assign rfl) rfl ?_
                    refine ops_nil ?_
                    refine Then_normal ?_
                    refine wp_condT rfl ?_
                    refine wp_seq' ?_
                    refine wp_region' ?_
                    refine ops_ro' rfl (ro_assign rfl) rfl ?_
                    refine ops_ro' rfl (ro_assign rfl) rfl ?_
                    refine ops_nil ?_
                    refine Then_normal ?_
                    refine wp_ret' ?_
                    refine InBlock_ret ?_
                    refine Then_ret ?_
                    refine' doneS_ret (res2 rfl rfl rfl) ?_ ?_
                    rotate_left 1
                    have HE : encE (a, ok) c = 3 := by unfold encE; rw [if_neg (by simp_all), if_neg (by simp_all), if_pos (by (first | (refine .inl ⟨?_, ?_⟩ <;> first | assumption | omega) | (refine .inr (.inl ⟨?_, ?_⟩) <;> first | assumption | omega) | (refine .inr (.inr (.inl ⟨?_, ?_⟩)) <;> first | assumption | omega) | (refine .inr (.inr (.inr ⟨?_, ?_⟩)) <;> first | assumption | omega)))]
                    have HB : encB (a, ok) id c = [] := by unfold encB; rw [if_neg (by rw [HE]; decide)]
                    rw [HE, HB]
                    exact ⟨_, ⟨none, 0, rfl, rfl⟩, rfl⟩
                    exact (SubH.rown (SubH.cons 2 rfl (SubH.nil _)))
                  · replace hg56 := of_decide_eq_false hg56
                    refine ops_ro' rfl (ro_fieldAddr fa107_5 rfl) rfl ?_
                    refine ops_ro' rfl (ro_load sc4 rfl (Rd.pick 0 rfl (Rd.own rfl))) rfl ?_
                    refine ops_split rfl rfl rfl (fun hg59 => ?_) (fun hg59 => ?_)
                    · skip
                      refine ops_ro' rfl (ro_fieldAddr fa56_6 rfl) rfl ?_
                      refine ops_ro' rfl (ro_load sc32 rfl (Rd.pick 1 rfl (Rd.own rfl))) rfl ?_
                      refine ops_ro' rfl (ro_sliceLen Try.underlying32 rfl) rfl ?_
                      refine ops_ro' rfl (ro_gtr rfl rfl rfl) rfl ?_
                      refine ops_ro' rfl (ro_pick rfl rfl) rfl ?_
                      refine ops_ro' rfl (ro_pick rfl rfl) rfl ?_
                      refine ops_ro' rfl (ro_assign rfl) rfl ?_
                      refine ops_nil ?_
                      refine Then_normal ?_
                      refine wp_cond' rfl (fun hc27 => ?_) (fun hc27 => ?_)
                      · replace hc27 := of_decide_eq_true hc27
                        refine wp_seq' ?_
                        refine wp_region' ?_
                        refine ops_ro' rfl (ro_assign rfl) rfl ?_
                        refine ops_ro' rfl (ro_assign rfl) rfl ?_
                        refine ops_nil ?_
                        refine Then_normal ?_
                        refine wp_ret' ?_
                        refine InBlock_ret ?_
                        refine Then_ret ?_
                        refine' doneS_ret (res2 rfl rfl rfl) ?_ ?_
                        rotate_left 1
                        have HE : encE (a, ok) c = 3 := by unfold encE; rw [if_neg (by simp_all), if_neg (by simp_all), if_pos (by (first | (refine .inl ⟨?_, ?_⟩ <;> first | assumption | omega) | (refine .inr (.inl ⟨?_, ?_⟩) <;> first | assumption | omega) | (refine .inr (.inr (.inl ⟨?_, ?_⟩)) <;> first | assumption | omega) | (refine .inr (.inr (.inr ⟨?_, ?_⟩)) <;> first | assumption | omega)))]
                        have HB : encB (a, ok) id c = [] := by unfold encB; rw [if_neg (by rw [HE]; decide)]
                        rw [HE, HB]
                        exact ⟨_, ⟨none, 0, rfl, rfl⟩, rfl⟩
                        exact (SubH.rown (SubH.cons 2 rfl (SubH.nil _)))
                      · replace hc27 := of_decide_eq_false hc27
                        refine wp_skip' ?_
                        refine InBlock_normal ?_
                        refine Then_normal ?_
                        refine over_cut (kept ⟨by unfold encE; rw [if_neg (by simp_all), if_neg (by simp_all), if_neg (by (rintro (⟨h1, h2⟩ | ⟨h1, h2⟩ | ⟨h1, h2⟩ | ⟨h1, h2⟩) <;> first | omega | (simp_all; done)))], rfl, rfl⟩ ?_ ?_ ?_)
                        · exact (by repeat (first | exact Has.nil _ | refine Has.cons rfl ?_))
                        · exact (by repeat (first | exact Has.nil _ | refine Has.cons rfl ?_))
                        · exact (SubH.cons 1 rfl (SubH.cons 0 rfl (SubH.cons 0 rfl (SubH.nil _))))
                    · skip
                      refine ops_skip' rfl rfl ?_
                      refine ops_skip' rfl rfl ?_
                      refine ops_skip' rfl rfl ?_
                      refine ops_skip' rfl rfl ?_
                      refine ops_ro' rfl (ro_pick rfl rfl) rfl ?_
                      refine ops_ro' rfl (ro_pick rfl rfl) rfl ?_
                      refine ops_ro' rfl (ro_assign rfl) rfl ?_
                      refine ops_nil ?_
                      refine Then_normal ?_
                      refine wp_condF rfl ?_
                      refine wp_skip' ?_
                      refine InBlock_normal ?_
                      refine Then_normal ?_
                      refine over_cut (kept ⟨by unfold encE; rw [if_neg (by simp_all), if_neg (by simp_all), if_neg (by (rintro (⟨h1, h2⟩ | ⟨h1, h2⟩ | ⟨h1, h2⟩ | ⟨h1, h2⟩) <;> first | omega | (simp_all; done)))], rfl, rfl⟩ ?_ ?_ ?_)
                      · exact (by repeat (first | exact Has.nil _ | refine Has.cons rfl ?_))
                      · exact (by repeat (first | exact Has.nil _ | refine Has.cons rfl ?_))
                      · exact (SubH.cons 1 rfl (SubH.cons 0 rfl (SubH.cons 0 rfl (SubH.nil _))))
                · skip
                  refine ops_skip' rfl rfl ?_
                  refine ops_skip' rfl rfl ?_
                  refine ops_skip' rfl rfl ?_
                  refine ops_skip' rfl rfl ?_
                  refine ops_ro' rfl (ro_pick rfl rfl) rfl ?_
                  refine ops_ro' rfl (ro_pick rfl rfl) rfl ?_
                  refine ops_ro' rfl (ro_move (v := .bool false) rfl) rfl ?_
                  refine ops_ro' rfl (ro_fieldAddr fa107_5 rfl) rfl ?_
                  refine ops_ro' rfl (ro_load sc4 rfl (Rd.pick 0 rfl (Rd.own rfl))) rfl ?_
                  refine ops_split rfl rfl rfl (fun hg59 => ?_) (fun hg59 => ?_)
                  · skip
                    refine ops_ro' rfl (ro_fieldAddr fa56_6 rfl) rfl ?_
                    refine ops_ro' rfl (ro_load sc32 rfl (Rd.pick 1 rfl (Rd.own rfl))) rfl ?_
                    refine ops_ro' rfl (ro_sliceLen Try.underlying32 rfl) rfl ?_
                    refine ops_ro' rfl (ro_gtr rfl rfl rfl) rfl ?_
                    refine ops_ro' rfl (ro_pick rfl rfl) rfl ?_
                    refine ops_ro' rfl (ro_pick rfl rfl) rfl ?_
                    refine ops_ro' rfl (ro_assign rfl) rfl ?_
                    refine ops_nil ?_
                    refine Then_normal ?_
                    refine wp_cond' rfl (fun hc27 => ?_) (fun hc27 => ?_)
                    · replace hc27 := of_decide_eq_true hc27
                      refine wp_seq' ?_
                      refine wp_region' ?_
                      refine ops_ro' rfl (ro_assign rfl) rfl ?_
                      refine ops_ro' rfl (ro_assign rfl) rfl ?_
                      refine ops_nil ?_
                      refine Then_normal ?_
                      refine wp_ret' ?_
                      refine InBlock_ret ?_
                      refine Then_ret ?_
                      refine' doneS_ret (res2 rfl rfl rfl) ?_ ?_
                      rotate_left 1
                      have HE : encE (a, ok) c = 3 := by unfold encE; rw [if_neg (by simp_all), if_neg (by simp_all), if_pos (by (first | (refine .inl ⟨?_, ?_⟩ <;> first | assumption | omega) | (refine .inr (.inl ⟨?_, ?_⟩) <;> first | assumption | omega) | (refine .inr (.inr (.inl ⟨?_, ?_⟩)) <;> first | assumption | omega) | (refine .inr (.inr (.inr ⟨?_, ?_⟩)) <;> first | assumption | omega)))]
                      have HB : encB (a, ok) id c = [] := by unfold encB; rw [if_neg (by rw [HE]; decide)]
                      rw [HE, HB]
                      exact ⟨_, ⟨none, 0, rfl, rfl⟩, rfl⟩
                      exact (SubH.rown (SubH.cons 2 rfl (SubH.nil _)))
                    · replace hc27 := of_decide_eq_false hc27
                      refine wp_skip' ?_
                      refine InBlock_normal ?_
                      refine Then_normal ?_
                      refine over_cut (kept ⟨by unfold encE; rw [if_neg (by simp_all), if_neg (by simp_all), if_neg (by (rintro (⟨h1, h2⟩ | ⟨h1, h2⟩ | ⟨h1, h2⟩ | ⟨h1, h2⟩) <;> first | omega | (simp_all; done)))], rfl, rfl⟩ ?_ ?_ ?_)
                      · exact (by repeat (first | exact Has.nil _ | refine Has.cons rfl ?_))
                      · exact (by repeat (first | exact Has.nil _ | refine Has.cons rfl ?_))
                      · exact (SubH.cons 1 rfl (SubH.cons 0 rfl (SubH.cons 0 rfl (SubH.nil _))))
                  · skip
                    refine ops_skip' rfl rfl ?_
                    refine ops_skip' rfl rfl ?_
                    refine ops_skip' rfl rfl ?_
                    refine ops_skip' rfl rfl ?_
                    refine ops_ro' rfl (ro_pick rfl rfl) rfl ?_
                    refine ops_ro' rfl (ro_pick rfl rfl) rfl ?_
                    refine ops_ro' rfl (ro_assign rfl) rfl ?_
                    refine ops_nil ?_
                    refine Then_normal ?_
                    refine wp_condF rfl ?_
                    refine wp_skip' ?_
                    refine InBlock_normal ?_
                    refine Then_normal ?_
                    refine over_cut (kept ⟨by unfold encE; rw [if_neg (by simp_all), if_neg (by simp_all), if_neg (by (rintro (⟨h1, h2⟩ | ⟨h1, h2⟩ | ⟨h1, h2⟩ | ⟨h1, h2⟩) <;> first | omega | (simp_all; done)))], rfl, rfl⟩ ?_ ?_ ?_)
                    · exact (by repeat (first | exact Has.nil _ | refine Has.cons rfl ?_))
                    · exact (by repeat (first | exact Has.nil _ | refine Has.cons rfl ?_))
                    · exact (SubH.cons 1 rfl (SubH.cons 0 rfl (SubH.cons 0 rfl (SubH.nil _))))
            · skip
              refine ops_skip' rfl rfl ?_
              refine ops_skip' rfl rfl ?_
              refine ops_skip' rfl rfl ?_
              refine ops_skip' rfl rfl ?_
              refine ops_ro' rfl (ro_pick rfl rfl) rfl ?_
              refine ops_ro' rfl (ro_pick rfl rfl) rfl ?_
              refine ops_ro' rfl (ro_move (v := .bool false) rfl) rfl ?_
              refine ops_ro' rfl (ro_fieldAddr fa107_2 rfl) rfl ?_
              refine ops_ro' rfl (ro_load sc4 rfl (Rd.pick 0 rfl (Rd.own rfl))) rfl ?_
              refine ops_split rfl rfl rfl (fun hg49 => ?_) (fun hg49 => ?_)
              · skip
                refine ops_ro' rfl (ro_fieldAddr fa56_3 rfl) rfl ?_
                refine ops_ro' rfl (ro_load sc9 rfl (Rd.pick 1 rfl (Rd.own rfl))) rfl ?_
                refine ops_ro' rfl (ro_lenS (t' := 0) Try.underlying9 rfl) rfl ?_
                refine ops_ro' rfl (ro_gtr rfl rfl rfl) rfl ?_
                refine ops_ro' rfl (ro_pick rfl rfl) rfl ?_
                refine ops_ro' rfl (ro_pick rfl rfl) rfl ?_
                refine ops_split rfl rfl rfl (fun hg56 => ?_) (fun hg56 => ?_)
                · replace hg56 := of_decide_eq_true hg56
                  refine ops_skip' rfl rfl ?_
                  refine ops_skip' rfl rfl ?_
                  refine ops_skip' rfl rfl ?_
                  refine ops_skip' rfl rfl ?_
                  refine ops_skip' rfl rfl ?_
                  refine ops_skip' rfl rfl ?_
                  refine ops_skip' rfl rfl ?_
                  refine ops_skip' rfl rfl ?_
                  refine ops_ro' rfl (ro_pick rfl rfl) rfl ?_
                  refine ops_ro' rfl (ro_assign rfl) rfl ?_
                  refine ops_nil ?_
                  refine Then_normal ?_
                  refine wp_condT rfl ?_
                  refine wp_seq' ?_
                  refine wp_region' ?_
                  refine ops_ro' rfl (ro_assign rfl) rfl ?_
                  refine ops_ro' rfl (ro_assign rfl) rfl ?_
                  refine ops_nil ?_
                  refine Then_normal ?_
                  refine wp_ret' ?_
                  refine InBlock_ret ?_
                  refine Then_ret ?_
                  refine' doneS_ret (res2 rfl rfl rfl) ?_ ?_
                  rotate_left 1
                  have HE : encE (a, ok) c = 3 := by unfold encE; rw [if_neg (by simp_all), if_neg (by simp_all), if_pos (by (first | (refine .inl ⟨?_, ?_⟩ <;> first | assumption | omega) | (refine .inr (.inl ⟨?_, ?_⟩) <;> first | assumption | omega) | (refine .inr (.inr (.inl ⟨?_, ?_⟩)) <;> first | assumption | omega) | (refine .inr (.inr (.inr ⟨?_, ?_⟩)) <;> first | assumption | omega)))]
                  have HB : encB (a, ok) id c = [] := by unfold encB; rw [if_neg (by rw [HE]; decide)]
                  rw [HE, HB]
                  exact ⟨_, ⟨none, 0, rfl, rfl⟩, rfl⟩
                  exact (SubH.rown (SubH.cons 2 rfl (SubH.nil _)))
                · replace hg56 := of_decide_eq_false hg56
                  refine ops_ro' rfl (ro_fieldAddr fa107_5 rfl) rfl ?_
                  refine ops_ro' rfl (ro_load sc4 rfl (Rd.pick 0 rfl (Rd.own rfl))) rfl ?_
                  refine ops_split rfl rfl rfl (fun hg59 => ?_) (fun hg59 => ?_)
                  · skip
                    refine ops_ro' rfl (ro_fieldAddr fa56_6 rfl) rfl ?_
                    refine ops_ro' rfl (ro_load sc32 rfl (Rd.pick 1 rfl (Rd.own rfl))) rfl ?_
                    refine ops_ro' rfl (ro_sliceLen Try.underlying32 rfl) rfl ?_
                    refine ops_ro' rfl (ro_gtr rfl rfl rfl) rfl ?_
                    refine ops_ro' rfl (ro_pick rfl rfl) rfl ?_
                    refine ops_ro' rfl (ro_pick rfl rfl) rfl ?_
                    refine ops_ro' rfl (ro_assign rfl) rfl ?_
                    refine ops_nil ?_
                    refine Then_normal ?_
                    refine wp_cond' rfl (fun hc27 => ?_) (fun hc27 => ?_)
                    · replace hc27 := of_decide_eq_true hc27
                      refine wp_seq' ?_
                      refine wp_region' ?_
                      refine ops_ro' rfl (ro_assign rfl) rfl ?_
                      refine ops_ro' rfl (ro_assign rfl) rfl ?_
                      refine ops_nil ?_
                      refine Then_normal ?_
                      refine wp_ret' ?_
                      refine InBlock_ret ?_
                      refine Then_ret ?_
                      refine' doneS_ret (res2 rfl rfl rfl) ?_ ?_
                      rotate_left 1
                      have HE : encE (a, ok) c = 3 := by unfold encE; rw [if_neg (by simp_all), if_neg (by simp_all), if_pos (by (first | (refine .inl ⟨?_, ?_⟩ <;> first | assumption | omega) | (refine .inr (.inl ⟨?_, ?_⟩) <;> first | assumption | omega) | (refine .inr (.inr (.inl ⟨?_, ?_⟩)) <;> first | assumption | omega) | (refine .inr (.inr (.inr ⟨?_, ?_⟩)) <;> first | assumption | omega)))]
                      have HB : encB (a, ok) id c = [] := by unfold encB; rw [if_neg (by rw [HE]; decide)]
                      rw [HE, HB]
                      exact ⟨_, ⟨none, 0, rfl, rfl⟩, rfl⟩
                      exact (SubH.rown (SubH.cons 2 rfl (SubH.nil _)))
                    · replace hc27 := of_decide_eq_false hc27
                      refine wp_skip' ?_
                      refine InBlock_normal ?_
                      refine Then_normal ?_
                      refine over_cut (kept ⟨by unfold encE; rw [if_neg (by simp_all), if_neg (by simp_all), if_neg (by (rintro (⟨h1, h2⟩ | ⟨h1, h2⟩ | ⟨h1, h2⟩ | ⟨h1, h2⟩) <;> first | omega | (simp_all; done)))], rfl, rfl⟩ ?_ ?_ ?_)
                      · exact (by repeat (first | exact Has.nil _ | refine Has.cons rfl ?_))
                      · exact (by repeat (first | exact Has.nil _ | refine Has.cons rfl ?_))
                      · exact (SubH.cons 1 rfl (SubH.cons 0 rfl (SubH.cons 0 rfl (SubH.nil _))))
                  · skip
                    refine ops_skip' rfl rfl ?_
                    refine ops_skip' rfl rfl ?_
                    refine ops_skip' rfl rfl ?_
                    refine ops_skip' rfl rfl ?_
                    refine ops_ro' rfl (ro_pick rfl rfl) rfl ?_
                    refine ops_ro' rfl (ro_pick rfl rfl) rfl ?_
                    refine ops_ro' rfl (ro_assign rfl) rfl ?_
                    refine ops_nil ?_
                    refine Then_normal ?_
                    refine wp_condF rfl ?_
                    refine wp_skip' ?_
                    refine InBlock_normal ?_
                    refine Then_normal ?_
                    refine over_cut (kept ⟨by unfold encE; rw [if_neg (by simp_all), if_neg (by simp_all), if_neg (by (rintro (⟨h1, h2⟩ | ⟨h1, h2⟩ | ⟨h1, h2⟩ | ⟨h1, h2⟩) <;> first | omega | (simp_all; done)))], rfl, rfl⟩ ?_ ?_ ?_)
                    · exact (by repeat (first | exact Has.nil _ | refine Has.cons rfl ?_))
                    · exact (by repeat (first | exact Has.nil _ | refine Has.cons rfl ?_))
                    · exact (SubH.cons 1 rfl (SubH.cons 0 rfl (SubH.cons 0 rfl (SubH.nil _))))
              · skip
                refine ops_skip' rfl rfl ?_
                refine ops_skip' rfl rfl ?_
                refine ops_skip' rfl rfl ?_
                refine ops_skip' rfl rfl ?_
                refine ops_ro' rfl (ro_pick rfl rfl) rfl ?_
                refine ops_ro' rfl (ro_pick rfl rfl) rfl ?_
                refine ops_ro' rfl (ro_move (v := .bool false) rfl) rfl ?_
                refine ops_ro' rfl (ro_fieldAddr fa107_5 rfl) rfl ?_
                refine ops_ro' rfl (ro_load sc4 rfl (Rd.pick 0 rfl (Rd.own rfl))) rfl ?_
                refine ops_split rfl rfl rfl (fun hg59 => ?_) (fun hg59 => ?_)
                · skip
                  refine ops_ro' rfl (ro_fieldAddr fa56_6 rfl) rfl ?_
                  refine ops_ro' rfl (ro_load sc32 rfl (Rd.pick 1 rfl (Rd.own rfl))) rfl ?_
                  refine ops_ro' rfl (ro_sliceLen Try.underlying32 rfl) rfl ?_
                  refine ops_ro' rfl (ro_gtr rfl rfl rfl) rfl ?_
                  refine ops_ro' rfl (ro_pick rfl rfl) rfl ?_
                  refine ops_ro' rfl (ro_pick rfl rfl) rfl ?_
                  refine ops_ro' rfl (ro_assign rfl) rfl ?_
                  refine ops_nil ?_
                  refine Then_normal ?_
                  refine wp_cond' rfl (fun hc27 => ?_) (fun hc27 => ?_)
                  · replace hc27 := of_decide_eq_true hc27
                    refine wp_seq' ?_
                    refine wp_region' ?_
                    refine ops_ro' rfl (ro_assign rfl) rfl ?_
                    refine ops_ro' rfl (ro_assign rfl) rfl ?_
                    refine ops_nil ?_
                    refine Then_normal ?_
                    refine wp_ret' ?_
                    refine InBlock_ret ?_
                    refine Then_ret ?_
                    refine' doneS_ret (res2 rfl rfl rfl) ?_ ?_
                    rotate_left 1
                    have HE : encE (a, ok) c = 3 := by unfold encE; rw [if_neg (by simp_all), if_neg (by simp_all), if_pos (by (first | (refine .inl ⟨?_, ?_⟩ <;> first | assumption | omega) | (refine .inr (.inl ⟨?_, ?_⟩) <;> first | assumption | omega) | (refine .inr (.inr (.inl ⟨?_, ?_⟩)) <;> first | assumption | omega) | (refine .inr (.inr (.inr ⟨?_, ?_⟩)) <;> first | assumption | omega)))]
                    have HB : encB (a, ok) id c = [] := by unfold encB; rw [if_neg (by rw [HE]; decide)]
                    rw [HE, HB]
                    exact ⟨_, ⟨none, 0, rfl, rfl⟩, rfl⟩
                    exact (SubH.rown (SubH.cons 2 rfl (SubH.nil _)))
                  · replace hc27 := of_decide_eq_false hc27
                    refine wp_skip' ?_
                    refine InBlock_normal ?_
                    refine Then_normal ?_
                    refine over_cut (kept ⟨by unfold encE; rw [if_neg (by simp_all), if_neg (by simp_all), if_neg (by (rintro (⟨h1, h2⟩ | ⟨h1, h2⟩ | ⟨h1, h2⟩ | ⟨h1, h2⟩) <;> first | omega | (simp_all; done)))], rfl, rfl⟩ ?_ ?_ ?_)
                    · exact (by repeat (first | exact Has.nil _ | refine Has.cons rfl ?_))
                    · exact (by repeat (first | exact Has.nil _ | refine Has.cons rfl ?_))
                    · exact (SubH.cons 1 rfl (SubH.cons 0 rfl (SubH.cons 0 rfl (SubH.nil _))))
                · skip
                  refine ops_skip' rfl rfl ?_
                  refine ops_skip' rfl rfl ?_
                  refine ops_skip' rfl rfl ?_
                  refine ops_skip' rfl rfl ?_
                  refine ops_ro' rfl (ro_pick rfl rfl) rfl ?_
                  refine ops_ro' rfl (ro_pick rfl rfl) rfl ?_
                  refine ops_ro' rfl (ro_assign rfl) rfl ?_
                  refine ops_nil ?_
                  refine Then_normal ?_
                  refine wp_condF rfl ?_
                  refine wp_skip' ?_
                  refine InBlock_normal ?_
                  refine Then_normal ?_
                  refine over_cut (kept ⟨by unfold encE; rw [if_neg (by simp_all), if_neg (by simp_all), if_neg (by (rintro (⟨h1, h2⟩ | ⟨h1, h2⟩ | ⟨h1, h2⟩ | ⟨h1, h2⟩) <;> first | omega | (simp_all; done)))], rfl, rfl⟩ ?_ ?_ ?_)
                  · exact (by repeat (first | exact Has.nil _ | refine Has.cons rfl ?_))
                  · exact (by repeat (first | exact Has.nil _ | refine Has.cons rfl ?_))
                  · exact (SubH.cons 1 rfl (SubH.cons 0 rfl (SubH.cons 0 rfl (SubH.nil _))))
        · skip
          refine ops_skip' rfl rfl ?_
          refine ops_skip' rfl rfl ?_
          refine ops_skip' rfl rfl ?_
          refine ops_skip' rfl rfl ?_
          refine ops_ro' rfl (ro_pick rfl rfl) rfl ?_
          refine ops_ro' rfl (ro_move (v := .bool false) rfl) rfl ?_
          refine ops_ro' rfl (ro_fieldAddr fa107_1 rfl) rfl ?_
          refine ops_ro' rfl (ro_load sc4 rfl (Rd.pick 0 rfl (Rd.own rfl))) rfl ?_
          refine ops_split rfl rfl rfl (fun hg39 => ?_) (fun hg39 => ?_)
          · skip
            refine ops_ro' rfl (ro_fieldAddr fa56_2 rfl) rfl ?_
            refine ops_ro' rfl (ro_load sc9 rfl (Rd.pick 1 rfl (Rd.own rfl))) rfl ?_
            refine ops_ro' rfl (ro_lenS (t' := 0) Try.underlying9 rfl) rfl ?_
            refine ops_ro' rfl (ro_gtr rfl rfl rfl) rfl ?_
            refine ops_ro' rfl (ro_pick rfl rfl) rfl ?_
            refine ops_ro' rfl (ro_pick rfl rfl) rfl ?_
            refine ops_split rfl rfl rfl (fun hg46 => ?_) (fun hg46 => ?_)
            · replace hg46 := of_decide_eq_true hg46
              refine ops_skip' rfl rfl ?_
              refine ops_skip' rfl rfl ?_
              refine ops_skip' rfl rfl ?_
              refine ops_skip' rfl rfl ?_
              refine ops_skip' rfl rfl ?_
              refine ops_skip' rfl rfl ?_
              refine ops_skip' rfl rfl ?_
              refine ops_skip' rfl rfl ?_
              refine ops_ro' rfl (ro_pick rfl rfl) rfl ?_
              refine ops_ro' rfl (ro_move (v := .bool true) rfl) rfl ?_
              refine ops_skip' rfl rfl ?_
              refine ops_skip' rfl rfl ?_
              refine ops_skip' rfl rfl ?_
              refine ops_skip' rfl rfl ?_
              refine ops_skip' rfl rfl ?_
              refine ops_skip' rfl rfl ?_
              refine ops_skip' rfl rfl ?_
              refine ops_skip' rfl rfl ?_
              refine ops_ro' rfl (ro_pick rfl rfl) rfl ?_
              refine ops_ro' rfl (ro_assign rfl) rfl ?_
              refine ops_nil ?_
              refine Then_normal ?_
              refine wp_condT rfl ?_
              refine wp_seq' ?_
              refine wp_region' ?_
              refine ops_ro' rfl (ro_assign rfl) rfl ?_
              refine ops_ro' rfl (ro_assign rfl) rfl ?_
              refine ops_nil ?_
              refine Then_normal ?_
              refine wp_ret' ?_
              refine InBlock_ret ?_
              refine Then_ret ?_
              refine' doneS_ret (res2 rfl rfl rfl) ?_ ?_
              rotate_left 1
              have HE : encE (a, ok) c = 3 := by unfold encE; rw [if_neg (by simp_all), if_neg (by simp_all), if_pos (by (first | (refine .inl ⟨?_, ?_⟩ <;> first | assumption | omega) | (refine .inr (.inl ⟨?_, ?_⟩) <;> first | assumption | omega) | (refine .inr (.inr (.inl ⟨?_, ?_⟩)) <;> first | assumption | omega) | (refine .inr (.inr (.inr ⟨?_, ?_⟩)) <;> first | assumption | omega)))]
              have HB : encB (a, ok) id c = [] := by unfold encB; rw [if_neg (by rw [HE]; decide)]
              rw [HE, HB]
              exact ⟨_, ⟨none, 0, rfl, rfl⟩, rfl⟩
              exact (SubH.rown (SubH.cons 2 rfl (SubH.nil _)))
            · replace hg46 := of_decide_eq_false hg46
              refine ops_ro' rfl (ro_fieldAddr fa107_2 rfl) rfl ?_
              refine ops_ro' rfl (ro_load sc4 rfl (Rd.pick 0 rfl (Rd.own rfl))) rfl ?_
              refine ops_split rfl rfl rfl (fun hg49 => ?_) (fun hg49 => ?_)
              · skip
                refine ops_ro' rfl (ro_fieldAddr fa56_3 rfl) rfl ?_
                refine ops_ro' rfl (ro_load sc9 rfl (Rd.pick 1 rfl (Rd.own rfl))) rfl ?_
                refine ops_ro' rfl (ro_lenS (t' := 0) Try.underlying9 rfl) rfl ?_
                refine ops_ro' rfl (ro_gtr rfl rfl rfl) rfl ?_
                refine ops_ro' rfl (ro_pick rfl rfl) rfl ?_
                refine ops_ro' rfl (ro_pick rfl rfl) rfl ?_
                refine ops_split rfl rfl rfl (fun hg56 => ?_) (fun hg56 => ?_)
                · replace hg56 := of_decide_eq_true hg56
                  refine ops_skip' rfl rfl ?_
                  refine ops_skip' rfl rfl ?_
                  refine ops_skip' rfl rfl ?_
                  refine ops_skip' rfl rfl ?_
                  refine ops_skip' rfl rfl ?_
                  refine ops_skip' rfl rfl ?_
                  refine ops_skip' rfl rfl ?_
                  refine ops_skip' rfl rfl ?_
                  refine ops_ro' rfl (ro_pick rfl rfl) rfl ?_
                  refine ops_ro' rfl (ro_assign rfl) rfl ?_
                  refine ops_nil ?_
                  refine Then_normal ?_
                  refine wp_condT rfl ?_
                  refine wp_seq' ?_
                  refine wp_region' ?_
                  refine ops_ro' rfl (ro_assign rfl) rfl ?_
                  refine ops_ro' rfl (ro_assign rfl) rfl ?_
                  refine ops_nil ?_
                  refine Then_normal ?_
                  refine wp_ret' ?_
                  refine InBlock_ret ?_
                  refine Then_ret ?_
                  refine' doneS_ret (res2 rfl rfl rfl) ?_ ?_
                  rotate_left 1
                  have HE : encE (a, ok) c = 3 := by unfold encE; rw [if_neg (by simp_all), if_neg (by simp_all), if_pos (by (first | (refine .inl ⟨?_, ?_⟩ <;> first | assumption | omega) | (refine .inr (.inl ⟨?_, ?_⟩) <;> first | assumption | omega) | (refine .inr (.inr (.inl ⟨?_, ?_⟩)) <;> first | assumption | omega) | (refine .inr (.inr (.inr ⟨?_, ?_⟩)) <;> first | assumption | omega)))]
                  have HB : encB (a, ok) id c = [] := by unfold encB; rw [if_neg (by rw [HE]; decide)]
                  rw [HE, HB]
                  exact ⟨_, ⟨none, 0, rfl, rfl⟩, rfl⟩
                  exact (SubH.rown (SubH.cons 2 rfl (SubH.nil _)))
                · replace hg56 := of_decide_eq_false hg56
                  refine ops_ro' rfl (ro_fieldAddr fa107_5 rfl) rfl ?_
                  refine ops_ro' rfl (ro_load sc4 rfl (Rd.pick 0 rfl (Rd.own rfl))) rfl ?_
                  refine ops_split rfl rfl rfl (fun hg59 => ?_) (fun hg59 => ?_)
                  · skip
                    refine ops_ro' rfl (ro_fieldAddr fa56_6 rfl) rfl ?_
                    refine ops_ro' rfl (ro_load sc32 rfl (Rd.pick 1 rfl (Rd.own rfl))) rfl ?_
                    refine ops_ro' rfl (ro_sliceLen Try.underlying32 rfl) rfl ?_
                    refine ops_ro' rfl (ro_gtr rfl rfl rfl) rfl ?_
                    refine ops_ro' rfl (ro_pick rfl rfl) rfl ?_
                    refine ops_ro' rfl (ro_pick rfl rfl) rfl ?_
                    refine ops_ro' rfl (ro_assign rfl) rfl ?_
                    refine ops_nil ?_
                    refine Then_normal ?_
                    refine wp_cond' rfl (fun hc27 => ?_) (fun hc27 => ?_)
                    · replace hc27 := of_decide_eq_true hc27
                      refine wp_seq' ?_
                      refine wp_region' ?_
                      refine ops_ro' rfl (ro_assign rfl) rfl ?_
                      refine ops_ro' rfl (ro_assign rfl) rfl ?_
                      refine ops_nil ?_
                      refine Then_normal ?_
                      refine wp_ret' ?_
                      refine InBlock_ret ?_
                      refine Then_ret ?_
                      refine' doneS_ret (res2 rfl rfl rfl) ?_ ?_
                      rotate_left 1
                      have HE : encE (a, ok) c = 3 := by unfold encE; rw [if_neg (by simp_all), if_neg (by simp_all), if_pos (by (first | (refine .inl ⟨?_, ?_⟩ <;> first | assumption | omega) | (refine .inr (.inl ⟨?_, ?_⟩) <;> first | assumption | omega) | (refine .inr (.inr (.inl ⟨?_, ?_⟩)) <;> first | assumption | omega) | (refine .inr (.inr (.inr ⟨?_, ?_⟩)) <;> first | assumption | omega)))]
                      have HB : encB (a, ok) id c = [] := by unfold encB; rw [if_neg (by rw [HE]; decide)]
                      rw [HE, HB]
                      exact ⟨_, ⟨none, 0, rfl, rfl⟩, rfl⟩
                      exact (SubH.rown (SubH.cons 2 rfl (SubH.nil _)))
                    · replace hc27 := of_decide_eq_false hc27
                      refine wp_skip' ?_
                      refine InBlock_normal ?_
                      refine Then_normal ?_
                      refine over_cut (kept ⟨by unfold encE; rw [if_neg (by simp_all), if_neg (by simp_all), if_neg (by (rintro (⟨h1, h2⟩ | ⟨h1, h2⟩ | ⟨h1, h2⟩ | ⟨h1, h2⟩) <;> first | omega | (simp_all; done)))], rfl, rfl⟩ ?_ ?_ ?_)
                      · exact (by repeat (first | exact Has.nil _ | refine Has.cons rfl ?_))
                      · exact (by repeat (first | exact Has.nil _ | refine Has.cons rfl ?_))
                      · exact (SubH.cons 1 rfl (SubH.cons 0 rfl (SubH.cons 0 rfl (SubH.nil _))))
                  · skip
                    refine ops_skip' rfl rfl ?_
                    refine ops_skip' rfl rfl ?_
                    refine ops_skip' rfl rfl ?_
                    refine ops_skip' rfl rfl ?_
                    refine ops_ro' rfl (ro_pick rfl rfl) rfl ?_
                    refine ops_ro' rfl (ro_pick rfl rfl) rfl ?_
                    refine ops_ro' rfl (ro_assign rfl) rfl ?_
                    refine ops_nil ?_
                    refine Then_normal ?_
                    refine wp_condF rfl ?_
                    refine wp_skip' ?_
                    refine InBlock_normal ?_
                    refine Then_normal ?_
                    refine over_cut (kept ⟨by unfold encE; rw [if_neg (by simp_all), if_neg (by simp_all), if_neg (by (rintro (⟨h1, h2⟩ | ⟨h1, h2⟩ | ⟨h1, h2⟩ | ⟨h1, h2⟩) <;> first | omega | (simp_all; done)))], rfl, rfl⟩ ?_ ?_ ?_)
                    · exact (by repeat (first | exact Has.nil _ | refine Has.cons rfl ?_))
                    · exact (by repeat (first | exact Has.nil _ | refine Has.cons rfl ?_))
                    · exact (SubH.cons 1 rfl (SubH.cons 0 rfl (SubH.cons 0 rfl (SubH.nil _))))
              · skip
                refine ops_skip' rfl rfl ?_
                refine ops_skip' rfl rfl ?_
                refine ops_skip' rfl rfl ?_
                refine ops_skip' rfl rfl ?_
                refine ops_ro' rfl (ro_pick rfl rfl) rfl ?_
                refine ops_ro' rfl (ro_pick rfl rfl) rfl ?_
                refine ops_ro' rfl (ro_move (v := .bool false) rfl) rfl ?_
                refine ops_ro' rfl (ro_fieldAddr fa107_5 rfl) rfl ?_
                refine ops_ro' rfl (ro_load sc4 rfl (Rd.pick 0 rfl (Rd.own rfl))) rfl ?_
                refine ops_split rfl rfl rfl (fun hg59 => ?_) (fun hg59 => ?_)
                · skip
                  refine ops_ro' rfl (ro_fieldAddr fa56_6 rfl) rfl ?_
                  refine ops_ro' rfl (ro_load sc32 rfl (Rd.pick 1 rfl (Rd.own rfl))) rfl ?_
                  refine ops_ro' rfl (ro_sliceLen Try.underlying32 rfl) rfl ?_
                  refine ops_ro' rfl (ro_gtr rfl rfl rfl) rfl ?_
                  refine ops_ro' rfl (ro_pick rfl rfl) rfl ?_
                  refine ops_ro' rfl (ro_pick rfl rfl) rfl ?_
                  refine ops_ro' rfl (ro_assign rfl) rfl ?_
                  refine ops_nil ?_
                  refine Then_normal ?_
                  refine wp_cond' rfl (fun hc27 => ?_) (fun hc27 => ?_)
                  · replace hc27 := of_decide_eq_true hc27
                    refine wp_seq' ?_
                    refine wp_region' ?_
                    refine ops_ro' rfl (ro_assign rfl) rfl ?_
                    refine ops_ro' rfl (ro_assign rfl) rfl ?_
                    refine ops_nil ?_
                    refine Then_normal ?_
                    refine wp_ret' ?_
                    refine InBlock_ret ?_
                    refine Then_ret ?_
                    refine' doneS_ret (res2 rfl rfl rfl) ?_ ?_
                    rotate_left 1
                    have HE : encE (a, ok) c = 3 := by unfold encE; rw [if_neg (by simp_all), if_neg (by simp_all), if_pos (by (first | (refine .inl ⟨?_, ?_⟩ <;> first | assumption | omega) | (refine .inr (.inl ⟨?_, ?_⟩) <;> first | assumption | omega) | (refine .inr (.inr (.inl ⟨?_, ?_⟩)) <;> first | assumption | omega) | (refine .inr (.inr (.inr ⟨?_, ?_⟩)) <;> first | assumption | omega)))]
                    have HB : encB (a, ok) id c = [] := by unfold encB; rw [if_neg (by rw [HE]; decide)]
                    rw [HE, HB]
                    exact ⟨_, ⟨none, 0, rfl, rfl⟩, rfl⟩
                    exact (SubH.rown (SubH.cons 2 rfl (SubH.nil _)))
                  · replace hc27 := of_decide_eq_false hc27
                    refine wp_skip' ?_
                    refine InBlock_normal ?_
                    refine Then_normal ?_
                    refine over_cut (kept ⟨by unfold encE; rw [if_neg (by simp_all), if_neg (by simp_all), if_neg (by (rintro (⟨h1, h2⟩ | ⟨h1, h2⟩ | ⟨h1, h2⟩ | ⟨h1, h2⟩) <;> first | omega | (simp_all; done)))], rfl, rfl⟩ ?_ ?_ ?_)
                    · exact (by repeat (first | exact Has.nil _ | refine Has.cons rfl ?_))
                    · exact (by repeat (first | exact Has.nil _ | refine Has.cons rfl ?_))
                    · exact (SubH.cons 1 rfl (SubH.cons 0 rfl (SubH.cons 0 rfl (SubH.nil _))))
                · skip
                  refine ops_skip' rfl rfl ?_
                  refine ops_skip' rfl rfl ?_
                  refine ops_skip' rfl rfl ?_
                  refine ops_skip' rfl rfl ?_
                  refine ops_ro' rfl (ro_pick rfl rfl) rfl ?_
                  refine ops_ro' rfl (ro_pick rfl rfl) rfl ?_
                  refine ops_ro' rfl (ro_assign rfl) rfl ?_
                  refine ops_nil ?_
                  refine Then_normal ?_
                  refine wp_condF rfl ?_
                  refine wp_skip' ?_
                  refine InBlock_normal ?_
                  refine Then_normal ?_
                  refine over_cut (kept ⟨by unfold encE; rw [if_neg (by simp_all), if_neg (by simp_all), if_neg (by (rintro (⟨h1, h2⟩ | ⟨h1, h2⟩ | ⟨h1, h2⟩ | ⟨h1, h2⟩) <;> first | omega | (simp_all; done)))], rfl, rfl⟩ ?_ ?_ ?_)
                  · exact (by repeat (first | exact Has.nil _ | refine Has.cons rfl ?_))
                  · exact (by repeat (first | exact Has.nil _ | refine Has.cons rfl ?_))
                  · exact (SubH.cons 1 rfl (SubH.cons 0 rfl (SubH.cons 0 rfl (SubH.nil _))))
          · skip
            refine ops_skip' rfl rfl ?_
            refine ops_skip' rfl rfl ?_
            refine ops_skip' rfl rfl ?_
            refine ops_skip' rfl rfl ?_
            refine ops_ro' rfl (ro_pick rfl rfl) rfl ?_
            refine ops_ro' rfl (ro_pick rfl rfl) rfl ?_
            refine ops_ro' rfl (ro_move (v := .bool false) rfl) rfl ?_
            refine ops_ro' rfl (ro_fieldAddr fa107_2 rfl) rfl ?_
            refine ops_ro' rfl (ro_load sc4 rfl (Rd.pick 0 rfl (Rd.own rfl))) rfl ?_
            refine ops_split rfl rfl rfl (fun hg49 => ?_) (fun hg49 => ?_)
            · skip
              refine ops_ro' rfl (ro_fieldAddr fa56_3 rfl) rfl ?_
              refine ops_ro' rfl (ro_load sc9 rfl (Rd.pick 1 rfl (Rd.own rfl))) rfl ?_
              refine ops_ro' rfl (ro_lenS (t' := 0) Try.underlying9 rfl) rfl ?_
              refine ops_ro' rfl (ro_gtr rfl rfl rfl) rfl ?_
              refine ops_ro' rfl (ro_pick rfl rfl) rfl ?_
              refine ops_ro' rfl (ro_pick rfl rfl) rfl ?_
              refine ops_split rfl rfl rfl (fun hg56 => ?_) (fun hg56 => ?_)
              · replace hg56 := of_decide_eq_true hg56
                refine ops_skip' rfl rfl ?_
                refine ops_skip' rfl rfl ?_
                refine ops_skip' rfl rfl ?_
                refine ops_skip' rfl rfl ?_
                refine ops_skip' rfl rfl ?_
                refine ops_skip' rfl rfl ?_
                refine ops_skip' rfl rfl ?_
                refine ops_skip' rfl rfl ?_
                refine ops_ro' rfl (ro_pick rfl rfl) rfl ?_
                refine ops_ro' rfl (ro_assign rfl) rfl ?_
                refine ops_nil ?_
                refine Then_normal ?_
                refine wp_condT rfl ?_
                refine wp_seq' ?_
                refine wp_region' ?_
                refine ops_ro' rfl (ro_assign rfl) rfl ?_
                refine ops_ro' rfl (ro_assign rfl) rfl ?_
                refine ops_nil ?_
                refine Then_normal ?_
                refine wp_ret' ?_
                refine InBlock_ret ?_
                refine Then_ret ?_
                refine' doneS_ret (res2 rfl rfl rfl) ?_ ?_
                rotate_left 1
                have HE : encE (a, ok) c = 3 := by unfold encE; rw [if_neg (by simp_all), if_neg (by simp_all), if_pos (by (first | (refine .inl ⟨?_, ?_⟩ <;> first | assumption | omega) | (refine .inr (.inl ⟨?_, ?_⟩) <;> first | assumption | omega) | (refine .inr (.inr (.inl ⟨?_, ?_⟩)) <;> first | assumption | omega) | (refine .inr (.inr (.inr ⟨?_, ?_⟩)) <;> first | assumption | omega)))]
                have HB : encB (a, ok) id c = [] := by unfold encB; rw [if_neg (by rw [HE]; decide)]
                rw [HE, HB]
                exact ⟨_, ⟨none, 0, rfl, rfl⟩, rfl⟩
                exact (SubH.rown (SubH.cons 2 rfl (SubH.nil _)))
              · replace hg56 := of_decide_eq_false hg56
                refine ops_ro' rfl (ro_fieldAddr fa107_5 rfl) rfl ?_
                refine ops_ro' rfl (ro_load sc4 rfl (Rd.pick 0 rfl (Rd.own rfl))) rfl ?_
                refine ops_split rfl rfl rfl (fun hg59 => ?_) (fun hg59 => ?_)
                · skip
                  refine ops_ro' rfl (ro_fieldAddr fa56_6 rfl) rfl ?_
                  refine ops_ro' rfl (ro_load sc32 rfl (Rd.pick 1 rfl (Rd.own rfl))) rfl ?_
                  refine ops_ro' rfl (ro_sliceLen Try.underlying32 rfl) rfl ?_
                  refine ops_ro' rfl (ro_gtr rfl rfl rfl) rfl ?_
                  refine ops_ro' rfl (ro_pick rfl rfl) rfl ?_
                  refine ops_ro' rfl (ro_pick rfl rfl) rfl ?_
                  refine ops_ro' rfl (ro_assign rfl) rfl ?_
                  refine ops_nil ?_
                  refine Then_normal ?_
                  refine wp_cond' rfl (fun hc27 => ?_) (fun hc27 => ?_)
                  · replace hc27 := of_decide_eq_true hc27
                    refine wp_seq' ?_
                    refine wp_region' ?_
                    refine ops_ro' rfl (ro_assign rfl) rfl ?_
                    refine ops_ro' rfl (ro_assign rfl) rfl ?_
                    refine ops_nil ?_
                    refine Then_normal ?_
                    refine wp_ret' ?_
                    refine InBlock_ret ?_
                    refine Then_ret ?_
                    refine' doneS_ret (res2 rfl rfl rfl) ?_ ?_
                    rotate_left 1
                    have HE : encE (a, ok) c = 3 := by unfold encE; rw [if_neg (by simp_all), if_neg (by simp_all), if_pos (by (first | (refine .inl ⟨?_, ?_⟩ <;> first | assumption | omega) | (refine .inr (.inl ⟨?_, ?_⟩) <;> first | assumption | omega) | (refine .inr (.inr (.inl ⟨?_, ?_⟩)) <;> first | assumption | omega) | (refine .inr (.inr (.inr ⟨?_, ?_⟩)) <;> first | assumption | omega)))]
                    have HB : encB (a, ok) id c = [] := by unfold encB; rw [if_neg (by rw [HE]; decide)]
                    rw [HE, HB]
                    exact ⟨_, ⟨none, 0, rfl, rfl⟩, rfl⟩
                    exact (SubH.rown (SubH.cons 2 rfl (SubH.nil _)))
                  · replace hc27 := of_decide_eq_false hc27
                    refine wp_skip' ?_
                    refine InBlock_normal ?_
                    refine Then_normal ?_
                    refine over_cut (kept ⟨by unfold encE; rw [if_neg (by simp_all), if_neg (by simp_all), if_neg (by (rintro (⟨h1, h2⟩ | ⟨h1, h2⟩ | ⟨h1, h2⟩ | ⟨h1, h2⟩) <;> first | omega | (simp_all; done)))], rfl, rfl⟩ ?_ ?_ ?_)
                    · exact (by repeat (first | exact Has.nil _ | refine Has.cons rfl ?_))
                    · exact (by repeat (first | exact Has.nil _ | refine Has.cons rfl ?_))
                    · exact (SubH.cons 1 rfl (SubH.cons 0 rfl (SubH.cons 0 rfl (SubH.nil _))))
                · skip
                  refine ops_skip' rfl rfl ?_
                  refine ops_skip' rfl rfl ?_
                  refine ops_skip' rfl rfl ?_
                  refine ops_skip' rfl rfl ?_
                  refine ops_ro' rfl (ro_pick rfl rfl) rfl ?_
                  refine ops_ro' rfl (ro_pick rfl rfl) rfl ?_
                  refine ops_ro' rfl (ro_assign rfl) rfl ?_
                  refine ops_nil ?_
                  refine Then_normal ?_
                  refine wp_condF rfl ?_
                  refine wp_skip' ?_
                  refine InBlock_normal ?_
                  refine Then_normal ?_
                  refine over_cut (kept ⟨by unfold encE; rw [if_neg (by simp_all), if_neg (by simp_all), if_neg (by (rintro (⟨h1, h2⟩ | ⟨h1, h2⟩ | ⟨h1, h2⟩ | ⟨h1, h2⟩) <;> first | omega | (simp_all; done)))], rfl, rfl⟩ ?_ ?_ ?_)
                  · exact (by repeat (first | exact Has.nil _ | refine Has.cons rfl ?_))
                  · exact (by repeat (first | exact Has.nil _ | refine Has.cons rfl ?_))
                  · exact (SubH.cons 1 rfl (SubH.cons 0 rfl (SubH.cons 0 rfl (SubH.nil _))))
            · skip
              refine ops_skip' rfl rfl ?_
              refine ops_skip' rfl rfl ?_
              refine ops_skip' rfl rfl ?_
              refine ops_skip' rfl rfl ?_
              refine ops_ro' rfl (ro_pick rfl rfl) rfl ?_
              refine ops_ro' rfl (ro_pick rfl rfl) rfl ?_
              refine ops_ro' rfl (ro_move (v := .bool false) rfl) rfl ?_
              refine ops_ro' rfl (ro_fieldAddr fa107_5 rfl) rfl ?_
              refine ops_ro' rfl (ro_load sc4 rfl (Rd.pick 0 rfl (Rd.own rfl))) rfl ?_
              refine ops_split rfl rfl rfl (fun hg59 => ?_) (fun hg59 => ?_)
              · skip
                refine ops_ro' rfl (ro_fieldAddr fa56_6 rfl) rfl ?_
                refine ops_ro' rfl (ro_load sc32 rfl (Rd.pick 1 rfl (Rd.own rfl))) rfl ?_
                refine ops_ro' rfl (ro_sliceLen Try.underlying32 rfl) rfl ?_
                refine ops_ro' rfl (ro_gtr rfl rfl rfl) rfl ?_
                refine ops_ro' rfl (ro_pick rfl rfl) rfl ?_
                refine ops_ro' rfl (ro_pick rfl rfl) rfl ?_
                refine ops_ro' rfl (ro_assign rfl) rfl ?_
                refine ops_nil ?_
                refine Then_normal ?_
                refine wp_cond' rfl (fun hc27 => ?_) (fun hc27 => ?_)
                · replace hc27 := of_decide_eq_true hc27
                  refine wp_seq' ?_
                  refine wp_region' ?_
                  refine ops_ro' rfl (ro_assign rfl) rfl ?_
                  refine ops_ro' rfl (ro_assign rfl) rfl ?_
                  refine ops_nil ?_
                  refine Then_normal ?_
                  refine wp_ret' ?_
                  refine InBlock_ret ?_
                  refine Then_ret ?_
                  refine' doneS_ret (res2 rfl rfl rfl) ?_ ?_
                  rotate_left 1
                  have HE : encE (a, ok) c = 3 := by unfold encE; rw [if_neg (by simp_all), if_neg (by simp_all), if_pos (by (first | (refine .inl ⟨?_, ?_⟩ <;> first | assumption | omega) | (refine .inr (.inl ⟨?_, ?_⟩) <;> first | assumption | omega) | (refine .inr (.inr (.inl ⟨?_, ?_⟩)) <;> first | assumption | omega) | (refine .inr (.inr (.inr ⟨?_, ?_⟩)) <;> first | assumption | omega)))]
                  have HB : encB (a, ok) id c = [] := by unfold encB; rw [if_neg (by rw [HE]; decide)]
                  rw [HE, HB]
                  exact ⟨_, ⟨none, 0, rfl, rfl⟩, rfl⟩
                  exact (SubH.rown (SubH.cons 2 rfl (SubH.nil _)))
                · replace hc27 := of_decide_eq_false hc27
                  refine wp_skip' ?_
                  refine InBlock_normal ?_
                  refine Then_normal ?_
                  refine over_cut (kept ⟨by unfold encE; rw [if_neg (by simp_all), if_neg (by simp_all), if_neg (by (rintro (⟨h1, h2⟩ | ⟨h1, h2⟩ | ⟨h1, h2⟩ | ⟨h1, h2⟩) <;> first | omega | (simp_all; done)))], rfl, rfl⟩ ?_ ?_ ?_)
                  · exact (by repeat (first | exact Has.nil _ | refine Has.cons rfl ?_))
                  · exact (by repeat (first | exact Has.nil _ | refine Has.cons rfl ?_))
                  · exact (SubH.cons 1 rfl (SubH.cons 0 rfl (SubH.cons 0 rfl (SubH.nil _))))
              · skip
                refine ops_skip' rfl rfl ?_
                refine ops_skip' rfl rfl ?_
                refine ops_skip' rfl rfl ?_
                refine ops_skip' rfl rfl ?_
                refine ops_ro' rfl (ro_pick rfl rfl) rfl ?_
                refine ops_ro' rfl (ro_pick rfl rfl) rfl ?_
                refine ops_ro' rfl (ro_assign rfl) rfl ?_
                refine ops_nil ?_
                refine Then_normal ?_
                refine wp_condF rfl ?_
                refine wp_skip' ?_
                refine InBlock_normal ?_
                refine Then_normal ?_
                refine over_cut (kept ⟨by unfold encE; rw [if_neg (by simp_all), if_neg (by simp_all), if_neg (by (rintro (⟨h1, h2⟩ | ⟨h1, h2⟩ | ⟨h1, h2⟩ | ⟨h1, h2⟩) <;> first | omega | (simp_all; done)))], rfl, rfl⟩ ?_ ?_ ?_)
                · exact (by repeat (first | exact Has.nil _ | refine Has.cons rfl ?_))
                · exact (by repeat (first | exact Has.nil _ | refine Has.cons rfl ?_))
                · exact (SubH.cons 1 rfl (SubH.cons 0 rfl (SubH.cons 0 rfl (SubH.nil _))))
  · rintro Δ LL ⟨hz0, rfl, rfl⟩
    simp only [List.cons_append, List.nil_append]
    refine wp_seq' ?_
    have hz := encE_zero hz0
    simp only at hz
    refine wp_region' ?_
    refine ops_eff' rfl (eff_call Try.call48 rfl rfl (by repeat (first | exact Split.nil _ | apply Split.cons 0 rfl | apply Split.cons 1 rfl | apply Split.cons 2 rfl | apply Split.cons 3 rfl | apply Split.cons 4 rfl | apply Split.cons 5 rfl | apply Split.cons 6 rfl | apply Split.cons 7 rfl | apply Split.cons 8 rfl | apply Split.cons 9 rfl | apply Split.cons 10 rfl | apply Split.cons 11 rfl)) (newWriter_spec)) rfl ?_
    rintro _ H' ⟨_, ⟨pw, rfl, rfl⟩, hH⟩
    simp only [List.cons_append, List.nil_append, List.eraseIdx_cons_zero, List.eraseIdx_cons_succ, List.set_cons_zero, List.set_cons_succ] at hH
    subst hH
    refine ops_ro' rfl (ro_assign rfl) rfl ?_
    refine ops_nil ?_
    refine Then_normal ?_
    refine wp_seq' ?_
    refine wp_region' ?_
    refine ops_ro' rfl (ro_move rfl) rfl ?_
    refine ops_ro' rfl (ro_fieldAddr fa56_0 rfl) rfl ?_
    refine ops_ro' rfl (ro_load sc3 rfl (Rd.pick 2 rfl (Rd.own rfl))) rfl ?_
    refine ops_eff' rfl (eff_call Try.call49 rfl rfl (by repeat (first | exact Split.nil _ | apply Split.cons 0 rfl | apply Split.cons 1 rfl | apply Split.cons 2 rfl | apply Split.cons 3 rfl | apply Split.cons 4 rfl | apply Split.cons 5 rfl | apply Split.cons 6 rfl | apply Split.cons 7 rfl | apply Split.cons 8 rfl | apply Split.cons 9 rfl | apply Split.cons 10 rfl | apply Split.cons 11 rfl)) (byte_spec pw none 0 [] c.k (by decide))) rfl ?_
    rintro _ H' ⟨_, ⟨p70, c70, rfl, rfl⟩, hH⟩
    simp only [List.cons_append, List.nil_append, List.eraseIdx_cons_zero, List.eraseIdx_cons_succ, List.set_cons_zero, List.set_cons_succ] at hH
    subst hH
    refine ops_nil ?_
    refine Then_normal ?_
    refine wp_seq' ?_
    refine wp_region' ?_
    refine ops_ro' rfl (ro_move rfl) rfl ?_
    refine ops_ro' rfl (ro_move rfl) rfl ?_
    refine ops_eff' rfl (eff_call Try.call50 rfl rfl (by repeat (first | exact Split.nil _ | apply Split.cons 0 rfl | apply Split.cons 1 rfl | apply Split.cons 2 rfl | apply Split.cons 3 rfl | apply Split.cons 4 rfl | apply Split.cons 5 rfl | apply Split.cons 6 rfl | apply Split.cons 7 rfl | apply Split.cons 8 rfl | apply Split.cons 9 rfl | apply Split.cons 10 rfl | apply Split.cons 11 rfl)) (u32_at pw p70 c70 [b8 c.k] id _ rfl hid (by simp))) rfl ?_
    rintro _ H' ⟨_, ⟨p0, c0, rfl, rfl⟩, hH⟩
    simp only [List.cons_append, List.nil_append, List.eraseIdx_cons_zero, List.eraseIdx_cons_succ, List.set_cons_zero, List.set_cons_succ] at hH
    subst hH
    obtain ⟨l0, hl0⟩ : ∃ z, z = b8 c.k :: be id 4 := ⟨_, rfl⟩
    rw [← hl0]
    have n0 : l0.length ≤ 5 := by rw [hl0, List.length_cons, be_length]; omega
    refine ops_nil ?_
    refine Then_normal ?_
    refine wp_cutK 1013 (fun Δ LL => ∃ (p1 : Option Addr) (c1 : Nat) (l1 : List UInt8), (l1 = l0 ++ opt a.pa (txB c.pa) ∧ l1.length ≤ 265) ∧ Δ = [] ∧ LL = [own b3 (.cells (c.cs dp dn).toArray 56 (0, 0)), own b6 (.cells (a.cs).toArray 107 (0, 0)), own pw (.cells [Value.slice p1 l1.length c1].toArray 137 (0, 0)), row 5 1 (.slice p1 l1.length c1) l1.length (cel l1), V]) (Has.cons (k := 3) rfl (Has.cons (k := 6) rfl (Has.cons (k := 8) rfl (Has.nil _)))) ?_ ?_
    · refine wp_seq' ?_
      refine wp_region' ?_
      refine ops_ro' rfl (ro_fieldAddr fa107_0 rfl) rfl ?_
      refine ops_ro' rfl (ro_load sc4 rfl (Rd.pick 3 rfl (Rd.own rfl))) rfl ?_
      refine ops_nil ?_
      refine Then_normal ?_
      refine wp_cond' rfl (fun hc75 => ?_) (fun hc75 => ?_)
      · skip
        have hb0 := hz.2.2.1 (by assumption)
        refine wp_region' ?_
        refine ops_ro' rfl (ro_move rfl) rfl ?_
        refine ops_ro' rfl (ro_fieldAddr fa56_1 rfl) rfl ?_
        refine ops_ro' rfl (ro_load sc9 rfl (Rd.pick 2 rfl (Rd.own rfl))) rfl ?_
        refine ops_eff' rfl (eff_call Try.call51 rfl rfl (by repeat (first | exact Split.nil _ | apply Split.cons 0 rfl | apply Split.cons 1 rfl | apply Split.cons 2 rfl | apply Split.cons 3 rfl | apply Split.cons 4 rfl | apply Split.cons 5 rfl | apply Split.cons 6 rfl | apply Split.cons 7 rfl | apply Split.cons 8 rfl | apply Split.cons 9 rfl | apply Split.cons 10 rfl | apply Split.cons 11 rfl)) (text_at pw p0 c0 l0 c.pa (by omega))) rfl ?_
        rintro _ H' ⟨_, ⟨p79, c79, rfl, rfl⟩, hH⟩
        simp only [List.cons_append, List.nil_append, List.eraseIdx_cons_zero, List.eraseIdx_cons_succ, List.set_cons_zero, List.set_cons_succ] at hH
        subst hH
        obtain ⟨z79, hz79⟩ : ∃ z, z = l0 ++ be c.pa.length 4 ++ c.pa := ⟨_, rfl⟩
        rw [← hz79]
        have hzl79 : z79.length ≤ l0.length + 260 := by rw [hz79]; simp only [List.length_append, be_length]; omega
        refine ops_nil ?_
        refine Then_normal ?_
        refine over_cut (kept ⟨p79, c79, z79, ⟨by rw [opt_t (by assumption), hz79]; simp only [txB, List.append_assoc], by omega⟩, rfl, rfl⟩ ?_ ?_ ?_)
        · exact (by repeat (first | exact Has.nil _ | refine Has.cons rfl ?_))
        · exact (by repeat (first | exact Has.nil _ | refine Has.cons rfl ?_))
        · exact (SubH.cons 2 rfl (SubH.cons 2 rfl (SubH.cons 0 rfl (SubH.cons 0 rfl (SubH.cons 0 rfl (SubH.nil _))))))
      · skip
        refine wp_skip' ?_
        refine Then_normal ?_
        refine over_cut (kept ⟨p0, c0, l0, ⟨by rw [opt_f (by simp_all), List.append_nil], by omega⟩, rfl, rfl⟩ ?_ ?_ ?_)
        · exact (by repeat (first | exact Has.nil _ | refine Has.cons rfl ?_))
        · exact (by repeat (first | exact Has.nil _ | refine Has.cons rfl ?_))
        · exact (SubH.cons 2 rfl (SubH.cons 2 rfl (SubH.cons 0 rfl (SubH.cons 0 rfl (SubH.cons 0 rfl (SubH.nil _))))))
    · rintro Δ LL ⟨p1, c1, l1, ⟨e1, n1⟩, rfl, rfl⟩
      simp only [List.cons_append, List.nil_append]
      refine wp_cutK 1015 (fun Δ LL => ∃ (p2 : Option Addr) (c2 : Nat) (l2 : List UInt8), (l2 = l1 ++ opt a.to (txB c.to) ∧ l2.length ≤ 525) ∧ Δ = [] ∧ LL = [own b3 (.cells (c.cs dp dn).toArray 56 (0, 0)), own b6 (.cells (a.cs).toArray 107 (0, 0)), own pw (.cells [Value.slice p2 l2.length c2].toArray 137 (0, 0)), row 5 1 (.slice p2 l2.length c2) l2.length (cel l2), V]) (Has.cons (k := 3) rfl (Has.cons (k := 6) rfl (Has.cons (k := 8) rfl (Has.nil _)))) ?_ ?_
      · refine wp_seq' ?_
        refine wp_region' ?_
        refine ops_ro' rfl (ro_fieldAddr fa107_1 rfl) rfl ?_
        refine ops_ro' rfl (ro_load sc4 rfl (Rd.pick 1 rfl (Rd.own rfl))) rfl ?_
        refine ops_nil ?_
        refine Then_normal ?_
        refine wp_cond' rfl (fun hc81 => ?_) (fun hc81 => ?_)
        · skip
          have hb1 := hz.2.2.2.1 (by assumption)
          refine wp_region' ?_
          refine ops_ro' rfl (ro_move rfl) rfl ?_
          refine ops_ro' rfl (ro_fieldAddr fa56_2 rfl) rfl ?_
          refine ops_ro' rfl (ro_load sc9 rfl (Rd.pick 0 rfl (Rd.own rfl))) rfl ?_
          refine ops_eff' rfl (eff_call Try.call51 rfl rfl (by repeat (first | exact Split.nil _ | apply Split.cons 0 rfl | apply Split.cons 1 rfl | apply Split.cons 2 rfl | apply Split.cons 3 rfl | apply Split.cons 4 rfl | apply Split.cons 5 rfl | apply Split.cons 6 rfl | apply Split.cons 7 rfl | apply Split.cons 8 rfl | apply Split.cons 9 rfl | apply Split.cons 10 rfl | apply Split.cons 11 rfl)) (text_at pw p1 c1 l1 c.to (by omega))) rfl ?_
          rintro _ H' ⟨_, ⟨p85, c85, rfl, rfl⟩, hH⟩
          simp only [List.cons_append, List.nil_append, List.eraseIdx_cons_zero, List.eraseIdx_cons_succ, List.set_cons_zero, List.set_cons_succ] at hH
          subst hH
          obtain ⟨z85, hz85⟩ : ∃ z, z = l1 ++ be c.to.length 4 ++ c.to := ⟨_, rfl⟩
          rw [← hz85]
          have hzl85 : z85.length ≤ l1.length + 260 := by rw [hz85]; simp only [List.length_append, be_length]; omega
          refine ops_nil ?_
          refine Then_normal ?_
          refine over_cut (kept ⟨p85, c85, z85, ⟨by rw [opt_t (by assumption), hz85]; simp only [txB, List.append_assoc], by omega⟩, rfl, rfl⟩ ?_ ?_ ?_)
          · exact (by repeat (first | exact Has.nil _ | refine Has.cons rfl ?_))
          · exact (by repeat (first | exact Has.nil _ | refine Has.cons rfl ?_))
          · exact (SubH.cons 2 rfl (SubH.cons 2 rfl (SubH.cons 0 rfl (SubH.cons 0 rfl (SubH.cons 0 rfl (SubH.nil _))))))
        · skip
          refine wp_skip' ?_
          refine Then_normal ?_
          refine over_cut (kept ⟨p1, c1, l1, ⟨by rw [opt_f (by simp_all), List.append_nil], by omega⟩, rfl, rfl⟩ ?_ ?_ ?_)
          · exact (by repeat (first | exact Has.nil _ | refine Has.cons rfl ?_))
          · exact (by repeat (first | exact Has.nil _ | refine Has.cons rfl ?_))
          · exact SubH.refl _
      · rintro Δ LL ⟨p2, c2, l2, ⟨e2, n2⟩, rfl, rfl⟩
        simp only [List.cons_append, List.nil_append]
        refine wp_cutK 1017 (fun Δ LL => ∃ (p3 : Option Addr) (c3 : Nat) (l3 : List UInt8), (l3 = l2 ++ opt a.ha (txB c.ha) ∧ l3.length ≤ 785) ∧ Δ = [] ∧ LL = [own b3 (.cells (c.cs dp dn).toArray 56 (0, 0)), own b6 (.cells (a.cs).toArray 107 (0, 0)), own pw (.cells [Value.slice p3 l3.length c3].toArray 137 (0, 0)), row 5 1 (.slice p3 l3.length c3) l3.length (cel l3), V]) (Has.cons (k := 3) rfl (Has.cons (k := 6) rfl (Has.cons (k := 8) rfl (Has.nil _)))) ?_ ?_
        · refine wp_seq' ?_
          refine wp_region' ?_
          refine ops_ro' rfl (ro_fieldAddr fa107_2 rfl) rfl ?_
          refine ops_ro' rfl (ro_load sc4 rfl (Rd.pick 1 rfl (Rd.own rfl))) rfl ?_
          refine ops_nil ?_
          refine Then_normal ?_
          refine wp_cond' rfl (fun hc87 => ?_) (fun hc87 => ?_)
          · skip
            have hb2 := hz.2.2.2.2.1 (by assumption)
            refine wp_region' ?_
            refine ops_ro' rfl (ro_move rfl) rfl ?_
            refine ops_ro' rfl (ro_fieldAddr fa56_3 rfl) rfl ?_
            refine ops_ro' rfl (ro_load sc9 rfl (Rd.pick 0 rfl (Rd.own rfl))) rfl ?_
            refine ops_eff' rfl (eff_call Try.call51 rfl rfl (by repeat (first | exact Split.nil _ | apply Split.cons 0 rfl | apply Split.cons 1 rfl | apply Split.cons 2 rfl | apply Split.cons 3 rfl | apply Split.cons 4 rfl | apply Split.cons 5 rfl | apply Split.cons 6 rfl | apply Split.cons 7 rfl | apply Split.cons 8 rfl | apply Split.cons 9 rfl | apply Split.cons 10 rfl | apply Split.cons 11 rfl)) (text_at pw p2 c2 l2 c.ha (by omega))) rfl ?_
            rintro _ H' ⟨_, ⟨p91, c91, rfl, rfl⟩, hH⟩
            simp only [List.cons_append, List.nil_append, List.eraseIdx_cons_zero, List.eraseIdx_cons_succ, List.set_cons_zero, List.set_cons_succ] at hH
            subst hH
            obtain ⟨z91, hz91⟩ : ∃ z, z = l2 ++ be c.ha.length 4 ++ c.ha := ⟨_, rfl⟩
            rw [← hz91]
            have hzl91 : z91.length ≤ l2.length + 260 := by rw [hz91]; simp only [List.length_append, be_length]; omega
            refine ops_nil ?_
            refine Then_normal ?_
            refine over_cut (kept ⟨p91, c91, z91, ⟨by rw [opt_t (by assumption), hz91]; simp only [txB, List.append_assoc], by omega⟩, rfl, rfl⟩ ?_ ?_ ?_)
            · exact (by repeat (first | exact Has.nil _ | refine Has.cons rfl ?_))
            · exact (by repeat (first | exact Has.nil _ | refine Has.cons rfl ?_))
            · exact (SubH.cons 2 rfl (SubH.cons 2 rfl (SubH.cons 0 rfl (SubH.cons 0 rfl (SubH.cons 0 rfl (SubH.nil _))))))
          · skip
            refine wp_skip' ?_
            refine Then_normal ?_
            refine over_cut (kept ⟨p2, c2, l2, ⟨by rw [opt_f (by simp_all), List.append_nil], by omega⟩, rfl, rfl⟩ ?_ ?_ ?_)
            · exact (by repeat (first | exact Has.nil _ | refine Has.cons rfl ?_))
            · exact (by repeat (first | exact Has.nil _ | refine Has.cons rfl ?_))
            · exact SubH.refl _
        · rintro Δ LL ⟨p3, c3, l3, ⟨e3, n3⟩, rfl, rfl⟩
          simp only [List.cons_append, List.nil_append]
          refine wp_cutK 1019 (fun Δ LL => ∃ (p4 : Option Addr) (c4 : Nat) (l4 : List UInt8), (l4 = l3 ++ opt a.off (be c.off 8) ∧ l4.length ≤ 793) ∧ Δ = [] ∧ LL = [own b3 (.cells (c.cs dp dn).toArray 56 (0, 0)), own b6 (.cells (a.cs).toArray 107 (0, 0)), own pw (.cells [Value.slice p4 l4.length c4].toArray 137 (0, 0)), row 5 1 (.slice p4 l4.length c4) l4.length (cel l4), V]) (Has.cons (k := 3) rfl (Has.cons (k := 6) rfl (Has.cons (k := 8) rfl (Has.nil _)))) ?_ ?_
          · refine wp_seq' ?_
            refine wp_region' ?_
            refine ops_ro' rfl (ro_fieldAddr fa107_3 rfl) rfl ?_
            refine ops_ro' rfl (ro_load sc4 rfl (Rd.pick 1 rfl (Rd.own rfl))) rfl ?_
            refine ops_nil ?_
            refine Then_normal ?_
            refine wp_cond' rfl (fun hc93 => ?_) (fun hc93 => ?_)
            · skip
              refine wp_region' ?_
              refine ops_ro' rfl (ro_move rfl) rfl ?_
              refine ops_ro' rfl (ro_fieldAddr fa56_4 rfl) rfl ?_
              refine ops_ro' rfl (ro_load sc52 rfl (Rd.pick 0 rfl (Rd.own rfl))) rfl ?_
              refine ops_eff' rfl (eff_call Try.call67 rfl rfl (by repeat (first | exact Split.nil _ | apply Split.cons 0 rfl | apply Split.cons 1 rfl | apply Split.cons 2 rfl | apply Split.cons 3 rfl | apply Split.cons 4 rfl | apply Split.cons 5 rfl | apply Split.cons 6 rfl | apply Split.cons 7 rfl | apply Split.cons 8 rfl | apply Split.cons 9 rfl | apply Split.cons 10 rfl | apply Split.cons 11 rfl)) (u64_at pw p3 c3 l3 c.off _ rfl (by omega))) rfl ?_
              rintro _ H' ⟨_, ⟨p97, c97, rfl, rfl⟩, hH⟩
              simp only [List.cons_append, List.nil_append, List.eraseIdx_cons_zero, List.eraseIdx_cons_succ, List.set_cons_zero, List.set_cons_succ] at hH
              subst hH
              obtain ⟨z97, hz97⟩ : ∃ z, z = l3 ++ be c.off 8 := ⟨_, rfl⟩
              rw [← hz97]
              have hzl97 : z97.length ≤ l3.length + 8 := by rw [hz97]; simp only [List.length_append, be_length]; omega
              refine ops_nil ?_
              refine Then_normal ?_
              refine over_cut (kept ⟨p97, c97, z97, ⟨by rw [opt_t (by assumption), hz97], by omega⟩, rfl, rfl⟩ ?_ ?_ ?_)
              · exact (by repeat (first | exact Has.nil _ | refine Has.cons rfl ?_))
              · exact (by repeat (first | exact Has.nil _ | refine Has.cons rfl ?_))
              · exact (SubH.cons 2 rfl (SubH.cons 2 rfl (SubH.cons 0 rfl (SubH.cons 0 rfl (SubH.cons 0 rfl (SubH.nil _))))))
            · skip
              refine wp_skip' ?_
              refine Then_normal ?_
              refine over_cut (kept ⟨p3, c3, l3, ⟨by rw [opt_f (by simp_all), List.append_nil], by omega⟩, rfl, rfl⟩ ?_ ?_ ?_)
              · exact (by repeat (first | exact Has.nil _ | refine Has.cons rfl ?_))
              · exact (by repeat (first | exact Has.nil _ | refine Has.cons rfl ?_))
              · exact SubH.refl _
          · rintro Δ LL ⟨p4, c4, l4, ⟨e4, n4⟩, rfl, rfl⟩
            simp only [List.cons_append, List.nil_append]
            refine wp_cutK 1021 (fun Δ LL => ∃ (p5 : Option Addr) (c5 : Nat) (l5 : List UInt8), (l5 = l4 ++ opt a.len (be c.len 4) ∧ l5.length ≤ 797) ∧ Δ = [] ∧ LL = [own b3 (.cells (c.cs dp dn).toArray 56 (0, 0)), own b6 (.cells (a.cs).toArray 107 (0, 0)), own pw (.cells [Value.slice p5 l5.length c5].toArray 137 (0, 0)), row 5 1 (.slice p5 l5.length c5) l5.length (cel l5), V]) (Has.cons (k := 3) rfl (Has.cons (k := 6) rfl (Has.cons (k := 8) rfl (Has.nil _)))) ?_ ?_
            · refine wp_seq' ?_
              refine wp_region' ?_
              refine ops_ro' rfl (ro_fieldAddr fa107_4 rfl) rfl ?_
              refine ops_ro' rfl (ro_load sc4 rfl (Rd.pick 1 rfl (Rd.own rfl))) rfl ?_
              refine ops_nil ?_
              refine Then_normal ?_
              refine wp_cond' rfl (fun hc99 => ?_) (fun hc99 => ?_)
              · skip
                refine wp_region' ?_
                refine ops_ro' rfl (ro_move rfl) rfl ?_
                refine ops_ro' rfl (ro_fieldAddr fa56_5 rfl) rfl ?_
                refine ops_ro' rfl (ro_load sc40 rfl (Rd.pick 0 rfl (Rd.own rfl))) rfl ?_
                refine ops_eff' rfl (eff_call Try.call50 rfl rfl (by repeat (first | exact Split.nil _ | apply Split.cons 0 rfl | apply Split.cons 1 rfl | apply Split.cons 2 rfl | apply Split.cons 3 rfl | apply Split.cons 4 rfl | apply Split.cons 5 rfl | apply Split.cons 6 rfl | apply Split.cons 7 rfl | apply Split.cons 8 rfl | apply Split.cons 9 rfl | apply Split.cons 10 rfl | apply Split.cons 11 rfl)) (u32_at pw p4 c4 l4 c.len _ rfl hk.len (by omega))) rfl ?_
                rintro _ H' ⟨_, ⟨p103, c103, rfl, rfl⟩, hH⟩
                simp only [List.cons_append, List.nil_append, List.eraseIdx_cons_zero, List.eraseIdx_cons_succ, List.set_cons_zero, List.set_cons_succ] at hH
                subst hH
                obtain ⟨z103, hz103⟩ : ∃ z, z = l4 ++ be c.len 4 := ⟨_, rfl⟩
                rw [← hz103]
                have hzl103 : z103.length ≤ l4.length + 4 := by rw [hz103]; simp only [List.length_append, be_length]; omega
                refine ops_nil ?_
                refine Then_normal ?_
                refine over_cut (kept ⟨p103, c103, z103, ⟨by rw [opt_t (by assumption), hz103], by omega⟩, rfl, rfl⟩ ?_ ?_ ?_)
                · exact (by repeat (first | exact Has.nil _ | refine Has.cons rfl ?_))
                · exact (by repeat (first | exact Has.nil _ | refine Has.cons rfl ?_))
                · exact (SubH.cons 2 rfl (SubH.cons 2 rfl (SubH.cons 0 rfl (SubH.cons 0 rfl (SubH.cons 0 rfl (SubH.nil _))))))
              · skip
                refine wp_skip' ?_
                refine Then_normal ?_
                refine over_cut (kept ⟨p4, c4, l4, ⟨by rw [opt_f (by simp_all), List.append_nil], by omega⟩, rfl, rfl⟩ ?_ ?_ ?_)
                · exact (by repeat (first | exact Has.nil _ | refine Has.cons rfl ?_))
                · exact (by repeat (first | exact Has.nil _ | refine Has.cons rfl ?_))
                · exact SubH.refl _
            · rintro Δ LL ⟨p5, c5, l5, ⟨e5, n5⟩, rfl, rfl⟩
              simp only [List.cons_append, List.nil_append]
              refine wp_cutK 1023 (fun Δ LL => ∃ (p6 : Option Addr) (c6 : Nat) (l6 : List UInt8), (l6 = l5 ++ opt a.da (txB c.da) ∧ l6.length ≤ 33569) ∧ Δ = [] ∧ LL = [own b3 (.cells (c.cs dp dn).toArray 56 (0, 0)), own b6 (.cells (a.cs).toArray 107 (0, 0)), own pw (.cells [Value.slice p6 l6.length c6].toArray 137 (0, 0)), row 5 1 (.slice p6 l6.length c6) l6.length (cel l6), V]) (Has.cons (k := 3) rfl (Has.cons (k := 6) rfl (Has.cons (k := 8) rfl (Has.nil _)))) ?_ ?_
              · refine wp_seq' ?_
                refine wp_region' ?_
                refine ops_ro' rfl (ro_fieldAddr fa107_5 rfl) rfl ?_
                refine ops_ro' rfl (ro_load sc4 rfl (Rd.pick 1 rfl (Rd.own rfl))) rfl ?_
                refine ops_nil ?_
                refine Then_normal ?_
                refine wp_cond' rfl (fun hc105 => ?_) (fun hc105 => ?_)
                · skip
                  have hb5 := hz.2.2.2.2.2 (by assumption)
                  refine wp_region' ?_
                  refine ops_ro' rfl (ro_move rfl) rfl ?_
                  refine ops_ro' rfl (ro_fieldAddr fa56_6 rfl) rfl ?_
                  refine ops_ro' rfl (ro_load sc32 rfl (Rd.pick 0 rfl (Rd.own rfl))) rfl ?_
                  refine ops_ro' rfl (ro_toStr Try.underlying32 Try.underlying5 Try.underlying9 rfl (Vw.pick 4 rfl hV) rfl) rfl ?_
                  refine ops_eff' rfl (eff_call Try.call51 rfl rfl (by repeat (first | exact Split.nil _ | apply Split.cons 0 rfl | apply Split.cons 1 rfl | apply Split.cons 2 rfl | apply Split.cons 3 rfl | apply Split.cons 4 rfl | apply Split.cons 5 rfl | apply Split.cons 6 rfl | apply Split.cons 7 rfl | apply Split.cons 8 rfl | apply Split.cons 9 rfl | apply Split.cons 10 rfl | apply Split.cons 11 rfl)) (text_at pw p5 c5 l5 c.da (by omega))) rfl ?_
                  rintro _ H' ⟨_, ⟨p110, c110, rfl, rfl⟩, hH⟩
                  simp only [List.cons_append, List.nil_append, List.eraseIdx_cons_zero, List.eraseIdx_cons_succ, List.set_cons_zero, List.set_cons_succ] at hH
                  subst hH
                  obtain ⟨z110, hz110⟩ : ∃ z, z = l5 ++ be c.da.length 4 ++ c.da := ⟨_, rfl⟩
                  rw [← hz110]
                  have hzl110 : z110.length ≤ l5.length + 32772 := by rw [hz110]; simp only [List.length_append, be_length]; omega
                  refine ops_nil ?_
                  refine Then_normal ?_
                  refine over_cut (kept ⟨p110, c110, z110, ⟨by rw [opt_t (by assumption), hz110]; simp only [txB, List.append_assoc], by omega⟩, rfl, rfl⟩ ?_ ?_ ?_)
                  · exact (by repeat (first | exact Has.nil _ | refine Has.cons rfl ?_))
                  · exact (by repeat (first | exact Has.nil _ | refine Has.cons rfl ?_))
                  · exact (SubH.cons 2 rfl (SubH.cons 2 rfl (SubH.cons 0 rfl (SubH.cons 0 rfl (SubH.cons 0 rfl (SubH.nil _))))))
                · skip
                  refine wp_skip' ?_
                  refine Then_normal ?_
                  refine over_cut (kept ⟨p5, c5, l5, ⟨by rw [opt_f (by simp_all), List.append_nil], by omega⟩, rfl, rfl⟩ ?_ ?_ ?_)
                  · exact (by repeat (first | exact Has.nil _ | refine Has.cons rfl ?_))
                  · exact (by repeat (first | exact Has.nil _ | refine Has.cons rfl ?_))
                  · exact SubH.refl _
              · rintro Δ LL ⟨p6, c6, l6, ⟨e6, n6⟩, rfl, rfl⟩
                simp only [List.cons_append, List.nil_append]
                refine wp_cutK 1025 (fun Δ LL => ∃ (p7 : Option Addr) (c7 : Nat) (l7 : List UInt8), (l7 = l6 ++ opt a.fl (be c.fl 4) ∧ l7.length ≤ 33573) ∧ Δ = [] ∧ LL = [own b3 (.cells (c.cs dp dn).toArray 56 (0, 0)), own b6 (.cells (a.cs).toArray 107 (0, 0)), own pw (.cells [Value.slice p7 l7.length c7].toArray 137 (0, 0)), row 5 1 (.slice p7 l7.length c7) l7.length (cel l7), V]) (Has.cons (k := 3) rfl (Has.cons (k := 6) rfl (Has.cons (k := 8) rfl (Has.nil _)))) ?_ ?_
                · refine wp_seq' ?_
                  refine wp_region' ?_
                  refine ops_ro' rfl (ro_fieldAddr fa107_6 rfl) rfl ?_
                  refine ops_ro' rfl (ro_load sc4 rfl (Rd.pick 1 rfl (Rd.own rfl))) rfl ?_
                  refine ops_nil ?_
                  refine Then_normal ?_
                  refine wp_cond' rfl (fun hc112 => ?_) (fun hc112 => ?_)
                  · skip
                    refine wp_region' ?_
                    refine ops_ro' rfl (ro_move rfl) rfl ?_
                    refine ops_ro' rfl (ro_fieldAddr fa56_7 rfl) rfl ?_
                    refine ops_ro' rfl (ro_load sc40 rfl (Rd.pick 0 rfl (Rd.own rfl))) rfl ?_
                    refine ops_eff' rfl (eff_call Try.call50 rfl rfl (by repeat (first | exact Split.nil _ | apply Split.cons 0 rfl | apply Split.cons 1 rfl | apply Split.cons 2 rfl | apply Split.cons 3 rfl | apply Split.cons 4 rfl | apply Split.cons 5 rfl | apply Split.cons 6 rfl | apply Split.cons 7 rfl | apply Split.cons 8 rfl | apply Split.cons 9 rfl | apply Split.cons 10 rfl | apply Split.cons 11 rfl)) (u32_at pw p6 c6 l6 c.fl _ rfl hk.fl (by omega))) rfl ?_
                    rintro _ H' ⟨_, ⟨p116, c116, rfl, rfl⟩, hH⟩
                    simp only [List.cons_append, List.nil_append, List.eraseIdx_cons_zero, List.eraseIdx_cons_succ, List.set_cons_zero, List.set_cons_succ] at hH
                    subst hH
                    obtain ⟨z116, hz116⟩ : ∃ z, z = l6 ++ be c.fl 4 := ⟨_, rfl⟩
                    rw [← hz116]
                    have hzl116 : z116.length ≤ l6.length + 4 := by rw [hz116]; simp only [List.length_append, be_length]; omega
                    refine ops_nil ?_
                    refine Then_normal ?_
                    refine over_cut (kept ⟨p116, c116, z116, ⟨by rw [opt_t (by assumption), hz116], by omega⟩, rfl, rfl⟩ ?_ ?_ ?_)
                    · exact (by repeat (first | exact Has.nil _ | refine Has.cons rfl ?_))
                    · exact (by repeat (first | exact Has.nil _ | refine Has.cons rfl ?_))
                    · exact (SubH.cons 2 rfl (SubH.cons 2 rfl (SubH.cons 0 rfl (SubH.cons 0 rfl (SubH.cons 0 rfl (SubH.nil _))))))
                  · skip
                    refine wp_skip' ?_
                    refine Then_normal ?_
                    refine over_cut (kept ⟨p6, c6, l6, ⟨by rw [opt_f (by simp_all), List.append_nil], by omega⟩, rfl, rfl⟩ ?_ ?_ ?_)
                    · exact (by repeat (first | exact Has.nil _ | refine Has.cons rfl ?_))
                    · exact (by repeat (first | exact Has.nil _ | refine Has.cons rfl ?_))
                    · exact SubH.refl _
                · rintro Δ LL ⟨p7, c7, l7, ⟨e7, n7⟩, rfl, rfl⟩
                  simp only [List.cons_append, List.nil_append]
                  refine wp_cutK 1027 (fun Δ LL => ∃ (p8 : Option Addr) (c8 : Nat) (l8 : List UInt8), (l8 = l7 ++ opt a.at' (c.at'.enc) ∧ l8.length ≤ 33605) ∧ Δ = [] ∧ LL = [own b3 (.cells (c.cs dp dn).toArray 56 (0, 0)), own b6 (.cells (a.cs).toArray 107 (0, 0)), own pw (.cells [Value.slice p8 l8.length c8].toArray 137 (0, 0)), row 5 1 (.slice p8 l8.length c8) l8.length (cel l8), V]) (Has.cons (k := 8) rfl (Has.nil _)) ?_ ?_
                  · refine wp_seq' ?_
                    refine wp_region' ?_
                    refine ops_ro' rfl (ro_fieldAddr fa107_7 rfl) rfl ?_
                    refine ops_ro' rfl (ro_load sc4 rfl (Rd.pick 1 rfl (Rd.own rfl))) rfl ?_
                    refine ops_nil ?_
                    refine Then_normal ?_
                    refine wp_cond' rfl (fun hc118 => ?_) (fun hc118 => ?_)
                    · skip
                      refine wp_region' ?_
                      refine ops_ro' rfl (ro_move rfl) rfl ?_
                      refine ops_ro' rfl (ro_fieldAddr fa56_8 rfl) rfl ?_
                      refine ops_ro' rfl (ro_loadA ag54 rfl (RdN.of_pick 0 rfl (rdn_sub 7)) rfl) rfl ?_
                      refine ops_eff' rfl (eff_call Try.call68 rfl rfl (by repeat (first | exact Split.nil _ | apply Split.cons 0 rfl | apply Split.cons 1 rfl | apply Split.cons 2 rfl | apply Split.cons 3 rfl | apply Split.cons 4 rfl | apply Split.cons 5 rfl | apply Split.cons 6 rfl | apply Split.cons 7 rfl | apply Split.cons 8 rfl | apply Split.cons 9 rfl | apply Split.cons 10 rfl | apply Split.cons 11 rfl)) (aput_spec pw p7 c7 l7 c.at' hk.at' (by omega))) rfl ?_
                      rintro _ H' ⟨_, ⟨p122, c122, rfl, rfl⟩, hH⟩
                      simp only [List.cons_append, List.nil_append, List.eraseIdx_cons_zero, List.eraseIdx_cons_succ, List.set_cons_zero, List.set_cons_succ] at hH
                      subst hH
                      obtain ⟨z122, hz122⟩ : ∃ z, z = l7 ++ c.at'.enc := ⟨_, rfl⟩
                      rw [← hz122]
                      have hzl122 : z122.length ≤ l7.length + 32 := by rw [hz122]; simp only [List.length_append, be_length]; have h9 := At.enc_le2 c.at'; omega
                      refine ops_nil ?_
                      refine Then_normal ?_
                      refine over_cut (kept ⟨p122, c122, z122, ⟨by rw [opt_t (by assumption), hz122], by omega⟩, rfl, rfl⟩ ?_ ?_ ?_)
                      · exact (by repeat (first | exact Has.nil _ | refine Has.cons rfl ?_))
                      · exact (by repeat (first | exact Has.nil _ | refine Has.cons rfl ?_))
                      · exact (SubH.cons 2 rfl (SubH.cons 2 rfl (SubH.cons 0 rfl (SubH.cons 0 rfl (SubH.cons 0 rfl (SubH.nil _))))))
                    · skip
                      refine wp_skip' ?_
                      refine Then_normal ?_
                      refine over_cut (kept ⟨p7, c7, l7, ⟨by rw [opt_f (by simp_all), List.append_nil], by omega⟩, rfl, rfl⟩ ?_ ?_ ?_)
                      · exact (by repeat (first | exact Has.nil _ | refine Has.cons rfl ?_))
                      · exact (by repeat (first | exact Has.nil _ | refine Has.cons rfl ?_))
                      · exact SubH.refl _
                  · rintro Δ LL ⟨p8, c8, l8, ⟨e8, n8⟩, rfl, rfl⟩
                    simp only [List.cons_append, List.nil_append]
                    refine wp_seq' ?_
                    refine wp_region' ?_
                    refine ops_ro' rfl (ro_move rfl) rfl ?_
                    refine ops_eff' rfl (eff_call Try.call52 rfl rfl (by repeat (first | exact Split.nil _ | apply Split.cons 0 rfl | apply Split.cons 1 rfl | apply Split.cons 2 rfl | apply Split.cons 3 rfl | apply Split.cons 4 rfl | apply Split.cons 5 rfl | apply Split.cons 6 rfl | apply Split.cons 7 rfl | apply Split.cons 8 rfl | apply Split.cons 9 rfl | apply Split.cons 10 rfl | apply Split.cons 11 rfl)) (done_spec pw p8 c8 l8 (by omega))) rfl ?_
                    rintro _ H' ⟨_, ⟨p124, c124, rfl, _, rfl⟩, hH⟩
                    simp only [List.cons_append, List.nil_append, List.eraseIdx_cons_zero, List.eraseIdx_cons_succ, List.set_cons_zero, List.set_cons_succ] at hH
                    subst hH
                    refine ops_ro' rfl (ro_assign rfl) rfl ?_
                    refine ops_ro' rfl (ro_assign rfl) rfl ?_
                    refine ops_nil ?_
                    refine Then_normal ?_
                    refine wp_ret' ?_
                    refine' doneS_ret (res2 rfl rfl rfl) ?_ ?_
                    rotate_left 1
                    have HE : encE (a, ok) c = 0 := hz0
                    have HB : encB (a, ok) id c = l8 := by unfold encB; rw [if_pos HE, e8, e7, e6, e5, e4, e3, e2, e1, hl0]; rfl
                    rw [HE, HB]
                    exact ⟨_, ⟨p124, c124, rfl, rfl⟩, rfl⟩
                    exact (SubH.cons 0 rfl (SubH.cons 4 rfl (SubH.nil _)))

end Go.Proofs.Ytigaolglnnjnmaa
