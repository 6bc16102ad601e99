/-
  The table of package session, as far as replies bear no bytes and no names.
-/
import Derived.Test.YtbiohhfibkolgaaPAttr
import Derived.Test.YtbiohhfibkolgaaSxLock
import Derived.Test.YtbiohhfibkolgaaAttrBack
namespace Go.Proofs.Ytbiohhfibkolgaa
open Go.Sx
set_option linter.unusedVariables false
set_option linter.unusedSimpArgs false
set_option maxRecDepth 100000

structure Rp where
  kind : Int
  status : Int
  h : List UInt8
  at' : At
def Rp.zero : Rp := ⟨0, 0, [], At.zero⟩
def Rp.cs (r : Rp) : List Value := [.int .i64 r.kind, .int .i64 r.status, .string (str r.h), .slice none 0 0, .slice none 0 0, .int .u32 r.at'.f, .int .u64 r.at'.s, .int .u32 r.at'.u, .int .u32 r.at'.g, .int .u32 r.at'.m, .int .u32 r.at'.a, .int .u32 r.at'.t]
structure En where
  seq : Int
  r : Rp
def En.zero : En := ⟨0, Rp.zero⟩
def En.cs (e : En) : List Value := .int .i64 e.seq :: e.r.cs
def tcs (E : List En) : List Value := E.flatMap En.cs
theorem tcs_get : ∀ (E : List En) (i j : Nat) (u : Value) (hi : i < E.length), (E[i].cs)[j]? = some u → (tcs E)[i * 13 + j]? = some u
  | x :: r, 0, j, u, hi, h => by
    have h' : x.cs[j]? = some u := h
    rw [tcs, List.flatMap_cons, Nat.zero_mul, Nat.zero_add, List.getElem?_append_left (List.getElem?_eq_some_iff.1 h').1]; exact h'
  | x :: r, i + 1, j, u, hi, h => by
    have h1 := tcs_get r i j u (by simpa using hi) h
    have e : x.cs.length = 13 := rfl
    rw [tcs, List.flatMap_cons, List.getElem?_append_right (by omega), e, show (i + 1) * 13 + j - 13 = i * 13 + j by omega]; exact h1
theorem tcs_len : ∀ E : List En, (tcs E).length = 13 * E.length
  | [] => rfl
  | x :: r => by
    have h := tcs_len r
    have e : x.cs.length = 13 := rfl
    rw [tcs, List.flatMap_cons, List.length_append, e, List.length_cons]; unfold tcs at h; omega
theorem tcs_set : ∀ (E : List En) (i : Nat) (x : En), i < E.length → over (tcs E) (i * 13) x.cs = tcs (E.set i x)
  | y :: r, 0, x, _ => by
    have e : x.cs.length = 13 := rfl
    have e2 : y.cs.length = 13 := rfl
    have hd : (y.cs ++ r.flatMap En.cs).drop 13 = r.flatMap En.cs := List.drop_left' e2
    simp only [over, tcs, List.flatMap_cons, Nat.zero_mul, Nat.zero_add, List.take_zero, List.nil_append, e, List.set_cons_zero, hd]
  | y :: r, i + 1, x, hi => by
    have h := tcs_set r i x (by simpa using hi)
    have e : x.cs.length = 13 := rfl
    have e2 : y.cs.length = 13 := rfl
    have e3 : (i + 1) * 13 = y.cs.length + i * 13 := by omega
    have e4 : (i + 1) * 13 + x.cs.length = y.cs.length + (i * 13 + x.cs.length) := by omega
    simp only [over, tcs, List.flatMap_cons, List.set_cons_succ] at h ⊢
    rw [e4, e3, List.take_length_add_append, List.drop_length_add_append, List.append_assoc, List.append_assoc, ← h, List.append_assoc]
theorem zero_tab : Zero Try.prog 96 (Value.agg (tcs (List.replicate 16 En.zero)).toArray) := fun w => by
  rw [Try.zeroValue96 w]; rfl


theorem cloneB_nil : Tri Try.prog 54 [.slice none 0 0] [] (fun v H' => v = .slice none 0 0 ∧ H' = []) := by
  refine tri_forget (Ψ := fun v _ => v = .slice none 0 0) ?_ fun v H h => h
  refine tri_of_wp Try.func54 rfl Try.ntmps54 (by simp) ?_
  refine wp_seq' ?_
  refine wp_region' ?_
  refine ops_ro' rfl (ro_assign rfl) rfl ?_
  refine ops_nil ?_
  repeat (first | refine InBlock_normal ?_ | refine NoGoto_normal ?_ | refine Jump_normal ?_)
  refine Then_normal ?_
  refine wp_seq' ?_
  refine wp_seq' ?_
  refine wp_region' ?_
  refine ops_ro' rfl (ro_move rfl) rfl ?_
  refine ops_ro' rfl (ro_sliceEqlNil Try.underlying25 rfl rfl rfl) rfl ?_
  refine ops_nil ?_
  repeat (first | refine InBlock_normal ?_ | refine NoGoto_normal ?_ | refine Jump_normal ?_)
  refine Then_normal ?_
  refine wp_condT rfl ?_
  refine wp_seq' ?_
  refine wp_region' ?_
  refine ops_ro' rfl (ro_assign rfl) rfl ?_
  refine ops_nil ?_
  repeat (first | refine InBlock_normal ?_ | refine NoGoto_normal ?_ | refine Jump_normal ?_)
  refine Then_normal ?_
  refine wp_ret' ?_
  repeat (first | refine Then_ret ?_ | refine InBlock_ret ?_ | refine NoGoto_ret ?_ | refine Jump_ret ?_)
  refine done_ret (res1 rfl rfl) ?_
  rfl
theorem cloneN_nil : Tri Try.prog 78 [.slice none 0 0] [] (fun v H' => v = .slice none 0 0 ∧ H' = []) := by
  refine tri_forget (Ψ := fun v _ => v = .slice none 0 0) ?_ fun v H h => h
  refine tri_of_wp Try.func78 rfl Try.ntmps78 (by simp) ?_
  refine wp_seq' ?_
  refine wp_region' ?_
  refine ops_ro' rfl (ro_assign rfl) rfl ?_
  refine ops_nil ?_
  repeat (first | refine InBlock_normal ?_ | refine NoGoto_normal ?_ | refine Jump_normal ?_)
  refine Then_normal ?_
  refine wp_seq' ?_
  refine wp_seq' ?_
  refine wp_region' ?_
  refine ops_ro' rfl (ro_move rfl) rfl ?_
  refine ops_ro' rfl (ro_sliceEqlNil Try.underlying26 rfl rfl rfl) rfl ?_
  refine ops_nil ?_
  repeat (first | refine InBlock_normal ?_ | refine NoGoto_normal ?_ | refine Jump_normal ?_)
  refine Then_normal ?_
  refine wp_condT rfl ?_
  refine wp_seq' ?_
  refine wp_region' ?_
  refine ops_ro' rfl (ro_assign rfl) rfl ?_
  refine ops_nil ?_
  repeat (first | refine InBlock_normal ?_ | refine NoGoto_normal ?_ | refine Jump_normal ?_)
  refine Then_normal ?_
  refine wp_ret' ?_
  repeat (first | refine Then_ret ?_ | refine InBlock_ret ?_ | refine NoGoto_ret ?_ | refine Jump_ret ?_)
  refine done_ret (res1 rfl rfl) ?_
  rfl
abbrev Rp.v (r : Rp) : Value := .agg r.cs.toArray
theorem copied_nil (r : Rp) : Tri Try.prog 50 [r.v] [] (fun v H' => v = r.v ∧ H' = []) := by
  refine tri_forget (Ψ := fun v _ => v = r.v) ?_ fun v H h => h
  refine tri_of_wp Try.func50 rfl Try.ntmps50 (by simp) ?_
  refine wp_seq' ?_
  refine wp_region' ?_
  refine ops_eff' rfl (eff_box rfl) rfl ?_
  rintro _ _ ⟨b1, rfl, rfl⟩
  refine ops_eff' rfl (eff_alloc z32) rfl ?_
  rintro _ _ ⟨b2, rfl, rfl⟩
  refine ops_nil ?_
  repeat (first | refine InBlock_normal ?_ | refine NoGoto_normal ?_ | refine Jump_normal ?_)
  refine Then_normal ?_
  refine wp_seq' ?_
  refine wp_draw 7 (by kernel_rfl) (Split.cons 1 rfl (Split.nil _)) ?_
  refine any_ro' (i := 0) (by kernel_rfl) rfl rfl (ro_fieldAddr fa32_3 rfl) rfl (fun _ _ _ h => h) ?_
  refine any_ro' (i := 1) (by kernel_rfl) rfl rfl (ro_load sc25 rfl (by first | exact Rd.pick 0 rfl (by first | exact Rd.own rfl | exact Rd.row rfl) | exact Rd.pick 1 rfl (by first | exact Rd.own rfl | exact Rd.row rfl) | exact Rd.pick 2 rfl (by first | exact Rd.own rfl | exact Rd.row rfl) | exact Rd.pick 3 rfl (by first | exact Rd.own rfl | exact Rd.row rfl) | exact Rd.pick 4 rfl (by first | exact Rd.own rfl | exact Rd.row rfl) | exact Rd.pick 5 rfl (by first | exact Rd.own rfl | exact Rd.row rfl) | exact Rd.pick 6 rfl (by first | exact Rd.own rfl | exact Rd.row rfl) | exact Rd.pick 7 rfl (by first | exact Rd.own rfl | exact Rd.row rfl))) rfl (fun _ _ _ h => h) ?_
  refine any_ro' (i := 3) (by kernel_rfl) rfl rfl (ro_fieldAddr fa32_4 rfl) rfl (fun _ _ _ h => h) ?_
  refine any_ro' (i := 4) (by kernel_rfl) rfl rfl (ro_load sc26 rfl (by first | exact Rd.pick 0 rfl (by first | exact Rd.own rfl | exact Rd.row rfl) | exact Rd.pick 1 rfl (by first | exact Rd.own rfl | exact Rd.row rfl) | exact Rd.pick 2 rfl (by first | exact Rd.own rfl | exact Rd.row rfl) | exact Rd.pick 3 rfl (by first | exact Rd.own rfl | exact Rd.row rfl) | exact Rd.pick 4 rfl (by first | exact Rd.own rfl | exact Rd.row rfl) | exact Rd.pick 5 rfl (by first | exact Rd.own rfl | exact Rd.row rfl) | exact Rd.pick 6 rfl (by first | exact Rd.own rfl | exact Rd.row rfl) | exact Rd.pick 7 rfl (by first | exact Rd.own rfl | exact Rd.row rfl))) rfl (fun _ _ _ h => h) ?_
  refine any_eff' (i := 2) (by kernel_rfl) rfl rfl (eff_call Try.call54 rfl rfl (Split.nil _) (cloneB_nil)) rfl ?_
  rintro _ H' ⟨_, ⟨rfl, rfl⟩, hH⟩
  simp only [List.cons_append, List.nil_append, List.eraseIdx_cons_zero, List.eraseIdx_cons_succ, List.set_cons_zero, List.set_cons_succ] at hH
  subst hH
  refine any_ro' (i := 6) (by kernel_rfl) rfl rfl (ro_fieldAddr fa32_3 rfl) rfl (fun _ _ _ h => h) ?_
  refine any_eff' (i := 5) (by kernel_rfl) rfl rfl (eff_call Try.call78 rfl rfl (Split.nil _) (cloneN_nil)) rfl ?_
  rintro _ H' ⟨_, ⟨rfl, rfl⟩, hH⟩
  simp only [List.cons_append, List.nil_append, List.eraseIdx_cons_zero, List.eraseIdx_cons_succ, List.set_cons_zero, List.set_cons_succ] at hH
  subst hH
  refine any_unlock (m' := 10) (L' := []) (by kernel_rfl) unlock ?_
  refine any_eff0 (i := 7) (by kernel_rfl) rfl rfl ((by first | exact eff_store 0 sc25 rfl rfl rfl rfl (Nat.le_of_ble_eq_true rfl) (warm_zero _) | exact eff_store 1 sc25 rfl rfl rfl rfl (Nat.le_of_ble_eq_true rfl) (warm_zero _) | exact eff_store 2 sc25 rfl rfl rfl rfl (Nat.le_of_ble_eq_true rfl) (warm_zero _) | exact eff_store 3 sc25 rfl rfl rfl rfl (Nat.le_of_ble_eq_true rfl) (warm_zero _) | exact eff_store 4 sc25 rfl rfl rfl rfl (Nat.le_of_ble_eq_true rfl) (warm_zero _) | exact eff_store 5 sc25 rfl rfl rfl rfl (Nat.le_of_ble_eq_true rfl) (warm_zero _) | exact eff_store 6 sc25 rfl rfl rfl rfl (Nat.le_of_ble_eq_true rfl) (warm_zero _) | exact eff_store 7 sc25 rfl rfl rfl rfl (Nat.le_of_ble_eq_true rfl) (warm_zero _))) rfl ?_
  rintro _ _ rfl
  refine any_ro' (i := 8) (by kernel_rfl) rfl rfl (ro_fieldAddr fa32_4 rfl) rfl (fun _ _ _ h => h) ?_
  refine any_eff0 (i := 9) (by kernel_rfl) rfl rfl ((by first | exact eff_store 0 sc26 rfl rfl rfl rfl (Nat.le_of_ble_eq_true rfl) (warm_zero _) | exact eff_store 1 sc26 rfl rfl rfl rfl (Nat.le_of_ble_eq_true rfl) (warm_zero _) | exact eff_store 2 sc26 rfl rfl rfl rfl (Nat.le_of_ble_eq_true rfl) (warm_zero _) | exact eff_store 3 sc26 rfl rfl rfl rfl (Nat.le_of_ble_eq_true rfl) (warm_zero _) | exact eff_store 4 sc26 rfl rfl rfl rfl (Nat.le_of_ble_eq_true rfl) (warm_zero _) | exact eff_store 5 sc26 rfl rfl rfl rfl (Nat.le_of_ble_eq_true rfl) (warm_zero _) | exact eff_store 6 sc26 rfl rfl rfl rfl (Nat.le_of_ble_eq_true rfl) (warm_zero _) | exact eff_store 7 sc26 rfl rfl rfl rfl (Nat.le_of_ble_eq_true rfl) (warm_zero _))) rfl ?_
  rintro _ _ rfl
  refine any_doneH (by kernel_rfl) ?_
  repeat (first | refine InBlock_normal ?_ | refine NoGoto_normal ?_ | refine Jump_normal ?_)
  refine Then_normal ?_
  refine wp_seq' ?_
  refine wp_region' ?_
  refine ops_ro' rfl (ro_loadA ag32 rfl (by first | exact RdN.of_pick 0 rfl rdn_all | exact RdN.of_pick 1 rfl rdn_all | exact RdN.of_pick 2 rfl rdn_all | exact RdN.of_pick 3 rfl rdn_all | exact RdN.of_pick 4 rfl rdn_all | exact RdN.of_pick 5 rfl rdn_all | exact RdN.of_pick 6 rfl rdn_all | exact RdN.of_pick 7 rfl rdn_all) rfl) rfl ?_
  refine ops_eff0 rfl ((by first | exact eff_storeA 0 ag32 rfl rfl rfl rfl rfl (Nat.le_of_ble_eq_true rfl) (warm_zero _) | exact eff_storeA 1 ag32 rfl rfl rfl rfl rfl (Nat.le_of_ble_eq_true rfl) (warm_zero _) | exact eff_storeA 2 ag32 rfl rfl rfl rfl rfl (Nat.le_of_ble_eq_true rfl) (warm_zero _) | exact eff_storeA 3 ag32 rfl rfl rfl rfl rfl (Nat.le_of_ble_eq_true rfl) (warm_zero _) | exact eff_storeA 4 ag32 rfl rfl rfl rfl rfl (Nat.le_of_ble_eq_true rfl) (warm_zero _) | exact eff_storeA 5 ag32 rfl rfl rfl rfl rfl (Nat.le_of_ble_eq_true rfl) (warm_zero _) | exact eff_storeA 6 ag32 rfl rfl rfl rfl rfl (Nat.le_of_ble_eq_true rfl) (warm_zero _) | exact eff_storeA 7 ag32 rfl rfl rfl rfl rfl (Nat.le_of_ble_eq_true rfl) (warm_zero _))) rfl ?_
  rintro _ _ rfl
  refine ops_nil ?_
  repeat (first | refine InBlock_normal ?_ | refine NoGoto_normal ?_ | refine Jump_normal ?_)
  refine Then_normal ?_
  refine wp_ret' ?_
  repeat (first | refine Then_ret ?_ | refine InBlock_ret ?_ | refine NoGoto_ret ?_ | refine Jump_ret ?_)
  refine done_ret (resv1 rfl (rv_cellA ag32 rfl (by first | exact RdN.of_pick 0 rfl rdn_all | exact RdN.of_pick 1 rfl rdn_all | exact RdN.of_pick 2 rfl rdn_all | exact RdN.of_pick 3 rfl rdn_all | exact RdN.of_pick 4 rfl rdn_all | exact RdN.of_pick 5 rfl rdn_all | exact RdN.of_pick 6 rfl rdn_all | exact RdN.of_pick 7 rfl rdn_all) rfl)) ?_
  rfl
theorem st_tab : StructT Try.prog 96 (tcs (List.replicate 16 En.zero)) [(0, 208)] := ⟨zero_tab, ⟨_, Try.underlying96, fun w => by simp [Try.sizeOf94]⟩⟩
abbrev tab (bt : Nat) (E : List En) : HProp := own bt (.cells (tcs E).toArray 96 (0, 0))
theorem new_spec : Tri Try.prog 14 [] [] (fun v H' => ∃ bt, v = .pointer (some ⟨bt, 0, none⟩) ∧ H' = [tab bt (List.replicate 16 En.zero)]) := by
  refine tri_of_wp Try.func14 rfl Try.ntmps14 (by simp) ?_
  refine wp_seq' ?_
  refine wp_region' ?_
  refine ops_ro' rfl (ro_assign rfl) rfl ?_
  refine ops_nil ?_
  repeat (first | refine InBlock_normal ?_ | refine NoGoto_normal ?_ | refine Jump_normal ?_)
  refine Then_normal ?_
  refine wp_seq' ?_
  refine wp_region' ?_
  refine ops_ro' rfl (ro_build rfl (bld_struct (cs := tcs (List.replicate 16 En.zero)) st_tab rfl)) rfl ?_
  refine ops_eff' rfl (eff_box rfl) rfl ?_
  rintro _ _ ⟨b2, rfl, rfl⟩
  refine ops_ro' rfl (ro_assign rfl) rfl ?_
  refine ops_nil ?_
  repeat (first | refine InBlock_normal ?_ | refine NoGoto_normal ?_ | refine Jump_normal ?_)
  refine Then_normal ?_
  refine wp_ret' ?_
  repeat (first | refine Then_ret ?_ | refine InBlock_ret ?_ | refine NoGoto_ret ?_ | refine Jump_ret ?_)
  refine done_ret (res1 rfl rfl) ?_
  exact ⟨b2, rfl, rfl⟩
theorem tab_reply {bt c : Nat} {E : List En} (hc : c < E.length) : RdN (tab bt E) bt (0 + c * 13 + 1) E[c].r.cs := fun j u hj => by
  have h := tcs_get E c (1 + j) u hc (by rw [Nat.add_comm]; exact hj)
  exact Rd.own (by rw [show 0 + c * 13 + 1 + j = c * 13 + (1 + j) by omega]; exact h)
theorem ask_fresh_run (bt c : Nat) (E : List En) (hE : E.length = 16) (hc : c < E.length) (seq : Int) (h1 : 1 ≤ seq) (h2 : seq ≤ 1073741824) (hs : E[c].seq < seq) :
    Tri Try.prog 15 [.pointer (some ⟨bt, 0, none⟩), .int .i64 c, .int .i64 seq] [tab bt E] (fun v H' => v = .tuple #[.int .i64 1, Rp.zero.v] ∧ ∃ X, H' = [X, tab bt E]) := by
  refine tri_of_wp Try.func15 rfl Try.ntmps15 (by simp) ?_
  refine wp_seq' ?_
  refine wp_region' ?_
  refine ops_ro' rfl (ro_assign rfl) rfl ?_
  refine ops_eff' rfl (eff_alloc z32) rfl ?_
  rintro _ _ ⟨b7, rfl, rfl⟩
  refine ops_nil ?_
  repeat (first | refine InBlock_normal ?_ | refine NoGoto_normal ?_ | refine Jump_normal ?_)
  refine Then_normal ?_
  refine wp_seq' ?_
  refine wp_block' ?_
  refine wp_seq' ?_
  refine wp_region' ?_
  refine ops_ro' rfl (ro_move rfl) rfl ?_
  refine ops_ro' rfl (ro_lss rfl rfl (decide_eq_false (by omega))) rfl ?_
  refine ops_ro' rfl (ro_move rfl) rfl ?_
  refine ops_ro' rfl (ro_move rfl) rfl ?_
  refine ops_ro' rfl (ro_geq rfl rfl (decide_eq_false (by omega))) rfl ?_
  refine ops_ro' rfl (ro_pick rfl rfl) rfl ?_
  refine ops_ro' rfl (ro_move rfl) rfl ?_
  refine ops_ro' rfl (ro_move rfl) rfl ?_
  refine ops_ro' rfl (ro_lss rfl rfl (decide_eq_false (by omega))) rfl ?_
  refine ops_ro' rfl (ro_pick rfl rfl) rfl ?_
  refine ops_ro' rfl (ro_move rfl) rfl ?_
  refine ops_ro' rfl (ro_move rfl) rfl ?_
  refine ops_ro' rfl (ro_gtr rfl rfl (decide_eq_false (by omega))) rfl ?_
  refine ops_ro' rfl (ro_pick rfl rfl) rfl ?_
  refine ops_ro' rfl (ro_assign rfl) rfl ?_
  refine ops_nil ?_
  repeat (first | refine InBlock_normal ?_ | refine NoGoto_normal ?_ | refine Jump_normal ?_)
  refine Then_normal ?_
  refine wp_condF rfl ?_
  refine wp_seq' ?_
  refine wp_region' ?_
  refine ops_ro' rfl (ro_move rfl) rfl ?_
  refine ops_ro' rfl (ro_move rfl) rfl ?_
  refine ops_ro' rfl (ro_move rfl) rfl ?_
  refine ops_ro' rfl (ro_nilCheck rfl) rfl ?_
  refine ops_ro' rfl (ro_fieldAddr fa96_0 rfl) rfl ?_
  refine ops_ro' rfl (ro_indexArr Try.underlying94 (fun w => Try.sizeOf93 w) rfl rfl rfl (by omega)) rfl ?_
  refine ops_ro' rfl (ro_fieldAddr fa93_0 rfl) rfl ?_
  refine ops_ro' rfl (ro_load sc3 rfl (Rd.pick 1 rfl (Rd.own (by have h := tcs_get E c 0 _ hc rfl; simpa using h)))) rfl ?_
  refine ops_ro' rfl (ro_gtr rfl rfl (decide_eq_true (by omega))) rfl ?_
  refine ops_ro' rfl (ro_assign rfl) rfl ?_
  refine ops_nil ?_
  repeat (first | refine InBlock_normal ?_ | refine NoGoto_normal ?_ | refine Jump_normal ?_)
  refine Then_normal ?_
  refine wp_condT rfl ?_
  refine wp_seq' ?_
  refine wp_region' ?_
  refine ops_ro' rfl (ro_build rfl (bld_struct (cs := Rp.zero.cs) st32 rfl)) rfl ?_
  refine ops_ro' rfl (ro_assign rfl) rfl ?_
  refine ops_eff0 rfl ((by first | exact eff_storeA 0 ag32 rfl rfl rfl rfl rfl (Nat.le_of_ble_eq_true rfl) (warm_zero _) | exact eff_storeA 1 ag32 rfl rfl rfl rfl rfl (Nat.le_of_ble_eq_true rfl) (warm_zero _) | exact eff_storeA 2 ag32 rfl rfl rfl rfl rfl (Nat.le_of_ble_eq_true rfl) (warm_zero _) | exact eff_storeA 3 ag32 rfl rfl rfl rfl rfl (Nat.le_of_ble_eq_true rfl) (warm_zero _) | exact eff_storeA 4 ag32 rfl rfl rfl rfl rfl (Nat.le_of_ble_eq_true rfl) (warm_zero _) | exact eff_storeA 5 ag32 rfl rfl rfl rfl rfl (Nat.le_of_ble_eq_true rfl) (warm_zero _) | exact eff_storeA 6 ag32 rfl rfl rfl rfl rfl (Nat.le_of_ble_eq_true rfl) (warm_zero _) | exact eff_storeA 7 ag32 rfl rfl rfl rfl rfl (Nat.le_of_ble_eq_true rfl) (warm_zero _))) rfl ?_
  rintro _ _ rfl
  refine ops_nil ?_
  repeat (first | refine InBlock_normal ?_ | refine NoGoto_normal ?_ | refine Jump_normal ?_)
  refine Then_normal ?_
  refine wp_ret' ?_
  repeat (first | refine Then_ret ?_ | refine InBlock_ret ?_ | refine NoGoto_ret ?_ | refine Jump_ret ?_)
  refine done_ret (resv2 rfl (rv_tmp rfl) (rv_cellA ag32 rfl (by first | exact RdN.of_pick 0 rfl rdn_all | exact RdN.of_pick 1 rfl rdn_all | exact RdN.of_pick 2 rfl rdn_all | exact RdN.of_pick 3 rfl rdn_all | exact RdN.of_pick 4 rfl rdn_all | exact RdN.of_pick 5 rfl rdn_all | exact RdN.of_pick 6 rfl rdn_all | exact RdN.of_pick 7 rfl rdn_all) rfl)) ?_
  exact ⟨rfl, _, rfl⟩
theorem ask_again_run (bt c : Nat) (E : List En) (hE : E.length = 16) (hc : c < E.length) (seq : Int) (h1 : 1 ≤ seq) (h2 : seq ≤ 1073741824) (hs : seq = E[c].seq) :
    Tri Try.prog 15 [.pointer (some ⟨bt, 0, none⟩), .int .i64 c, .int .i64 seq] [tab bt E] (fun v H' => v = .tuple #[.int .i64 2, E[c].r.v] ∧ ∃ X, H' = [X, tab bt E]) := by
  refine tri_of_wp Try.func15 rfl Try.ntmps15 (by simp) ?_
  refine wp_seq' ?_
  refine wp_region' ?_
  refine ops_ro' rfl (ro_assign rfl) rfl ?_
  refine ops_eff' rfl (eff_alloc z32) rfl ?_
  rintro _ _ ⟨b7, rfl, rfl⟩
  refine ops_nil ?_
  repeat (first | refine InBlock_normal ?_ | refine NoGoto_normal ?_ | refine Jump_normal ?_)
  refine Then_normal ?_
  refine wp_seq' ?_
  refine wp_block' ?_
  refine wp_seq' ?_
  refine wp_region' ?_
  refine ops_ro' rfl (ro_move rfl) rfl ?_
  refine ops_ro' rfl (ro_lss rfl rfl (decide_eq_false (by omega))) rfl ?_
  refine ops_ro' rfl (ro_move rfl) rfl ?_
  refine ops_ro' rfl (ro_move rfl) rfl ?_
  refine ops_ro' rfl (ro_geq rfl rfl (decide_eq_false (by omega))) rfl ?_
  refine ops_ro' rfl (ro_pick rfl rfl) rfl ?_
  refine ops_ro' rfl (ro_move rfl) rfl ?_
  refine ops_ro' rfl (ro_move rfl) rfl ?_
  refine ops_ro' rfl (ro_lss rfl rfl (decide_eq_false (by omega))) rfl ?_
  refine ops_ro' rfl (ro_pick rfl rfl) rfl ?_
  refine ops_ro' rfl (ro_move rfl) rfl ?_
  refine ops_ro' rfl (ro_move rfl) rfl ?_
  refine ops_ro' rfl (ro_gtr rfl rfl (decide_eq_false (by omega))) rfl ?_
  refine ops_ro' rfl (ro_pick rfl rfl) rfl ?_
  refine ops_ro' rfl (ro_assign rfl) rfl ?_
  refine ops_nil ?_
  repeat (first | refine InBlock_normal ?_ | refine NoGoto_normal ?_ | refine Jump_normal ?_)
  refine Then_normal ?_
  refine wp_condF rfl ?_
  refine wp_seq' ?_
  refine wp_region' ?_
  refine ops_ro' rfl (ro_move rfl) rfl ?_
  refine ops_ro' rfl (ro_move rfl) rfl ?_
  refine ops_ro' rfl (ro_move rfl) rfl ?_
  refine ops_ro' rfl (ro_nilCheck rfl) rfl ?_
  refine ops_ro' rfl (ro_fieldAddr fa96_0 rfl) rfl ?_
  refine ops_ro' rfl (ro_indexArr Try.underlying94 (fun w => Try.sizeOf93 w) rfl rfl rfl (by omega)) rfl ?_
  refine ops_ro' rfl (ro_fieldAddr fa93_0 rfl) rfl ?_
  refine ops_ro' rfl (ro_load sc3 rfl (Rd.pick 1 rfl (Rd.own (by have h := tcs_get E c 0 _ hc rfl; simpa using h)))) rfl ?_
  refine ops_ro' rfl (ro_gtr rfl rfl (decide_eq_false (by omega))) rfl ?_
  refine ops_ro' rfl (ro_assign rfl) rfl ?_
  refine ops_nil ?_
  repeat (first | refine InBlock_normal ?_ | refine NoGoto_normal ?_ | refine Jump_normal ?_)
  refine Then_normal ?_
  refine wp_condF rfl ?_
  refine wp_seq' ?_
  refine wp_region' ?_
  refine ops_ro' rfl (ro_move rfl) rfl ?_
  refine ops_ro' rfl (ro_move rfl) rfl ?_
  refine ops_ro' rfl (ro_move rfl) rfl ?_
  refine ops_ro' rfl (ro_nilCheck rfl) rfl ?_
  refine ops_ro' rfl (ro_fieldAddr fa96_0 rfl) rfl ?_
  refine ops_ro' rfl (ro_indexArr Try.underlying94 (fun w => Try.sizeOf93 w) rfl rfl rfl (by omega)) rfl ?_
  refine ops_ro' rfl (ro_fieldAddr fa93_0 rfl) rfl ?_
  refine ops_ro' rfl (ro_load sc3 rfl (Rd.pick 1 rfl (Rd.own (by have h := tcs_get E c 0 _ hc rfl; simpa using h)))) rfl ?_
  refine ops_ro' rfl (ro_eql rfl rfl (decide_eq_true (by omega))) rfl ?_
  refine ops_ro' rfl (ro_assign rfl) rfl ?_
  refine ops_nil ?_
  repeat (first | refine InBlock_normal ?_ | refine NoGoto_normal ?_ | refine Jump_normal ?_)
  refine Then_normal ?_
  refine wp_condT rfl ?_
  refine wp_seq' ?_
  refine wp_region' ?_
  refine ops_ro' rfl (ro_move rfl) rfl ?_
  refine ops_ro' rfl (ro_move rfl) rfl ?_
  refine ops_ro' rfl (ro_nilCheck rfl) rfl ?_
  refine ops_ro' rfl (ro_fieldAddr fa96_0 rfl) rfl ?_
  refine ops_ro' rfl (ro_indexArr Try.underlying94 (fun w => Try.sizeOf93 w) rfl rfl rfl (by omega)) rfl ?_
  refine ops_ro' rfl (ro_fieldAddr fa93_1 rfl) rfl ?_
  refine ops_ro' rfl (ro_loadA ag32 rfl (RdN.of_pick 1 rfl (tab_reply hc)) rfl) rfl ?_
  refine ops_eff' rfl (eff_call Try.call50 rfl rfl (Split.nil _) (copied_nil E[c].r)) rfl ?_
  rintro _ H' ⟨_, ⟨rfl, rfl⟩, hH⟩
  simp only [List.cons_append, List.nil_append, List.eraseIdx_cons_zero, List.eraseIdx_cons_succ, List.set_cons_zero, List.set_cons_succ] at hH
  subst hH
  refine ops_ro' rfl (ro_assign rfl) rfl ?_
  refine ops_eff0 rfl ((by first | exact eff_storeA 0 ag32 rfl rfl rfl rfl rfl (Nat.le_of_ble_eq_true rfl) (warm_zero _) | exact eff_storeA 1 ag32 rfl rfl rfl rfl rfl (Nat.le_of_ble_eq_true rfl) (warm_zero _) | exact eff_storeA 2 ag32 rfl rfl rfl rfl rfl (Nat.le_of_ble_eq_true rfl) (warm_zero _) | exact eff_storeA 3 ag32 rfl rfl rfl rfl rfl (Nat.le_of_ble_eq_true rfl) (warm_zero _) | exact eff_storeA 4 ag32 rfl rfl rfl rfl rfl (Nat.le_of_ble_eq_true rfl) (warm_zero _) | exact eff_storeA 5 ag32 rfl rfl rfl rfl rfl (Nat.le_of_ble_eq_true rfl) (warm_zero _) | exact eff_storeA 6 ag32 rfl rfl rfl rfl rfl (Nat.le_of_ble_eq_true rfl) (warm_zero _) | exact eff_storeA 7 ag32 rfl rfl rfl rfl rfl (Nat.le_of_ble_eq_true rfl) (warm_zero _))) rfl ?_
  rintro _ _ rfl
  refine ops_nil ?_
  repeat (first | refine InBlock_normal ?_ | refine NoGoto_normal ?_ | refine Jump_normal ?_)
  refine Then_normal ?_
  refine wp_ret' ?_
  repeat (first | refine Then_ret ?_ | refine InBlock_ret ?_ | refine NoGoto_ret ?_ | refine Jump_ret ?_)
  refine done_ret (resv2 rfl (rv_tmp rfl) (rv_cellA ag32 rfl (by first | exact RdN.of_pick 0 rfl rdn_all | exact RdN.of_pick 1 rfl rdn_all | exact RdN.of_pick 2 rfl rdn_all | exact RdN.of_pick 3 rfl rdn_all | exact RdN.of_pick 4 rfl rdn_all | exact RdN.of_pick 5 rfl rdn_all | exact RdN.of_pick 6 rfl rdn_all | exact RdN.of_pick 7 rfl rdn_all) rfl)) ?_
  exact ⟨rfl, _, rfl⟩

end Go.Proofs.Ytbiohhfibkolgaa
