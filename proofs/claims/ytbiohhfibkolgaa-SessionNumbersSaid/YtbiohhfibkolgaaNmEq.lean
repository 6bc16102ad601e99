/-
  Names held against one another; replies.
-/
import Derived.Test.YtbiohhfibkolgaaTab2
namespace Go.Proofs.Ytbiohhfibkolgaa
open Go.Sx
set_option linter.unusedVariables false
set_option linter.unusedSimpArgs false
set_option maxRecDepth 100000
set_option maxHeartbeats 4000000

theorem run_nameFields (d : Nat) (x y : Nm) (w : World) : (Op.eqFields (d+3) x.cs.toArray y.cs.toArray (Try.prog.fieldsOf 46).toList).run Try.prog w = .ok (decide (x = y)) w := by
  have h : decide (x = y) = (decide (str x.n = str y.n) && decide (x.at' = y.at')) := by
    cases x; cases y; simp only [Nm.mk.injEq, Bool.decide_and]
    congr 1
    simp only [decide_eq_decide]
    exact ⟨fun h => by rw [h], str_inj⟩
  have hl : (Try.prog.fieldsOf 46).toList = [⟨ "Name", 9, 0, false, "", "", 0⟩, ⟨ "Attrs", 30, 1, false, "", "", 16⟩] := by kernel_rfl
  have e1 : ∀ (a b : ByteArray) (w : World), (Op.equalIn (d + 3) 9 (.string a) (.string b)).run Try.prog w = .ok (decide (a = b)) w := fun a b w => by rw [run_equalIn_string w (d + 2) 9 a b Try.underlying9, beqBytes]
  have p1 : ∀ z : Nm, z.cs.toArray[0]? = some (.string (str z.n)) := fun z => rfl
  have p2 : ∀ z : Nm, z.cs.toArray.extract 1 (1 + 7) = z.at'.cs.toArray := fun z => rfl
  rw [h, hl]
  simp only [Op.eqFields, Sem.run_bind, Sem.run_ite, part, Try.isAgg9, Try.isAgg30, Try.sizeOf30, Result.andThen_ok, Bool.false_eq_true, if_false, if_true, p1, p2, Sem.run_pure, e1]
  have e2 := fun w => run_attrEqIn (d + 1) x.at' y.at' w
  simp only [e2, Result.andThen_ok, Sem.run_bind, Sem.run_ite, Sem.run_pure]
  by_cases h1 : str x.n = str y.n <;> by_cases h2 : x.at' = y.at' <;> simp [h1, h2]
theorem run_nameEqIn (d : Nat) (x y : Nm) (w : World) : (Op.equalIn (d + 4) 46 (.agg x.cs.toArray) (.agg y.cs.toArray)).run Try.prog w = .ok (decide (x = y)) w := by
  rw [run_equalIn_agg w (d + 3) 46 _ _ (by kernel_rfl) (by kernel_rfl)]; exact run_nameFields d x y w
theorem run_nameNe (x y : Nm) (w : World) : (binOp .neq 46 (.agg x.cs.toArray) (.agg y.cs.toArray)).run Try.prog w = .ok (.bool (!decide (x = y))) w := by
  rw [run_neq_struct]; show ((Op.equalIn (9996 + 4) 46 _ _).run Try.prog w).andThen _ = _
  rw [run_nameEqIn]; rfl
theorem run_nameEq (x y : Nm) (w : World) : (binOp .eql 46 (.agg x.cs.toArray) (.agg y.cs.toArray)).run Try.prog w = .ok (.bool (decide (x = y))) w := by
  rw [run_eql_struct]; show ((Op.equalIn (9996 + 4) 46 _ _).run Try.prog w).andThen _ = _
  rw [run_nameEqIn]; rfl
theorem nameGuard (op : BinOp) (o1 o2 : Operand) (x y : Nm) (w : World) : (eqGuard op 46 o1 o2 (.agg x.cs.toArray) (.agg y.cs.toArray)).run Try.prog w = .ok () w := run_eqGuard_agg w op 46 o1 o2 _ _ (by kernel_rfl)
section
variable {n : Nat} {L : HProp} {Γ : Env} {d : Option Tmp} {ty : TypeId} {pos : String} {aft : Array Edge} {g : Option (Nat × Bool)}
theorem ro_nameNe {ty' : TypeId} {o1 o2 : Operand} {x y : Nm} {c : Bool} (hx : ev Γ o1 = some (.agg x.cs.toArray)) (hy : ev Γ o2 = some (.agg y.cs.toArray)) (hz : (!decide (x = y)) = c) : RO Try.prog n L Γ ⟨d, .binOp .neq 46 o1 o2 ty', ty, pos, aft, g⟩ (.bool c) := by
  subst hz; exact ro_cmpOf hx hy (fun w => nameGuard _ _ _ x y w) (fun w => run_nameNe x y w)
theorem ro_nameEq {ty' : TypeId} {o1 o2 : Operand} {x y : Nm} {c : Bool} (hx : ev Γ o1 = some (.agg x.cs.toArray)) (hy : ev Γ o2 = some (.agg y.cs.toArray)) (hz : decide (x = y) = c) : RO Try.prog n L Γ ⟨d, .binOp .eql 46 o1 o2 ty', ty, pos, aft, g⟩ (.bool c) := by
  subst hz; exact ro_cmpOf hx hy (fun w => nameGuard _ _ _ x y w) (fun w => run_nameEq x y w)
end


theorem knames_same (V : HProp) (l : List Nm) (p1 p2 : Option Addr) (c1 c2 : Nat) (h1 : Vw V (.slice p1 l.length c1) l.length (ncs l)) (h2 : Vw V (.slice p2 l.length c2) l.length (ncs l)) (hl : l.length ≤ 140737488355328) :
    Tri Try.prog 51 [.slice p1 l.length c1, .slice p2 l.length c2] [V] (fun v H' => ∃ K, (v = .bool true ∧ K = []) ∧ H' = K ++ [V]) := by
  refine tri_of_wpS Try.func51 rfl Try.ntmps51 (by simp) ?_
  refine wp_seq' ?_
  refine wp_region' ?_
  refine ops_ro' rfl (ro_assign rfl) rfl ?_
  refine ops_nil ?_
  refine Then_normal ?_
  refine wp_seq' ?_
  refine wp_seq' ?_
  refine wp_region' ?_
  refine ops_ro' rfl (ro_move rfl) rfl ?_
  refine ops_ro' rfl (ro_sliceLen Try.underlying26 rfl) rfl ?_
  refine ops_ro' rfl (ro_move rfl) rfl ?_
  refine ops_ro' rfl (ro_sliceLen Try.underlying26 rfl) rfl ?_
  refine ops_ro' rfl (ro_neq rfl rfl (decide_eq_false (by omega))) rfl ?_
  refine ops_nil ?_
  refine Then_normal ?_
  refine wp_condF rfl ?_
  refine wp_skip' ?_
  refine Then_normal ?_
  refine wp_seq' ?_
  refine wp_seq' ?_
  refine wp_region' ?_
  refine ops_ro' rfl (ro_assign rfl) rfl ?_
  refine ops_nil ?_
  refine Then_normal ?_
  refine wp_block' ?_
  refine wp_loopK 4 (fun m Δ L => ∃ (i : Nat), (i + m = l.length) ∧ Δ = [(5, .int .i64 (i : Nat))] ∧ L = [V]) (m := l.length) (Has.cons (k := 0) rfl (Has.cons (k := 1) rfl (Has.nil _))) (kept ⟨0, (by omega), rfl, rfl⟩ (by repeat (first | exact Has.nil _ | refine Has.cons rfl ?_)) (by repeat (first | exact Has.nil _ | refine Has.cons rfl ?_)) (by repeat (first | exact SubH.nil _ | refine SubH.cons 0 rfl ?_ | refine SubH.cons 1 rfl ?_ | refine SubH.cons 2 rfl ?_ | refine SubH.cons 3 rfl ?_ | refine SubH.cons 4 rfl ?_ | refine SubH.cons 5 rfl ?_ | refine SubH.cons 6 rfl ?_ | refine SubH.cons 7 rfl ?_ | refine SubH.cons 8 rfl ?_ | refine SubH.cons 9 rfl ?_ | refine SubH.cons 10 rfl ?_ | refine SubH.cons 11 rfl ?_ | refine SubH.cons 12 rfl ?_ | refine SubH.cons 13 rfl ?_ | refine SubH.rown ?_))) ?_
  rintro m Δ L ⟨i, hp4, rfl, rfl⟩
  simp only [List.cons_append, List.nil_append]
  refine wp_seq' ?_
  refine wp_seq' ?_
  refine wp_region' ?_
  refine ops_ro' rfl (ro_move rfl) rfl ?_
  refine ops_ro' rfl (ro_move rfl) rfl ?_
  refine ops_ro' rfl (ro_sliceLen Try.underlying26 rfl) rfl ?_
  refine ops_ro' rfl (ro_lss rfl rfl rfl) rfl ?_
  refine ops_nil ?_
  refine Then_normal ?_
  refine wp_cond' rfl (fun hc14 => ?_) (fun hc14 => ?_)
  · replace hc14 := of_decide_eq_true hc14
    have hi : i < l.length := by omega
    refine wp_know (fun w F s => vw_ptr (Vw.pick (H := [V]) 0 rfl h1) s (by omega)) ?_
    rintro ⟨b1, o1, rfl⟩
    refine wp_know (fun w F s => vw_ptr (Vw.pick (H := [V]) 0 rfl h2) s (by omega)) ?_
    rintro ⟨b2, o2, rfl⟩
    refine wp_skip' ?_
    refine Then_normal ?_
    refine wp_seq' ?_
    refine wp_block' ?_
    refine wp_seq' ?_
    refine wp_draw 9 (by kernel_rfl) (Split.all _) ?_
    refine any_ro' (i := 0) (by kernel_rfl) rfl rfl (ro_move rfl) rfl (fun _ _ _ h => h) ?_
    refine any_ro' (i := 1) (by kernel_rfl) rfl rfl (ro_move rfl) rfl (fun _ _ _ h => h) ?_
    refine any_ro' (i := 2) (by kernel_rfl) rfl rfl (ro_indexSlice sl26 rfl rfl rfl (by omega)) rfl (fun _ _ _ h => h) ?_
    refine any_ro' (i := 3) (by kernel_rfl) rfl rfl (ro_loadA ag46 rfl (RdN.of_pick 0 rfl (RdN.elem (vw_rdn h1) Nm.len (List.getElem?_eq_getElem hi))) rfl) rfl (fun _ _ _ h => h) ?_
    refine any_ro' (i := 4) (by kernel_rfl) rfl rfl (ro_move rfl) rfl (fun _ _ _ h => h) ?_
    refine any_ro' (i := 5) (by kernel_rfl) rfl rfl (ro_move rfl) rfl (fun _ _ _ h => h) ?_
    refine any_ro' (i := 6) (by kernel_rfl) rfl rfl (ro_indexSlice sl26 rfl rfl rfl (by omega)) rfl (fun _ _ _ h => h) ?_
    refine any_ro' (i := 7) (by kernel_rfl) rfl rfl (ro_loadA ag46 rfl (RdN.of_pick 0 rfl (RdN.elem (vw_rdn h2) Nm.len (List.getElem?_eq_getElem hi))) rfl) rfl (fun _ _ _ h => h) ?_
    refine any_ro' (i := 8) (by kernel_rfl) rfl rfl (ro_nameNe rfl rfl (c := false) (by simp)) rfl (fun _ _ _ h => h) ?_
    refine any_doneL (by kernel_rfl) ?_
    refine Then_normal ?_
    refine wp_condF rfl ?_
    refine wp_skip' ?_
    refine InBlock_normal ?_
    refine Then_normal ?_
    refine wp_region' ?_
    refine ops_ro' rfl (ro_move rfl) rfl ?_
    refine ops_ro' rfl (ro_add rfl rfl (wrap_inc (by omega))) rfl ?_
    refine ops_ro' rfl (ro_assign rfl) rfl ?_
    refine ops_nil ?_
    refine Then_normal ?_
    refine back (m - 1) (by omega) (kept ⟨i + 1, (by omega), rfl, rfl⟩ ?_ ?_ ?_)
    · exact (by repeat (first | exact Has.nil _ | refine Has.cons rfl ?_))
    · exact (by repeat (first | exact Has.nil _ | refine Has.cons rfl ?_))
    · exact SubH.refl _
  · replace hc14 := of_decide_eq_false hc14
    refine wp_exit' ?_
    refine Then_exit ?_
    refine Then_exit ?_
    refine InBlock_here ?_
    refine Then_normal ?_
    refine wp_seq' ?_
    refine wp_region' ?_
    refine ops_ro' rfl (ro_assign rfl) rfl ?_
    refine ops_nil ?_
    refine Then_normal ?_
    refine wp_ret' ?_
    refine' doneS_ret (res1 rfl rfl) ?_ ?_
    rotate_left 1
    exact ⟨_, ⟨rfl, rfl⟩, rfl⟩
    exact SubH.refl _


theorem kreply_same (V : HProp) (r1 r2 : Rp) (h1 : r1.In V) (h2 : r2.In V) (hc : r1.c = r2.c) (hl : r1.c.ns.length ≤ 140737488355328) :
    Tri Try.prog 17 [r1.v, r2.v] [V] (fun v H' => ∃ K, (v = .bool true ∧ K = []) ∧ H' = K ++ [V]) := by
  refine tri_of_wpS Try.func17 rfl Try.ntmps17 (by simp) ?_
  refine wp_seq' ?_
  refine wp_region' ?_
  refine ops_eff' rfl (eff_box rfl) rfl ?_
  rintro _ _ ⟨b2, rfl, rfl⟩
  refine ops_eff' rfl (eff_box rfl) rfl ?_
  rintro _ _ ⟨b3, rfl, rfl⟩
  refine ops_ro' rfl (ro_assign rfl) rfl ?_
  refine ops_nil ?_
  refine Then_normal ?_
  refine wp_seq' ?_
  refine wp_region' ?_
  refine ops_ro' rfl (ro_fieldAddr fa32_0 rfl) rfl ?_
  refine ops_ro' rfl (ro_load sc3 rfl (Rd.pick 1 rfl (Rd.own rfl))) rfl ?_
  refine ops_ro' rfl (ro_fieldAddr fa32_0 rfl) rfl ?_
  refine ops_ro' rfl (ro_load sc3 rfl (Rd.pick 0 rfl (Rd.own rfl))) rfl ?_
  refine ops_ro' rfl (ro_eql rfl rfl (decide_eq_true (by rw [hc]))) rfl ?_
  refine ops_ro' rfl (ro_move (v := .bool true) rfl) rfl ?_
  refine ops_ro' rfl (ro_fieldAddr fa32_1 rfl) rfl ?_
  refine ops_ro' rfl (ro_load sc3 rfl (Rd.pick 1 rfl (Rd.own rfl))) rfl ?_
  refine ops_ro' rfl (ro_fieldAddr fa32_1 rfl) rfl ?_
  refine ops_ro' rfl (ro_load sc3 rfl (Rd.pick 0 rfl (Rd.own rfl))) rfl ?_
  refine ops_ro' rfl (ro_eql rfl rfl (decide_eq_true (by rw [hc]))) rfl ?_
  refine ops_ro' rfl (ro_pick rfl rfl) rfl ?_
  refine ops_ro' rfl (ro_move (v := .bool true) rfl) rfl ?_
  refine ops_ro' rfl (ro_fieldAddr fa32_2 rfl) rfl ?_
  refine ops_ro' rfl (ro_load sc9 rfl (Rd.pick 1 rfl (Rd.own rfl))) rfl ?_
  refine ops_ro' rfl (ro_fieldAddr fa32_2 rfl) rfl ?_
  refine ops_ro' rfl (ro_load sc9 rfl (Rd.pick 0 rfl (Rd.own rfl))) rfl ?_
  refine ops_ro' rfl (ro_strEql rfl rfl (decide_eq_true (by rw [hc]))) rfl ?_
  refine ops_ro' rfl (ro_pick rfl rfl) rfl ?_
  refine ops_ro' rfl (ro_move (v := .bool true) rfl) rfl ?_
  refine ops_ro' rfl (ro_fieldAddr fa32_3 rfl) rfl ?_
  refine ops_ro' rfl (ro_load sc25 rfl (Rd.pick 1 rfl (Rd.own rfl))) rfl ?_
  refine ops_ro' rfl (ro_toStr Try.underlying25 Try.underlying5 Try.underlying9 rfl (Vw.pick 2 rfl h1.d) rfl) rfl ?_
  refine ops_ro' rfl (ro_fieldAddr fa32_3 rfl) rfl ?_
  refine ops_ro' rfl (ro_load sc25 rfl (Rd.pick 0 rfl (Rd.own rfl))) rfl ?_
  refine ops_ro' rfl (ro_toStr Try.underlying25 Try.underlying5 Try.underlying9 rfl (Vw.pick 2 rfl h2.d) rfl) rfl ?_
  refine ops_ro' rfl (ro_strEql rfl rfl (decide_eq_true (by rw [hc]))) rfl ?_
  refine ops_ro' rfl (ro_pick rfl rfl) rfl ?_
  refine ops_ro' rfl (ro_move (v := .bool true) rfl) rfl ?_
  refine ops_ro' rfl (ro_fieldAddr fa32_4 rfl) rfl ?_
  refine ops_ro' rfl (ro_load sc26 rfl (Rd.pick 1 rfl (Rd.own rfl))) rfl ?_
  refine ops_ro' rfl (ro_fieldAddr fa32_4 rfl) rfl ?_
  refine ops_ro' rfl (ro_load sc26 rfl (Rd.pick 0 rfl (Rd.own rfl))) rfl ?_
  have e2 : r2.vn = .slice r2.pn r1.c.ns.length r2.cn := by rw [hc]
  rw [e2]
  refine ops_eff' rfl (eff_callM (Pre := []) Try.call51 rfl rfl (Split.nil _) (knames_same _ r1.c.ns r1.pn r2.pn r1.cn r2.cn (Vw.pick 2 rfl h1.n) (by rw [hc]; exact Vw.pick 2 rfl h2.n) hl)) rfl ?_
  rintro _ H' ⟨_, ⟨rfl, rfl⟩, hH⟩
  simp only [List.cons_append, List.nil_append, List.eraseIdx_cons_zero, List.eraseIdx_cons_succ, List.set_cons_zero, List.set_cons_succ] at hH
  subst hH
  refine ops_ro' rfl (ro_pick rfl rfl) rfl ?_
  refine ops_ro' rfl (ro_move (v := .bool true) rfl) rfl ?_
  refine ops_ro' rfl (ro_fieldAddr fa32_5 rfl) rfl ?_
  refine ops_ro' rfl (ro_loadA ag30 rfl (RdN.of_pick 1 rfl (rp_at r1 rdn_all)) rfl) rfl ?_
  refine ops_ro' rfl (ro_fieldAddr fa32_5 rfl) rfl ?_
  refine ops_ro' rfl (ro_loadA ag30 rfl (RdN.of_pick 0 rfl (rp_at r2 rdn_all)) rfl) rfl ?_
  refine ops_ro' rfl (ro_attrEq (x := r1.c.at') (y := r2.c.at') rfl rfl (c := true) (by simp [hc])) rfl ?_
  refine ops_ro' rfl (ro_pick rfl rfl) rfl ?_
  refine ops_ro' rfl (ro_assign rfl) rfl ?_
  refine ops_nil ?_
  refine Then_normal ?_
  refine wp_ret' ?_
  refine' doneS_ret (res1 rfl rfl) ?_ ?_
  rotate_left 1
  exact ⟨_, ⟨rfl, rfl⟩, rfl⟩
  exact (SubH.cons 2 rfl (SubH.nil _))

end Go.Proofs.Ytbiohhfibkolgaa
