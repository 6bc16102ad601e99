/-
  Names held against one another; what comes back.
-/
import Derived.Test.YtigaolglnnjnmaaSfJ
import Derived.Test.YtigaolglnnjnmaaSfG
namespace Go.Proofs.Ytigaolglnnjnmaa
open Go.Sx
set_option linter.unusedVariables false
set_option linter.unusedSimpArgs false
set_option maxRecDepth 100000
set_option maxHeartbeats 4000000

theorem run_nameFields (d : Nat) (x y : Nm) (w : World) : (Op.eqFields (d+3) x.cs.toArray y.cs.toArray (Try.prog.fieldsOf 120).toList).run Try.prog w = .ok (decide (x = y)) w := by
  have h : decide (x = y) = (decide (str x.n = str y.n) && decide (x.at' = y.at')) := by
    cases x; cases y; simp only [Nm.mk.injEq, Bool.decide_and]
    congr 1
    simp only [decide_eq_decide]
    exact ⟨fun h => by rw [h], str_inj⟩
  have hl : (Try.prog.fieldsOf 120).toList = [⟨ "Name", 9, 0, false, "", "", 0⟩, ⟨ "Attrs", 54, 1, false, "", "", 16⟩] := by kernel_rfl
  have e1 : ∀ (a b : ByteArray) (w : World), (Op.equalIn (d + 3) 9 (.string a) (.string b)).run Try.prog w = .ok (decide (a = b)) w := fun a b w => by rw [run_equalIn_string w (d + 2) 9 a b Try.underlying9, beqBytes]
  have p1 : ∀ z : Nm, z.cs.toArray[0]? = some (.string (str z.n)) := fun z => rfl
  have p2 : ∀ z : Nm, z.cs.toArray.extract 1 (1 + 7) = z.at'.cs.toArray := fun z => rfl
  rw [h, hl]
  simp only [Op.eqFields, Sem.run_bind, Sem.run_ite, part, Try.isAgg9, Try.isAgg54, Try.sizeOf54, Result.andThen_ok, Bool.false_eq_true, if_false, if_true, p1, p2, Sem.run_pure, e1]
  have e2 := fun w => run_attrEqIn (d + 1) x.at' y.at' w
  simp only [e2, Result.andThen_ok, Sem.run_bind, Sem.run_ite, Sem.run_pure]
  by_cases h1 : str x.n = str y.n <;> by_cases h2 : x.at' = y.at' <;> simp [h1, h2]
theorem run_nameEqIn (d : Nat) (x y : Nm) (w : World) : (Op.equalIn (d + 4) 120 (.agg x.cs.toArray) (.agg y.cs.toArray)).run Try.prog w = .ok (decide (x = y)) w := by
  rw [run_equalIn_agg w (d + 3) 120 _ _ (by kernel_rfl) (by kernel_rfl)]; exact run_nameFields d x y w
theorem run_nameNe (x y : Nm) (w : World) : (binOp .neq 120 (.agg x.cs.toArray) (.agg y.cs.toArray)).run Try.prog w = .ok (.bool (!decide (x = y))) w := by
  rw [run_neq_struct]; show ((Op.equalIn (9996 + 4) 120 _ _).run Try.prog w).andThen _ = _
  rw [run_nameEqIn]; rfl
theorem nameGuard (op : BinOp) (o1 o2 : Operand) (x y : Nm) (w : World) : (eqGuard op 120 o1 o2 (.agg x.cs.toArray) (.agg y.cs.toArray)).run Try.prog w = .ok () w := run_eqGuard_agg w op 120 o1 o2 _ _ (by kernel_rfl)
section
variable {n : Nat} {L : HProp} {Γ : Env} {d : Option Tmp} {ty : TypeId} {pos : String} {aft : Array Edge} {g : Option (Nat × Bool)}
theorem ro_nameNe {ty' : TypeId} {o1 o2 : Operand} {x y : Nm} {c : Bool} (hx : ev Γ o1 = some (.agg x.cs.toArray)) (hy : ev Γ o2 = some (.agg y.cs.toArray)) (hz : (!decide (x = y)) = c) : RO Try.prog n L Γ ⟨d, .binOp .neq 120 o1 o2 ty', ty, pos, aft, g⟩ (.bool c) := by
  subst hz; exact ro_cmpOf hx hy (fun w => nameGuard _ _ _ x y w) (fun w => run_nameNe x y w)
end


theorem knames_same (V : HProp) (l : List Nm) (p1 p2 : Option Addr) (c1 c2 : Nat) (h1 : Vw V (.slice p1 l.length c1) l.length (flat Nm.cs l)) (h2 : Vw V (.slice p2 l.length c2) l.length (flat Nm.cs l)) (hl : l.length ≤ 140737488355328) :
    Tri Try.prog 41 [.slice p1 l.length c1, .slice p2 l.length c2] [V] (fun v H' => ∃ K, (v = .bool true ∧ K = []) ∧ H' = K ++ [V]) := by
  refine tri_of_wpS Try.func41 rfl Try.ntmps41 (by simp) ?_
  refine wp_seq' ?_
  refine wp_region' ?_
  refine ops_ro' rfl (ro_assign rfl) rfl ?_
  refine ops_nil ?_
  refine Then_normal ?_
  refine wp_seq' ?_
  refine wp_seq' ?_
  refine wp_region' ?_
  refine ops_ro' rfl (ro_move rfl) rfl ?_
  refine ops_ro' rfl (ro_sliceLen Try.underlying64 rfl) rfl ?_
  refine ops_ro' rfl (ro_move rfl) rfl ?_
  refine ops_ro' rfl (ro_sliceLen Try.underlying64 rfl) rfl ?_
  refine ops_ro' rfl (ro_neq rfl rfl (decide_eq_false (by omega))) rfl ?_
  refine ops_nil ?_
  refine Then_normal ?_
  refine wp_condF rfl ?_
  refine wp_skip' ?_
  refine Then_normal ?_
  refine wp_seq' ?_
  refine wp_seq' ?_
  refine wp_region' ?_
  refine ops_ro' rfl (ro_assign rfl) rfl ?_
  refine ops_nil ?_
  refine Then_normal ?_
  refine wp_block' ?_
  refine wp_loopK 4 (fun m Δ LL => ∃ (i : Nat), (i + m = l.length) ∧ Δ = [(5, .int .i64 (i : Nat))] ∧ LL = [V]) (m := l.length) (Has.cons (k := 0) rfl (Has.cons (k := 1) rfl (Has.nil _))) (kept ⟨0, (by omega), rfl, rfl⟩ (by repeat (first | exact Has.nil _ | refine Has.cons rfl ?_)) (by repeat (first | exact Has.nil _ | refine Has.cons rfl ?_)) (by repeat (first | exact SubH.nil _ | refine SubH.cons 0 rfl ?_ | refine SubH.cons 1 rfl ?_ | refine SubH.cons 2 rfl ?_ | refine SubH.cons 3 rfl ?_ | refine SubH.cons 4 rfl ?_ | refine SubH.cons 5 rfl ?_ | refine SubH.cons 6 rfl ?_ | refine SubH.cons 7 rfl ?_ | refine SubH.cons 8 rfl ?_ | refine SubH.cons 9 rfl ?_ | refine SubH.cons 10 rfl ?_ | refine SubH.cons 11 rfl ?_ | refine SubH.cons 12 rfl ?_ | refine SubH.cons 13 rfl ?_ | refine SubH.rown ?_))) ?_
  rintro m Δ LL ⟨i, hp4, rfl, rfl⟩
  simp only [List.cons_append, List.nil_append]
  refine wp_seq' ?_
  refine wp_seq' ?_
  refine wp_region' ?_
  refine ops_ro' rfl (ro_move rfl) rfl ?_
  refine ops_ro' rfl (ro_move rfl) rfl ?_
  refine ops_ro' rfl (ro_sliceLen Try.underlying64 rfl) rfl ?_
  refine ops_ro' rfl (ro_lss rfl rfl rfl) rfl ?_
  refine ops_nil ?_
  refine Then_normal ?_
  refine wp_cond' rfl (fun hc14 => ?_) (fun hc14 => ?_)
  · replace hc14 := of_decide_eq_true hc14
    have hi : i < l.length := by omega
    refine wp_know (fun w F s => vw_ptr (Vw.pick (H := [V]) 0 rfl h1) s (by omega)) ?_
    rintro ⟨b1, o1, rfl⟩
    refine wp_know (fun w F s => vw_ptr (Vw.pick (H := [V]) 0 rfl h2) s (by omega)) ?_
    rintro ⟨b2, o2, rfl⟩
    refine wp_skip' ?_
    refine Then_normal ?_
    refine wp_seq' ?_
    refine wp_block' ?_
    refine wp_seq' ?_
    refine wp_draw 9 (by kernel_rfl) (Split.all _) ?_
    refine any_ro' (i := 0) (by kernel_rfl) rfl rfl (ro_move rfl) rfl (fun _ _ _ h => h) ?_
    refine any_ro' (i := 1) (by kernel_rfl) rfl rfl (ro_move rfl) rfl (fun _ _ _ h => h) ?_
    refine any_ro' (i := 2) (by kernel_rfl) rfl rfl (ro_indexSlice sl64 rfl rfl rfl (by omega)) rfl (fun _ _ _ h => h) ?_
    refine any_ro' (i := 3) (by kernel_rfl) rfl rfl (ro_loadA ag120 rfl (RdN.of_pick 0 rfl (RdN.elem (vw_rdn h1) Nm.len (List.getElem?_eq_getElem hi))) rfl) rfl (fun _ _ _ h => h) ?_
    refine any_ro' (i := 4) (by kernel_rfl) rfl rfl (ro_move rfl) rfl (fun _ _ _ h => h) ?_
    refine any_ro' (i := 5) (by kernel_rfl) rfl rfl (ro_move rfl) rfl (fun _ _ _ h => h) ?_
    refine any_ro' (i := 6) (by kernel_rfl) rfl rfl (ro_indexSlice sl64 rfl rfl rfl (by omega)) rfl (fun _ _ _ h => h) ?_
    refine any_ro' (i := 7) (by kernel_rfl) rfl rfl (ro_loadA ag120 rfl (RdN.of_pick 0 rfl (RdN.elem (vw_rdn h2) Nm.len (List.getElem?_eq_getElem hi))) rfl) rfl (fun _ _ _ h => h) ?_
    refine any_ro' (i := 8) (by kernel_rfl) rfl rfl (ro_nameNe rfl rfl (c := false) (by simp)) rfl (fun _ _ _ h => h) ?_
    refine any_doneL (by kernel_rfl) ?_
    refine Then_normal ?_
    refine wp_condF rfl ?_
    refine wp_skip' ?_
    refine InBlock_normal ?_
    refine Then_normal ?_
    refine wp_region' ?_
    refine ops_ro' rfl (ro_move rfl) rfl ?_
    refine ops_ro' rfl (ro_add rfl rfl (wrap_inc (by omega))) rfl ?_
    refine ops_ro' rfl (ro_assign rfl) rfl ?_
    refine ops_nil ?_
    refine Then_normal ?_
    refine back (m - 1) (by omega) (kept ⟨i + 1, (by omega), rfl, rfl⟩ ?_ ?_ ?_)
    · exact (by repeat (first | exact Has.nil _ | refine Has.cons rfl ?_))
    · exact (by repeat (first | exact Has.nil _ | refine Has.cons rfl ?_))
    · exact SubH.refl _
  · replace hc14 := of_decide_eq_false hc14
    refine wp_exit' ?_
    refine Then_exit ?_
    refine Then_exit ?_
    refine InBlock_here ?_
    refine Then_normal ?_
    refine wp_seq' ?_
    refine wp_region' ?_
    refine ops_ro' rfl (ro_assign rfl) rfl ?_
    refine ops_nil ?_
    refine Then_normal ?_
    refine wp_ret' ?_
    refine' doneS_ret (res1 rfl rfl) ?_ ?_
    rotate_left 1
    exact ⟨_, ⟨rfl, rfl⟩, rfl⟩
    exact SubH.refl _
theorem sfDec_K (V : HProp) (p : Option Addr) (c : Nat) (b : List UInt8) (hV : Vw V (.slice p b.length c) b.length (cel b)) (hb : b.length ≤ 140737488355328) : Tri Try.prog 28 [.slice p b.length c] [V]
    (fun v H' => ∃ K, (∃ dp dn, v = .tuple #[.int .u32 ((decQ b).1 : Int), (decQ b).2.1.v dp dn, .int .i64 (decQ b).2.2] ∧ K = [row 5 1 (.slice dp (decQ b).2.1.da.length dn) (decQ b).2.1.da.length (cel (decQ b).2.1.da)]) ∧ H' = K ++ [V]) :=
  tri_post (sfDec_spec V p c b hV hb) fun v H' ⟨dp, dn, h1, h2⟩ => ⟨_, ⟨dp, dn, h1, rfl⟩, h2⟩
theorem sfDecP_K (V : HProp) (p : Option Addr) (c : Nat) (b : List UInt8) (hV : Vw V (.slice p b.length c) b.length (cel b)) (hb : b.length ≤ 140737488355328) : Tri Try.prog 40 [.slice p b.length c] [V]
    (fun v H' => ∃ K, (∃ dp dn np nn, v = .tuple #[.int .u32 ((decP b).1 : Int), (decP b).2.1.v dp dn np nn, .int .i64 (decP b).2.2] ∧ K = [row 5 1 (.slice dp (decP b).2.1.d.length dn) (decP b).2.1.d.length (cel (decP b).2.1.d), row 120 8 (.slice np (decP b).2.1.ns.length nn) (decP b).2.1.ns.length (flat Nm.cs (decP b).2.1.ns)]) ∧ H' = K ++ [V]) :=
  tri_post (sfDecP_spec V p c b hV hb) fun v H' ⟨dp, dn, np, nn, h1, h2⟩ => ⟨_, ⟨dp, dn, np, nn, h1, rfl⟩, h2⟩
/-- what comes back of a request -/
def BackQ (id : Nat) (q : Rc) (e : Int) (b : List UInt8) : Prop := e = 0 → ∃ x : Rc, decQ b = (id, x, 0) ∧ x.k = q.k ∧ encE (axOf x.k) x = 0 ∧ encB (axOf x.k) id x = b ∧ x.Ok ∧ (q.k = 18 → x.pa = q.pa ∧ x.to = q.to) ∧ (q.k = 6 → x.ha = q.ha ∧ x.off = q.off) ∧ (q.k = 3 → x.fl = q.fl ∧ x.at' = q.at') ∧ b.length ≤ 100000
theorem opt_len (b : Bool) (l : List UInt8) (n : Nat) (h : b = true → l.length ≤ n) : (opt b l).length ≤ n := by
  cases b with
  | true => exact h rfl
  | false => exact Nat.zero_le _
/-- what comes back of a reply -/
def BackP (id : Nat) (c : Pc) (e : Int) (b : List UInt8) : Prop := e = 0 → ∃ x : Pc, decP b = (id, x, 0) ∧ x.k = c.k ∧ fineE x = 0 ∧ encP id x = b ∧ x.at'.Ok ∧ (∀ y ∈ x.ns, y.at'.Ok) ∧ x.ns.length ≤ 100 ∧ (-9223372036854775808 ≤ x.s ∧ x.s ≤ 9223372036854775807) ∧ (c.k = 1 → x.s = c.s) ∧ (c.k = 2 → x.h = c.h) ∧ (c.k = 4 → x.ns = (shortP c).ns) ∧ b.length ≤ 200000
theorem fm_len : ∀ l : List Nm, (∀ x ∈ l, x.n.length ≤ 256) → (l.flatMap nmE).length ≤ 600 * l.length := fun l => by
  induction l with
  | nil => intro _; simp
  | cons x t ih =>
    intro h
    have h1 := h x (List.mem_cons_self ..)
    have h2 := ih (fun y hy => h y (List.mem_cons_of_mem _ hy))
    have h3 := At.enc_le2 x.at'
    rw [List.flatMap_cons, List.length_append, List.length_cons]
    simp only [nmE, txB, List.length_append, be_length]; omega
end Go.Proofs.Ytigaolglnnjnmaa
