/-
  Package auth: users.
-/
import Derived.Test.YtigaolglnnjnmaaSxMake
import Derived.Test.YtigaolglnnjnmaaSxSub
import Derived.Test.YtigaolglnnjnmaaTxt
import Derived.Test.YtigaolglnnjnmaaRd1
import Derived.Test.YtigaolglnnjnmaaWire2
namespace Go.Proofs.Ytigaolglnnjnmaa
open Go.Sx
set_option linter.unusedVariables false
set_option linter.unusedSimpArgs false
set_option maxRecDepth 100000
set_option maxHeartbeats 4000000

structure Us where
  name : List UInt8
  pass : List UInt8
deriving DecidableEq
def Us.cs (u : Us) : List Value := [.string (str u.name), .string (str u.pass)]
theorem Us.len (u : Us) : u.cs.length = 2 := rfl
theorem Us.one (u : Us) : ∀ v ∈ u.cs, v.oneCell' = true := fun v hv => by
  simp only [Us.cs, List.mem_cons, List.not_mem_nil, or_false] at hv
  rcases hv with rfl | rfl <;> rfl
theorem run_userFields (d : Nat) (x y : Us) (w : World) : (Op.eqFields (d+3) x.cs.toArray y.cs.toArray (Try.prog.fieldsOf 30).toList).run Try.prog w = .ok (decide (x = y)) w := by
  have h : decide (x = y) = (decide (str x.name = str y.name) && decide (str x.pass = str y.pass)) := by
    cases x; cases y; simp only [Us.mk.injEq, Bool.decide_and]
    congr 1 <;> (simp only [decide_eq_decide]; exact ⟨fun h => by rw [h], str_inj⟩)
  have hl : (Try.prog.fieldsOf 30).toList = [⟨ "Name", 9, 0, false, "", "", 0⟩, ⟨ "Pass", 9, 1, false, "", "", 16⟩] := by kernel_rfl
  have e1 : ∀ (a b : ByteArray) (w : World), (Op.equalIn (d + 3) 9 (.string a) (.string b)).run Try.prog w = .ok (decide (a = b)) w := fun a b w => by rw [run_equalIn_string w (d + 2) 9 a b Try.underlying9, beqBytes]
  have e2 : ∀ (a b : ByteArray) (w : World), (Op.equalIn (d + 2) 9 (.string a) (.string b)).run Try.prog w = .ok (decide (a = b)) w := fun a b w => by rw [run_equalIn_string w (d + 1) 9 a b Try.underlying9, beqBytes]
  have p1 : ∀ z : Us, z.cs.toArray[0]? = some (.string (str z.name)) := fun z => rfl
  have p2 : ∀ z : Us, z.cs.toArray[1]? = some (.string (str z.pass)) := fun z => rfl
  rw [h, hl]
  simp only [Op.eqFields, Sem.run_bind, Sem.run_ite, part, Try.isAgg9, Result.andThen_ok, Bool.false_eq_true, if_false, if_true, p1, p2, Sem.run_pure, e1, e2]
  by_cases h1 : str x.name = str y.name <;> by_cases h2 : str x.pass = str y.pass <;> simp [h1, h2]
theorem run_userEqIn (d : Nat) (x y : Us) (w : World) : (Op.equalIn (d + 4) 30 (.agg x.cs.toArray) (.agg y.cs.toArray)).run Try.prog w = .ok (decide (x = y)) w := by
  rw [run_equalIn_agg w (d + 3) 30 _ _ (by kernel_rfl) (by kernel_rfl)]; exact run_userFields d x y w
theorem run_userEq (x y : Us) (w : World) : (binOp .eql 30 (.agg x.cs.toArray) (.agg y.cs.toArray)).run Try.prog w = .ok (.bool (decide (x = y))) w := by
  rw [run_eql_struct]; show ((Op.equalIn (9996 + 4) 30 _ _).run Try.prog w).andThen _ = _
  rw [run_userEqIn]; rfl
theorem userGuard (op : BinOp) (o1 o2 : Operand) (x y : Us) (w : World) : (eqGuard op 30 o1 o2 (.agg x.cs.toArray) (.agg y.cs.toArray)).run Try.prog w = .ok () w := run_eqGuard_agg w op 30 o1 o2 _ _ (by kernel_rfl)
section
variable {n : Nat} {L : HProp} {Γ : Env} {d : Option Tmp} {ty : TypeId} {pos : String} {aft : Array Edge} {g : Option (Nat × Bool)}
theorem ro_userEq {ty' : TypeId} {o1 o2 : Operand} {x y : Us} {c : Bool} (hx : ev Γ o1 = some (.agg x.cs.toArray)) (hy : ev Γ o2 = some (.agg y.cs.toArray)) (hz : decide (x = y) = c) : RO Try.prog n L Γ ⟨d, .binOp .eql 30 o1 o2 ty', ty, pos, aft, g⟩ (.bool c) := by
  subst hz; exact ro_cmpOf hx hy (fun w => userGuard _ _ _ x y w) (fun w => run_userEq x y w)
end


theorem uidx_spec (V : HProp) (q : Option Addr) (cq : Nat) (l : List Us) (hV : Vw V (.slice q l.length cq) l.length (flat Us.cs l)) (hl : l.length ≤ 140737488355328) (x : Us) : Tri Try.prog 117 [.slice q l.length cq, .agg x.cs.toArray] [V] (fun v H' => ∃ K, (∃ k : Int, v = .int .i64 k ∧ ((0 ≤ k ∧ x ∈ l) ∨ (k < 0 ∧ x ∉ l)) ∧ K = []) ∧ H' = K ++ [V]) := by
  refine tri_of_wpS Try.func117 rfl Try.ntmps117 (by simp) ?_
  refine wp_seq' ?_
  refine wp_region' ?_
  refine ops_eff' rfl (eff_box rfl) rfl ?_
  rintro _ _ ⟨b3, rfl, rfl⟩
  refine ops_ro' rfl (ro_assign rfl) rfl ?_
  refine ops_nil ?_
  refine Then_normal ?_
  refine wp_seq' ?_
  refine wp_seq' ?_
  refine wp_region' ?_
  refine ops_ro' rfl (ro_move rfl) rfl ?_
  refine ops_ro' rfl (ro_sliceLen Try.underlying31 rfl) rfl ?_
  refine ops_ro' rfl (ro_move rfl) rfl ?_
  refine ops_nil ?_
  refine Then_normal ?_
  refine wp_block' ?_
  refine wp_loopK 2 (fun m Δ LL => ∃ (i : Nat), (i + m = l.length ∧ x ∉ l.take i) ∧ Δ = [(8, .int .i64 (i : Nat))] ∧ LL = [own b3 (.cells x.cs.toArray 30 (0, 0)), V]) (m := l.length) (Has.cons (k := 0) rfl (Has.cons (k := 3) rfl (Has.cons (k := 7) rfl (Has.nil _)))) (kept ⟨0, ⟨by omega, by simp⟩, rfl, rfl⟩ (by repeat (first | exact Has.nil _ | refine Has.cons rfl ?_)) (by repeat (first | exact Has.nil _ | refine Has.cons rfl ?_)) (by repeat (first | exact SubH.nil _ | refine SubH.cons 0 rfl ?_ | refine SubH.cons 1 rfl ?_ | refine SubH.cons 2 rfl ?_ | refine SubH.cons 3 rfl ?_ | refine SubH.cons 4 rfl ?_ | refine SubH.cons 5 rfl ?_ | refine SubH.cons 6 rfl ?_ | refine SubH.cons 7 rfl ?_ | refine SubH.cons 8 rfl ?_ | refine SubH.cons 9 rfl ?_ | refine SubH.cons 10 rfl ?_ | refine SubH.cons 11 rfl ?_ | refine SubH.cons 12 rfl ?_ | refine SubH.cons 13 rfl ?_ | refine SubH.rown ?_))) ?_
  rintro m Δ LL ⟨i, ⟨hm, ht⟩, rfl, rfl⟩
  simp only [List.cons_append, List.nil_append]
  refine wp_seq' ?_
  refine wp_region' ?_
  refine ops_ro' rfl (ro_lss rfl rfl rfl) rfl ?_
  refine ops_nil ?_
  refine Then_normal ?_
  refine wp_seq' ?_
  refine wp_cond' rfl (fun hc9 => ?_) (fun hc9 => ?_)
  · replace hc9 := of_decide_eq_true hc9
    have hi : i < l.length := by omega
    refine wp_know (fun w F s => vw_ptr (Vw.pick (H := [_, V]) 1 rfl hV) s (by omega)) ?_
    rintro ⟨b0, o0, rfl⟩
    refine wp_skip' ?_
    refine Then_normal ?_
    refine wp_seq' ?_
    refine wp_block' ?_
    refine wp_seq' ?_
    refine wp_region' ?_
    refine ops_ro' rfl (ro_move rfl) rfl ?_
    refine ops_ro' rfl (ro_assign rfl) rfl ?_
    refine ops_nil ?_
    refine Then_normal ?_
    refine wp_seq' ?_
    refine wp_draw 6 (by kernel_rfl) (Split.all _) ?_
    refine any_ro' (i := 0) (by kernel_rfl) rfl rfl (ro_loadA ag30 rfl (RdN.of_pick 0 rfl (show RdN (own b3 (.cells x.cs.toArray 30 (0, 0))) b3 0 x.cs from rdn_all)) rfl) rfl (fun _ _ _ h => h) ?_
    refine any_ro' (i := 1) (by kernel_rfl) rfl rfl (ro_move rfl) rfl (fun _ _ _ h => h) ?_
    refine any_ro' (i := 2) (by kernel_rfl) rfl rfl (ro_move rfl) rfl (fun _ _ _ h => h) ?_
    refine any_ro' (i := 3) (by kernel_rfl) rfl rfl (ro_indexSlice sl31 rfl rfl rfl (by omega)) rfl (fun _ _ _ h => h) ?_
    refine any_ro' (i := 4) (by kernel_rfl) rfl rfl (ro_loadA ag30 rfl (RdN.of_pick 1 rfl (RdN.elem (vw_rdn hV) Us.len (List.getElem?_eq_getElem hi))) rfl) rfl (fun _ _ _ h => h) ?_
    refine any_ro' (i := 5) (by kernel_rfl) rfl rfl (ro_userEq (x := x) (y := l[i]) rfl rfl rfl) rfl (fun _ _ _ h => h) ?_
    refine any_doneL (by kernel_rfl) ?_
    refine Then_normal ?_
    refine wp_cond' rfl (fun hc16 => ?_) (fun hc16 => ?_)
    · replace hc16 := of_decide_eq_true hc16
      refine wp_seq' ?_
      refine wp_region' ?_
      refine ops_ro' rfl (ro_move rfl) rfl ?_
      refine ops_ro' rfl (ro_assign rfl) rfl ?_
      refine ops_nil ?_
      refine Then_normal ?_
      refine wp_ret' ?_
      refine InBlock_ret ?_
      refine Then_ret ?_
      refine Then_ret ?_
      refine InBlock_ret ?_
      refine Then_ret ?_
      refine' doneS_ret (res1 rfl rfl) ?_ ?_
      rotate_left 1
      exact ⟨_, ⟨(i : Nat), rfl, .inl ⟨by omega, by rw [hc16]; exact List.getElem_mem hi⟩, rfl⟩, rfl⟩
      exact (SubH.cons 1 rfl (SubH.nil _))
    · replace hc16 := of_decide_eq_false hc16
      refine wp_skip' ?_
      refine InBlock_normal ?_
      refine Then_normal ?_
      refine wp_region' ?_
      refine ops_ro' rfl (ro_add rfl rfl (wrap_inc (by omega))) rfl ?_
      refine ops_ro' rfl (ro_move rfl) rfl ?_
      refine ops_nil ?_
      refine Then_normal ?_
      refine back (m - 1) (by omega) (kept ⟨i + 1, ⟨by omega, by rw [List.take_succ_eq_append_getElem hi, List.mem_append]; rintro (h | h); exact ht h; exact hc16 (List.mem_singleton.1 h)⟩, rfl, rfl⟩ ?_ ?_ ?_)
      · exact (by repeat (first | exact Has.nil _ | refine Has.cons rfl ?_))
      · exact (by repeat (first | exact Has.nil _ | refine Has.cons rfl ?_))
      · exact SubH.refl _
  · replace hc9 := of_decide_eq_false hc9
    refine wp_exit' ?_
    refine Then_exit ?_
    refine Then_exit ?_
    refine InBlock_here ?_
    refine Then_normal ?_
    refine wp_seq' ?_
    refine wp_region' ?_
    refine ops_ro' rfl (ro_assign rfl) rfl ?_
    refine ops_nil ?_
    refine Then_normal ?_
    refine wp_ret' ?_
    refine' doneS_ret (res1 rfl rfl) ?_ ?_
    rotate_left 1
    exact ⟨_, ⟨-1, rfl, .inr ⟨by omega, by rw [List.take_of_length_le (by omega)] at ht; exact ht⟩, rfl⟩, rfl⟩
    exact (SubH.cons 1 rfl (SubH.nil _))
theorem ucont_spec (V : HProp) (q : Option Addr) (cq : Nat) (l : List Us) (hV : Vw V (.slice q l.length cq) l.length (flat Us.cs l)) (hl : l.length ≤ 140737488355328) (x : Us) : Tri Try.prog 93 [.slice q l.length cq, .agg x.cs.toArray] [V] (fun v H' => ∃ K, (v = .bool (decide (x ∈ l)) ∧ K = []) ∧ H' = K ++ [V]) := by
  refine tri_of_wpS Try.func93 rfl Try.ntmps93 (by simp) ?_
  refine wp_seq' ?_
  refine wp_region' ?_
  refine ops_eff' rfl (eff_box rfl) rfl ?_
  rintro _ _ ⟨b3, rfl, rfl⟩
  refine ops_ro' rfl (ro_assign rfl) rfl ?_
  refine ops_nil ?_
  refine Then_normal ?_
  refine wp_seq' ?_
  refine wp_region' ?_
  refine ops_ro' rfl (ro_move rfl) rfl ?_
  refine ops_ro' rfl (ro_loadA ag30 rfl (RdN.of_pick 0 rfl (show RdN (own b3 (.cells x.cs.toArray 30 (0, 0))) b3 0 x.cs from rdn_all)) rfl) rfl ?_
  refine ops_eff' rfl (eff_call Try.call117 rfl rfl (by repeat (first | exact Split.nil _ | apply Split.cons 0 rfl | apply Split.cons 1 rfl | apply Split.cons 2 rfl | apply Split.cons 3 rfl | apply Split.cons 4 rfl | apply Split.cons 5 rfl | apply Split.cons 6 rfl | apply Split.cons 7 rfl | apply Split.cons 8 rfl | apply Split.cons 9 rfl | apply Split.cons 10 rfl | apply Split.cons 11 rfl)) (uidx_spec V q cq l hV hl x)) rfl ?_
  rintro _ H' ⟨_, ⟨_, ⟨k, rfl, hk, rfl⟩, rfl⟩, hH⟩
  simp only [List.cons_append, List.nil_append, List.eraseIdx_cons_zero, List.eraseIdx_cons_succ, List.set_cons_zero, List.set_cons_succ] at hH
  subst hH
  refine ops_ro' rfl (ro_geq rfl rfl (c := decide (x ∈ l)) (by rcases hk with ⟨h1, h2⟩ | ⟨h1, h2⟩ <;> simp [h2] <;> omega)) rfl ?_
  refine ops_ro' rfl (ro_assign rfl) rfl ?_
  refine ops_nil ?_
  refine Then_normal ?_
  refine wp_ret' ?_
  refine' doneS_ret (res1 rfl rfl) ?_ ?_
  rotate_left 1
  exact ⟨_, ⟨rfl, rfl⟩, rfl⟩
  exact (SubH.cons 0 rfl (SubH.nil _))

end Go.Proofs.Ytigaolglnnjnmaa
