/-
  A directory's list.
-/
import Derived.Test.YtbbmhppkhcodfaaTrK
import Derived.Test.YtbbmhppkhcodfaaSxFork
namespace Go.Proofs.Ytbbmhppkhcodfaa
open Go.Sx
set_option linter.unusedVariables false
set_option linter.unusedSimpArgs false
set_option maxRecDepth 100000
set_option maxHeartbeats 4000000

structure Nm where
  n : List UInt8
  at' : At
deriving DecidableEq
def Nm.cs (x : Nm) : List Value := [.string (str x.n), .int .u32 x.at'.f, .int .u64 x.at'.s, .int .u32 x.at'.u, .int .u32 x.at'.g, .int .u32 x.at'.m, .int .u32 x.at'.a, .int .u32 x.at'.t]
theorem Nm.len (x : Nm) : x.cs.length = 8 := rfl
theorem Nm.one (x : Nm) : ∀ v ∈ x.cs, v.oneCell' = true := fun v hv => by
  simp only [Nm.cs, List.mem_cons, List.not_mem_nil, or_false] at hv
  rcases hv with rfl | rfl | rfl | rfl | rfl | rfl | rfl | rfl <;> rfl
def nmeB (ns : List Nd) (k : Nat) : Nm := match ns.find? (fun x => decide (x.blk = k)) with
  | some y => ⟨y.name, y.told⟩
  | none => ⟨[], At.zero⟩
/-- what is listed of things -/
def lsK (ns : List Nd) (l : List Nat) : List Nm := l.map (nmeB ns)
theorem lsK_snoc {ns : List Nd} (h : (ns.map Nd.blk).Nodup) {y : Nd} (hy : y ∈ ns) {l : List Nat} {i : Nat} (hi : i < l.length) (e : y.blk = l[i]) : lsK ns (l.take (i + 1)) = lsK ns (l.take i) ++ [⟨y.name, y.told⟩] := by
  unfold lsK
  rw [List.take_succ_eq_append_getElem hi, List.map_append, List.map_cons, List.map_nil, ← e]
  congr 2
  unfold nmeB; rw [find_nodup h hy]
def listO (ns : List Nd) : Option Nd → List Nm × Int
  | none => ([], 22)
  | some x => if x.dir = true then (lsK ns x.kids, 0) else ([], 23)
theorem list_spec {V : HProp} {t : Tr} {r : Nd} (hT : Tv V t) (hW : Wf t r) (id : Int) (hl : ∀ x ∈ t.ns, x.data.length ≤ 100000000) : Tri Try.prog 24 [t.v, .int .i64 id] [V]
    (fun v H' => ∃ K, (∃ p c, v = .tuple #[.slice p (listO t.ns (byId t.ns id)).1.length c, .int .i64 (listO t.ns (byId t.ns id)).2] ∧ K = [row 93 8 (.slice p ((listO t.ns (byId t.ns id)).1).length c) ((listO t.ns (byId t.ns id)).1).length (flat Nm.cs ((listO t.ns (byId t.ns id)).1))]) ∧ H' = K ++ [V]) := by
  cases hb : byId t.ns id with
  | none =>
    refine tri_of_wpS Try.func24 rfl Try.ntmps24 (by simp) ?_
    refine wp_seq' ?_
    refine wp_region' ?_
    refine ops_ro' rfl (ro_assign rfl) rfl ?_
    refine ops_ro' rfl (ro_assign rfl) rfl ?_
    refine ops_nil ?_
    refine Then_normal ?_
    refine wp_seq' ?_
    refine wp_region' ?_
    refine ops_ro' rfl (ro_move rfl) rfl ?_
    refine ops_ro' rfl (ro_nilCheck rfl) rfl ?_
    refine ops_ro' rfl (ro_fieldAddr fa78_1 rfl) rfl ?_
    refine ops_ro' rfl (ro_load sc75 rfl (Rd.pick 0 rfl ((hT.cs 1 _ rfl)))) rfl ?_
    refine ops_ro' rfl (ro_move rfl) rfl ?_
    refine ops_ro' rfl (ro_lookup Try.underlying75 Try.underlying3 z76 rfl rfl (Mp.pick 0 rfl hT.mp)) rfl ?_
    rw [mget_ns, hb]
    dsimp only [ptrO, Option.map]
    refine ops_ro' rfl (ro_assign rfl) rfl ?_
    refine ops_nil ?_
    refine Then_normal ?_
    refine wp_seq' ?_
    refine wp_block' ?_
    refine wp_seq' ?_
    refine wp_region' ?_
    refine ops_ro' rfl (ro_move rfl) rfl ?_
    refine ops_ro' rfl (ro_ptrEqlNil Try.underlying76 rfl rfl rfl) rfl ?_
    refine ops_ro' rfl (ro_assign rfl) rfl ?_
    refine ops_nil ?_
    refine Then_normal ?_
    refine wp_condT rfl ?_
    refine wp_seq' ?_
    refine wp_heap (fun w F s => nil_row 93 8 w F s) ?_
    refine wp_region' ?_
    refine ops_ro' rfl (ro_assign rfl) rfl ?_
    refine ops_ro' rfl (ro_assign rfl) rfl ?_
    refine ops_nil ?_
    refine Then_normal ?_
    refine wp_ret' ?_
    refine InBlock_ret ?_
    refine Then_ret ?_
    refine' doneS_ret (res2 rfl rfl rfl) ?_ ?_
    rotate_left 1
    exact ⟨_, ⟨none, 0, rfl, rfl⟩, rfl⟩
    exact SubH.refl _
  | some x =>
    have hx := (byId_some hb).1
    unfold listO
    by_cases hd : x.dir = true
    · dsimp only
      rw [if_pos hd]
      refine tri_of_wpS Try.func24 rfl Try.ntmps24 (by simp) ?_
      refine wp_seq' ?_
      refine wp_region' ?_
      refine ops_ro' rfl (ro_assign rfl) rfl ?_
      refine ops_ro' rfl (ro_assign rfl) rfl ?_
      refine ops_nil ?_
      refine Then_normal ?_
      refine wp_seq' ?_
      refine wp_region' ?_
      refine ops_ro' rfl (ro_move rfl) rfl ?_
      refine ops_ro' rfl (ro_nilCheck rfl) rfl ?_
      refine ops_ro' rfl (ro_fieldAddr fa78_1 rfl) rfl ?_
      refine ops_ro' rfl (ro_load sc75 rfl (Rd.pick 0 rfl ((hT.cs 1 _ rfl)))) rfl ?_
      refine ops_ro' rfl (ro_move rfl) rfl ?_
      refine ops_ro' rfl (ro_lookup Try.underlying75 Try.underlying3 z76 rfl rfl (Mp.pick 0 rfl hT.mp)) rfl ?_
      rw [mget_ns, hb]
      dsimp only [ptrO, Option.map]
      refine ops_ro' rfl (ro_assign rfl) rfl ?_
      refine ops_nil ?_
      refine Then_normal ?_
      refine wp_seq' ?_
      refine wp_block' ?_
      refine wp_seq' ?_
      refine wp_region' ?_
      refine ops_ro' rfl (ro_move rfl) rfl ?_
      refine ops_ro' rfl (ro_ptrEqlNil Try.underlying76 rfl rfl rfl) rfl ?_
      refine ops_ro' rfl (ro_assign rfl) rfl ?_
      refine ops_nil ?_
      refine Then_normal ?_
      refine wp_condF rfl ?_
      refine wp_seq' ?_
      refine wp_region' ?_
      refine ops_ro' rfl (ro_move rfl) rfl ?_
      refine ops_ro' rfl (ro_nilCheck rfl) rfl ?_
      refine ops_ro' rfl (ro_fieldAddr fa85_1 rfl) rfl ?_
      refine ops_ro' rfl (ro_load sc4 rfl (Rd.pick 0 rfl ((hT.nd x hx 1 _ rfl)))) rfl ?_
      rw [hd]
      refine ops_ro' rfl (ro_not rfl rfl) rfl ?_
      try simp only [Bool.not_true, Bool.not_false]
      refine ops_ro' rfl (ro_assign rfl) rfl ?_
      refine ops_nil ?_
      refine Then_normal ?_
      refine wp_condF rfl ?_
      refine wp_skip' ?_
      refine InBlock_normal ?_
      refine Then_normal ?_
      refine wp_seq' ?_
      refine wp_heap (fun w F s => nil_row 93 8 w F s) ?_
      refine wp_region' ?_
      refine ops_ro' rfl (ro_assign rfl) rfl ?_
      refine ops_nil ?_
      refine Then_normal ?_
      refine wp_seq' ?_
      refine wp_seq' ?_
      refine wp_region' ?_
      refine ops_ro' rfl (ro_move rfl) rfl ?_
      refine ops_ro' rfl (ro_nilCheck rfl) rfl ?_
      refine ops_ro' rfl (ro_fieldAddr fa85_3 rfl) rfl ?_
      refine ops_ro' rfl (ro_load sc82 rfl (Rd.pick 1 rfl ((hT.nd x hx 3 _ rfl)))) rfl ?_
      refine ops_ro' rfl (ro_sliceLen Try.underlying82 rfl) rfl ?_
      refine ops_ro' rfl (ro_move rfl) rfl ?_
      refine ops_nil ?_
      refine Then_normal ?_
      refine wp_block' ?_
      refine wp_loopK 8 (fun m Δ LL => ∃ (i : Nat) (p7 : Option Addr) (c7 : Nat), (i + m = x.kids.length) ∧ Δ = [(7, .slice p7 (lsK t.ns (x.kids.take i)).length c7), (30, .int .i64 (i : Nat))] ∧ LL = [row 93 8 (.slice p7 (lsK t.ns (x.kids.take i)).length c7) (lsK t.ns (x.kids.take i)).length (flat Nm.cs (lsK t.ns (x.kids.take i))), V]) (m := x.kids.length) (Has.cons (k := 28) rfl (Has.cons (k := 29) rfl (Has.nil _))) (kept ⟨0, none, 0, by omega, rfl, rfl⟩ (by repeat (first | exact Has.nil _ | refine Has.cons rfl ?_)) (by repeat (first | exact Has.nil _ | refine Has.cons rfl ?_)) (by repeat (first | exact SubH.nil _ | refine SubH.cons 0 rfl ?_ | refine SubH.cons 1 rfl ?_ | refine SubH.cons 2 rfl ?_ | refine SubH.cons 3 rfl ?_ | refine SubH.cons 4 rfl ?_ | refine SubH.cons 5 rfl ?_ | refine SubH.cons 6 rfl ?_ | refine SubH.cons 7 rfl ?_ | refine SubH.cons 8 rfl ?_ | refine SubH.cons 9 rfl ?_ | refine SubH.cons 10 rfl ?_ | refine SubH.cons 11 rfl ?_ | refine SubH.cons 12 rfl ?_ | refine SubH.cons 13 rfl ?_ | refine SubH.rown ?_))) ?_
      rintro m Δ LL ⟨i, p7, c7, hm, rfl, rfl⟩
      simp only [List.cons_append, List.nil_append]
      refine wp_seq' ?_
      refine wp_region' ?_
      refine ops_ro' rfl (ro_lss rfl rfl rfl) rfl ?_
      refine ops_nil ?_
      refine Then_normal ?_
      refine wp_seq' ?_
      refine wp_cond' rfl (fun hc31 => ?_) (fun hc31 => ?_)
      · replace hc31 := of_decide_eq_true hc31
        have hi : i < x.kids.length := by omega
        have hll : (lsK t.ns (x.kids.take i)).length = i := by simp [lsK]; omega
        obtain ⟨y, hy, hyb, hyp⟩ := hW.kd.sub x hx x.kids[i] (List.getElem_mem hi)
        have hyl := hl y hy
        have hfew := hW.kd.few x hx
        have hxk := hT.kids x hx
        refine wp_know (fun w F s => vw_ptr (Vw.pick (H := [_, V]) 1 rfl hxk) s (by omega)) ?_
        rintro ⟨b1, o1, hkp⟩
        rw [hkp] at hxk
        refine wp_skip' ?_
        refine Then_normal ?_
        refine wp_seq' ?_
        refine wp_block' ?_
        refine wp_seq' ?_
        refine wp_region' ?_
        rw [hkp]
        refine ops_ro' rfl (ro_indexSlice sl82 rfl rfl rfl (by omega)) rfl ?_
        refine ops_ro' rfl (ro_load sc76 rfl (Rd.pick 1 rfl (Rd.elem (j := 0) (vw_rdn hxk) Pq.len (List.getElem?_eq_getElem hi) rfl))) rfl ?_
        rw [← hyb]
        refine ops_ro' rfl (ro_assign rfl) rfl ?_
        refine ops_nil ?_
        refine Then_normal ?_
        refine wp_draw 10 (by kernel_rfl) (Split.nil _) ?_
        refine any_ro' (i := 0) (by kernel_rfl) rfl rfl (ro_move rfl) rfl (fun _ _ _ h => h) ?_
        refine any_ro' (i := 1) (by kernel_rfl) rfl rfl (ro_move rfl) rfl (fun _ _ _ h => h) ?_
        refine any_ro' (i := 2) (by kernel_rfl) rfl rfl (ro_nilCheck rfl) rfl (fun _ _ _ h => h) ?_
        refine any_ro' (i := 3) (by kernel_rfl) rfl rfl (ro_fieldAddr fa85_2 rfl) rfl (fun _ _ _ h => h) ?_
        refine any_ro' (i := 5) (by kernel_rfl) rfl rfl (ro_move rfl) rfl (fun _ _ _ h => h) ?_
        refine any_two (i := 4) (j := 6) (by kernel_rfl) ?_ ?_
        · refine at_eff' rfl rfl (eff_ro (ro_load sc9 rfl (Rd.pick 1 rfl ((hT.nd y hy 2 _ rfl))))) rfl ?_
          rintro _ _ ⟨rfl, rfl⟩
          refine any_eff' (i := 6) (by kernel_rfl) rfl rfl (eff_callM (Pre := []) Try.call41 rfl rfl (Split.nil _) (told_spec (Tv.pick 1 rfl hT) y hy (by omega))) rfl ?_
          rintro _ H' ⟨_, ⟨rfl, rfl⟩, hH⟩
          simp only [List.cons_append, List.nil_append, List.eraseIdx_cons_zero, List.eraseIdx_cons_succ, List.set_cons_zero, List.set_cons_succ] at hH
          subst hH
          refine any_ro' (i := 7) (by kernel_rfl) rfl rfl (ro_build rfl (bld_struct (cs := Nm.cs ⟨y.name, y.told⟩) st93 rfl)) rfl (fun _ _ _ h => h) ?_
          refine any_eff' (i := 8) (by kernel_rfl) rfl rfl (eff_lit sl54 rfl (sbld (cs := flat Nm.cs [⟨y.name, y.told⟩]) [(.string ByteArray.empty), (.int .u32 0), (.int .u64 0), (.int .u32 0), (.int .u32 0), (.int .u32 0), (.int .u32 0), (.int .u32 0)] sl54 (by decide) (by kernel_rfl) rfl) rfl (by decide)) rfl ?_
          rintro _ _ ⟨b42, rfl, rfl⟩
          refine any_eff' (i := 9) (by kernel_rfl) rfl rfl (eff_appF (f := Nm.cs) (l2 := [⟨y.name, y.told⟩]) 1 sl54 (.inl ⟨93, Try.underlying54⟩) rfl rfl rfl (by first | exact Src.flatv Nm.len Nm.one (Vw.pick 0 rfl Vw.row) | exact Src.flatv Nm.len Nm.one (Vw.pick 1 rfl Vw.row) | exact Src.flatv Nm.len Nm.one (Vw.pick 2 rfl Vw.row)) (by simp only [List.length_cons, List.length_nil]; omega) (by simp only [List.length_cons, List.length_nil]; omega)) rfl ?_
          rintro _ _ ⟨p43, c43, rfl, hn43, rfl⟩
          simp only [List.set_cons_zero, List.set_cons_succ]
          rw [← lsK_snoc hW.kd.blks hy hi hyb]
          refine any_unlock (m' := 11) (L' := []) (by kernel_rfl) unlock ?_
          simp only [List.cons_append, List.nil_append, List.append_nil]
          refine any_ro' (i := 10) (by kernel_rfl) rfl rfl (ro_assign rfl) rfl (fun _ _ _ h => h) ?_
          refine any_doneH (by kernel_rfl) ?_
          refine InBlock_normal ?_
          refine Then_normal ?_
          refine wp_region' ?_
          refine ops_ro' rfl (ro_add rfl rfl (wrap_inc (by omega))) rfl ?_
          refine ops_ro' rfl (ro_move rfl) rfl ?_
          refine ops_nil ?_
          refine Then_normal ?_
          refine back (m - 1) (by omega) (kept ⟨i + 1, p43, c43, by omega, rfl, rfl⟩ ?_ ?_ ?_)
          · exact (by repeat (first | exact Has.nil _ | refine Has.cons rfl ?_))
          · exact (by repeat (first | exact Has.nil _ | refine Has.cons rfl ?_))
          · exact (SubH.cons 1 rfl (SubH.cons 1 rfl (SubH.nil _)))
        · refine at_eff' rfl rfl (eff_callM (Pre := []) Try.call41 rfl rfl (Split.nil _) (told_spec (Tv.pick 1 rfl hT) y hy (by omega))) rfl ?_
          rintro _ H' ⟨_, ⟨rfl, rfl⟩, hH⟩
          simp only [List.cons_append, List.nil_append, List.eraseIdx_cons_zero, List.eraseIdx_cons_succ, List.set_cons_zero, List.set_cons_succ] at hH
          subst hH
          refine any_eff' (i := 4) (by kernel_rfl) rfl rfl (eff_ro (ro_load sc9 rfl (Rd.pick 1 rfl ((hT.nd y hy 2 _ rfl))))) rfl ?_
          rintro _ _ ⟨rfl, rfl⟩
          refine any_ro' (i := 7) (by kernel_rfl) rfl rfl (ro_build rfl (bld_struct (cs := Nm.cs ⟨y.name, y.told⟩) st93 rfl)) rfl (fun _ _ _ h => h) ?_
          refine any_eff' (i := 8) (by kernel_rfl) rfl rfl (eff_lit sl54 rfl (sbld (cs := flat Nm.cs [⟨y.name, y.told⟩]) [(.string ByteArray.empty), (.int .u32 0), (.int .u64 0), (.int .u32 0), (.int .u32 0), (.int .u32 0), (.int .u32 0), (.int .u32 0)] sl54 (by decide) (by kernel_rfl) rfl) rfl (by decide)) rfl ?_
          rintro _ _ ⟨b42, rfl, rfl⟩
          refine any_eff' (i := 9) (by kernel_rfl) rfl rfl (eff_appF (f := Nm.cs) (l2 := [⟨y.name, y.told⟩]) 1 sl54 (.inl ⟨93, Try.underlying54⟩) rfl rfl rfl (by first | exact Src.flatv Nm.len Nm.one (Vw.pick 0 rfl Vw.row) | exact Src.flatv Nm.len Nm.one (Vw.pick 1 rfl Vw.row) | exact Src.flatv Nm.len Nm.one (Vw.pick 2 rfl Vw.row)) (by simp only [List.length_cons, List.length_nil]; omega) (by simp only [List.length_cons, List.length_nil]; omega)) rfl ?_
          rintro _ _ ⟨p43, c43, rfl, hn43, rfl⟩
          simp only [List.set_cons_zero, List.set_cons_succ]
          rw [← lsK_snoc hW.kd.blks hy hi hyb]
          refine any_unlock (m' := 11) (L' := []) (by kernel_rfl) unlock ?_
          simp only [List.cons_append, List.nil_append, List.append_nil]
          refine any_ro' (i := 10) (by kernel_rfl) rfl rfl (ro_assign rfl) rfl (fun _ _ _ h => h) ?_
          refine any_doneH (by kernel_rfl) ?_
          refine InBlock_normal ?_
          refine Then_normal ?_
          refine wp_region' ?_
          refine ops_ro' rfl (ro_add rfl rfl (wrap_inc (by omega))) rfl ?_
          refine ops_ro' rfl (ro_move rfl) rfl ?_
          refine ops_nil ?_
          refine Then_normal ?_
          refine back (m - 1) (by omega) (kept ⟨i + 1, p43, c43, by omega, rfl, rfl⟩ ?_ ?_ ?_)
          · exact (by repeat (first | exact Has.nil _ | refine Has.cons rfl ?_))
          · exact (by repeat (first | exact Has.nil _ | refine Has.cons rfl ?_))
          · exact (SubH.cons 1 rfl (SubH.cons 1 rfl (SubH.nil _)))
      · replace hc31 := of_decide_eq_false hc31
        refine wp_exit' ?_
        refine Then_exit ?_
        refine Then_exit ?_
        refine InBlock_here ?_
        refine Then_normal ?_
        refine wp_seq' ?_
        refine wp_region' ?_
        refine ops_ro' rfl (ro_move rfl) rfl ?_
        refine ops_ro' rfl (ro_assign rfl) rfl ?_
        refine ops_ro' rfl (ro_assign rfl) rfl ?_
        refine ops_nil ?_
        refine Then_normal ?_
        refine wp_ret' ?_
        rw [show x.kids.take i = x.kids from List.take_of_length_le (by omega)]
        refine' doneS_ret (res2 rfl rfl rfl) ?_ ?_
        rotate_left 1
        exact ⟨_, ⟨p7, c7, rfl, rfl⟩, rfl⟩
        exact SubH.refl _
    · dsimp only
      rw [if_neg hd]
      replace hd : x.dir = false := by simpa using hd
      refine tri_of_wpS Try.func24 rfl Try.ntmps24 (by simp) ?_
      refine wp_seq' ?_
      refine wp_region' ?_
      refine ops_ro' rfl (ro_assign rfl) rfl ?_
      refine ops_ro' rfl (ro_assign rfl) rfl ?_
      refine ops_nil ?_
      refine Then_normal ?_
      refine wp_seq' ?_
      refine wp_region' ?_
      refine ops_ro' rfl (ro_move rfl) rfl ?_
      refine ops_ro' rfl (ro_nilCheck rfl) rfl ?_
      refine ops_ro' rfl (ro_fieldAddr fa78_1 rfl) rfl ?_
      refine ops_ro' rfl (ro_load sc75 rfl (Rd.pick 0 rfl ((hT.cs 1 _ rfl)))) rfl ?_
      refine ops_ro' rfl (ro_move rfl) rfl ?_
      refine ops_ro' rfl (ro_lookup Try.underlying75 Try.underlying3 z76 rfl rfl (Mp.pick 0 rfl hT.mp)) rfl ?_
      rw [mget_ns, hb]
      dsimp only [ptrO, Option.map]
      refine ops_ro' rfl (ro_assign rfl) rfl ?_
      refine ops_nil ?_
      refine Then_normal ?_
      refine wp_seq' ?_
      refine wp_block' ?_
      refine wp_seq' ?_
      refine wp_region' ?_
      refine ops_ro' rfl (ro_move rfl) rfl ?_
      refine ops_ro' rfl (ro_ptrEqlNil Try.underlying76 rfl rfl rfl) rfl ?_
      refine ops_ro' rfl (ro_assign rfl) rfl ?_
      refine ops_nil ?_
      refine Then_normal ?_
      refine wp_condF rfl ?_
      refine wp_seq' ?_
      refine wp_region' ?_
      refine ops_ro' rfl (ro_move rfl) rfl ?_
      refine ops_ro' rfl (ro_nilCheck rfl) rfl ?_
      refine ops_ro' rfl (ro_fieldAddr fa85_1 rfl) rfl ?_
      refine ops_ro' rfl (ro_load sc4 rfl (Rd.pick 0 rfl ((hT.nd x hx 1 _ rfl)))) rfl ?_
      rw [hd]
      refine ops_ro' rfl (ro_not rfl rfl) rfl ?_
      try simp only [Bool.not_true, Bool.not_false]
      refine ops_ro' rfl (ro_assign rfl) rfl ?_
      refine ops_nil ?_
      refine Then_normal ?_
      refine wp_condT rfl ?_
      refine wp_seq' ?_
      refine wp_heap (fun w F s => nil_row 93 8 w F s) ?_
      refine wp_region' ?_
      refine ops_ro' rfl (ro_assign rfl) rfl ?_
      refine ops_ro' rfl (ro_assign rfl) rfl ?_
      refine ops_nil ?_
      refine Then_normal ?_
      refine wp_ret' ?_
      refine InBlock_ret ?_
      refine Then_ret ?_
      refine' doneS_ret (res2 rfl rfl rfl) ?_ ?_
      rotate_left 1
      exact ⟨_, ⟨none, 0, rfl, rfl⟩, rfl⟩
      exact SubH.refl _

end Go.Proofs.Ytbbmhppkhcodfaa
