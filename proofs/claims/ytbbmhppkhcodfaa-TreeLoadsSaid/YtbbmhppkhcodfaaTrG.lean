/-
  A directory's list.
  Things below a thing: plain laws.
  A tree as bytes: plain laws.
  Things that stand by themselves: plain laws.
-/
import Derived.Test.YtbbmhppkhcodfaaTrK
import Derived.Test.YtbbmhppkhcodfaaSxFork
import Derived.Test.YtbbmhppkhcodfaaWire
namespace Go.Proofs.Ytbbmhppkhcodfaa
open Go.Sx
set_option linter.unusedVariables false
set_option linter.unusedSimpArgs false
set_option maxRecDepth 100000
set_option maxHeartbeats 4000000

structure Nm where
  n : List UInt8
  at' : At
deriving DecidableEq
def Nm.cs (x : Nm) : List Value := [.string (str x.n), .int .u32 x.at'.f, .int .u64 x.at'.s, .int .u32 x.at'.u, .int .u32 x.at'.g, .int .u32 x.at'.m, .int .u32 x.at'.a, .int .u32 x.at'.t]
theorem Nm.len (x : Nm) : x.cs.length = 8 := rfl
theorem Nm.one (x : Nm) : ∀ v ∈ x.cs, v.oneCell' = true := fun v hv => by
  simp only [Nm.cs, List.mem_cons, List.not_mem_nil, or_false] at hv
  rcases hv with rfl | rfl | rfl | rfl | rfl | rfl | rfl | rfl <;> rfl
def nmeB (ns : List Nd) (k : Nat) : Nm := match ns.find? (fun x => decide (x.blk = k)) with
  | some y => ⟨y.name, y.told⟩
  | none => ⟨[], At.zero⟩
/-- what is listed of things -/
def lsK (ns : List Nd) (l : List Nat) : List Nm := l.map (nmeB ns)
theorem lsK_snoc {ns : List Nd} (h : (ns.map Nd.blk).Nodup) {y : Nd} (hy : y ∈ ns) {l : List Nat} {i : Nat} (hi : i < l.length) (e : y.blk = l[i]) : lsK ns (l.take (i + 1)) = lsK ns (l.take i) ++ [⟨y.name, y.told⟩] := by
  unfold lsK
  rw [List.take_succ_eq_append_getElem hi, List.map_append, List.map_cons, List.map_nil, ← e]
  congr 2
  unfold nmeB; rw [find_nodup h hy]
def listO (ns : List Nd) : Option Nd → List Nm × Int
  | none => ([], 22)
  | some x => if x.dir = true then (lsK ns x.kids, 0) else ([], 23)
theorem list_spec {V : HProp} {t : Tr} {r : Nd} (hT : Tv V t) (hW : Wf t r) (id : Int) (hl : ∀ x ∈ t.ns, x.data.length ≤ 100000000) : Tri Try.prog 24 [t.v, .int .i64 id] [V]
    (fun v H' => ∃ K, (∃ p c, v = .tuple #[.slice p (listO t.ns (byId t.ns id)).1.length c, .int .i64 (listO t.ns (byId t.ns id)).2] ∧ K = [row 93 8 (.slice p ((listO t.ns (byId t.ns id)).1).length c) ((listO t.ns (byId t.ns id)).1).length (flat Nm.cs ((listO t.ns (byId t.ns id)).1))]) ∧ H' = K ++ [V]) := by
  cases hb : byId t.ns id with
  | none =>
    refine tri_of_wpS Try.func24 rfl Try.ntmps24 (by simp) ?_
    refine wp_seq' ?_
    refine wp_region' ?_
    refine ops_ro' rfl (ro_assign rfl) rfl ?_
    refine ops_ro' rfl (ro_assign rfl) rfl ?_
    refine ops_nil ?_
    refine Then_normal ?_
    refine wp_seq' ?_
    refine wp_region' ?_
    refine ops_ro' rfl (ro_move rfl) rfl ?_
    refine ops_ro' rfl (ro_nilCheck rfl) rfl ?_
    refine ops_ro' rfl (ro_fieldAddr fa78_1 rfl) rfl ?_
    refine ops_ro' rfl (ro_load sc75 rfl (Rd.pick 0 rfl ((hT.cs 1 _ rfl)))) rfl ?_
    refine ops_ro' rfl (ro_move rfl) rfl ?_
    refine ops_ro' rfl (ro_lookup Try.underlying75 Try.underlying3 z76 rfl rfl (Mp.pick 0 rfl hT.mp)) rfl ?_
    rw [mget_ns, hb]
    dsimp only [ptrO, Option.map]
    refine ops_ro' rfl (ro_assign rfl) rfl ?_
    refine ops_nil ?_
    refine Then_normal ?_
    refine wp_seq' ?_
    refine wp_block' ?_
    refine wp_seq' ?_
    refine wp_region' ?_
    refine ops_ro' rfl (ro_move rfl) rfl ?_
    refine ops_ro' rfl (ro_ptrEqlNil Try.underlying76 rfl rfl rfl) rfl ?_
    refine ops_ro' rfl (ro_assign rfl) rfl ?_
    refine ops_nil ?_
    refine Then_normal ?_
    refine wp_condT rfl ?_
    refine wp_seq' ?_
    refine wp_heap (fun w F s => nil_row 93 8 w F s) ?_
    refine wp_region' ?_
    refine ops_ro' rfl (ro_assign rfl) rfl ?_
    refine ops_ro' rfl (ro_assign rfl) rfl ?_
    refine ops_nil ?_
    refine Then_normal ?_
    refine wp_ret' ?_
    refine InBlock_ret ?_
    refine Then_ret ?_
    refine' doneS_ret (res2 rfl rfl rfl) ?_ ?_
    rotate_left 1
    exact ⟨_, ⟨none, 0, rfl, rfl⟩, rfl⟩
    exact SubH.refl _
  | some x =>
    have hx := (byId_some hb).1
    unfold listO
    by_cases hd : x.dir = true
    · dsimp only
      rw [if_pos hd]
      refine tri_of_wpS Try.func24 rfl Try.ntmps24 (by simp) ?_
      refine wp_seq' ?_
      refine wp_region' ?_
      refine ops_ro' rfl (ro_assign rfl) rfl ?_
      refine ops_ro' rfl (ro_assign rfl) rfl ?_
      refine ops_nil ?_
      refine Then_normal ?_
      refine wp_seq' ?_
      refine wp_region' ?_
      refine ops_ro' rfl (ro_move rfl) rfl ?_
      refine ops_ro' rfl (ro_nilCheck rfl) rfl ?_
      refine ops_ro' rfl (ro_fieldAddr fa78_1 rfl) rfl ?_
      refine ops_ro' rfl (ro_load sc75 rfl (Rd.pick 0 rfl ((hT.cs 1 _ rfl)))) rfl ?_
      refine ops_ro' rfl (ro_move rfl) rfl ?_
      refine ops_ro' rfl (ro_lookup Try.underlying75 Try.underlying3 z76 rfl rfl (Mp.pick 0 rfl hT.mp)) rfl ?_
      rw [mget_ns, hb]
      dsimp only [ptrO, Option.map]
      refine ops_ro' rfl (ro_assign rfl) rfl ?_
      refine ops_nil ?_
      refine Then_normal ?_
      refine wp_seq' ?_
      refine wp_block' ?_
      refine wp_seq' ?_
      refine wp_region' ?_
      refine ops_ro' rfl (ro_move rfl) rfl ?_
      refine ops_ro' rfl (ro_ptrEqlNil Try.underlying76 rfl rfl rfl) rfl ?_
      refine ops_ro' rfl (ro_assign rfl) rfl ?_
      refine ops_nil ?_
      refine Then_normal ?_
      refine wp_condF rfl ?_
      refine wp_seq' ?_
      refine wp_region' ?_
      refine ops_ro' rfl (ro_move rfl) rfl ?_
      refine ops_ro' rfl (ro_nilCheck rfl) rfl ?_
      refine ops_ro' rfl (ro_fieldAddr fa85_1 rfl) rfl ?_
      refine ops_ro' rfl (ro_load sc4 rfl (Rd.pick 0 rfl ((hT.nd x hx 1 _ rfl)))) rfl ?_
      rw [hd]
      refine ops_ro' rfl (ro_not rfl rfl) rfl ?_
      try simp only [Bool.not_true, Bool.not_false]
      refine ops_ro' rfl (ro_assign rfl) rfl ?_
      refine ops_nil ?_
      refine Then_normal ?_
      refine wp_condF rfl ?_
      refine wp_skip' ?_
      refine InBlock_normal ?_
      refine Then_normal ?_
      refine wp_seq' ?_
      refine wp_heap (fun w F s => nil_row 93 8 w F s) ?_
      refine wp_region' ?_
      refine ops_ro' rfl (ro_assign rfl) rfl ?_
      refine ops_nil ?_
      refine Then_normal ?_
      refine wp_seq' ?_
      refine wp_seq' ?_
      refine wp_region' ?_
      refine ops_ro' rfl (ro_move rfl) rfl ?_
      refine ops_ro' rfl (ro_nilCheck rfl) rfl ?_
      refine ops_ro' rfl (ro_fieldAddr fa85_3 rfl) rfl ?_
      refine ops_ro' rfl (ro_load sc82 rfl (Rd.pick 1 rfl ((hT.nd x hx 3 _ rfl)))) rfl ?_
      refine ops_ro' rfl (ro_sliceLen Try.underlying82 rfl) rfl ?_
      refine ops_ro' rfl (ro_move rfl) rfl ?_
      refine ops_nil ?_
      refine Then_normal ?_
      refine wp_block' ?_
      refine wp_loopK 8 (fun m Δ LL => ∃ (i : Nat) (p7 : Option Addr) (c7 : Nat), (i + m = x.kids.length) ∧ Δ = [(7, .slice p7 (lsK t.ns (x.kids.take i)).length c7), (30, .int .i64 (i : Nat))] ∧ LL = [row 93 8 (.slice p7 (lsK t.ns (x.kids.take i)).length c7) (lsK t.ns (x.kids.take i)).length (flat Nm.cs (lsK t.ns (x.kids.take i))), V]) (m := x.kids.length) (Has.cons (k := 28) rfl (Has.cons (k := 29) rfl (Has.nil _))) (kept ⟨0, none, 0, by omega, rfl, rfl⟩ (by repeat (first | exact Has.nil _ | refine Has.cons rfl ?_)) (by repeat (first | exact Has.nil _ | refine Has.cons rfl ?_)) (by repeat (first | exact SubH.nil _ | refine SubH.cons 0 rfl ?_ | refine SubH.cons 1 rfl ?_ | refine SubH.cons 2 rfl ?_ | refine SubH.cons 3 rfl ?_ | refine SubH.cons 4 rfl ?_ | refine SubH.cons 5 rfl ?_ | refine SubH.cons 6 rfl ?_ | refine SubH.cons 7 rfl ?_ | refine SubH.cons 8 rfl ?_ | refine SubH.cons 9 rfl ?_ | refine SubH.cons 10 rfl ?_ | refine SubH.cons 11 rfl ?_ | refine SubH.cons 12 rfl ?_ | refine SubH.cons 13 rfl ?_ | refine SubH.rown ?_))) ?_
      rintro m Δ LL ⟨i, p7, c7, hm, rfl, rfl⟩
      simp only [List.cons_append, List.nil_append]
      refine wp_seq' ?_
      refine wp_region' ?_
      refine ops_ro' rfl (ro_lss rfl rfl rfl) rfl ?_
      refine ops_nil ?_
      refine Then_normal ?_
      refine wp_seq' ?_
      refine wp_cond' rfl (fun hc31 => ?_) (fun hc31 => ?_)
      · replace hc31 := of_decide_eq_true hc31
        have hi : i < x.kids.length := by omega
        have hll : (lsK t.ns (x.kids.take i)).length = i := by simp [lsK]; omega
        obtain ⟨y, hy, hyb, hyp⟩ := hW.kd.sub x hx x.kids[i] (List.getElem_mem hi)
        have hyl := hl y hy
        have hfew := hW.kd.few x hx
        have hxk := hT.kids x hx
        refine wp_know (fun w F s => vw_ptr (Vw.pick (H := [_, V]) 1 rfl hxk) s (by omega)) ?_
        rintro ⟨b1, o1, hkp⟩
        rw [hkp] at hxk
        refine wp_skip' ?_
        refine Then_normal ?_
        refine wp_seq' ?_
        refine wp_block' ?_
        refine wp_seq' ?_
        refine wp_region' ?_
        rw [hkp]
        refine ops_ro' rfl (ro_indexSlice sl82 rfl rfl rfl (by omega)) rfl ?_
        refine ops_ro' rfl (ro_load sc76 rfl (Rd.pick 1 rfl (Rd.elem (j := 0) (vw_rdn hxk) Pq.len (List.getElem?_eq_getElem hi) rfl))) rfl ?_
        rw [← hyb]
        refine ops_ro' rfl (ro_assign rfl) rfl ?_
        refine ops_nil ?_
        refine Then_normal ?_
        refine wp_draw 10 (by kernel_rfl) (Split.nil _) ?_
        refine any_ro' (i := 0) (by kernel_rfl) rfl rfl (ro_move rfl) rfl (fun _ _ _ h => h) ?_
        refine any_ro' (i := 1) (by kernel_rfl) rfl rfl (ro_move rfl) rfl (fun _ _ _ h => h) ?_
        refine any_ro' (i := 2) (by kernel_rfl) rfl rfl (ro_nilCheck rfl) rfl (fun _ _ _ h => h) ?_
        refine any_ro' (i := 3) (by kernel_rfl) rfl rfl (ro_fieldAddr fa85_2 rfl) rfl (fun _ _ _ h => h) ?_
        refine any_ro' (i := 5) (by kernel_rfl) rfl rfl (ro_move rfl) rfl (fun _ _ _ h => h) ?_
        refine any_two (i := 4) (j := 6) (by kernel_rfl) ?_ ?_
        · refine at_eff' rfl rfl (eff_ro (ro_load sc9 rfl (Rd.pick 1 rfl ((hT.nd y hy 2 _ rfl))))) rfl ?_
          rintro _ _ ⟨rfl, rfl⟩
          refine any_eff' (i := 6) (by kernel_rfl) rfl rfl (eff_callM (Pre := []) Try.call41 rfl rfl (Split.nil _) (told_spec (Tv.pick 1 rfl hT) y hy (by omega))) rfl ?_
          rintro _ H' ⟨_, ⟨rfl, rfl⟩, hH⟩
          simp only [List.cons_append, List.nil_append, List.eraseIdx_cons_zero, List.eraseIdx_cons_succ, List.set_cons_zero, List.set_cons_succ] at hH
          subst hH
          refine any_ro' (i := 7) (by kernel_rfl) rfl rfl (ro_build rfl (bld_struct (cs := Nm.cs ⟨y.name, y.told⟩) st93 rfl)) rfl (fun _ _ _ h => h) ?_
          refine any_eff' (i := 8) (by kernel_rfl) rfl rfl (eff_lit sl54 rfl (sbld (cs := flat Nm.cs [⟨y.name, y.told⟩]) [(.string ByteArray.empty), (.int .u32 0), (.int .u64 0), (.int .u32 0), (.int .u32 0), (.int .u32 0), (.int .u32 0), (.int .u32 0)] sl54 (by decide) (by kernel_rfl) rfl) rfl (by decide)) rfl ?_
          rintro _ _ ⟨b42, rfl, rfl⟩
          refine any_eff' (i := 9) (by kernel_rfl) rfl rfl (eff_appF (f := Nm.cs) (l2 := [⟨y.name, y.told⟩]) 1 sl54 (.inl ⟨93, Try.underlying54⟩) rfl rfl rfl (by first | exact Src.flatv Nm.len Nm.one (Vw.pick 0 rfl Vw.row) | exact Src.flatv Nm.len Nm.one (Vw.pick 1 rfl Vw.row) | exact Src.flatv Nm.len Nm.one (Vw.pick 2 rfl Vw.row)) (by simp only [List.length_cons, List.length_nil]; omega) (by simp only [List.length_cons, List.length_nil]; omega)) rfl ?_
          rintro _ _ ⟨p43, c43, rfl, hn43, rfl⟩
          simp only [List.set_cons_zero, List.set_cons_succ]
          rw [← lsK_snoc hW.kd.blks hy hi hyb]
          refine any_unlock (m' := 11) (L' := []) (by kernel_rfl) unlock ?_
          simp only [List.cons_append, List.nil_append, List.append_nil]
          refine any_ro' (i := 10) (by kernel_rfl) rfl rfl (ro_assign rfl) rfl (fun _ _ _ h => h) ?_
          refine any_doneH (by kernel_rfl) ?_
          refine InBlock_normal ?_
          refine Then_normal ?_
          refine wp_region' ?_
          refine ops_ro' rfl (ro_add rfl rfl (wrap_inc (by omega))) rfl ?_
          refine ops_ro' rfl (ro_move rfl) rfl ?_
          refine ops_nil ?_
          refine Then_normal ?_
          refine back (m - 1) (by omega) (kept ⟨i + 1, p43, c43, by omega, rfl, rfl⟩ ?_ ?_ ?_)
          · exact (by repeat (first | exact Has.nil _ | refine Has.cons rfl ?_))
          · exact (by repeat (first | exact Has.nil _ | refine Has.cons rfl ?_))
          · exact (SubH.cons 1 rfl (SubH.cons 1 rfl (SubH.nil _)))
        · refine at_eff' rfl rfl (eff_callM (Pre := []) Try.call41 rfl rfl (Split.nil _) (told_spec (Tv.pick 1 rfl hT) y hy (by omega))) rfl ?_
          rintro _ H' ⟨_, ⟨rfl, rfl⟩, hH⟩
          simp only [List.cons_append, List.nil_append, List.eraseIdx_cons_zero, List.eraseIdx_cons_succ, List.set_cons_zero, List.set_cons_succ] at hH
          subst hH
          refine any_eff' (i := 4) (by kernel_rfl) rfl rfl (eff_ro (ro_load sc9 rfl (Rd.pick 1 rfl ((hT.nd y hy 2 _ rfl))))) rfl ?_
          rintro _ _ ⟨rfl, rfl⟩
          refine any_ro' (i := 7) (by kernel_rfl) rfl rfl (ro_build rfl (bld_struct (cs := Nm.cs ⟨y.name, y.told⟩) st93 rfl)) rfl (fun _ _ _ h => h) ?_
          refine any_eff' (i := 8) (by kernel_rfl) rfl rfl (eff_lit sl54 rfl (sbld (cs := flat Nm.cs [⟨y.name, y.told⟩]) [(.string ByteArray.empty), (.int .u32 0), (.int .u64 0), (.int .u32 0), (.int .u32 0), (.int .u32 0), (.int .u32 0), (.int .u32 0)] sl54 (by decide) (by kernel_rfl) rfl) rfl (by decide)) rfl ?_
          rintro _ _ ⟨b42, rfl, rfl⟩
          refine any_eff' (i := 9) (by kernel_rfl) rfl rfl (eff_appF (f := Nm.cs) (l2 := [⟨y.name, y.told⟩]) 1 sl54 (.inl ⟨93, Try.underlying54⟩) rfl rfl rfl (by first | exact Src.flatv Nm.len Nm.one (Vw.pick 0 rfl Vw.row) | exact Src.flatv Nm.len Nm.one (Vw.pick 1 rfl Vw.row) | exact Src.flatv Nm.len Nm.one (Vw.pick 2 rfl Vw.row)) (by simp only [List.length_cons, List.length_nil]; omega) (by simp only [List.length_cons, List.length_nil]; omega)) rfl ?_
          rintro _ _ ⟨p43, c43, rfl, hn43, rfl⟩
          simp only [List.set_cons_zero, List.set_cons_succ]
          rw [← lsK_snoc hW.kd.blks hy hi hyb]
          refine any_unlock (m' := 11) (L' := []) (by kernel_rfl) unlock ?_
          simp only [List.cons_append, List.nil_append, List.append_nil]
          refine any_ro' (i := 10) (by kernel_rfl) rfl rfl (ro_assign rfl) rfl (fun _ _ _ h => h) ?_
          refine any_doneH (by kernel_rfl) ?_
          refine InBlock_normal ?_
          refine Then_normal ?_
          refine wp_region' ?_
          refine ops_ro' rfl (ro_add rfl rfl (wrap_inc (by omega))) rfl ?_
          refine ops_ro' rfl (ro_move rfl) rfl ?_
          refine ops_nil ?_
          refine Then_normal ?_
          refine back (m - 1) (by omega) (kept ⟨i + 1, p43, c43, by omega, rfl, rfl⟩ ?_ ?_ ?_)
          · exact (by repeat (first | exact Has.nil _ | refine Has.cons rfl ?_))
          · exact (by repeat (first | exact Has.nil _ | refine Has.cons rfl ?_))
          · exact (SubH.cons 1 rfl (SubH.cons 1 rfl (SubH.nil _)))
      · replace hc31 := of_decide_eq_false hc31
        refine wp_exit' ?_
        refine Then_exit ?_
        refine Then_exit ?_
        refine InBlock_here ?_
        refine Then_normal ?_
        refine wp_seq' ?_
        refine wp_region' ?_
        refine ops_ro' rfl (ro_move rfl) rfl ?_
        refine ops_ro' rfl (ro_assign rfl) rfl ?_
        refine ops_ro' rfl (ro_assign rfl) rfl ?_
        refine ops_nil ?_
        refine Then_normal ?_
        refine wp_ret' ?_
        rw [show x.kids.take i = x.kids from List.take_of_length_le (by omega)]
        refine' doneS_ret (res2 rfl rfl rfl) ?_ ?_
        rotate_left 1
        exact ⟨_, ⟨p7, c7, rfl, rfl⟩, rfl⟩
        exact SubH.refl _
    · dsimp only
      rw [if_neg hd]
      replace hd : x.dir = false := by simpa using hd
      refine tri_of_wpS Try.func24 rfl Try.ntmps24 (by simp) ?_
      refine wp_seq' ?_
      refine wp_region' ?_
      refine ops_ro' rfl (ro_assign rfl) rfl ?_
      refine ops_ro' rfl (ro_assign rfl) rfl ?_
      refine ops_nil ?_
      refine Then_normal ?_
      refine wp_seq' ?_
      refine wp_region' ?_
      refine ops_ro' rfl (ro_move rfl) rfl ?_
      refine ops_ro' rfl (ro_nilCheck rfl) rfl ?_
      refine ops_ro' rfl (ro_fieldAddr fa78_1 rfl) rfl ?_
      refine ops_ro' rfl (ro_load sc75 rfl (Rd.pick 0 rfl ((hT.cs 1 _ rfl)))) rfl ?_
      refine ops_ro' rfl (ro_move rfl) rfl ?_
      refine ops_ro' rfl (ro_lookup Try.underlying75 Try.underlying3 z76 rfl rfl (Mp.pick 0 rfl hT.mp)) rfl ?_
      rw [mget_ns, hb]
      dsimp only [ptrO, Option.map]
      refine ops_ro' rfl (ro_assign rfl) rfl ?_
      refine ops_nil ?_
      refine Then_normal ?_
      refine wp_seq' ?_
      refine wp_block' ?_
      refine wp_seq' ?_
      refine wp_region' ?_
      refine ops_ro' rfl (ro_move rfl) rfl ?_
      refine ops_ro' rfl (ro_ptrEqlNil Try.underlying76 rfl rfl rfl) rfl ?_
      refine ops_ro' rfl (ro_assign rfl) rfl ?_
      refine ops_nil ?_
      refine Then_normal ?_
      refine wp_condF rfl ?_
      refine wp_seq' ?_
      refine wp_region' ?_
      refine ops_ro' rfl (ro_move rfl) rfl ?_
      refine ops_ro' rfl (ro_nilCheck rfl) rfl ?_
      refine ops_ro' rfl (ro_fieldAddr fa85_1 rfl) rfl ?_
      refine ops_ro' rfl (ro_load sc4 rfl (Rd.pick 0 rfl ((hT.nd x hx 1 _ rfl)))) rfl ?_
      rw [hd]
      refine ops_ro' rfl (ro_not rfl rfl) rfl ?_
      try simp only [Bool.not_true, Bool.not_false]
      refine ops_ro' rfl (ro_assign rfl) rfl ?_
      refine ops_nil ?_
      refine Then_normal ?_
      refine wp_condT rfl ?_
      refine wp_seq' ?_
      refine wp_heap (fun w F s => nil_row 93 8 w F s) ?_
      refine wp_region' ?_
      refine ops_ro' rfl (ro_assign rfl) rfl ?_
      refine ops_ro' rfl (ro_assign rfl) rfl ?_
      refine ops_nil ?_
      refine Then_normal ?_
      refine wp_ret' ?_
      refine InBlock_ret ?_
      refine Then_ret ?_
      refine' doneS_ret (res2 rfl rfl rfl) ?_ ?_
      rotate_left 1
      exact ⟨_, ⟨none, 0, rfl, rfl⟩, rfl⟩
      exact SubH.refl _

end Go.Proofs.Ytbbmhppkhcodfaa
namespace Go.Proofs.Ytbbmhppkhcodfaa
open Go.Sx
set_option linter.unusedVariables false
set_option linter.unusedSimpArgs false
set_option maxRecDepth 100000
set_option maxHeartbeats 4000000

theorem less_cmp : ∀ a b : List UInt8, Op.bytesLess a b = decide (cmp a b < 0)
  | _, [] => by cases ‹List UInt8› <;> rfl
  | [], _ :: _ => rfl
  | x :: a, y :: b => by
    show (decide (x < y) || (x == y && Op.bytesLess a b)) = decide ((if x < y then (-1 : Int) else if y < x then 1 else Lib.compareBytes a b) < 0)
    by_cases h1 : x < y
    · rw [if_pos h1, decide_eq_true h1]; rfl
    · rw [if_neg h1, decide_eq_false h1, Bool.false_or]
      by_cases h2 : y < x
      · rw [if_pos h2]
        have h3 : (x == y) = false := by
          have h4 : x ≠ y := fun e => by rw [e, u8_lt] at h2; omega
          simpa using h4
        rw [h3]; rfl
      · rw [if_neg h2]
        have h3 : x = y := by rw [u8_lt] at h1 h2; exact UInt8.toNat_inj.1 (by omega)
        rw [h3, less_cmp a b]; simp
section
variable {P : Program} {n : Nat} {L : HProp} {Γ : Env} {d : Option Tmp} {ty : TypeId} {pos : String} {aft : Array Edge} {g : Option (Nat × Bool)}
theorem less_str (a b : List UInt8) : Op.bytesLess (str a).toList (str b).toList = decide (cmp a b < 0) := by
  rw [ByteArray.toList_eq, ByteArray.toList_eq]; exact less_cmp a b
theorem ro_geqS {t ty' : TypeId} {x y : Operand} {a b : List UInt8} {c : Bool} (hx : ev Γ x = some (.string (str a))) (hy : ev Γ y = some (.string (str b))) (hz : (!decide (cmp a b < 0)) = c) :
    RO P n L Γ ⟨d, .binOp .geq t x y ty', ty, pos, aft, g⟩ (.bool c) := fun e w R f s => by
  have h : (!Op.bytesLess (str a).toList (str b).toList) = c := by rw [less_str]; exact hz
  simp [execOp, f.ev hx, f.ev hy, eqGuard_str, binOp, Op.stringOp, h]
theorem ro_lssS {t ty' : TypeId} {x y : Operand} {a b : List UInt8} {c : Bool} (hx : ev Γ x = some (.string (str a))) (hy : ev Γ y = some (.string (str b))) (hz : decide (cmp a b < 0) = c) :
    RO P n L Γ ⟨d, .binOp .lss t x y ty', ty, pos, aft, g⟩ (.bool c) := fun e w R f s => by
  have h : Op.bytesLess (str a).toList (str b).toList = c := by rw [less_str]; exact hz
  simp [execOp, f.ev hx, f.ev hy, eqGuard_str, binOp, Op.stringOp, h]
end
theorem nodup_of_map {f : Nd → Nat} : ∀ {l : List Nd}, (l.map f).Nodup → l.Nodup
  | [], _ => List.nodup_nil
  | x :: l, h => by
    rw [List.map_cons, List.nodup_cons] at h
    exact List.nodup_cons.2 ⟨fun hx => h.1 (List.mem_map.2 ⟨x, hx, rfl⟩), nodup_of_map h.2⟩
/-- what a thing holds -/
def kidsN (ns : List Nd) (x : Nd) : List Nd := x.kids.filterMap fun k => ns.find? fun y => decide (y.blk = k)
theorem kidsN_mem {ns : List Nd} (h : Kd ns) (hid : (ns.map Nd.id).Nodup) {x y : Nd} (hx : x ∈ ns) : y ∈ kidsN ns x ↔ y ∈ ns ∧ y.par = x.id := by
  unfold kidsN
  rw [List.mem_filterMap]
  constructor
  · rintro ⟨k, hk, hy⟩
    obtain ⟨z, h1, h2, h3⟩ := h.sub x hx k hk
    rw [← h2, find_nodup h.blks h1] at hy
    injection hy with hy; subst hy; exact ⟨h1, h3⟩
  · rintro ⟨h1, h2⟩
    exact ⟨y.blk, h.all x hx y h1 h2, find_nodup h.blks h1⟩
theorem kidsN_cons {ns : List Nd} (h : Kd ns) {k : Nat} {l : List Nat} {y : Nd} (hy : y ∈ ns) (e : y.blk = k) : (k :: l).filterMap (fun k => ns.find? fun y => decide (y.blk = k)) = y :: l.filterMap (fun k => ns.find? fun y => decide (y.blk = k)) := by
  rw [List.filterMap_cons, ← e, find_nodup h.blks hy]
theorem kidsN_map {ns : List Nd} (h : Kd ns) : ∀ {l : List Nat}, (∀ k ∈ l, ∃ y ∈ ns, y.blk = k) → (l.filterMap fun k => ns.find? fun y => decide (y.blk = k)).map Nd.blk = l
  | [], _ => rfl
  | k :: l, hl => by
    obtain ⟨y, hy, e⟩ := hl k (by simp)
    rw [kidsN_cons h hy e, List.map_cons, kidsN_map h fun k hk => hl k (by simp [hk]), e]
theorem kidsN_blk {ns : List Nd} (h : Kd ns) {x : Nd} (hx : x ∈ ns) : (kidsN ns x).map Nd.blk = x.kids := kidsN_map h fun k hk => by
  obtain ⟨y, h1, h2, _⟩ := h.sub x hx k hk; exact ⟨y, h1, h2⟩
theorem kidsN_len {ns : List Nd} (h : Kd ns) {x : Nd} (hx : x ∈ ns) : (kidsN ns x).length = x.kids.length := by rw [← kidsN_blk h hx, List.length_map]
theorem kidsN_nodup {ns : List Nd} (h : Kd ns) {x : Nd} (hx : x ∈ ns) : (kidsN ns x).Nodup := by
  have h1 := kids_nodup h hx
  rw [← kidsN_blk h hx] at h1
  exact nodup_of_map h1
theorem kidsN_at {ns : List Nd} (h : Kd ns) {x : Nd} (hx : x ∈ ns) {i : Nat} (hi : i < x.kids.length) : ∃ y ∈ ns, y.blk = x.kids[i] ∧ y.par = x.id ∧ (kidsN ns x)[i]? = some y := by
  obtain ⟨y, h1, h2, h3⟩ := h.sub x hx x.kids[i] (List.getElem_mem hi)
  refine ⟨y, h1, h2, h3, ?_⟩
  have hl := kidsN_len h hx
  have hi2 : i < (kidsN ns x).length := by omega
  rw [List.getElem?_eq_getElem hi2]
  have e1 : ((kidsN ns x).map Nd.blk)[i]? = some x.kids[i] := by rw [kidsN_blk h hx, List.getElem?_eq_getElem hi]
  rw [List.getElem?_map, List.getElem?_eq_getElem hi2] at e1
  injection e1 with e1
  have hm : (kidsN ns x)[i] ∈ ns := by
    have h4 := List.getElem_mem hi2
    obtain ⟨k, _, h5⟩ := List.mem_filterMap.1 h4
    exact List.mem_of_find?_eq_some h5
  rw [nmB_mem h.blks hm h1 (by rw [e1, h2])]
/-- the sum over a thing and what is below it -/
def tot (ns : List Nd) (w : Nd → Nat) : Nat → Nd → Nat
  | 0, x => w x
  | n + 1, x => w x + ((kidsN ns x).map (tot ns w n)).sum
def levs (ns : List Nd) : Nat → List Nd → List Nd
  | 0, l => l
  | n + 1, l => l ++ levs ns n (l.flatMap (kidsN ns))
theorem sum_flat (w : Nd → Nat) (f : Nd → List Nd) : ∀ l : List Nd, ((l.flatMap f).map w).sum = (l.map fun x => ((f x).map w).sum).sum
  | [] => rfl
  | x :: l => by rw [List.flatMap_cons, List.map_append, List.sum_append, sum_flat w f l]; rfl
theorem sum_add (f g : Nd → Nat) : ∀ l : List Nd, (l.map fun x => f x + g x).sum = (l.map f).sum + (l.map g).sum
  | [] => rfl
  | x :: l => by simp only [List.map_cons, List.sum_cons]; rw [sum_add f g l]; omega
theorem tot_levs (ns : List Nd) (w : Nd → Nat) : ∀ (n : Nat) (l : List Nd), (l.map (tot ns w n)).sum = ((levs ns n l).map w).sum
  | 0, l => rfl
  | n + 1, l => by
    show (l.map fun x => w x + ((kidsN ns x).map (tot ns w n)).sum).sum = ((l ++ levs ns n (l.flatMap (kidsN ns))).map w).sum
    rw [List.map_append, List.sum_append, sum_add, ← tot_levs ns w n, sum_flat]
theorem sum_perm (w : Nd → Nat) {l m : List Nd} (h : l.Perm m) : (l.map w).sum = (m.map w).sum := by
  induction h with
  | nil => rfl
  | cons x _ ih => simp only [List.map_cons, List.sum_cons]; rw [ih]
  | swap x y l => simp only [List.map_cons, List.sum_cons]; omega
  | trans _ _ h1 h2 => rw [h1, h2]
/-- how deep things stand: no deeper than 5 -/
structure Dp (ns : List Nd) (d : Nat → Nat) : Prop where
  up : ∀ x ∈ ns, ∀ y ∈ ns, y.par = (x.id : Int) → d y.id = d x.id + 1
  z : d 0 = 0
  le : ∀ x ∈ ns, d x.id ≤ 5
theorem lev_flat_nodup {t : Tr} {r : Nd} (hW : Wf t r) {j : Nat} {d : Nat → Nat} (hD : ∀ x ∈ t.ns, ∀ y ∈ t.ns, y.par = (x.id : Int) → d y.id = d x.id + 1) : ∀ {l : List Nd}, l.Nodup → (∀ x ∈ l, x ∈ t.ns ∧ d x.id = j) → (l.flatMap (kidsN t.ns)).Nodup ∧ ∀ x ∈ l.flatMap (kidsN t.ns), x ∈ t.ns ∧ d x.id = j + 1
  | [], _, _ => ⟨List.nodup_nil, fun x hx => by cases hx⟩
  | a :: l, h, hl => by
    rw [List.nodup_cons] at h
    obtain ⟨i1, i2⟩ := lev_flat_nodup hW hD h.2 fun x hx => hl x (by simp [hx])
    obtain ⟨ha, hda⟩ := hl a (by simp)
    rw [List.flatMap_cons]
    refine ⟨List.nodup_append.2 ⟨kidsN_nodup hW.kd ha, i1, fun x hx y hy e => ?_⟩, fun x hx => ?_⟩
    · subst e
      obtain ⟨z, hz, hxz⟩ := List.mem_flatMap.1 hy
      have h1 := ((kidsN_mem hW.kd hW.ids ha).1 hx).2
      have hzn := (hl z (by simp [hz])).1
      have h2 := ((kidsN_mem hW.kd hW.ids hzn).1 hxz).2
      have h3 : a = z := nmId hW.ids ha hzn (by omega)
      exact h.1 (by rw [h3]; exact hz)
    · rcases List.mem_append.1 hx with hx | hx
      · obtain ⟨h1, h2⟩ := (kidsN_mem hW.kd hW.ids ha).1 hx
        exact ⟨h1, by rw [hD a ha x h1 h2, hda]⟩
      · exact i2 x hx
theorem levs_nodup {t : Tr} {r : Nd} (hW : Wf t r) {d : Nat → Nat} (hD : ∀ x ∈ t.ns, ∀ y ∈ t.ns, y.par = (x.id : Int) → d y.id = d x.id + 1) : ∀ (n j : Nat) {l : List Nd}, l.Nodup → (∀ x ∈ l, x ∈ t.ns ∧ d x.id = j) → (levs t.ns n l).Nodup ∧ ∀ x ∈ levs t.ns n l, x ∈ t.ns ∧ j ≤ d x.id
  | 0, j, l, h, hl => ⟨h, fun x hx => ⟨(hl x hx).1, Nat.le_of_eq (hl x hx).2.symm⟩⟩
  | n + 1, j, l, h, hl => by
    obtain ⟨h1, h2⟩ := lev_flat_nodup hW hD h hl
    obtain ⟨h3, h4⟩ := levs_nodup hW hD n (j + 1) h1 h2
    refine ⟨List.nodup_append.2 ⟨h, h3, fun x hx y hy e => ?_⟩, fun x hx => ?_⟩
    · have := (hl x hx).2
      have := (h4 y hy).2
      rw [← e] at this; omega
    · rcases List.mem_append.1 hx with hx | hx
      · exact ⟨(hl x hx).1, Nat.le_of_eq (hl x hx).2.symm⟩
      · exact ⟨(h4 x hx).1, by have := (h4 x hx).2; omega⟩
theorem levs_all {t : Tr} {r : Nd} (hW : Wf t r) {d : Nat → Nat} (hD : Dp t.ns d) : ∀ (n j : Nat) {l : List Nd}, (∀ y ∈ t.ns, d y.id = j → y ∈ l) → (∀ x ∈ l, x ∈ t.ns) → ∀ y ∈ t.ns, j ≤ d y.id → d y.id ≤ j + n → y ∈ levs t.ns n l
  | 0, j, l, h, _, y, hy, h1, h2 => h y hy (by omega)
  | n + 1, j, l, h, hs, y, hy, h1, h2 => by
    by_cases e : d y.id = j
    · exact List.mem_append_left _ (h y hy e)
    · refine List.mem_append_right _ (levs_all hW hD n (j + 1) (l := l.flatMap (kidsN t.ns)) (fun z hz hdz => ?_) (fun z hz => ?_) y hy (by omega) (by omega))
      · rcases hW.par z hz with hp | ⟨x, hx, hp, _⟩
        · rw [hp, hD.z] at hdz; omega
        · have hdx := hD.up x hx z hz hp
          exact List.mem_flatMap.2 ⟨x, h x hx (by omega), (kidsN_mem hW.kd hW.ids hx).2 ⟨hz, hp⟩⟩
      · obtain ⟨x, hx, hzx⟩ := List.mem_flatMap.1 hz
        exact ((kidsN_mem hW.kd hW.ids (hs x hx)).1 hzx).1
/-- the root and what is below it are all -/
theorem tot_all {t : Tr} {r : Nd} (hW : Wf t r) {d : Nat → Nat} (hD : Dp t.ns d) (w : Nd → Nat) : tot t.ns w 5 r = (t.ns.map w).sum := by
  have h1 := tot_levs t.ns w 5 [r]
  rw [List.map_cons, List.map_nil, List.sum_cons, List.sum_nil, Nat.add_zero] at h1
  rw [h1]
  have hr : ∀ x ∈ [r], x ∈ t.ns ∧ d x.id = 0 := fun x hx => by rw [List.mem_singleton.1 hx, hW.rid]; exact ⟨hW.root, hD.z⟩
  have hn := levs_nodup hW hD.up 5 0 (l := [r]) (by simp) hr
  refine sum_perm w ((List.perm_ext_iff_of_nodup hn.1 ?_).2 fun y => ⟨fun hy => (hn.2 y hy).1, fun hy => levs_all hW hD 5 0 (fun y hy h0 => ?_) (fun x hx => (hr x hx).1) y hy (Nat.zero_le _) (by have := hD.le y hy; omega)⟩)
  · exact nodup_of_map hW.ids
  · rcases hW.par y hy with hp | ⟨x, hx, hp, _⟩
    · rw [List.mem_singleton]; exact nmId hW.ids hy hW.root (by rw [hp, hW.rid])
    · have := hD.up x hx y hy hp
      omega
theorem sum_sub (w : Nd → Nat) : ∀ {l m : List Nd}, l.Nodup → (∀ x ∈ l, x ∈ m) → (l.map w).sum ≤ (m.map w).sum
  | [], _, _, _ => Nat.zero_le _
  | x :: l, m, h, hs => by
    rw [List.nodup_cons] at h
    obtain ⟨a, b, rfl⟩ := List.append_of_mem (hs x (by simp))
    have h1 := sum_sub w (m := a ++ b) h.2 fun y hy => by
      have h2 := hs y (by simp [hy])
      rcases List.mem_append.1 h2 with h2 | h2
      · exact List.mem_append_left _ h2
      · rcases List.mem_cons.1 h2 with h2 | h2
        · rw [h2] at hy; exact absurd hy h.1
        · exact List.mem_append_right _ h2
    simp only [List.map_cons, List.sum_cons, List.map_append, List.sum_append] at h1 ⊢
    omega
theorem tot_le {t : Tr} {r : Nd} (hW : Wf t r) {d : Nat → Nat} (hD : ∀ x ∈ t.ns, ∀ y ∈ t.ns, y.par = (x.id : Int) → d y.id = d x.id + 1) (w : Nd → Nat) (n : Nat) {x : Nd} (hx : x ∈ t.ns) : tot t.ns w n x ≤ (t.ns.map w).sum := by
  have h1 := tot_levs t.ns w n [x]
  rw [List.map_cons, List.map_nil, List.sum_cons, List.sum_nil, Nat.add_zero] at h1
  have h2 := levs_nodup hW hD n (d x.id) (l := [x]) (by simp) fun y hy => by rw [List.mem_singleton.1 hy]; exact ⟨hx, rfl⟩
  rw [h1]; exact sum_sub w h2.1 fun y hy => (h2.2 y hy).1
theorem sum_one (l : List Nd) : (l.map fun _ => 1).sum = l.length := by
  induction l with
  | nil => rfl
  | cons x l ih => simp only [List.map_cons, List.sum_cons, List.length_cons]; rw [ih]; omega
theorem wf_dl {t : Tr} {r : Nd} (h : Wf t r) : ∀ x ∈ t.ns, x.data.length ≤ 1048576 := fun x hx => by
  have h1 := sum_in hx
  rw [← h.sum] at h1
  have := h.max
  omega
theorem tot_step {t : Tr} {r : Nd} (hW : Wf t r) {d : Nat → Nat} (hD : Dp t.ns d) (w : Nd → Nat) {x : Nd} (hx : x ∈ t.ns) {n : Nat} (hn : d x.id + n = 5) : tot t.ns w n x = w x + ((kidsN t.ns x).map (tot t.ns w (n - 1))).sum := by
  cases n with
  | succ n => rfl
  | zero =>
    have h : kidsN t.ns x = [] := by
      cases hk : kidsN t.ns x with
      | nil => rfl
      | cons y l =>
        have hy : y ∈ kidsN t.ns x := by rw [hk]; simp
        obtain ⟨h1, h2⟩ := (kidsN_mem hW.kd hW.ids hx).1 hy
        have h3 := hD.up x hx y h1 h2
        have h4 := hD.le y h1
        omega
    rw [h]; rfl
theorem fnd_snoc {ns : List Nd} {s : List UInt8} : ∀ {p : List (List UInt8)} {r x : Nd}, fnd ns r p = some x → fnd ns r (p ++ [s]) = kid ns x.id s
  | [], r, x, h => by
    injection h with h; subst h
    show (match kid ns r.id s with | some y => fnd ns y [] | none => none) = _
    cases kid ns r.id s <;> rfl
  | a :: p, r, x, h => by
    unfold fnd at h
    rw [List.cons_append]
    show (match kid ns r.id a with | some y => fnd ns y (p ++ [s]) | none => none) = _
    cases hk : kid ns r.id a with
    | none => rw [hk] at h; cases h
    | some y => rw [hk] at h; exact fnd_snoc h
theorem fnd_deep {ns : List Nd} {d : Nat → Nat} (hD : Dp ns d) : ∀ {p : List (List UInt8)} {r x : Nd}, r ∈ ns → fnd ns r p = some x → d x.id = d r.id + p.length
  | [], r, x, _, h => by injection h with h; rw [← h]; rfl
  | s :: p, r, x, hr, h => by
    unfold fnd at h
    cases hk : kid ns r.id s with
    | none => rw [hk] at h; cases h
    | some y =>
      rw [hk] at h
      obtain ⟨h1, h2, _⟩ := kid_some hk
      rw [fnd_deep hD h1 h, hD.up r hr y h1 h2, List.length_cons]; omega
theorem byId_of {ns : List Nd} (h : (ns.map Nd.id).Nodup) {x : Nd} (hx : x ∈ ns) : byId ns (x.id : Int) = some x := by
  have h1 := find_nodup h hx
  unfold byId
  rw [← h1]; congr 1
  funext y
  exact decide_eq_decide.2 (by omega)
theorem kid_of {ns : List Nd} (h : Kd ns) {x y : Nd} (hx : x ∈ ns) (hy : y ∈ ns) (hp : y.par = x.id) : kid ns x.id y.name = some y := by
  cases hk : kid ns x.id y.name with
  | none => exact absurd rfl (kid_none hk hy hp)
  | some z =>
    obtain ⟨h1, h2, h3⟩ := kid_some hk
    have h4 := (kid_hit h hx hk).2
    obtain ⟨j, hj⟩ := List.mem_iff_getElem?.1 (h.all x hx y hy hp)
    obtain ⟨hlt, he⟩ := List.getElem?_eq_some_iff.1 hj
    have e1 : (x.kids.map (nmB ns))[j]? = some y.name := by rw [List.getElem?_map, hj]; show some (nmB ns y.blk) = _; rw [nmB_of h.blks hy]
    obtain ⟨hlt2, he2⟩ := List.getElem?_eq_some_iff.1 e1
    have e2 : kpl ns x y.name = j := by
      have := plc_at (h.rise x hx) hlt2
      rw [he2] at this; exact this
    rw [e2, hj] at h4
    injection h4 with h4
    rw [nmB_mem h.blks hy h1 h4]
theorem lsK_kids {ns : List Nd} (h : Kd ns) {x : Nd} (hx : x ∈ ns) : lsK ns x.kids = (kidsN ns x).map fun y => ⟨y.name, y.told⟩ := by
  rw [← kidsN_blk h hx]
  unfold lsK
  rw [List.map_map]
  refine List.map_congr_left fun y hy => ?_
  have hm : y ∈ ns := by
    obtain ⟨k, _, h5⟩ := List.mem_filterMap.1 hy
    exact List.mem_of_find?_eq_some h5
  show nmeB ns y.blk = _
  unfold nmeB; rw [find_nodup h.blks hm]
theorem kids_dir {t : Tr} {r : Nd} (hW : Wf t r) {x : Nd} (hx : x ∈ t.ns) (h : ¬ x.dir = true) : kidsN t.ns x = [] := by
  cases hk : kidsN t.ns x with
  | nil => rfl
  | cons y l =>
    have hy : y ∈ kidsN t.ns x := by rw [hk]; simp
    obtain ⟨h1, h2⟩ := (kidsN_mem hW.kd hW.ids hx).1 hy
    rcases hW.par y h1 with h3 | ⟨z, hz, h3, h4⟩
    · have e : y = r := nmId hW.ids h1 hW.root (by rw [h3, hW.rid])
      rw [e, hW.rpar] at h2; omega
    · have e : z = x := nmId hW.ids hz hx (by omega)
      rw [e] at h4; exact absurd h4 h
theorem sum_take_le (f : Nd → Nat) (l : List Nd) (i : Nat) : ((l.take i).map f).sum ≤ (l.map f).sum := by
  conv => rhs; rw [← List.take_append_drop i l, List.map_append, List.sum_append]
  omega
theorem sum_snoc (f : Nd → Nat) {l : List Nd} {i : Nat} {y : Nd} (h : l[i]? = some y) : ((l.take (i + 1)).map f).sum = ((l.take i).map f).sum + f y := by
  obtain ⟨hi, he⟩ := List.getElem?_eq_some_iff.1 h
  rw [List.take_succ_eq_append_getElem hi, List.map_append, List.sum_append, he]; simp

end Go.Proofs.Ytbbmhppkhcodfaa
namespace Go.Proofs.Ytbbmhppkhcodfaa
open Go.Sx
set_option linter.unusedVariables false
set_option linter.unusedSimpArgs false
set_option maxRecDepth 100000
set_option maxHeartbeats 4000000

def five (a : At) : List Nat := [a.u, a.g, a.m, a.a, a.t]
def enc4 (l : List Nat) : List UInt8 := l.flatMap fun n => be n 4
theorem enc4_len (l : List Nat) : (enc4 l).length = 4 * l.length := by
  induction l with
  | nil => rfl
  | cons x r ih => rw [enc4, List.flatMap_cons, List.length_append, be_length]; unfold enc4 at ih; rw [ih, List.length_cons]; omega
theorem enc4_take (l : List Nat) {i : Nat} (hi : i < l.length) : enc4 (l.take (i + 1)) = enc4 (l.take i) ++ be l[i] 4 := by
  rw [List.take_succ_eq_append_getElem hi, enc4, List.flatMap_append, List.flatMap_cons, List.flatMap_nil, List.append_nil]; rfl
def hdr (x : Nd) : List UInt8 := be x.id 8 ++ [b8 (if x.dir then 1 else 0)] ++ enc4 (five x.a)
theorem hdr_len (x : Nd) : (hdr x).length = 29 := by
  simp only [hdr, List.length_append, be_length, enc4_len]; rfl
/-- a thing, and what it holds, as bytes -/
def encN (ns : List Nd) : Nat → Nd → List UInt8
  | 0, _ => []
  | n + 1, x => hdr x ++ if x.dir = true then be x.kids.length 4 ++ (kidsN ns x).flatMap (fun y => be y.name.length 4 ++ y.name ++ encN ns n y) else be x.data.length 4 ++ x.data
/-- nothing below stands deeper than that -/
def Deep (ns : List Nd) : Nat → Nd → Prop
  | 0, _ => False
  | n + 1, x => ∀ y ∈ kidsN ns x, Deep ns n y
def kidB (ns : List Nd) (n : Nat) (y : Nd) : List UInt8 := be y.name.length 4 ++ y.name ++ encN ns n y
theorem encN_dir {ns : List Nd} {n : Nat} {x : Nd} (h : x.dir = true) : encN ns (n + 1) x = hdr x ++ be x.kids.length 4 ++ (kidsN ns x).flatMap (kidB ns n) := by
  show hdr x ++ (if x.dir = true then _ else _) = _
  rw [if_pos h, List.append_assoc]; rfl
theorem encN_file {ns : List Nd} {n : Nat} {x : Nd} (h : x.dir = false) : encN ns (n + 1) x = hdr x ++ be x.data.length 4 ++ x.data := by
  show hdr x ++ (if x.dir = true then _ else _) = _
  rw [if_neg (by rw [h]; decide), List.append_assoc]
theorem kidB_snoc {ns : List Nd} {n : Nat} {l : List Nd} {i : Nat} {y : Nd} (h : l[i]? = some y) : (l.take (i + 1)).flatMap (kidB ns n) = (l.take i).flatMap (kidB ns n) ++ kidB ns n y := by
  obtain ⟨hi, he⟩ := List.getElem?_eq_some_iff.1 h
  rw [List.take_succ_eq_append_getElem hi, List.flatMap_append, List.flatMap_cons, List.flatMap_nil, List.append_nil, he]
/-- the same, however deep it is looked at -/
theorem encN_same {ns : List Nd} : ∀ {n m : Nat} {x : Nd}, Deep ns n x → Deep ns m x → encN ns n x = encN ns m x
  | 0, _, _, h, _ => h.elim
  | _ + 1, 0, _, _, h => h.elim
  | n + 1, m + 1, x, h1, h2 => by
    show hdr x ++ (if x.dir = true then _ else _) = hdr x ++ (if x.dir = true then _ else _)
    congr 2
    congr 1
    have e : ∀ l : List Nd, (∀ y ∈ l, y ∈ kidsN ns x) → l.flatMap (fun y => be y.name.length 4 ++ y.name ++ encN ns n y) = l.flatMap (fun y => be y.name.length 4 ++ y.name ++ encN ns m y) := fun l => by
      induction l with
      | nil => intro _; rfl
      | cons y l ih =>
        intro hl
        rw [List.flatMap_cons, List.flatMap_cons, ih fun z hz => hl z (by simp [hz]), encN_same (h1 y (hl y (by simp))) (h2 y (hl y (by simp)))]
    exact e _ fun y hy => hy
theorem deep_ex {t : Tr} {r : Nd} (hW : Wf t r) {d : Nat → Nat} (hD : ∀ x ∈ t.ns, ∀ y ∈ t.ns, y.par = (x.id : Int) → d y.id = d x.id + 1) {M : Nat} (hM : ∀ x ∈ t.ns, d x.id ≤ M) : ∀ (n : Nat) {x : Nd}, x ∈ t.ns → d x.id + n = M + 1 → Deep t.ns n x
  | 0, x, hx, h => by have := hM x hx; omega
  | n + 1, x, hx, h => fun y hy => by
    obtain ⟨h1, h2⟩ := (kidsN_mem hW.kd hW.ids hx).1 hy
    have h3 := hD x hx y h1 h2
    exact deep_ex hW hD hM n h1 (by omega)
theorem max_ex (f : Nd → Nat) : ∀ l : List Nd, ∃ M, ∀ x ∈ l, f x ≤ M
  | [] => ⟨0, fun x hx => by cases hx⟩
  | a :: l => by
    obtain ⟨M, h⟩ := max_ex f l
    refine ⟨max (f a) M, fun x hx => ?_⟩
    rcases List.mem_cons.1 hx with hx | hx
    · rw [hx]; omega
    · have := h x hx; omega
theorem wf_deep {t : Tr} {r : Nd} (hW : Wf t r) {x : Nd} (hx : x ∈ t.ns) : ∃ n, Deep t.ns n x := by
  obtain ⟨d, hD⟩ := hW.rk
  obtain ⟨M, hM⟩ := max_ex (fun x => d x.id) t.ns
  exact ⟨M + 1 - d x.id, deep_ex hW hD hM _ hx (by have := hM x hx; omega)⟩
/-- how much a thing and its name take -/
def wgt (y : Nd) : Nat := 37 + (if y.id = 0 then 0 else y.name.length) + y.data.length
theorem sum_flat_len (f : Nd → List UInt8) : ∀ l : List Nd, (l.flatMap f).length = (l.map fun y => (f y).length).sum
  | [] => rfl
  | x :: l => by rw [List.flatMap_cons, List.length_append, sum_flat_len f l]; rfl
theorem sum_mono {f g : Nd → Nat} : ∀ {l : List Nd}, (∀ y ∈ l, f y ≤ g y) → (l.map f).sum ≤ (l.map g).sum
  | [], _ => Nat.le_refl _
  | x :: l, h => by
    have h1 := h x (by simp)
    have h2 := sum_mono (l := l) fun y hy => h y (by simp [hy])
    simp only [List.map_cons, List.sum_cons]; omega
theorem kid_not_root {t : Tr} {r : Nd} (hW : Wf t r) {x y : Nd} (hx : x ∈ t.ns) (hy : y ∈ kidsN t.ns x) : y.id ≠ 0 := fun e => by
  obtain ⟨h1, h2⟩ := (kidsN_mem hW.kd hW.ids hx).1 hy
  have e2 : y = r := nmId hW.ids h1 hW.root (by rw [e, hW.rid])
  rw [e2, hW.rpar] at h2; omega
theorem enc_len {t : Tr} {r : Nd} (hW : Wf t r) : ∀ (n : Nat) {x : Nd}, x ∈ t.ns → 4 + (if x.id = 0 then 0 else x.name.length) + (encN t.ns n x).length ≤ tot t.ns wgt n x
  | 0, x, hx => by show _ + 0 ≤ wgt x; unfold wgt; omega
  | n + 1, x, hx => by
    have h1 := hdr_len x
    have ht : tot t.ns wgt (n + 1) x = wgt x + ((kidsN t.ns x).map (tot t.ns wgt n)).sum := rfl
    have hw : wgt x = 37 + (if x.id = 0 then 0 else x.name.length) + x.data.length := rfl
    rw [ht]
    by_cases hd : x.dir = true
    · rw [encN_dir hd]
      have h2 : ((kidsN t.ns x).flatMap (kidB t.ns n)).length ≤ ((kidsN t.ns x).map (tot t.ns wgt n)).sum := by
        rw [sum_flat_len]
        refine sum_mono fun y hy => ?_
        have h3 := enc_len hW n ((kidsN_mem hW.kd hW.ids hx).1 hy).1
        rw [if_neg (kid_not_root hW hx hy)] at h3
        simp only [kidB, List.length_append, be_length]; omega
      simp only [List.length_append, be_length]
      omega
    · rw [encN_file (by simpa using hd)]
      simp only [List.length_append, be_length]
      omega
theorem ptOk_len {s : List UInt8} (h : ptOk s = true) : s.length ≤ 30 := by
  unfold ptOk at h
  simp only [Bool.and_eq_true, decide_eq_true_eq] at h
  omega
theorem wgt_sum : ∀ {l : List Nd}, (∀ x ∈ l, x.id = 0 ∨ ptOk x.name = true) → (l.map wgt).sum ≤ 67 * l.length + (l.map fun y => y.data.length).sum
  | [], _ => Nat.zero_le _
  | x :: l, h => by
    have h1 := wgt_sum (l := l) fun y hy => h y (by simp [hy])
    simp only [List.map_cons, List.sum_cons, List.length_cons]
    have h2 : wgt x ≤ 67 + x.data.length := by
      unfold wgt
      rcases h x (by simp) with h3 | h3
      · rw [if_pos h3]; omega
      · have := ptOk_len h3
        split <;> omega
    omega
theorem enc_max {t : Tr} {r : Nd} (hW : Wf t r) (n : Nat) {x : Nd} (hx : x ∈ t.ns) : (encN t.ns n x).length ≤ 1100000 := by
  obtain ⟨d, hD⟩ := hW.rk
  have h1 := enc_len hW n hx
  have h2 := tot_le hW hD wgt n hx
  have h3 := wgt_sum hW.nm
  rw [← hW.sum] at h3
  have h4 := hW.max
  have h5 := hW.few
  omega
/-- the bytes that are saved -/
structure SaveR (t : Tr) (r : Nd) (b : List UInt8) : Prop where
  ex : ∃ n, Deep t.ns n r ∧ b = be t.next 8 ++ encN t.ns n r
theorem SaveR.same {t : Tr} {r : Nd} {a b : List UInt8} (h1 : SaveR t r a) (h2 : SaveR t r b) : a = b := by
  obtain ⟨n, h3, rfl⟩ := h1.ex
  obtain ⟨m, h4, rfl⟩ := h2.ex
  rw [encN_same h3 h4]

end Go.Proofs.Ytbbmhppkhcodfaa
namespace Go.Proofs.Ytbbmhppkhcodfaa
open Go.Sx
set_option linter.unusedVariables false
set_option linter.unusedSimpArgs false
set_option maxRecDepth 100000
set_option maxHeartbeats 4000000

/-- A stands by itself, next to ns: x and what is below it -/
structure Sb (ns A : List Nd) (x : Nd) (par : Int) (nm : List UInt8) (nx : Int) : Prop where
  kd : Kd A
  root : x ∈ A
  xpar : x.par = par
  xname : x.name = nm
  ids : ((ns ++ A).map Nd.id).Nodup
  blks : ((ns ++ A).map Nd.blk).Nodup
  out : par = -1 ∨ ∃ w ∈ ns, par = w.id
  lt : ∀ u ∈ A, (u.id : Int) < nx
  par : ∀ u ∈ A, u = x ∨ ∃ v ∈ A, u.par = v.id ∧ v.dir = true
  nm : ∀ u ∈ A, u = x ∨ ptOk u.name = true
  rk : ∃ d : Nat → Nat, d x.id = 0 ∧ ∀ u ∈ A, ∀ v ∈ A, v.par = (u.id : Int) → d v.id = d u.id + 1
  dat : ∀ u ∈ A, u.dir = true → u.data = []
  a : ∀ u ∈ A, u.a.Ok ∧ u.a.s = 0
theorem app_ne {f : Nd → Nat} {l m : List Nd} (h : ((l ++ m).map f).Nodup) {u v : Nd} (hu : u ∈ l) (hv : v ∈ m) : f u ≠ f v := fun e => by
  rw [List.map_append, List.nodup_append] at h
  exact h.2.2 _ (List.mem_map.2 ⟨u, hu, rfl⟩) _ (List.mem_map.2 ⟨v, hv, rfl⟩) e
theorem out_ne {ns : List Nd} {par : Int} (h : par = -1 ∨ ∃ w ∈ ns, par = (w.id : Int)) {m : List Nd} (hid : ((ns ++ m).map Nd.id).Nodup) {u : Nd} (hu : u ∈ m) : par ≠ u.id := fun e => by
  rcases h with h | ⟨w, hw, h⟩
  · omega
  · exact app_ne hid hw hu (by omega)
theorem sb_one {ns : List Nd} {z : Nd} {nx : Int} (hz : z.kids = []) (ids : ((ns ++ [z]).map Nd.id).Nodup) (blks : ((ns ++ [z]).map Nd.blk).Nodup) (out : z.par = -1 ∨ ∃ w ∈ ns, z.par = w.id) (lt : (z.id : Int) < nx) (dat : z.dir = true → z.data = []) (a : z.a.Ok ∧ z.a.s = 0) : Sb ns [z] z z.par z.name nx := by
  have one : ∀ x ∈ [z], x = z := fun x hx => List.mem_singleton.1 hx
  have no : z.par ≠ z.id := out_ne out ids (List.mem_singleton_self z)
  refine ⟨⟨by simp, fun x hx k hk => ?_, fun x hx y hy hp => ?_, fun x hx => ?_, fun x hx => ?_⟩, List.mem_singleton_self _, rfl, rfl, ids, blks, out, fun u hu => ?_, fun u hu => .inl (one u hu), fun u hu => .inl (one u hu), ⟨fun _ => 0, rfl, fun u hu v hv hp => ?_⟩, fun u hu => ?_, fun u hu => ?_⟩
  · rw [one x hx, hz] at hk; cases hk
  · rw [one x hx, one y hy] at hp; exact absurd hp no
  · rw [one x hx, hz]; exact List.Pairwise.nil
  · rw [one x hx, hz]; exact Nat.zero_le _
  · rw [one u hu]; exact lt
  · rw [one u hu, one v hv] at hp; exact absurd hp no
  · rw [one u hu]; exact dat
  · rw [one u hu]; exact a
def addF (kp : Option Addr) (kc : Nat) (b : Nat) (y : Nd) : Nd := { y with kp := kp, kc := kc, kids := y.kids ++ [b] }
theorem addF_keeps (kp : Option Addr) (kc b : Nat) : Keeps (addF kp kc b) := ⟨fun _ => rfl, fun _ => rfl, fun _ => rfl, fun _ => rfl⟩
theorem turn_ids {f : Nd → Nd} (h : Keeps f) (b : Nat) (ns : List Nd) : (turnB b f ns).map Nd.id = ns.map Nd.id := by
  unfold turnB; rw [List.map_map]
  exact List.map_congr_left fun y _ => (turn_eq h y).2.1
theorem turn_len (f : Nd → Nd) (b : Nat) (ns : List Nd) : (turnB b f ns).length = ns.length := by unfold turnB; rw [List.length_map]
theorem turn_dat {f : Nd → Nd} (h : ∀ y, (f y).data = y.data) (b : Nat) (ns : List Nd) : (turnB b f ns).map (fun y : Nd => y.data.length) = ns.map fun y : Nd => y.data.length := by
  unfold turnB; rw [List.map_map]
  exact List.map_congr_left fun y _ => by show (if y.blk = b then f y else y).data.length = _; split; rw [h]; rfl
theorem turn_out {f : Nd → Nd} {b : Nat} {ns : List Nd} (h : ∀ y ∈ ns, y.blk ≠ b) : turnB b f ns = ns := by
  unfold turnB
  conv => rhs; rw [← List.map_id ns]
  exact List.map_congr_left fun y hy => by rw [if_neg (h y hy)]; rfl
theorem sb_add {ns A B : List Nd} {x k : Nd} {par : Int} {nm s : List UInt8} {nx : Int} (hA : Sb ns A x par nm nx) (hd : x.dir = true) (hB : Sb (ns ++ A) B k x.id s nx) (hok : ptOk s = true) (hlast : ∀ l ∈ x.kids.map (nmB A), cmp l s < 0) (hfew : x.kids.length < 100000) (kp : Option Addr) (kc : Nat) :
    Sb ns (turnB x.blk (addF kp kc k.blk) A ++ B) (addF kp kc k.blk x) par nm nx := by
  have hF := addF_keeps kp kc k.blk
  have xof : ∀ u ∈ A, u.blk = x.blk → u = x := fun u hu e => nmB_mem hA.kd.blks hu hA.root e
  have kdd : ∀ u : Nd, (if u.blk = x.blk then addF kp kc k.blk u else u).kids = if u.blk = x.blk then u.kids ++ [k.blk] else u.kids := fun u => by split <;> rfl
  have same : ∀ u : Nd, (if u.blk = x.blk then addF kp kc k.blk u else u).dir = u.dir ∧ (if u.blk = x.blk then addF kp kc k.blk u else u).data = u.data ∧ (if u.blk = x.blk then addF kp kc k.blk u else u).a = u.a := fun u => by split <;> exact ⟨rfl, rfl, rfl⟩
  have gof : ∀ u ∈ turnB x.blk (addF kp kc k.blk) A, ∃ y ∈ A, u = (if y.blk = x.blk then addF kp kc k.blk y else y) := fun u hu => turn_mem hu
  have gin : ∀ y ∈ A, (if y.blk = x.blk then addF kp kc k.blk y else y) ∈ turnB x.blk (addF kp kc k.blk) A ++ B := fun y hy => List.mem_append_left _ (turn_in hy)
  have xin : addF kp kc k.blk x ∈ turnB x.blk (addF kp kc k.blk) A ++ B := by
    have := gin x hA.root
    rw [if_pos rfl] at this; exact this
  have idAB : ∀ u ∈ A, ∀ v ∈ B, u.id ≠ v.id := fun u hu v hv => app_ne hB.ids (List.mem_append_right _ hu) hv
  have idnB : ∀ u ∈ ns, ∀ v ∈ B, u.id ≠ v.id := fun u hu v hv => app_ne hB.ids (List.mem_append_left _ hu) hv
  have noB : ∀ v ∈ B, par ≠ v.id := fun v hv e => by
    rcases hA.out with h | ⟨w, hw, h⟩
    · omega
    · exact idnB w hw v hv (by omega)
  have idsA : (A.map Nd.id).Nodup := by
    have := hA.ids
    rw [List.map_append, List.nodup_append] at this; exact this.2.1
  have idsB : (B.map Nd.id).Nodup := by
    have := hB.ids
    rw [List.map_append, List.nodup_append] at this; exact this.2.1
  have idAll : ((ns ++ (turnB x.blk (addF kp kc k.blk) A ++ B)).map Nd.id).Nodup := by
    have := hB.ids
    rw [List.map_append, List.map_append, turn_ids hF]
    rw [List.map_append, List.map_append, List.append_assoc] at this; exact this
  have blkAll : ((ns ++ (turnB x.blk (addF kp kc k.blk) A ++ B)).map Nd.blk).Nodup := by
    have := hB.blks
    rw [List.map_append, List.map_append, turn_blk hF]
    rw [List.map_append, List.map_append, List.append_assoc] at this; exact this
  have blk1 : ((turnB x.blk (addF kp kc k.blk) A ++ B).map Nd.blk).Nodup := by
    rw [List.map_append, List.nodup_append] at blkAll; exact blkAll.2.1
  have nmA : ∀ v ∈ A, nmB (turnB x.blk (addF kp kc k.blk) A ++ B) v.blk = v.name := fun v hv => by
    have h1 := nmB_of blk1 (gin v hv)
    rw [(turn_eq hF v).1, (turn_eq hF v).2.2.2] at h1; exact h1
  have nmBB : ∀ v ∈ B, nmB (turnB x.blk (addF kp kc k.blk) A ++ B) v.blk = v.name := fun v hv => nmB_of blk1 (List.mem_append_right _ hv)
  refine ⟨⟨blk1, fun u hu j hj => ?_, fun u hu v hv hp => ?_, fun u hu => ?_, fun u hu => ?_⟩, xin, hA.xpar, hA.xname, idAll, blkAll, hA.out, fun u hu => ?_, fun u hu => ?_, fun u hu => ?_, ?_, fun u hu hdu => ?_, fun u hu => ?_⟩
  · rcases List.mem_append.1 hu with hu | hu
    · obtain ⟨w, hw, rfl⟩ := gof u hu
      rw [kdd] at hj
      rw [(turn_eq hF w).2.1]
      have old : j ∈ w.kids → ∃ y ∈ turnB x.blk (addF kp kc k.blk) A ++ B, y.blk = j ∧ y.par = w.id := fun hj => by
        obtain ⟨v, h1, h2, h3⟩ := hA.kd.sub w hw j hj
        exact ⟨_, gin v h1, by rw [(turn_eq hF v).1]; exact h2, by rw [(turn_eq hF v).2.2.1]; exact h3⟩
      by_cases e : w.blk = x.blk
      · rw [if_pos e] at hj
        rcases List.mem_append.1 hj with hj | hj
        · exact old hj
        · rw [List.mem_singleton] at hj
          exact ⟨k, List.mem_append_right _ hB.root, hj.symm, by rw [hB.xpar, xof w hw e]⟩
      · rw [if_neg e] at hj; exact old hj
    · obtain ⟨v, h1, h2, h3⟩ := hB.kd.sub u hu j hj
      exact ⟨v, List.mem_append_right _ h1, h2, h3⟩
  · rcases List.mem_append.1 hu with hu | hu
    · obtain ⟨w, hw, rfl⟩ := gof u hu
      rw [(turn_eq hF w).2.1] at hp
      rw [kdd]
      rcases List.mem_append.1 hv with hv | hv
      · obtain ⟨y, hy, rfl⟩ := gof v hv
        rw [(turn_eq hF y).2.2.1] at hp
        rw [(turn_eq hF y).1]
        have h1 := hA.kd.all w hw y hy hp
        split
        · exact List.mem_append_left _ h1
        · exact h1
      · rcases hB.par v hv with h1 | ⟨z, hz, h1, _⟩
        · subst h1
          rw [hB.xpar] at hp
          have e : w = x := nmId idsA hw hA.root (by omega)
          rw [e, if_pos rfl]; exact List.mem_append_right _ (List.mem_singleton_self _)
        · exact absurd (show w.id = z.id by omega) (idAB w hw z hz)
    · rcases List.mem_append.1 hv with hv | hv
      · obtain ⟨y, hy, rfl⟩ := gof v hv
        rw [(turn_eq hF y).2.2.1] at hp
        rcases hA.par y hy with h1 | ⟨z, hz, h1, _⟩
        · rw [h1, hA.xpar] at hp; exact absurd hp (noB u hu)
        · exact absurd (show z.id = u.id by omega) (idAB z hz u hu)
      · exact hB.kd.all u hu v hv hp
  · rcases List.mem_append.1 hu with hu | hu
    · obtain ⟨w, hw, rfl⟩ := gof u hu
      rw [kdd]
      have e0 : ∀ l : List Nat, (∀ j ∈ l, ∃ v ∈ A, v.blk = j) → l.map (nmB (turnB x.blk (addF kp kc k.blk) A ++ B)) = l.map (nmB A) := fun l hl => List.map_congr_left fun j hj => by
        obtain ⟨v, h1, h2⟩ := hl j hj
        rw [← h2, nmA v h1, nmB_of hA.kd.blks h1]
      have e1 : ∀ j ∈ w.kids, ∃ v ∈ A, v.blk = j := fun j hj => by
        obtain ⟨v, h1, h2, _⟩ := hA.kd.sub w hw j hj; exact ⟨v, h1, h2⟩
      by_cases e : w.blk = x.blk
      · rw [if_pos e, List.map_append, e0 _ e1, List.map_cons, List.map_nil, nmBB k hB.root, hB.xname]
        obtain rfl := xof w hw e
        refine List.pairwise_append.2 ⟨hA.kd.rise w hw, List.pairwise_singleton _ _, fun a ha b hb => ?_⟩
        rw [List.mem_singleton] at hb
        rw [hb]; exact hlast a ha
      · rw [if_neg e, e0 _ e1]; exact hA.kd.rise w hw
    · have e0 : u.kids.map (nmB (turnB x.blk (addF kp kc k.blk) A ++ B)) = u.kids.map (nmB B) := List.map_congr_left fun j hj => by
        obtain ⟨v, h1, h2, _⟩ := hB.kd.sub u hu j hj
        rw [← h2, nmBB v h1, nmB_of hB.kd.blks h1]
      rw [e0]; exact hB.kd.rise u hu
  · rcases List.mem_append.1 hu with hu | hu
    · obtain ⟨w, hw, rfl⟩ := gof u hu
      rw [kdd]
      split
      · rename_i e
        rw [List.length_append, xof w hw e]
        simp only [List.length_cons, List.length_nil]; omega
      · exact hA.kd.few w hw
    · exact hB.kd.few u hu
  · rcases List.mem_append.1 hu with hu | hu
    · obtain ⟨w, hw, rfl⟩ := gof u hu
      rw [(turn_eq hF w).2.1]; exact hA.lt w hw
    · exact hB.lt u hu
  · rcases List.mem_append.1 hu with hu | hu
    · obtain ⟨w, hw, rfl⟩ := gof u hu
      rcases hA.par w hw with h1 | ⟨z, hz, h1, h2⟩
      · left; rw [h1, if_pos rfl]
      · right; exact ⟨_, gin z hz, by rw [(turn_eq hF w).2.2.1, (turn_eq hF z).2.1]; exact h1, by rw [(same z).1]; exact h2⟩
    · right
      rcases hB.par u hu with h1 | ⟨z, hz, h1, h2⟩
      · exact ⟨_, xin, by rw [h1, hB.xpar]; rfl, hd⟩
      · exact ⟨z, List.mem_append_right _ hz, h1, h2⟩
  · rcases List.mem_append.1 hu with hu | hu
    · obtain ⟨w, hw, rfl⟩ := gof u hu
      rcases hA.nm w hw with h1 | h1
      · left; rw [h1, if_pos rfl]
      · right; rw [(turn_eq hF w).2.2.2]; exact h1
    · right
      rcases hB.nm u hu with h1 | h1
      · rw [h1, hB.xname]; exact hok
      · exact h1
  · obtain ⟨dA, hA0, hA1⟩ := hA.rk
    obtain ⟨dB, hB0, hB1⟩ := hB.rk
    have inB : ∀ v ∈ B, v.id ∈ B.map Nd.id := fun v hv => List.mem_map.2 ⟨v, hv, rfl⟩
    have notB : ∀ v ∈ A, v.id ∉ B.map Nd.id := fun v hv h => by
      obtain ⟨u, hu, e⟩ := List.mem_map.1 h
      exact idAB v hv u hu e.symm
    refine ⟨fun i => if i ∈ B.map Nd.id then dB i + 1 else dA i, ?_, fun u hu v hv hp => ?_⟩
    · show (if x.id ∈ B.map Nd.id then _ else _) = 0
      rw [if_neg (notB x hA.root)]; exact hA0
    · rcases List.mem_append.1 hu with hu | hu
      · obtain ⟨w, hw, rfl⟩ := gof u hu
        rw [(turn_eq hF w).2.1] at hp ⊢
        rcases List.mem_append.1 hv with hv | hv
        · obtain ⟨y, hy, rfl⟩ := gof v hv
          rw [(turn_eq hF y).2.2.1] at hp
          rw [(turn_eq hF y).2.1]
          dsimp only
          rw [if_neg (notB y hy), if_neg (notB w hw)]
          exact hA1 w hw y hy hp
        · rcases hB.par v hv with h1 | ⟨z, hz, h1, _⟩
          · subst h1
            rw [hB.xpar] at hp
            have e : w = x := nmId idsA hw hA.root (by omega)
            dsimp only
            rw [if_pos (inB _ hB.root), e, if_neg (notB x hA.root), hA0, hB0]
          · exact absurd (show w.id = z.id by omega) (idAB w hw z hz)
      · rcases List.mem_append.1 hv with hv | hv
        · obtain ⟨y, hy, rfl⟩ := gof v hv
          rw [(turn_eq hF y).2.2.1] at hp
          rcases hA.par y hy with h1 | ⟨z, hz, h1, _⟩
          · rw [h1, hA.xpar] at hp; exact absurd hp (noB u hu)
          · exact absurd (show z.id = u.id by omega) (idAB z hz u hu)
        · dsimp only
          rw [if_pos (inB v hv), if_pos (inB u hu), hB1 u hu v hv hp]
  · rcases List.mem_append.1 hu with hu | hu
    · obtain ⟨w, hw, rfl⟩ := gof u hu
      rw [(same w).1] at hdu
      rw [(same w).2.1]; exact hA.dat w hw hdu
    · exact hB.dat u hu hdu
  · rcases List.mem_append.1 hu with hu | hu
    · obtain ⟨w, hw, rfl⟩ := gof u hu
      rw [(same w).2.2]; exact hA.a w hw
    · exact hB.a u hu
theorem rise_last {l : List (List UInt8)} (h : Rise l) {s a : List UInt8} (ha : l[l.length - 1]? = some a) (hs : cmp a s < 0) : ∀ x ∈ l, cmp x s < 0 := fun x hx => by
  obtain ⟨j, hj⟩ := List.mem_iff_getElem?.1 hx
  obtain ⟨h1, h2⟩ := List.getElem?_eq_some_iff.1 hj
  obtain ⟨h3, h4⟩ := List.getElem?_eq_some_iff.1 ha
  by_cases e : j = l.length - 1
  · subst e; rw [← h2, h4]; exact hs
  · have h5 := rise_lt h (i := j) (j := l.length - 1) (by omega) h3
    rw [h2, h4] at h5; exact cmp_trans h5 hs
theorem wf_load {A : List Nd} {x : Nd} {nm : List UInt8} {nx : Int} {tb mb ck bs : Nat} (h : Sb [] A x (-1) nm nx) (hid : x.id = 0) (hd : x.dir = true) (hl : A.length ≤ 200) (hb : bs = (A.map fun y => y.data.length).sum) (hm : bs ≤ 1048576) : Wf ⟨tb, mb, ck, x.blk, nx.toNat, bs, A⟩ x := by
  have hids : (A.map Nd.id).Nodup := h.ids
  refine ⟨h.kd, h.root, rfl, hid, h.xpar, hd, hids, fun u hu => ?_, fun u hu => ?_, fun u hu => ?_, ?_, hl, h.dat, hb, hm, h.a⟩
  · have := h.lt u hu
    show u.id < nx.toNat
    omega
  · rcases h.par u hu with h1 | h1
    · left; rw [h1, hid]
    · exact .inr h1
  · rcases h.nm u hu with h1 | h1
    · left; rw [h1, hid]
    · exact .inr h1
  · obtain ⟨d, _, hd1⟩ := h.rk
    exact ⟨d, hd1⟩

end Go.Proofs.Ytbbmhppkhcodfaa
