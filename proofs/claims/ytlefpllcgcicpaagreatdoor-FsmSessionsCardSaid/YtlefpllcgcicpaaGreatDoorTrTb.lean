/-
  A directory's list.
  Things below a thing: plain laws.
  A tree as bytes: plain laws.
  A thing is taken out, and stands elsewhere: plain laws.
  Paths, and what lies below a thing.
-/
import Derived.Test.YtlefpllcgcicpaaGreatDoorTrK
import Derived.Test.YtlefpllcgcicpaaGreatDoorSxFork
import Derived.Test.YtlefpllcgcicpaaGreatDoorWire
namespace Go.Proofs.YtlefpllcgcicpaaGreatDoor
open Go.Sx
set_option linter.unusedVariables false
set_option linter.unusedSimpArgs false
set_option maxRecDepth 100000
set_option maxHeartbeats 4000000

structure Nm where
  n : List UInt8
  at' : At
deriving DecidableEq
def Nm.cs (x : Nm) : List Value := [.string (str x.n), .int .u32 x.at'.f, .int .u64 x.at'.s, .int .u32 x.at'.u, .int .u32 x.at'.g, .int .u32 x.at'.m, .int .u32 x.at'.a, .int .u32 x.at'.t]
theorem Nm.len (x : Nm) : x.cs.length = 8 := rfl
theorem Nm.one (x : Nm) : ∀ v ∈ x.cs, v.oneCell' = true := fun v hv => by
  simp only [Nm.cs, List.mem_cons, List.not_mem_nil, or_false] at hv
  rcases hv with rfl | rfl | rfl | rfl | rfl | rfl | rfl | rfl <;> rfl
def nmeB (ns : List Nd) (k : Nat) : Nm := match ns.find? (fun x => decide (x.blk = k)) with
  | some y => ⟨y.name, y.told⟩
  | none => ⟨[], At.zero⟩
/-- what is listed of things -/
def lsK (ns : List Nd) (l : List Nat) : List Nm := l.map (nmeB ns)
theorem lsK_snoc {ns : List Nd} (h : (ns.map Nd.blk).Nodup) {y : Nd} (hy : y ∈ ns) {l : List Nat} {i : Nat} (hi : i < l.length) (e : y.blk = l[i]) : lsK ns (l.take (i + 1)) = lsK ns (l.take i) ++ [⟨y.name, y.told⟩] := by
  unfold lsK
  rw [List.take_succ_eq_append_getElem hi, List.map_append, List.map_cons, List.map_nil, ← e]
  congr 2
  unfold nmeB; rw [find_nodup h hy]
def listO (ns : List Nd) : Option Nd → List Nm × Int
  | none => ([], 22)
  | some x => if x.dir = true then (lsK ns x.kids, 0) else ([], 23)
theorem list_spec {V : HProp} {t : Tr} {r : Nd} (hT : Tv V t) (hW : Wf t r) (id : Int) (hl : ∀ x ∈ t.ns, x.data.length ≤ 100000000) : Tri Tryz.prog 21 [t.v, .int .i64 id] [V]
    (fun v H' => ∃ K, (∃ p c, v = .tuple #[.slice p (listO t.ns (byId t.ns id)).1.length c, .int .i64 (listO t.ns (byId t.ns id)).2] ∧ K = [row 87 8 (.slice p ((listO t.ns (byId t.ns id)).1).length c) ((listO t.ns (byId t.ns id)).1).length (flat Nm.cs ((listO t.ns (byId t.ns id)).1))]) ∧ H' = K ++ [V]) := by
  cases hb : byId t.ns id with
  | none =>
    refine tri_of_wpS Tryz.func21 rfl Tryz.ntmps21 (by simp) ?_
    refine wp_seq' ?_
    refine wp_region' ?_
    refine ops_ro' rfl (ro_assign rfl) rfl ?_
    refine ops_ro' rfl (ro_assign rfl) rfl ?_
    refine ops_nil ?_
    refine Then_normal ?_
    refine wp_seq' ?_
    refine wp_region' ?_
    refine ops_ro' rfl (ro_move rfl) rfl ?_
    refine ops_ro' rfl (ro_nilCheck rfl) rfl ?_
    refine ops_ro' rfl (ro_fieldAddr fa95_1 rfl) rfl ?_
    refine ops_ro' rfl (ro_load sc93 rfl (Rd.pick 0 rfl ((hT.cs 1 _ rfl)))) rfl ?_
    refine ops_ro' rfl (ro_move rfl) rfl ?_
    refine ops_ro' rfl (ro_lookup Tryz.underlying93 Tryz.underlying3 z92 rfl rfl (Mp.pick 0 rfl hT.mp)) rfl ?_
    rw [mget_ns, hb]
    dsimp only [ptrO, Option.map]
    refine ops_ro' rfl (ro_assign rfl) rfl ?_
    refine ops_nil ?_
    refine Then_normal ?_
    refine wp_seq' ?_
    refine wp_block' ?_
    refine wp_seq' ?_
    refine wp_region' ?_
    refine ops_ro' rfl (ro_move rfl) rfl ?_
    refine ops_ro' rfl (ro_ptrEqlNil Tryz.underlying92 rfl rfl rfl) rfl ?_
    refine ops_ro' rfl (ro_assign rfl) rfl ?_
    refine ops_nil ?_
    refine Then_normal ?_
    refine wp_condT rfl ?_
    refine wp_seq' ?_
    refine wp_heap (fun w F s => nil_row 87 8 w F s) ?_
    refine wp_region' ?_
    refine ops_ro' rfl (ro_assign rfl) rfl ?_
    refine ops_ro' rfl (ro_assign rfl) rfl ?_
    refine ops_nil ?_
    refine Then_normal ?_
    refine wp_ret' ?_
    refine InBlock_ret ?_
    refine Then_ret ?_
    refine' doneS_ret (res2 rfl rfl rfl) ?_ ?_
    rotate_left 1
    exact ⟨_, ⟨none, 0, rfl, rfl⟩, rfl⟩
    exact SubH.refl _
  | some x =>
    have hx := (byId_some hb).1
    unfold listO
    by_cases hd : x.dir = true
    · dsimp only
      rw [if_pos hd]
      refine tri_of_wpS Tryz.func21 rfl Tryz.ntmps21 (by simp) ?_
      refine wp_seq' ?_
      refine wp_region' ?_
      refine ops_ro' rfl (ro_assign rfl) rfl ?_
      refine ops_ro' rfl (ro_assign rfl) rfl ?_
      refine ops_nil ?_
      refine Then_normal ?_
      refine wp_seq' ?_
      refine wp_region' ?_
      refine ops_ro' rfl (ro_move rfl) rfl ?_
      refine ops_ro' rfl (ro_nilCheck rfl) rfl ?_
      refine ops_ro' rfl (ro_fieldAddr fa95_1 rfl) rfl ?_
      refine ops_ro' rfl (ro_load sc93 rfl (Rd.pick 0 rfl ((hT.cs 1 _ rfl)))) rfl ?_
      refine ops_ro' rfl (ro_move rfl) rfl ?_
      refine ops_ro' rfl (ro_lookup Tryz.underlying93 Tryz.underlying3 z92 rfl rfl (Mp.pick 0 rfl hT.mp)) rfl ?_
      rw [mget_ns, hb]
      dsimp only [ptrO, Option.map]
      refine ops_ro' rfl (ro_assign rfl) rfl ?_
      refine ops_nil ?_
      refine Then_normal ?_
      refine wp_seq' ?_
      refine wp_block' ?_
      refine wp_seq' ?_
      refine wp_region' ?_
      refine ops_ro' rfl (ro_move rfl) rfl ?_
      refine ops_ro' rfl (ro_ptrEqlNil Tryz.underlying92 rfl rfl rfl) rfl ?_
      refine ops_ro' rfl (ro_assign rfl) rfl ?_
      refine ops_nil ?_
      refine Then_normal ?_
      refine wp_condF rfl ?_
      refine wp_seq' ?_
      refine wp_region' ?_
      refine ops_ro' rfl (ro_move rfl) rfl ?_
      refine ops_ro' rfl (ro_nilCheck rfl) rfl ?_
      refine ops_ro' rfl (ro_fieldAddr fa98_1 rfl) rfl ?_
      refine ops_ro' rfl (ro_load sc4 rfl (Rd.pick 0 rfl ((hT.nd x hx 1 _ rfl)))) rfl ?_
      rw [hd]
      refine ops_ro' rfl (ro_not rfl rfl) rfl ?_
      try simp only [Bool.not_true, Bool.not_false]
      refine ops_ro' rfl (ro_assign rfl) rfl ?_
      refine ops_nil ?_
      refine Then_normal ?_
      refine wp_condF rfl ?_
      refine wp_skip' ?_
      refine InBlock_normal ?_
      refine Then_normal ?_
      refine wp_seq' ?_
      refine wp_heap (fun w F s => nil_row 87 8 w F s) ?_
      refine wp_region' ?_
      refine ops_ro' rfl (ro_assign rfl) rfl ?_
      refine ops_nil ?_
      refine Then_normal ?_
      refine wp_seq' ?_
      refine wp_seq' ?_
      refine wp_region' ?_
      refine ops_ro' rfl (ro_move rfl) rfl ?_
      refine ops_ro' rfl (ro_nilCheck rfl) rfl ?_
      refine ops_ro' rfl (ro_fieldAddr fa98_3 rfl) rfl ?_
      refine ops_ro' rfl (ro_load sc96 rfl (Rd.pick 1 rfl ((hT.nd x hx 3 _ rfl)))) rfl ?_
      refine ops_ro' rfl (ro_sliceLen Tryz.underlying96 rfl) rfl ?_
      refine ops_ro' rfl (ro_move rfl) rfl ?_
      refine ops_nil ?_
      refine Then_normal ?_
      refine wp_block' ?_
      refine wp_loopK 8 (fun m Δ LL => ∃ (i : Nat) (p7 : Option Addr) (c7 : Nat), (i + m = x.kids.length) ∧ Δ = [(7, .slice p7 (lsK t.ns (x.kids.take i)).length c7), (30, .int .i64 (i : Nat))] ∧ LL = [row 87 8 (.slice p7 (lsK t.ns (x.kids.take i)).length c7) (lsK t.ns (x.kids.take i)).length (flat Nm.cs (lsK t.ns (x.kids.take i))), V]) (m := x.kids.length) (Has.cons (k := 28) rfl (Has.cons (k := 29) rfl (Has.nil _))) (kept ⟨0, none, 0, by omega, rfl, rfl⟩ (by repeat (first | exact Has.nil _ | refine Has.cons rfl ?_)) (by repeat (first | exact Has.nil _ | refine Has.cons rfl ?_)) (by repeat (first | exact SubH.nil _ | refine SubH.cons 0 rfl ?_ | refine SubH.cons 1 rfl ?_ | refine SubH.cons 2 rfl ?_ | refine SubH.cons 3 rfl ?_ | refine SubH.cons 4 rfl ?_ | refine SubH.cons 5 rfl ?_ | refine SubH.cons 6 rfl ?_ | refine SubH.cons 7 rfl ?_ | refine SubH.cons 8 rfl ?_ | refine SubH.cons 9 rfl ?_ | refine SubH.cons 10 rfl ?_ | refine SubH.cons 11 rfl ?_ | refine SubH.cons 12 rfl ?_ | refine SubH.cons 13 rfl ?_ | refine SubH.rown ?_))) ?_
      rintro m Δ LL ⟨i, p7, c7, hm, rfl, rfl⟩
      simp only [List.cons_append, List.nil_append]
      refine wp_seq' ?_
      refine wp_region' ?_
      refine ops_ro' rfl (ro_lss rfl rfl rfl) rfl ?_
      refine ops_nil ?_
      refine Then_normal ?_
      refine wp_seq' ?_
      refine wp_cond' rfl (fun hc31 => ?_) (fun hc31 => ?_)
      · replace hc31 := of_decide_eq_true hc31
        have hi : i < x.kids.length := by omega
        have hll : (lsK t.ns (x.kids.take i)).length = i := by simp [lsK]; omega
        obtain ⟨y, hy, hyb, hyp⟩ := hW.kd.sub x hx x.kids[i] (List.getElem_mem hi)
        have hyl := hl y hy
        have hfew := hW.kd.few x hx
        have hxk := hT.kids x hx
        refine wp_know (fun w F s => vw_ptr (Vw.pick (H := [_, V]) 1 rfl hxk) s (by omega)) ?_
        rintro ⟨b1, o1, hkp⟩
        rw [hkp] at hxk
        refine wp_skip' ?_
        refine Then_normal ?_
        refine wp_seq' ?_
        refine wp_block' ?_
        refine wp_seq' ?_
        refine wp_region' ?_
        rw [hkp]
        refine ops_ro' rfl (ro_indexSlice sl96 rfl rfl rfl (by omega)) rfl ?_
        refine ops_ro' rfl (ro_load sc92 rfl (Rd.pick 1 rfl (Rd.elem (j := 0) (vw_rdn hxk) Pq.len (List.getElem?_eq_getElem hi) rfl))) rfl ?_
        rw [← hyb]
        refine ops_ro' rfl (ro_assign rfl) rfl ?_
        refine ops_nil ?_
        refine Then_normal ?_
        refine wp_draw 10 (by kernel_rfl) (Split.nil _) ?_
        refine any_ro' (i := 0) (by kernel_rfl) rfl rfl (ro_move rfl) rfl (fun _ _ _ h => h) ?_
        refine any_ro' (i := 1) (by kernel_rfl) rfl rfl (ro_move rfl) rfl (fun _ _ _ h => h) ?_
        refine any_ro' (i := 2) (by kernel_rfl) rfl rfl (ro_nilCheck rfl) rfl (fun _ _ _ h => h) ?_
        refine any_ro' (i := 3) (by kernel_rfl) rfl rfl (ro_fieldAddr fa98_2 rfl) rfl (fun _ _ _ h => h) ?_
        refine any_ro' (i := 5) (by kernel_rfl) rfl rfl (ro_move rfl) rfl (fun _ _ _ h => h) ?_
        refine any_two (i := 4) (j := 6) (by kernel_rfl) ?_ ?_
        · refine at_eff' rfl rfl (eff_ro (ro_load sc9 rfl (Rd.pick 1 rfl ((hT.nd y hy 2 _ rfl))))) rfl ?_
          rintro _ _ ⟨rfl, rfl⟩
          refine any_callL' (i := 6) (by kernel_rfl) rfl rfl (eff_callM (Pre := []) Tryz.call45 rfl rfl (Split.nil _) (told_spec (Tv.pick 1 rfl hT) y hy (by omega))) rfl ?_
          rintro _ _ ⟨rfl, rfl⟩
          simp only [List.cons_append, List.nil_append]
          refine any_ro' (i := 7) (by kernel_rfl) rfl rfl (ro_build rfl (bld_struct (cs := Nm.cs ⟨y.name, y.told⟩) st87 rfl)) rfl (fun _ _ _ h => h) ?_
          refine any_eff' (i := 8) (by kernel_rfl) rfl rfl (eff_lit sl26 rfl (sbld (cs := flat Nm.cs [⟨y.name, y.told⟩]) [(.string ByteArray.empty), (.int .u32 0), (.int .u64 0), (.int .u32 0), (.int .u32 0), (.int .u32 0), (.int .u32 0), (.int .u32 0)] sl26 (by decide) (by kernel_rfl) rfl) rfl (by decide)) rfl ?_
          rintro _ _ ⟨b42, rfl, rfl⟩
          refine any_eff' (i := 9) (by kernel_rfl) rfl rfl (eff_appF (f := Nm.cs) (l2 := [⟨y.name, y.told⟩]) 1 sl26 (.inl ⟨87, Tryz.underlying26⟩) rfl rfl rfl (by first | exact Src.flatv Nm.len Nm.one (Vw.pick 0 rfl Vw.row) | exact Src.flatv Nm.len Nm.one (Vw.pick 1 rfl Vw.row) | exact Src.flatv Nm.len Nm.one (Vw.pick 2 rfl Vw.row)) (by simp only [List.length_cons, List.length_nil]; omega) (by simp only [List.length_cons, List.length_nil]; omega)) rfl ?_
          rintro _ _ ⟨p43, c43, rfl, hn43, rfl⟩
          simp only [List.set_cons_zero, List.set_cons_succ]
          rw [← lsK_snoc hW.kd.blks hy hi hyb]
          refine any_unlock (m' := 11) (L' := []) (by kernel_rfl) unlock ?_
          simp only [List.cons_append, List.nil_append, List.append_nil]
          refine any_ro' (i := 10) (by kernel_rfl) rfl rfl (ro_assign rfl) rfl (fun _ _ _ h => h) ?_
          refine any_doneH (by kernel_rfl) ?_
          refine InBlock_normal ?_
          refine Then_normal ?_
          refine wp_region' ?_
          refine ops_ro' rfl (ro_add rfl rfl (wrap_inc (by omega))) rfl ?_
          refine ops_ro' rfl (ro_move rfl) rfl ?_
          refine ops_nil ?_
          refine Then_normal ?_
          refine back (m - 1) (by omega) (kept ⟨i + 1, p43, c43, by omega, rfl, rfl⟩ ?_ ?_ ?_)
          · exact (by repeat (first | exact Has.nil _ | refine Has.cons rfl ?_))
          · exact (by repeat (first | exact Has.nil _ | refine Has.cons rfl ?_))
          · exact (SubH.cons 1 rfl (SubH.cons 1 rfl (SubH.nil _)))
        · refine at_callL' rfl rfl (eff_callM (Pre := []) Tryz.call45 rfl rfl (Split.nil _) (told_spec (Tv.pick 1 rfl hT) y hy (by omega))) rfl ?_
          rintro _ _ ⟨rfl, rfl⟩
          simp only [List.cons_append, List.nil_append]
          refine any_eff' (i := 4) (by kernel_rfl) rfl rfl (eff_ro (ro_load sc9 rfl (Rd.pick 1 rfl ((hT.nd y hy 2 _ rfl))))) rfl ?_
          rintro _ _ ⟨rfl, rfl⟩
          refine any_ro' (i := 7) (by kernel_rfl) rfl rfl (ro_build rfl (bld_struct (cs := Nm.cs ⟨y.name, y.told⟩) st87 rfl)) rfl (fun _ _ _ h => h) ?_
          refine any_eff' (i := 8) (by kernel_rfl) rfl rfl (eff_lit sl26 rfl (sbld (cs := flat Nm.cs [⟨y.name, y.told⟩]) [(.string ByteArray.empty), (.int .u32 0), (.int .u64 0), (.int .u32 0), (.int .u32 0), (.int .u32 0), (.int .u32 0), (.int .u32 0)] sl26 (by decide) (by kernel_rfl) rfl) rfl (by decide)) rfl ?_
          rintro _ _ ⟨b42, rfl, rfl⟩
          refine any_eff' (i := 9) (by kernel_rfl) rfl rfl (eff_appF (f := Nm.cs) (l2 := [⟨y.name, y.told⟩]) 1 sl26 (.inl ⟨87, Tryz.underlying26⟩) rfl rfl rfl (by first | exact Src.flatv Nm.len Nm.one (Vw.pick 0 rfl Vw.row) | exact Src.flatv Nm.len Nm.one (Vw.pick 1 rfl Vw.row) | exact Src.flatv Nm.len Nm.one (Vw.pick 2 rfl Vw.row)) (by simp only [List.length_cons, List.length_nil]; omega) (by simp only [List.length_cons, List.length_nil]; omega)) rfl ?_
          rintro _ _ ⟨p43, c43, rfl, hn43, rfl⟩
          simp only [List.set_cons_zero, List.set_cons_succ]
          rw [← lsK_snoc hW.kd.blks hy hi hyb]
          refine any_unlock (m' := 11) (L' := []) (by kernel_rfl) unlock ?_
          simp only [List.cons_append, List.nil_append, List.append_nil]
          refine any_ro' (i := 10) (by kernel_rfl) rfl rfl (ro_assign rfl) rfl (fun _ _ _ h => h) ?_
          refine any_doneH (by kernel_rfl) ?_
          refine InBlock_normal ?_
          refine Then_normal ?_
          refine wp_region' ?_
          refine ops_ro' rfl (ro_add rfl rfl (wrap_inc (by omega))) rfl ?_
          refine ops_ro' rfl (ro_move rfl) rfl ?_
          refine ops_nil ?_
          refine Then_normal ?_
          refine back (m - 1) (by omega) (kept ⟨i + 1, p43, c43, by omega, rfl, rfl⟩ ?_ ?_ ?_)
          · exact (by repeat (first | exact Has.nil _ | refine Has.cons rfl ?_))
          · exact (by repeat (first | exact Has.nil _ | refine Has.cons rfl ?_))
          · exact (SubH.cons 1 rfl (SubH.cons 1 rfl (SubH.nil _)))
      · replace hc31 := of_decide_eq_false hc31
        refine wp_exit' ?_
        refine Then_exit ?_
        refine Then_exit ?_
        refine InBlock_here ?_
        refine Then_normal ?_
        refine wp_seq' ?_
        refine wp_region' ?_
        refine ops_ro' rfl (ro_move rfl) rfl ?_
        refine ops_ro' rfl (ro_assign rfl) rfl ?_
        refine ops_ro' rfl (ro_assign rfl) rfl ?_
        refine ops_nil ?_
        refine Then_normal ?_
        refine wp_ret' ?_
        rw [show x.kids.take i = x.kids from List.take_of_length_le (by omega)]
        refine' doneS_ret (res2 rfl rfl rfl) ?_ ?_
        rotate_left 1
        exact ⟨_, ⟨p7, c7, rfl, rfl⟩, rfl⟩
        exact SubH.refl _
    · dsimp only
      rw [if_neg hd]
      replace hd : x.dir = false := by simpa using hd
      refine tri_of_wpS Tryz.func21 rfl Tryz.ntmps21 (by simp) ?_
      refine wp_seq' ?_
      refine wp_region' ?_
      refine ops_ro' rfl (ro_assign rfl) rfl ?_
      refine ops_ro' rfl (ro_assign rfl) rfl ?_
      refine ops_nil ?_
      refine Then_normal ?_
      refine wp_seq' ?_
      refine wp_region' ?_
      refine ops_ro' rfl (ro_move rfl) rfl ?_
      refine ops_ro' rfl (ro_nilCheck rfl) rfl ?_
      refine ops_ro' rfl (ro_fieldAddr fa95_1 rfl) rfl ?_
      refine ops_ro' rfl (ro_load sc93 rfl (Rd.pick 0 rfl ((hT.cs 1 _ rfl)))) rfl ?_
      refine ops_ro' rfl (ro_move rfl) rfl ?_
      refine ops_ro' rfl (ro_lookup Tryz.underlying93 Tryz.underlying3 z92 rfl rfl (Mp.pick 0 rfl hT.mp)) rfl ?_
      rw [mget_ns, hb]
      dsimp only [ptrO, Option.map]
      refine ops_ro' rfl (ro_assign rfl) rfl ?_
      refine ops_nil ?_
      refine Then_normal ?_
      refine wp_seq' ?_
      refine wp_block' ?_
      refine wp_seq' ?_
      refine wp_region' ?_
      refine ops_ro' rfl (ro_move rfl) rfl ?_
      refine ops_ro' rfl (ro_ptrEqlNil Tryz.underlying92 rfl rfl rfl) rfl ?_
      refine ops_ro' rfl (ro_assign rfl) rfl ?_
      refine ops_nil ?_
      refine Then_normal ?_
      refine wp_condF rfl ?_
      refine wp_seq' ?_
      refine wp_region' ?_
      refine ops_ro' rfl (ro_move rfl) rfl ?_
      refine ops_ro' rfl (ro_nilCheck rfl) rfl ?_
      refine ops_ro' rfl (ro_fieldAddr fa98_1 rfl) rfl ?_
      refine ops_ro' rfl (ro_load sc4 rfl (Rd.pick 0 rfl ((hT.nd x hx 1 _ rfl)))) rfl ?_
      rw [hd]
      refine ops_ro' rfl (ro_not rfl rfl) rfl ?_
      try simp only [Bool.not_true, Bool.not_false]
      refine ops_ro' rfl (ro_assign rfl) rfl ?_
      refine ops_nil ?_
      refine Then_normal ?_
      refine wp_condT rfl ?_
      refine wp_seq' ?_
      refine wp_heap (fun w F s => nil_row 87 8 w F s) ?_
      refine wp_region' ?_
      refine ops_ro' rfl (ro_assign rfl) rfl ?_
      refine ops_ro' rfl (ro_assign rfl) rfl ?_
      refine ops_nil ?_
      refine Then_normal ?_
      refine wp_ret' ?_
      refine InBlock_ret ?_
      refine Then_ret ?_
      refine' doneS_ret (res2 rfl rfl rfl) ?_ ?_
      rotate_left 1
      exact ⟨_, ⟨none, 0, rfl, rfl⟩, rfl⟩
      exact SubH.refl _

end Go.Proofs.YtlefpllcgcicpaaGreatDoor
namespace Go.Proofs.YtlefpllcgcicpaaGreatDoor
open Go.Sx
set_option linter.unusedVariables false
set_option linter.unusedSimpArgs false
set_option maxRecDepth 100000
set_option maxHeartbeats 4000000

section
variable {P : Program} {n : Nat} {L : HProp} {Γ : Env} {d : Option Tmp} {ty : TypeId} {pos : String} {aft : Array Edge} {g : Option (Nat × Bool)}
end
/-- what a thing holds -/
def kidsN (ns : List Nd) (x : Nd) : List Nd := x.kids.filterMap fun k => ns.find? fun y => decide (y.blk = k)
/-- the sum over a thing and what is below it -/
def tot (ns : List Nd) (w : Nd → Nat) : Nat → Nd → Nat
  | 0, x => w x
  | n + 1, x => w x + ((kidsN ns x).map (tot ns w n)).sum
def levs (ns : List Nd) : Nat → List Nd → List Nd
  | 0, l => l
  | n + 1, l => l ++ levs ns n (l.flatMap (kidsN ns))
/-- how deep things stand: no deeper than 5 -/
structure Dp (ns : List Nd) (d : Nat → Nat) : Prop where
  up : ∀ x ∈ ns, ∀ y ∈ ns, y.par = (x.id : Int) → d y.id = d x.id + 1
  z : d 0 = 0
  le : ∀ x ∈ ns, d x.id ≤ 5
theorem wf_dl {t : Tr} {r : Nd} (h : Wf t r) : ∀ x ∈ t.ns, x.data.length ≤ 1048576 := fun x hx => by
  have h1 := sum_in hx
  rw [← h.sum] at h1
  have := h.max
  omega
theorem fnd_snoc {ns : List Nd} {s : List UInt8} : ∀ {p : List (List UInt8)} {r x : Nd}, fnd ns r p = some x → fnd ns r (p ++ [s]) = kid ns x.id s
  | [], r, x, h => by
    injection h with h; subst h
    show (match kid ns r.id s with | some y => fnd ns y [] | none => none) = _
    cases kid ns r.id s <;> rfl
  | a :: p, r, x, h => by
    unfold fnd at h
    rw [List.cons_append]
    show (match kid ns r.id a with | some y => fnd ns y (p ++ [s]) | none => none) = _
    cases hk : kid ns r.id a with
    | none => rw [hk] at h; cases h
    | some y => rw [hk] at h; exact fnd_snoc h
theorem byId_of {ns : List Nd} (h : (ns.map Nd.id).Nodup) {x : Nd} (hx : x ∈ ns) : byId ns (x.id : Int) = some x := by
  have h1 := find_nodup h hx
  unfold byId
  rw [← h1]; congr 1
  funext y
  exact decide_eq_decide.2 (by omega)
theorem kid_of {ns : List Nd} (h : Kd ns) {x y : Nd} (hx : x ∈ ns) (hy : y ∈ ns) (hp : y.par = x.id) : kid ns x.id y.name = some y := by
  cases hk : kid ns x.id y.name with
  | none => exact absurd rfl (kid_none hk hy hp)
  | some z =>
    obtain ⟨h1, h2, h3⟩ := kid_some hk
    have h4 := (kid_hit h hx hk).2
    obtain ⟨j, hj⟩ := List.mem_iff_getElem?.1 (h.all x hx y hy hp)
    obtain ⟨hlt, he⟩ := List.getElem?_eq_some_iff.1 hj
    have e1 : (x.kids.map (nmB ns))[j]? = some y.name := by rw [List.getElem?_map, hj]; show some (nmB ns y.blk) = _; rw [nmB_of h.blks hy]
    obtain ⟨hlt2, he2⟩ := List.getElem?_eq_some_iff.1 e1
    have e2 : kpl ns x y.name = j := by
      have := plc_at (h.rise x hx) hlt2
      rw [he2] at this; exact this
    rw [e2, hj] at h4
    injection h4 with h4
    rw [nmB_mem h.blks hy h1 h4]
end Go.Proofs.YtlefpllcgcicpaaGreatDoor
namespace Go.Proofs.YtlefpllcgcicpaaGreatDoor
open Go.Sx
set_option linter.unusedVariables false
set_option linter.unusedSimpArgs false
set_option maxRecDepth 100000
set_option maxHeartbeats 4000000

def five (a : At) : List Nat := [a.u, a.g, a.m, a.a, a.t]
def enc4 (l : List Nat) : List UInt8 := l.flatMap fun n => be n 4
def hdr (x : Nd) : List UInt8 := be x.id 8 ++ [b8 (if x.dir then 1 else 0)] ++ enc4 (five x.a)
/-- a thing, and what it holds, as bytes -/
def encN (ns : List Nd) : Nat → Nd → List UInt8
  | 0, _ => []
  | n + 1, x => hdr x ++ if x.dir = true then be x.kids.length 4 ++ (kidsN ns x).flatMap (fun y => be y.name.length 4 ++ y.name ++ encN ns n y) else be x.data.length 4 ++ x.data
/-- nothing below stands deeper than that -/
def Deep (ns : List Nd) : Nat → Nd → Prop
  | 0, _ => False
  | n + 1, x => ∀ y ∈ kidsN ns x, Deep ns n y
def kidB (ns : List Nd) (n : Nat) (y : Nd) : List UInt8 := be y.name.length 4 ++ y.name ++ encN ns n y
/-- the same, however deep it is looked at -/
theorem encN_same {ns : List Nd} : ∀ {n m : Nat} {x : Nd}, Deep ns n x → Deep ns m x → encN ns n x = encN ns m x
  | 0, _, _, h, _ => h.elim
  | _ + 1, 0, _, _, h => h.elim
  | n + 1, m + 1, x, h1, h2 => by
    show hdr x ++ (if x.dir = true then _ else _) = hdr x ++ (if x.dir = true then _ else _)
    congr 2
    congr 1
    have e : ∀ l : List Nd, (∀ y ∈ l, y ∈ kidsN ns x) → l.flatMap (fun y => be y.name.length 4 ++ y.name ++ encN ns n y) = l.flatMap (fun y => be y.name.length 4 ++ y.name ++ encN ns m y) := fun l => by
      induction l with
      | nil => intro _; rfl
      | cons y l ih =>
        intro hl
        rw [List.flatMap_cons, List.flatMap_cons, ih fun z hz => hl z (by simp [hz]), encN_same (h1 y (hl y (by simp))) (h2 y (hl y (by simp)))]
    exact e _ fun y hy => hy
/-- how much a thing and its name take -/
def wgt (y : Nd) : Nat := 37 + (if y.id = 0 then 0 else y.name.length) + y.data.length
/-- the bytes that are saved -/
structure SaveR (t : Tr) (r : Nd) (b : List UInt8) : Prop where
  ex : ∃ n, Deep t.ns n r ∧ b = be t.next 8 ++ encN t.ns n r
theorem SaveR.same {t : Tr} {r : Nd} {a b : List UInt8} (h1 : SaveR t r a) (h2 : SaveR t r b) : a = b := by
  obtain ⟨n, h3, rfl⟩ := h1.ex
  obtain ⟨m, h4, rfl⟩ := h2.ex
  rw [encN_same h3 h4]

end Go.Proofs.YtlefpllcgcicpaaGreatDoor
namespace Go.Proofs.YtlefpllcgcicpaaGreatDoor
open Go.Sx
set_option linter.unusedVariables false
set_option linter.unusedSimpArgs false
set_option maxRecDepth 100000
set_option maxHeartbeats 4000000

theorem nmB_map {ns : List Nd} (hK : (ns.map Nd.blk).Nodup) {g : Nd → Nd} (hb : ∀ u, (g u).blk = u.blk) {v : Nd} (hv : v ∈ ns) : nmB (ns.map g) v.blk = (g v).name := by
  have h1 : ((ns.map g).map Nd.blk).Nodup := by
    rw [List.map_map, show (Nd.blk ∘ g) = Nd.blk from funext hb]; exact hK
  have h2 := nmB_of h1 (List.mem_map.2 ⟨v, hv, rfl⟩)
  rw [hb] at h2; exact h2
theorem kd_map {ns : List Nd} (hK : Kd ns) {g : Nd → Nd} (hb : ∀ u, (g u).blk = u.blk) (hi : ∀ u, (g u).id = u.id)
    (sub : ∀ u ∈ ns, ∀ k ∈ (g u).kids, ∃ v ∈ ns, v.blk = k ∧ (g v).par = u.id) (all : ∀ u ∈ ns, ∀ v ∈ ns, (g v).par = u.id → v.blk ∈ (g u).kids)
    (rise : ∀ u ∈ ns, Rise ((g u).kids.map (nmB (ns.map g)))) (few : ∀ u ∈ ns, (g u).kids.length ≤ 100000) : Kd (ns.map g) := by
  refine ⟨?_, fun z hz k hk => ?_, fun z hz u hu hp => ?_, fun z hz => ?_, fun z hz => ?_⟩
  · rw [List.map_map, show (Nd.blk ∘ g) = Nd.blk from funext hb]; exact hK.blks
  · obtain ⟨u, hu, rfl⟩ := List.mem_map.1 hz
    obtain ⟨v, h1, h2, h3⟩ := sub u hu k hk
    exact ⟨g v, List.mem_map.2 ⟨v, h1, rfl⟩, by rw [hb]; exact h2, by rw [hi]; exact h3⟩
  · obtain ⟨w, hw, rfl⟩ := List.mem_map.1 hz
    obtain ⟨v, hv, rfl⟩ := List.mem_map.1 hu
    rw [hb]; rw [hi] at hp
    exact all w hw v hv hp
  · obtain ⟨u, hu, rfl⟩ := List.mem_map.1 hz
    exact rise u hu
  · obtain ⟨u, hu, rfl⟩ := List.mem_map.1 hz
    exact few u hu
/-- y holds what stands at k no more -/
def cutF (kp : Option Addr) (kc k : Nat) (y : Nd) : Nd := { y with kp := kp, kc := kc, kids := y.kids.eraseIdx k }
/-- it stands nowhere -/
def outF (s : List UInt8) (y : Nd) : Nd := { y with par := -2, name := s }
def cutG (x y : Nd) (kp : Option Addr) (kc k : Nat) (s : List UInt8) (u : Nd) : Nd := if u.blk = x.blk then outF s u else if u.blk = y.blk then cutF kp kc k u else u
theorem cutG_same (x y : Nd) (kp : Option Addr) (kc k : Nat) (s : List UInt8) (u : Nd) : (cutG x y kp kc k s u).blk = u.blk ∧ (cutG x y kp kc k s u).id = u.id ∧ (cutG x y kp kc k s u).dir = u.dir ∧ (cutG x y kp kc k s u).data = u.data ∧ (cutG x y kp kc k s u).a = u.a := by
  unfold cutG; split
  · exact ⟨rfl, rfl, rfl, rfl, rfl⟩
  · split <;> exact ⟨rfl, rfl, rfl, rfl, rfl⟩
theorem cutG_x {x y : Nd} {kp : Option Addr} {kc k : Nat} {s : List UInt8} : cutG x y kp kc k s x = outF s x := by unfold cutG; rw [if_pos rfl]
theorem cutG_no {x y u : Nd} (h : u.blk ≠ x.blk) {kp : Option Addr} {kc k : Nat} {s : List UInt8} : (cutG x y kp kc k s u).par = u.par ∧ (cutG x y kp kc k s u).name = u.name := by
  unfold cutG; rw [if_neg h]; split <;> exact ⟨rfl, rfl⟩
theorem cutG_kids {x y u : Nd} {kp : Option Addr} {kc k : Nat} {s : List UInt8} (hxy : x.blk ≠ y.blk) : (cutG x y kp kc k s u).kids = if u.blk = y.blk then u.kids.eraseIdx k else u.kids := by
  unfold cutG
  by_cases h : u.blk = x.blk
  · rw [if_pos h, if_neg (by rw [h]; exact hxy)]; rfl
  · rw [if_neg h]; split <;> rfl
/-- both as one -/
theorem cutG_ns (x y : Nd) (hxy : x.blk ≠ y.blk) (kp : Option Addr) (kc k : Nat) (s : List UInt8) (ns : List Nd) : turnB x.blk (outF s) (turnB y.blk (cutF kp kc k) ns) = ns.map (cutG x y kp kc k s) := by
  unfold turnB; rw [List.map_map]
  refine List.map_congr_left fun u _ => ?_
  show (if (if u.blk = y.blk then cutF kp kc k u else u).blk = x.blk then outF s (if u.blk = y.blk then cutF kp kc k u else u) else (if u.blk = y.blk then cutF kp kc k u else u)) = cutG x y kp kc k s u
  unfold cutG
  by_cases h : u.blk = x.blk
  · have h2 : ¬ u.blk = y.blk := by rw [h]; exact hxy
    rw [if_neg h2, if_pos h]
  · rw [if_neg h]
    by_cases h2 : u.blk = y.blk
    · rw [if_pos h2, if_neg (show ¬ (cutF kp kc k u).blk = x.blk from h)]
    · rw [if_neg h2, if_neg h]
theorem mem_erase {l : List Nat} (h : l.Nodup) {k b : Nat} (hk : l[k]? = some b) {j : Nat} : j ∈ l.eraseIdx k ↔ j ∈ l ∧ j ≠ b := by
  obtain ⟨hlt, he⟩ := List.getElem?_eq_some_iff.1 hk
  have e : l = l.take k ++ b :: l.drop (k + 1) := by
    rw [← he, List.getElem_cons_drop, List.take_append_drop]
  rw [List.eraseIdx_eq_take_drop_succ]
  rw [e] at h
  rw [List.nodup_append, List.nodup_cons] at h
  conv => rhs; rw [e]
  constructor
  · intro hj
    rcases List.mem_append.1 hj with hj | hj
    · exact ⟨List.mem_append_left _ hj, fun e => h.2.2 j hj b (by simp) e⟩
    · exact ⟨List.mem_append_right _ (by simp [hj]), fun e => h.2.1.1 (by rw [← e]; exact hj)⟩
  · rintro ⟨hj, hn⟩
    rcases List.mem_append.1 hj with hj | hj
    · exact List.mem_append_left _ hj
    · rcases List.mem_cons.1 hj with hj | hj
      · exact absurd hj hn
      · exact List.mem_append_right _ hj
theorem kd_cut {ns : List Nd} (hK : Kd ns) (hid : (ns.map Nd.id).Nodup) {x y : Nd} (hx : x ∈ ns) (hy : y ∈ ns) (hp : x.par = y.id) (hxy : x.blk ≠ y.blk) {k : Nat} (hk : y.kids[k]? = some x.blk) (kp : Option Addr) (kc : Nat) (s : List UInt8) : Kd (ns.map (cutG x y kp kc k s)) := by
  have xof : ∀ u ∈ ns, u.blk = x.blk → u = x := fun u hu e => nmB_mem hK.blks hu hx e
  have yof : ∀ u ∈ ns, u.blk = y.blk → u = y := fun u hu e => nmB_mem hK.blks hu hy e
  have hyn := kids_nodup hK hy
  have kidx : ∀ u ∈ ns, ∀ j ∈ (cutG x y kp kc k s u).kids, ∃ v ∈ ns, v.blk = j ∧ v.par = u.id ∧ v.blk ≠ x.blk := fun u hu j hj => by
    rw [cutG_kids hxy] at hj
    by_cases e : u.blk = y.blk
    · rw [if_pos e] at hj
      obtain rfl := yof u hu e
      obtain ⟨h1, h2⟩ := (mem_erase hyn hk).1 hj
      obtain ⟨v, v1, v2, v3⟩ := hK.sub u hu j h1
      exact ⟨v, v1, v2, v3, by rw [v2]; exact h2⟩
    · rw [if_neg e] at hj
      obtain ⟨v, v1, v2, v3⟩ := hK.sub u hu j hj
      refine ⟨v, v1, v2, v3, fun e2 => e ?_⟩
      obtain rfl := xof v v1 e2
      rw [nmId hid hu hy (by omega)]
  refine kd_map hK (fun u => (cutG_same x y kp kc k s u).1) (fun u => (cutG_same x y kp kc k s u).2.1) (fun u hu j hj => ?_) (fun u hu v hv hpv => ?_) (fun u hu => ?_) (fun u hu => ?_)
  · obtain ⟨v, v1, v2, v3, v4⟩ := kidx u hu j hj
    exact ⟨v, v1, v2, by rw [(cutG_no v4).1]; exact v3⟩
  · by_cases e : v.blk = x.blk
    · obtain rfl := xof v hv e
      rw [cutG_x] at hpv
      have hpv : (-2 : Int) = u.id := hpv
      omega
    · rw [(cutG_no e).1] at hpv
      have h1 := hK.all u hu v hv hpv
      rw [cutG_kids hxy]
      by_cases e2 : u.blk = y.blk
      · rw [if_pos e2]
        obtain rfl := yof u hu e2
        exact (mem_erase hyn hk).2 ⟨h1, e⟩
      · rw [if_neg e2]; exact h1
  · have e0 : (cutG x y kp kc k s u).kids.map (nmB (ns.map (cutG x y kp kc k s))) = (cutG x y kp kc k s u).kids.map (nmB ns) := List.map_congr_left fun j hj => by
      obtain ⟨v, v1, v2, v3, v4⟩ := kidx u hu j hj
      rw [← v2, nmB_map hK.blks (fun u => (cutG_same x y kp kc k s u).1) v1, nmB_of hK.blks v1, (cutG_no v4).2]
    rw [e0, cutG_kids hxy]
    split
    · exact List.Pairwise.sublist (List.Sublist.map _ (List.eraseIdx_sublist _ _)) (hK.rise u hu)
    · exact hK.rise u hu
  · rw [cutG_kids hxy]
    have := hK.few u hu
    split
    · have := (List.eraseIdx_sublist u.kids k).length_le; omega
    · exact this
/-- what stood nowhere stands in y, at the place of its name -/
def putG (x y : Nd) (kp : Option Addr) (kc k : Nat) (u : Nd) : Nd := if u.blk = x.blk then { u with par := y.id } else if u.blk = y.blk then heldF kp kc k x.blk u else u
theorem putG_same (x y : Nd) (kp : Option Addr) (kc k : Nat) (u : Nd) : (putG x y kp kc k u).blk = u.blk ∧ (putG x y kp kc k u).id = u.id ∧ (putG x y kp kc k u).dir = u.dir ∧ (putG x y kp kc k u).data = u.data ∧ (putG x y kp kc k u).a = u.a ∧ (putG x y kp kc k u).name = u.name := by
  unfold putG; split
  · exact ⟨rfl, rfl, rfl, rfl, rfl, rfl⟩
  · split <;> exact ⟨rfl, rfl, rfl, rfl, rfl, rfl⟩
theorem putG_x {x y : Nd} {kp : Option Addr} {kc k : Nat} : (putG x y kp kc k x).par = y.id := by unfold putG; rw [if_pos rfl]
theorem putG_no {x y u : Nd} (h : u.blk ≠ x.blk) {kp : Option Addr} {kc k : Nat} : (putG x y kp kc k u).par = u.par := by
  unfold putG; rw [if_neg h]; split <;> rfl
theorem putG_kids {x y u : Nd} (hxy : x.blk ≠ y.blk) {kp : Option Addr} {kc k : Nat} : (putG x y kp kc k u).kids = if u.blk = y.blk then insAt u.kids k x.blk else u.kids := by
  unfold putG
  by_cases h : u.blk = x.blk
  · rw [if_pos h, if_neg (by rw [h]; exact hxy)]
  · rw [if_neg h]; split <;> rfl
theorem putG_ns (x y : Nd) (hxy : x.blk ≠ y.blk) (kp : Option Addr) (kc k : Nat) (ns : List Nd) : turnB x.blk (fun u => { u with par := y.id }) (turnB y.blk (heldF kp kc k x.blk) ns) = ns.map (putG x y kp kc k) := by
  unfold turnB; rw [List.map_map]
  refine List.map_congr_left fun u _ => ?_
  show (if (if u.blk = y.blk then heldF kp kc k x.blk u else u).blk = x.blk then { (if u.blk = y.blk then heldF kp kc k x.blk u else u) with par := y.id } else (if u.blk = y.blk then heldF kp kc k x.blk u else u)) = putG x y kp kc k u
  unfold putG
  by_cases h : u.blk = x.blk
  · have h2 : ¬ u.blk = y.blk := by rw [h]; exact hxy
    rw [if_neg h2, if_pos h]
  · rw [if_neg h]
    by_cases h2 : u.blk = y.blk
    · rw [if_pos h2, if_neg (show ¬ (heldF kp kc k x.blk u).blk = x.blk from h)]
    · rw [if_neg h2, if_neg h]
theorem kd_into {ns : List Nd} (hK : Kd ns) (hid : (ns.map Nd.id).Nodup) {x y : Nd} (hx : x ∈ ns) (hy : y ∈ ns) (ho : ∀ u ∈ ns, x.par ≠ u.id) (hxy : x.blk ≠ y.blk) (hno : kid ns y.id x.name = none) (hfew : y.kids.length < 100000) (kp : Option Addr) (kc : Nat) : Kd (ns.map (putG x y kp kc (kpl ns y x.name))) := by
  have hkl := plc_le (y.kids.map (nmB ns)) x.name
  rw [List.length_map] at hkl
  have xof : ∀ u ∈ ns, u.blk = x.blk → u = x := fun u hu e => nmB_mem hK.blks hu hx e
  have yof : ∀ u ∈ ns, u.blk = y.blk → u = y := fun u hu e => nmB_mem hK.blks hu hy e
  have hb : ∀ u, (putG x y kp kc (kpl ns y x.name) u).blk = u.blk := fun u => (putG_same x y kp kc (kpl ns y x.name) u).1
  have kidn : ∀ u ∈ ns, ∀ j ∈ u.kids, ∃ v ∈ ns, v.blk = j ∧ (putG x y kp kc (kpl ns y x.name) v).par = u.id := fun u hu j hj => by
    obtain ⟨v, v1, v2, v3⟩ := hK.sub u hu j hj
    refine ⟨v, v1, v2, ?_⟩
    rw [putG_no (fun e => ?_)]
    · exact v3
    · rw [xof v v1 e] at v3; exact ho u hu v3
  have nmn : ∀ u ∈ ns, u.kids.map (nmB (ns.map (putG x y kp kc (kpl ns y x.name)))) = u.kids.map (nmB ns) := fun u hu => List.map_congr_left fun j hj => by
    obtain ⟨v, v1, v2, _⟩ := hK.sub u hu j hj
    rw [← v2, nmB_map hK.blks hb v1, nmB_of hK.blks v1, (putG_same x y kp kc (kpl ns y x.name) v).2.2.2.2.2]
  refine kd_map hK hb (fun u => (putG_same x y kp kc (kpl ns y x.name) u).2.1) (fun u hu j hj => ?_) (fun u hu v hv hpv => ?_) (fun u hu => ?_) (fun u hu => ?_)
  · rw [putG_kids hxy] at hj
    by_cases e : u.blk = y.blk
    · rw [if_pos e, insAt_mem] at hj
      rcases hj with hj | hj
      · exact ⟨x, hx, hj.symm, by rw [putG_x, yof u hu e]⟩
      · exact kidn u hu j hj
    · rw [if_neg e] at hj; exact kidn u hu j hj
  · rw [putG_kids hxy]
    by_cases e : v.blk = x.blk
    · obtain rfl := xof v hv e
      rw [putG_x] at hpv
      have e2 : u = y := nmId hid hu hy (by omega)
      rw [e2, if_pos rfl]; exact insAt_mem.2 (.inl rfl)
    · rw [putG_no e] at hpv
      have h1 := hK.all u hu v hv hpv
      split
      · exact insAt_mem.2 (.inr h1)
      · exact h1
  · rw [putG_kids hxy]
    by_cases e : u.blk = y.blk
    · obtain rfl := yof u hu e
      rw [if_pos rfl]
      have e1 : (insAt u.kids (kpl ns u x.name) x.blk).map (nmB (ns.map (putG x u kp kc (kpl ns u x.name)))) = (u.kids.map (nmB ns)).take (kpl ns u x.name) ++ x.name :: (u.kids.map (nmB ns)).drop (kpl ns u x.name) := by
        unfold insAt
        rw [List.map_append, List.map_cons, List.map_take, List.map_drop, nmn u hu, nmB_map hK.blks hb hx, (putG_same x u kp kc (kpl ns u x.name) x).2.2.2.2.2]
      rw [e1]
      exact rise_ins (hK.rise u hu) (kid_miss hK hu hno)
    · rw [if_neg e, nmn u hu]; exact hK.rise u hu
  · rw [putG_kids hxy]
    by_cases e : u.blk = y.blk
    · rw [if_pos e]
      obtain rfl := yof u hu e
      rw [insAt_len hkl]; omega
    · rw [if_neg e]; exact hK.few u hu

end Go.Proofs.YtlefpllcgcicpaaGreatDoor
namespace Go.Proofs.YtlefpllcgcicpaaGreatDoor
open Go.Sx
set_option linter.unusedVariables false
set_option linter.unusedSimpArgs false
set_option maxRecDepth 100000
set_option maxHeartbeats 4000000

/-- z is x, or below it -/
def Bel (ns : List Nd) (x z : Nd) : Prop := ∃ q, fnd ns x q = some z
theorem fnd_app {ns : List Nd} : ∀ {p : List (List UInt8)} {r x : Nd}, fnd ns r p = some x → ∀ q, fnd ns r (p ++ q) = fnd ns x q
  | [], r, x, h, q => by injection h with h; rw [← h]; rfl
  | s :: p, r, x, h, q => by
    unfold fnd at h
    rw [List.cons_append]
    show (match kid ns r.id s with | some y => fnd ns y (p ++ q) | none => none) = _
    cases hk : kid ns r.id s with
    | none => rw [hk] at h; cases h
    | some y => rw [hk] at h; exact fnd_app h q
theorem fnd_cons {ns : List Nd} {r y : Nd} {s : List UInt8} (h : kid ns r.id s = some y) (p : List (List UInt8)) : fnd ns r (s :: p) = fnd ns y p := by
  show (match kid ns r.id s with | some y => fnd ns y p | none => none) = _
  rw [h]
theorem fnd_none {ns : List Nd} {r : Nd} {s : List UInt8} (h : kid ns r.id s = none) (p : List (List UInt8)) : fnd ns r (s :: p) = none := by
  show (match kid ns r.id s with | some y => fnd ns y p | none => none) = _
  rw [h]
theorem snoc_of {p : List (List UInt8)} (h : p ≠ []) : p = p.take (p.length - 1) ++ [lastN p] := by
  have h1 := List.length_pos_iff.2 h
  have h2 := lastN_at h
  obtain ⟨h3, h4⟩ := List.getElem?_eq_some_iff.1 h2
  conv => lhs; rw [← List.take_append_drop (p.length - 1) p]
  congr 1
  rw [List.drop_eq_getElem_cons h3, h4, List.drop_of_length_le (by omega)]
/-- what is found stands in what is found ahead of its name -/
theorem fnd_last {ns : List Nd} {r x : Nd} {p : List (List UInt8)} (hp : p ≠ []) (h : fnd ns r p = some x) : ∃ y, fnd ns r (p.take (p.length - 1)) = some y ∧ kid ns y.id (lastN p) = some x := by
  have e := snoc_of hp
  rw [e] at h
  cases h1 : fnd ns r (p.take (p.length - 1)) with
  | none =>
    exfalso
    have h2 : ∀ {p : List (List UInt8)} {r : Nd}, fnd ns r p = none → ∀ q, fnd ns r (p ++ q) = none := by
      intro p
      induction p with
      | nil => intro r h; cases h
      | cons s p ih =>
        intro r h q
        rw [List.cons_append]
        cases hk : kid ns r.id s with
        | none => exact fnd_none hk _
        | some y => rw [fnd_cons hk] at h ⊢; exact ih h q
    rw [h2 h1] at h; cases h
  | some y =>
    refine ⟨y, rfl, ?_⟩
    rw [fnd_snoc h1] at h; exact h
theorem fnd_deep' {ns : List Nd} {d : Nat → Nat} (hD : ∀ x ∈ ns, ∀ y ∈ ns, y.par = (x.id : Int) → d y.id = d x.id + 1) : ∀ {p : List (List UInt8)} {r x : Nd}, r ∈ ns → fnd ns r p = some x → d x.id = d r.id + p.length
  | [], r, x, _, h => by injection h with h; rw [← h]; rfl
  | s :: p, r, x, hr, h => by
    unfold fnd at h
    cases hk : kid ns r.id s with
    | none => rw [hk] at h; cases h
    | some y =>
      rw [hk] at h
      obtain ⟨h1, h2, _⟩ := kid_some hk
      rw [fnd_deep' hD h1 h, hD r hr y h1 h2, List.length_cons]; omega
theorem fnd_inj' {t : Tr} {r : Nd} (hW : Wf t r) : ∀ (n : Nat) {x : Nd} {p q : List (List UInt8)}, p.length = n → q.length = n → fnd t.ns r p = some x → fnd t.ns r q = some x → p = q
  | 0, x, p, q, hp, hq, _, _ => by rw [List.eq_nil_of_length_eq_zero hp, List.eq_nil_of_length_eq_zero hq]
  | n + 1, x, p, q, hp, hq, h1, h2 => by
    have hp0 : p ≠ [] := fun e => by rw [e] at hp; cases hp
    have hq0 : q ≠ [] := fun e => by rw [e] at hq; cases hq
    obtain ⟨y, a1, a2⟩ := fnd_last hp0 h1
    obtain ⟨z, b1, b2⟩ := fnd_last hq0 h2
    obtain ⟨hx, c1, c2⟩ := kid_some a2
    obtain ⟨_, c3, c4⟩ := kid_some b2
    have e : y = z := nmId hW.ids (fnd_mem hW.root a1) (fnd_mem hW.root b1) (by omega)
    subst e
    rw [snoc_of hp0, snoc_of hq0, fnd_inj' hW n (by rw [List.length_take]; omega) (by rw [List.length_take]; omega) a1 b1, ← c2, ← c4]
/-- each thing has one path -/
theorem fnd_inj {t : Tr} {r x : Nd} (hW : Wf t r) {p q : List (List UInt8)} (h1 : fnd t.ns r p = some x) (h2 : fnd t.ns r q = some x) : p = q := by
  obtain ⟨d, hD⟩ := hW.rk
  have e1 := fnd_deep' hD hW.root h1
  have e2 := fnd_deep' hD hW.root h2
  exact fnd_inj' hW q.length (by omega) rfl h1 h2
theorem take_pre {p q : List (List UInt8)} (n : Nat) (h : p.take n = q) (hn : n ≤ p.length) : ∃ s, p = q ++ s := ⟨p.drop n, by rw [← h, List.take_append_drop]⟩
/-- what stands below x has a path that begins with x's -/
theorem bel_path {t : Tr} {r x z : Nd} (hW : Wf t r) {p q : List (List UInt8)} (h1 : fnd t.ns r p = some x) (h2 : fnd t.ns r q = some z) : Bel t.ns x z ↔ (p.length ≤ q.length ∧ q.take p.length = p) := by
  constructor
  · rintro ⟨s, hs⟩
    have h3 := fnd_app h1 s
    rw [hs] at h3
    rw [fnd_inj hW h2 h3]
    exact ⟨by simp, by simp⟩
  · rintro ⟨hl, ht⟩
    obtain ⟨s, hs⟩ := take_pre p.length ht hl
    refine ⟨s, ?_⟩
    rw [hs, fnd_app h1] at h2; exact h2
/-- a path that x is not on is there still when x stands elsewhere -/
theorem fnd_keep {ns ns' : List Nd} {g : Nd → Nd} {x : Nd} (hK : Kd ns) (hK' : Kd ns') (hin : ∀ u ∈ ns, g u ∈ ns') (hid : ∀ u, (g u).id = u.id) (hsame : ∀ u ∈ ns, u ≠ x → (g u).par = u.par ∧ (g u).name = u.name) :
    ∀ {p : List (List UInt8)} {u z : Nd}, u ∈ ns → ¬ Bel ns x z → fnd ns u p = some z → fnd ns' (g u) p = some (g z)
  | [], u, z, _, _, h => by injection h with h; rw [← h]; rfl
  | s :: p, u, z, hu, hb, h => by
    unfold fnd at h
    cases hk : kid ns u.id s with
    | none => rw [hk] at h; cases h
    | some v =>
      rw [hk] at h
      obtain ⟨h1, h2, h3⟩ := kid_some hk
      have hvx : v ≠ x := fun e => hb ⟨p, by rw [← e]; exact h⟩
      obtain ⟨h4, h5⟩ := hsame v h1 hvx
      have h6 := kid_of hK' (hin u hu) (hin v h1) (by rw [h4, hid]; exact h2)
      rw [h5, h3] at h6
      rw [fnd_cons h6]
      exact fnd_keep hK hK' hin hid hsame h1 hb h
theorem bel_kid {ns : List Nd} (hK : Kd ns) {x u v : Nd} (hu : u ∈ ns) (hv : v ∈ ns) (hp : v.par = u.id) (h : Bel ns x u) : Bel ns x v := by
  obtain ⟨q, hq⟩ := h
  exact ⟨q ++ [v.name], by rw [fnd_snoc hq]; exact kid_of hK hu hv hp⟩
theorem bel_par {ns : List Nd} (hid : (ns.map Nd.id).Nodup) {x u v : Nd} (hx : x ∈ ns) (hu : u ∈ ns) (hp : v.par = u.id) (hvx : v ≠ x) (h : Bel ns x v) : Bel ns x u := by
  obtain ⟨q, hq⟩ := h
  by_cases hq0 : q = []
  · rw [hq0] at hq
    injection hq with hq
    exact absurd hq.symm hvx
  · obtain ⟨w, h1, h2⟩ := fnd_last hq0 hq
    obtain ⟨_, h3, _⟩ := kid_some h2
    have e : w = u := nmId hid (fnd_mem hx h1) hu (by omega)
    rw [← e]; exact ⟨_, h1⟩
open Classical in
/-- how deep things stand, when x stands in y -/
theorem rk_moved {ns ns' : List Nd} {g : Nd → Nd} {x y : Nd} (hK : Kd ns) (hids : (ns.map Nd.id).Nodup) (hx : x ∈ ns) (hy : y ∈ ns) (hn : ¬ Bel ns x y) (hns : ns' = ns.map g) (hid : ∀ u, (g u).id = u.id) (hsame : ∀ u ∈ ns, u ≠ x → (g u).par = u.par) (hgx : (g x).par = y.id)
    (h : ∃ d : Nat → Nat, ∀ u ∈ ns, ∀ v ∈ ns, v.par = (u.id : Int) → d v.id = d u.id + 1) : ∃ d : Nat → Nat, ∀ u ∈ ns', ∀ v ∈ ns', v.par = (u.id : Int) → d v.id = d u.id + 1 := by
  obtain ⟨d, hD⟩ := h
  have key : ∀ i : Nat, ∃ m : Nat, ∀ u ∈ ns, u.id = i → (Bel ns x u → m = d i + (d y.id + 1) - d x.id) ∧ (¬ Bel ns x u → m = d i) := fun i => by
    by_cases e : ∃ u ∈ ns, u.id = i ∧ Bel ns x u
    · obtain ⟨u, hu, hi, hb⟩ := e
      refine ⟨_, fun v hv hvi => ⟨fun _ => rfl, fun hnb => ?_⟩⟩
      rw [nmId hids hv hu (by omega)] at hnb; exact absurd hb hnb
    · exact ⟨d i, fun v hv hvi => ⟨fun hb => absurd ⟨v, hv, hvi, hb⟩ e, fun _ => rfl⟩⟩
  refine ⟨fun i => Classical.choose (key i), fun u hu v hv hp => ?_⟩
  subst hns
  obtain ⟨a, ha, rfl⟩ := List.mem_map.1 hu
  obtain ⟨b, hb, rfl⟩ := List.mem_map.1 hv
  rw [hid] at hp ⊢
  rw [hid]
  have ka := Classical.choose_spec (key a.id) a ha rfl
  have kb := Classical.choose_spec (key b.id) b hb rfl
  have dx : ∀ u, Bel ns x u → d x.id ≤ d u.id := fun u hu => by
    obtain ⟨q, hq⟩ := hu
    have := fnd_deep' hD hx hq
    omega
  by_cases e : b = x
  · rw [e] at hp kb ⊢
    rw [hgx] at hp
    have e2 : a = y := nmId hids ha hy (by omega)
    rw [e2] at ka ⊢
    dsimp only
    rw [kb.1 ⟨[], rfl⟩, ka.2 hn]; omega
  · rw [hsame b hb e] at hp
    have hd := hD a ha b hb hp
    dsimp only
    by_cases hbb : Bel ns x b
    · have hba := bel_par hids hx ha hp e hbb
      have := dx a hba
      rw [kb.1 hbb, ka.1 hba]; omega
    · have hba : ¬ Bel ns x a := fun h => hbb (bel_kid hK ha hb hp h)
      rw [kb.2 hbb, ka.2 hba]; exact hd
/-- what a thing is, wherever it lies -/
structure Co where
  id : Nat
  par : Int
  dir : Bool
  name : List UInt8
  data : List UInt8
  a : At
def Nd.co (x : Nd) : Co := ⟨x.id, x.par, x.dir, x.name, x.data, x.a⟩
/-- the same things, wherever they lie -/
def SameC (A B : List Nd) : Prop := ∀ c, c ∈ A.map Nd.co ↔ c ∈ B.map Nd.co
/-- things stand elsewhere: x in y, by the name s -/
structure Mv (ns ns' : List Nd) (x y : Nd) (s : List UInt8) (g : Nd → Nd) : Prop where
  lst : ns' = ns.map g
  blk : ∀ u, (g u).blk = u.blk
  id : ∀ u, (g u).id = u.id
  dir : ∀ u, (g u).dir = u.dir
  data : ∀ u, (g u).data = u.data
  a : ∀ u, (g u).a = u.a
  no : ∀ u ∈ ns, u ≠ x → (g u).par = u.par ∧ (g u).name = u.name
  par : (g x).par = y.id
  name : (g x).name = s
theorem wf_moved {t t' : Tr} {r x y : Nd} {s : List UInt8} {g : Nd → Nd} (hW : Wf t r) (hM : Mv t.ns t'.ns x y s g) (hK : Kd t'.ns) (hx : x ∈ t.ns) (hx0 : x.id ≠ 0) (hy : y ∈ t.ns) (hd : y.dir = true) (hn : ¬ Bel t.ns x y) (hs : ptOk s = true) (hb : t'.bytes = t.bytes) (hnx : t'.next = t.next) (hrb : t'.rb = t.rb) : Wf t' (g r) := by
  have gof : ∀ u ∈ t'.ns, ∃ v ∈ t.ns, u = g v := fun u hu => by
    rw [hM.lst] at hu
    obtain ⟨v, h1, h2⟩ := List.mem_map.1 hu
    exact ⟨v, h1, h2.symm⟩
  have gin : ∀ v ∈ t.ns, g v ∈ t'.ns := fun v hv => by rw [hM.lst]; exact List.mem_map.2 ⟨v, hv, rfl⟩
  have hrx : r ≠ x := fun e => hx0 (by rw [← e]; exact hW.rid)
  refine ⟨hK, gin r hW.root, by rw [hrb, hW.rb, hM.blk], by rw [hM.id]; exact hW.rid, by rw [(hM.no r hW.root hrx).1]; exact hW.rpar, by rw [hM.dir]; exact hW.rdir, ?_, fun u hu => ?_, fun u hu => ?_, fun u hu => ?_, ?_, ?_, fun u hu hdu => ?_, ?_, by rw [hb]; exact hW.max, fun u hu => ?_⟩
  · rw [hM.lst, List.map_map, show (Nd.id ∘ g) = Nd.id from funext hM.id]; exact hW.ids
  · obtain ⟨v, hv, rfl⟩ := gof u hu
    rw [hM.id, hnx]; exact hW.lt v hv
  · obtain ⟨v, hv, rfl⟩ := gof u hu
    rw [hM.id]
    by_cases e : v = x
    · exact .inr ⟨g y, gin y hy, by rw [e, hM.par, hM.id], by rw [hM.dir]; exact hd⟩
    · rcases hW.par v hv with h1 | ⟨w, h1, h2, h3⟩
      · exact .inl h1
      · exact .inr ⟨g w, gin w h1, by rw [(hM.no v hv e).1, hM.id]; exact h2, by rw [hM.dir]; exact h3⟩
  · obtain ⟨v, hv, rfl⟩ := gof u hu
    rw [hM.id]
    by_cases e : v = x
    · rw [e, hM.name]; exact .inr hs
    · rw [(hM.no v hv e).2]; exact hW.nm v hv
  · exact rk_moved hW.kd hW.ids hx hy hn hM.lst hM.id (fun u hu e => (hM.no u hu e).1) hM.par hW.rk
  · rw [hM.lst, List.length_map]; exact hW.few
  · obtain ⟨v, hv, rfl⟩ := gof u hu
    rw [hM.dir] at hdu
    rw [hM.data]; exact hW.dat v hv hdu
  · rw [hb, hW.sum, hM.lst, List.map_map]
    congr 1
    exact List.map_congr_left fun u _ => by show _ = (g u).data.length; rw [hM.data]
  · obtain ⟨v, hv, rfl⟩ := gof u hu
    rw [hM.a]; exact hW.a v hv
end Go.Proofs.YtlefpllcgcicpaaGreatDoor
