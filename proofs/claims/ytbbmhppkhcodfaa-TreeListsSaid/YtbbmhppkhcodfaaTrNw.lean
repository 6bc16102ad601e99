/-
  Law 15's walk.
-/
import Derived.Test.YtbbmhppkhcodfaaTrN
import Derived.Test.YtbbmhppkhcodfaaSxSub
namespace Go.Proofs.Ytbbmhppkhcodfaa
open Go.Sx
set_option linter.unusedVariables false
set_option linter.unusedSimpArgs false
set_option maxRecDepth 100000
set_option maxHeartbeats 4000000

theorem nm_at {V : HProp} {b o : Nat} {x : Nm} (h : RdN V b o x.cs) : RdN V b (o + 1) x.at'.cs := fun j v hj => by
  have := h (1 + j) v (by rw [Nat.add_comm]; exact hj)
  rw [← Nat.add_assoc] at this; exact this
theorem sum_sub (w : Nd → Nat) : ∀ {l m : List Nd}, l.Nodup → (∀ x ∈ l, x ∈ m) → (l.map w).sum ≤ (m.map w).sum
  | [], _, _, _ => Nat.zero_le _
  | x :: l, m, h, hs => by
    rw [List.nodup_cons] at h
    obtain ⟨a, b, rfl⟩ := List.append_of_mem (hs x (by simp))
    have h1 := sum_sub w (m := a ++ b) h.2 fun y hy => by
      have h2 := hs y (by simp [hy])
      rcases List.mem_append.1 h2 with h2 | h2
      · exact List.mem_append_left _ h2
      · rcases List.mem_cons.1 h2 with h2 | h2
        · rw [h2] at hy; exact absurd hy h.1
        · exact List.mem_append_right _ h2
    simp only [List.map_cons, List.sum_cons, List.map_append, List.sum_append] at h1 ⊢
    omega
theorem tot_le {t : Tr} {r : Nd} (hW : Wf t r) {d : Nat → Nat} (hD : Dp t.ns d) (w : Nd → Nat) (n : Nat) {x : Nd} (hx : x ∈ t.ns) : tot t.ns w n x ≤ (t.ns.map w).sum := by
  have h1 := tot_levs t.ns w n [x]
  rw [List.map_cons, List.map_nil, List.sum_cons, List.sum_nil, Nat.add_zero] at h1
  have h2 := levs_nodup hW hD n (d x.id) (l := [x]) (by simp) fun y hy => by rw [List.mem_singleton.1 hy]; exact ⟨hx, rfl⟩
  rw [h1]; exact sum_sub w h2.1 fun y hy => (h2.2 y hy).1
theorem sum_one (l : List Nd) : (l.map fun _ => 1).sum = l.length := by
  induction l with
  | nil => rfl
  | cons x l ih => simp only [List.map_cons, List.sum_cons, List.length_cons]; rw [ih]; omega
theorem wf_dl {t : Tr} {r : Nd} (h : Wf t r) : ∀ x ∈ t.ns, x.data.length ≤ 1048576 := fun x hx => by
  have h1 := sum_in hx
  rw [← h.sum] at h1
  have := h.max
  omega
def WalkOk (t : Tr) (r : Nd) (k : Nat) : Prop := ∀ (V : HProp) (q : Option Addr) (cq : Nat) (p : List (List UInt8)) (x : Nd), Tv V t → Vw V (.slice q p.length cq) p.length (txs p) → p.length = k → fnd t.ns r p = some x →
  Tri Try.prog 20 [t.v, .slice q p.length cq, .int .i64 (k : Int)] [V] (fun v H' => ∃ K, (v = .tuple #[.int .i64 ((tot t.ns (fun _ => 1) (5 - k) x : Nat) : Int), .int .i64 ((tot t.ns (fun y => y.data.length) (5 - k) x : Nat) : Int), .bool true] ∧ K = []) ∧ H' = K ++ [V])
theorem walk_step {t : Tr} {r : Nd} (hW : Wf t r) {d : Nat → Nat} (hD : Dp t.ns d) (k : Nat) (IH : WalkOk t r (k + 1)) : WalkOk t r k := fun V q cq p x hT hV hpk hf => by
  have hx := fnd_mem hW.root hf
  have hdx := fnd_deep hD hW.root hf
  rw [hW.rid, hD.z, Nat.zero_add] at hdx
  have hk5 := hD.le x hx
  have hdl : ∀ x ∈ t.ns, x.data.length ≤ 100000000 := fun x hx => by have := wf_dl hW x hx; omega
  have hxl := hdl x hx
  have hc : tot t.ns (fun _ => 1) (5 - k) x = 1 + ((kidsN t.ns x).map (tot t.ns (fun _ => 1) (5 - (k + 1)))).sum := tot_step hW hD (fun _ => 1) hx (n := 5 - k) (by omega)
  have hs : tot t.ns (fun y => y.data.length) (5 - k) x = x.data.length + ((kidsN t.ns x).map (tot t.ns (fun y => y.data.length) (5 - (k + 1)))).sum := tot_step hW hD (fun y => y.data.length) hx (n := 5 - k) (by omega)
  have hcl := tot_le hW hD (fun _ => 1) (5 - k) hx
  have hsl := tot_le hW hD (fun y => y.data.length) (5 - k) hx
  rw [sum_one] at hcl
  rw [← hW.sum] at hsl
  have hfew := hW.few
  have hmax := hW.max
  have hkl := kids_le hW.kd hx
  by_cases hd : x.dir = true
  · have hx0 : x.data.length = 0 := by rw [hW.dat x hx hd]; rfl
    rw [hx0, Nat.zero_add] at hs
    refine tri_of_wpS Try.func20 rfl Try.ntmps20 (by simp) ?_
    refine wp_seq' ?_
    refine wp_region' ?_
    refine ops_ro' rfl (ro_assign rfl) rfl ?_
    refine ops_ro' rfl (ro_assign rfl) rfl ?_
    refine ops_ro' rfl (ro_assign rfl) rfl ?_
    refine ops_nil ?_
    refine Then_normal ?_
    refine wp_seq' ?_
    refine wp_region' ?_
    refine ops_ro' rfl (ro_move rfl) rfl ?_
    refine ops_ro' rfl (ro_move rfl) rfl ?_
    refine ops_eff' rfl (eff_call Try.call23 rfl rfl (by repeat (first | exact Split.nil _ | apply Split.cons 0 rfl | apply Split.cons 1 rfl | apply Split.cons 2 rfl | apply Split.cons 3 rfl | apply Split.cons 4 rfl | apply Split.cons 5 rfl | apply Split.cons 6 rfl | apply Split.cons 7 rfl | apply Split.cons 8 rfl | apply Split.cons 9 rfl | apply Split.cons 10 rfl | apply Split.cons 11 rfl)) (look_spec hT hW q cq p hV (by omega))) rfl ?_
    rintro _ H' ⟨_, ⟨_, ⟨rfl, rfl⟩, rfl⟩, hH⟩
    simp only [List.cons_append, List.nil_append, List.eraseIdx_cons_zero, List.eraseIdx_cons_succ, List.set_cons_zero, List.set_cons_succ] at hH
    subst hH
    rw [hf]
    dsimp only [lookO]
    refine ops_ro' rfl (ro_move rfl) rfl ?_
    refine ops_ro' rfl (ro_extract rfl rfl) rfl ?_
    refine ops_ro' rfl (ro_extract rfl rfl) rfl ?_
    refine ops_ro' rfl (ro_assign rfl) rfl ?_
    refine ops_ro' rfl (ro_assign rfl) rfl ?_
    refine ops_nil ?_
    refine Then_normal ?_
    refine wp_cutK 1003 (fun Δ LL => ∃ (b11 : Nat), Δ = [(11, .pointer (some ⟨b11, 0, none⟩)), (12, .int .i64 0)] ∧ LL = [own b11 (.cells (x.told).cs.toArray 40 (0, 0)), V]) (Has.cons (k := 0) rfl (Has.cons (k := 1) rfl (Has.cons (k := 2) rfl (Has.cons (k := 9) rfl (Has.cons (k := 10) rfl (Has.nil _)))))) ?_ ?_
    · refine wp_region' ?_
      refine ops_ro' rfl (ro_move rfl) rfl ?_
      refine ops_ro' rfl (ro_move rfl) rfl ?_
      refine ops_eff' rfl (eff_callM (Pre := []) Try.call17 rfl rfl (Split.nil _) (attrs_spec (by first | exact Tv.pick 0 rfl hT | exact Tv.pick 1 rfl hT | exact Tv.pick 2 rfl hT | exact Tv.pick 3 rfl hT | exact Tv.pick 4 rfl hT | exact Tv.pick 5 rfl hT | exact Tv.pick 6 rfl hT) x.id hdl)) rfl ?_
      rintro _ H' ⟨_, ⟨rfl, rfl⟩, hH⟩
      simp only [List.cons_append, List.nil_append, List.eraseIdx_cons_zero, List.eraseIdx_cons_succ, List.set_cons_zero, List.set_cons_succ] at hH
      subst hH
      rw [byId_of hW.ids hx]
      dsimp only [attO]
      refine ops_ro' rfl (ro_move rfl) rfl ?_
      refine ops_ro' rfl (ro_extract rfl rfl) rfl ?_
      refine ops_ro' rfl (ro_extract rfl rfl) rfl ?_
      refine ops_eff' rfl (eff_alloc z40) rfl ?_
      rintro _ _ ⟨b11, rfl, rfl⟩
      refine ops_eff0 rfl (eff_storeA 0 ag40 rfl rfl rfl rfl rfl (Nat.le_of_ble_eq_true rfl) (warm_zero _)) rfl ?_
      rintro _ _ rfl
      simp only [List.set_cons_zero, List.set_cons_succ]
      refine ops_ro' rfl (ro_assign rfl) rfl ?_
      refine ops_nil ?_
      refine Then_normal ?_
      refine over_cut (kept ⟨b11, rfl, rfl⟩ ?_ ?_ ?_)
      · exact (by repeat (first | exact Has.nil _ | refine Has.cons rfl ?_))
      · exact (by repeat (first | exact Has.nil _ | refine Has.cons rfl ?_))
      · exact SubH.refl _
    · rintro Δ LL ⟨b11, rfl, rfl⟩
      simp only [List.cons_append, List.nil_append]
      refine wp_seq' ?_
      refine wp_seq' ?_
      refine wp_region' ?_
      refine ops_ro' rfl (ro_move rfl) rfl ?_
      refine ops_ro' rfl (ro_neq rfl rfl (decide_eq_false (by omega))) rfl ?_
      refine ops_ro' rfl (ro_move (v := .bool false) rfl) rfl ?_
      refine ops_ro' rfl (ro_move rfl) rfl ?_
      refine ops_ro' rfl (ro_neq rfl rfl (decide_eq_false (by omega))) rfl ?_
      refine ops_ro' rfl (ro_pick rfl rfl) rfl ?_
      refine ops_ro' rfl (ro_move (v := .bool false) rfl) rfl ?_
      refine ops_ro' rfl (ro_move rfl) rfl ?_
      refine ops_ro' rfl (ro_gtr rfl rfl (decide_eq_false (by omega))) rfl ?_
      refine ops_ro' rfl (ro_pick rfl rfl) rfl ?_
      refine ops_nil ?_
      refine Then_normal ?_
      refine wp_condF rfl ?_
      refine wp_skip' ?_
      refine Then_normal ?_
      refine wp_seq' ?_
      refine wp_seq' ?_
      refine wp_region' ?_
      refine ops_ro' rfl (ro_move rfl) rfl ?_
      refine ops_ro' rfl (ro_move rfl) rfl ?_
      refine ops_eff' rfl (eff_callM (Pre := []) Try.call42 rfl rfl (Split.nil _) (dir_spec (by first | exact Tv.pick 0 rfl hT | exact Tv.pick 1 rfl hT | exact Tv.pick 2 rfl hT | exact Tv.pick 3 rfl hT | exact Tv.pick 4 rfl hT | exact Tv.pick 5 rfl hT | exact Tv.pick 6 rfl hT) x.id)) rfl ?_
      rintro _ H' ⟨_, ⟨rfl, rfl⟩, hH⟩
      simp only [List.cons_append, List.nil_append, List.eraseIdx_cons_zero, List.eraseIdx_cons_succ, List.set_cons_zero, List.set_cons_succ] at hH
      subst hH
      rw [byId_of hW.ids hx]
      dsimp only [dirO]
      rw [hd]
      refine ops_ro' rfl (ro_not rfl rfl) rfl ?_
      try simp only [Bool.not_true, Bool.not_false]
      refine ops_nil ?_
      refine Then_normal ?_
      refine wp_condF rfl ?_
      refine wp_skip' ?_
      refine Then_normal ?_
      refine wp_seq' ?_
      refine wp_region' ?_
      refine ops_ro' rfl (ro_move rfl) rfl ?_
      refine ops_ro' rfl (ro_move rfl) rfl ?_
      refine ops_eff' rfl (eff_callM (Pre := []) Try.call24 rfl rfl (Split.nil _) (list_spec (by first | exact Tv.pick 0 rfl hT | exact Tv.pick 1 rfl hT | exact Tv.pick 2 rfl hT | exact Tv.pick 3 rfl hT | exact Tv.pick 4 rfl hT | exact Tv.pick 5 rfl hT | exact Tv.pick 6 rfl hT) hW x.id hdl)) rfl ?_
      rintro _ H' ⟨_, ⟨p58, c58, rfl, rfl⟩, hH⟩
      simp only [List.cons_append, List.nil_append, List.eraseIdx_cons_zero, List.eraseIdx_cons_succ, List.set_cons_zero, List.set_cons_succ] at hH
      subst hH
      rw [byId_of hW.ids hx]
      dsimp only [listO]
      rw [if_pos hd]
      dsimp only
      obtain ⟨l, hl⟩ : ∃ l, l = lsK t.ns x.kids := ⟨_, rfl⟩
      rw [← hl]
      have hll : l.length = x.kids.length := by rw [hl]; simp [lsK]
      refine ops_ro' rfl (ro_move rfl) rfl ?_
      refine ops_ro' rfl (ro_extract rfl rfl) rfl ?_
      refine ops_ro' rfl (ro_extract rfl rfl) rfl ?_
      refine ops_ro' rfl (ro_assign rfl) rfl ?_
      refine ops_ro' rfl (ro_assign rfl) rfl ?_
      refine ops_nil ?_
      refine Then_normal ?_
      refine wp_seq' ?_
      refine wp_seq' ?_
      refine wp_region' ?_
      refine ops_ro' rfl (ro_move rfl) rfl ?_
      refine ops_ro' rfl (ro_neq rfl rfl (decide_eq_false (by omega))) rfl ?_
      refine ops_nil ?_
      refine Then_normal ?_
      refine wp_condF rfl ?_
      refine wp_skip' ?_
      refine Then_normal ?_
      refine wp_seq' ?_
      refine wp_region' ?_
      refine ops_ro' rfl (ro_assign rfl) rfl ?_
      refine ops_ro' rfl (ro_assign rfl) rfl ?_
      refine ops_nil ?_
      refine Then_normal ?_
      refine wp_seq' ?_
      refine wp_seq' ?_
      refine wp_region' ?_
      refine ops_ro' rfl (ro_assign rfl) rfl ?_
      refine ops_nil ?_
      refine Then_normal ?_
      refine wp_block' ?_
      refine wp_loopK 12 (fun m Δ LL => ∃ (i : Nat), (i + m = x.kids.length) ∧ Δ = [(15, .int .i64 ((1 + (((kidsN t.ns x).take i).map (tot t.ns (fun _ => 1) (5 - (k + 1)))).sum : Nat) : Int)), (16, .int .i64 (((((kidsN t.ns x).take i).map (tot t.ns (fun y => y.data.length) (5 - (k + 1)))).sum : Nat) : Int)), (17, .int .i64 (i : Nat))] ∧ LL = [row 93 8 (.slice p58 l.length c58) l.length (flat Nm.cs l), own b11 (.cells (x.told).cs.toArray 40 (0, 0)), V]) (m := x.kids.length) (Has.cons (k := 0) rfl (Has.cons (k := 1) rfl (Has.cons (k := 2) rfl (Has.cons (k := 13) rfl (Has.nil _))))) (kept ⟨0, by omega, rfl, rfl⟩ (by repeat (first | exact Has.nil _ | refine Has.cons rfl ?_)) (by repeat (first | exact Has.nil _ | refine Has.cons rfl ?_)) (by repeat (first | exact SubH.nil _ | refine SubH.cons 0 rfl ?_ | refine SubH.cons 1 rfl ?_ | refine SubH.cons 2 rfl ?_ | refine SubH.cons 3 rfl ?_ | refine SubH.cons 4 rfl ?_ | refine SubH.cons 5 rfl ?_ | refine SubH.cons 6 rfl ?_ | refine SubH.cons 7 rfl ?_ | refine SubH.cons 8 rfl ?_ | refine SubH.cons 9 rfl ?_ | refine SubH.cons 10 rfl ?_ | refine SubH.cons 11 rfl ?_ | refine SubH.cons 12 rfl ?_ | refine SubH.cons 13 rfl ?_ | refine SubH.rown ?_))) ?_
      rintro m Δ LL ⟨i, hm, rfl, rfl⟩
      simp only [List.cons_append, List.nil_append]
      refine wp_seq' ?_
      refine wp_seq' ?_
      refine wp_region' ?_
      refine ops_ro' rfl (ro_move rfl) rfl ?_
      refine ops_ro' rfl (ro_move rfl) rfl ?_
      refine ops_ro' rfl (ro_sliceLen Try.underlying54 rfl) rfl ?_
      refine ops_ro' rfl (ro_lss rfl rfl rfl) rfl ?_
      refine ops_nil ?_
      refine Then_normal ?_
      refine wp_cond' rfl (fun hc66 => ?_) (fun hc66 => ?_)
      · replace hc66 := of_decide_eq_true hc66
        have hi : i < x.kids.length := by omega
        obtain ⟨y, hy, hyb, hyp, hky⟩ := kidsN_at hW.kd hx hi
        have hli : l[i]? = some ⟨y.name, y.told⟩ := by rw [hl, lsK_kids hW.kd hx, List.getElem?_map, hky]; rfl
        have hfy : fnd t.ns r (p ++ [y.name]) = some y := by rw [fnd_snoc hf]; exact kid_of hW.kd hx hy hyp
        have hsc1 := sum_snoc (tot t.ns (fun _ => 1) (5 - (k + 1))) hky
        have hsc2 := sum_take_le (tot t.ns (fun _ => 1) (5 - (k + 1))) (kidsN t.ns x) (i + 1)
        have hsz1 := sum_snoc (tot t.ns (fun y => y.data.length) (5 - (k + 1))) hky
        have hsz2 := sum_take_le (tot t.ns (fun y => y.data.length) (5 - (k + 1))) (kidsN t.ns x) (i + 1)
        have hk5 : k + 1 ≤ 5 := by
          have h1 := hD.up x hx y hy hyp
          have h2 := hD.le y hy
          omega
        refine wp_know (fun w F s => row_ptr' 0 rfl s (by omega)) ?_
        rintro ⟨b58, rfl⟩
        refine wp_skip' ?_
        refine Then_normal ?_
        refine wp_seq' ?_
        refine wp_block' ?_
        refine wp_seq' ?_
        refine wp_seq' ?_
        refine wp_draw 16 (by kernel_rfl) (Split.all _) ?_
        refine any_ro' (i := 0) (by kernel_rfl) rfl rfl (ro_move rfl) rfl (fun _ _ _ h => h) ?_
        refine any_ro' (i := 1) (by kernel_rfl) rfl rfl (ro_gtr rfl rfl rfl) rfl (fun _ _ _ h => h) ?_
        refine any_split (i := 2) (by kernel_rfl) rfl rfl rfl rfl (fun _ _ _ h => h) (fun hg71 => ?_) (fun hg71 => ?_)
        · replace hg71 := of_decide_eq_true hg71
          obtain ⟨z, hz, hzb, hzp, hkz⟩ := kidsN_at hW.kd hx (show i - 1 < x.kids.length by omega)
          have hlz : l[i - 1]? = some ⟨z.name, z.told⟩ := by rw [hl, lsK_kids hW.kd hx, List.getElem?_map, hkz]; rfl
          have hlt : cmp z.name y.name < 0 := by
            have h1 := rise_lt (hW.kd.rise x hx) (i := i - 1) (j := i) (by omega) (by rw [List.length_map]; omega)
            rw [List.getElem_map, List.getElem_map, ← hzb, ← hyb, nmB_of hW.kd.blks hz, nmB_of hW.kd.blks hy] at h1
            exact h1
          refine any_ro' (i := 3) (by kernel_rfl) rfl rfl (ro_move rfl) rfl (fun _ _ _ h => h) ?_
          refine any_ro' (i := 4) (by kernel_rfl) rfl rfl (ro_move rfl) rfl (fun _ _ _ h => h) ?_
          refine any_ro' (i := 5) (by kernel_rfl) rfl rfl (ro_sub rfl rfl (wrap_dec (by omega) (by omega))) rfl (fun _ _ _ h => h) ?_
          refine any_ro' (i := 6) (by kernel_rfl) rfl rfl (ro_indexSlice sl54 rfl rfl rfl (by omega)) rfl (fun _ _ _ h => h) ?_
          refine any_ro' (i := 7) (by kernel_rfl) rfl rfl (ro_fieldAddr fa93_0 rfl) rfl (fun _ _ _ h => h) ?_
          refine any_ro' (i := 8) (by kernel_rfl) rfl rfl (ro_load sc9 rfl (Rd.pick 0 rfl ((row_elem Nm.len hlz 0 _ rfl)))) rfl (fun _ _ _ h => h) ?_
          refine any_ro' (i := 9) (by kernel_rfl) rfl rfl (ro_move rfl) rfl (fun _ _ _ h => h) ?_
          refine any_ro' (i := 10) (by kernel_rfl) rfl rfl (ro_move rfl) rfl (fun _ _ _ h => h) ?_
          refine any_ro' (i := 11) (by kernel_rfl) rfl rfl (ro_indexSlice sl54 rfl rfl rfl (by omega)) rfl (fun _ _ _ h => h) ?_
          refine any_ro' (i := 12) (by kernel_rfl) rfl rfl (ro_fieldAddr fa93_0 rfl) rfl (fun _ _ _ h => h) ?_
          refine any_ro' (i := 13) (by kernel_rfl) rfl rfl (ro_load sc9 rfl (Rd.pick 0 rfl ((row_elem Nm.len hli 0 _ rfl)))) rfl (fun _ _ _ h => h) ?_
          refine any_ro' (i := 14) (by kernel_rfl) rfl rfl (ro_geqS rfl rfl (c := false) (by rw [decide_eq_true hlt]; rfl)) rfl (fun _ _ _ h => h) ?_
          refine any_ro' (i := 15) (by kernel_rfl) rfl rfl (ro_pick rfl rfl) rfl (fun _ _ _ h => h) ?_
          refine any_doneL (by kernel_rfl) ?_
          refine Then_normal ?_
          refine wp_condF rfl ?_
          refine wp_skip' ?_
          refine Then_normal ?_
          refine wp_cutK 1017 (fun Δ LL => ∃ (p94 : Option Addr) (c94 : Nat), Δ = [(18, .slice p94 (p ++ [y.name]).length c94)] ∧ LL = [row 9 1 (.slice p94 (p ++ [y.name]).length c94) (p ++ [y.name]).length (txs (p ++ [y.name])), row 93 8 (.slice (some ⟨b58, 0, none⟩) l.length c58) l.length (flat Nm.cs l), own b11 (.cells (x.told).cs.toArray 40 (0, 0)), V]) (Has.cons (k := 0) rfl (Has.cons (k := 1) rfl (Has.cons (k := 2) rfl (Has.cons (k := 13) rfl (Has.cons (k := 15) rfl (Has.cons (k := 16) rfl (Has.cons (k := 17) rfl (Has.nil _)))))))) ?_ ?_
          · refine wp_draw 10 (by kernel_rfl) (Split.nil _) ?_
            refine any_ro' (i := 1) (by kernel_rfl) rfl rfl (ro_move rfl) rfl (fun _ _ _ h => h) ?_
            refine any_ro' (i := 3) (by kernel_rfl) rfl rfl (ro_move rfl) rfl (fun _ _ _ h => h) ?_
            refine any_ro' (i := 4) (by kernel_rfl) rfl rfl (ro_move rfl) rfl (fun _ _ _ h => h) ?_
            refine any_ro' (i := 5) (by kernel_rfl) rfl rfl (ro_indexSlice sl54 rfl rfl rfl (by omega)) rfl (fun _ _ _ h => h) ?_
            refine any_ro' (i := 6) (by kernel_rfl) rfl rfl (ro_fieldAddr fa93_0 rfl) rfl (fun _ _ _ h => h) ?_
            refine any_two (i := 0) (j := 7) (by kernel_rfl) ?_ ?_
            · refine at_eff' rfl rfl (eff_lit sl29 rfl (sbld (cs := txs []) [] sl29 (by decide) (by kernel_rfl) rfl) rfl (by decide)) rfl ?_
              rintro _ _ ⟨b85, rfl, rfl⟩
              refine any_two (i := 2) (j := 7) (by kernel_rfl) ?_ ?_
              · refine at_eff' rfl rfl (eff_appF (f := Tx.cs) (l := []) (l2 := p) 0 sl29 (.inl ⟨9, Try.underlying29⟩) rfl rfl rfl (by first | exact Src.flatv Tx.len Tx.one (Vw.pick 0 rfl hV) | exact Src.flatv Tx.len Tx.one (Vw.pick 1 rfl hV) | exact Src.flatv Tx.len Tx.one (Vw.pick 2 rfl hV) | exact Src.flatv Tx.len Tx.one (Vw.pick 3 rfl hV) | exact Src.flatv Tx.len Tx.one (Vw.pick 4 rfl hV) | exact Src.flatv Tx.len Tx.one (Vw.pick 5 rfl hV) | exact Src.flatv Tx.len Tx.one (Vw.pick 0 rfl Vw.row) | exact Src.flatv Tx.len Tx.one (Vw.pick 1 rfl Vw.row) | exact Src.flatv Tx.len Tx.one (Vw.pick 2 rfl Vw.row) | exact Src.flatv Tx.len Tx.one (Vw.pick 3 rfl Vw.row) | exact Src.flatv Tx.len Tx.one (Vw.pick 4 rfl Vw.row) | exact Src.flatv Tx.len Tx.one (Vw.pick 5 rfl Vw.row)) (by first | omega | (simp only [List.length_append, List.length_cons, List.length_nil, List.length_take, List.length_drop] at *; omega)) (by first | omega | (simp only [List.length_append, List.length_cons, List.length_nil, List.length_take, List.length_drop] at *; omega))) rfl ?_
                rintro _ _ ⟨p87, c87, rfl, hn87, rfl⟩
                simp only [List.set_cons_zero, List.set_cons_succ, List.nil_append]
                refine any_eff' (i := 7) (by kernel_rfl) rfl rfl (eff_ro (ro_load sc9 rfl (Rd.pick 1 rfl ((row_elem Nm.len hli 0 _ rfl))))) rfl ?_
                rintro _ _ ⟨rfl, rfl⟩
                refine any_eff' (i := 8) (by kernel_rfl) rfl rfl (eff_lit sl29 rfl (sbld (cs := txs [y.name]) [(.string ByteArray.empty)] sl29 (by decide) (by kernel_rfl) rfl) rfl (by decide)) rfl ?_
                rintro _ _ ⟨b93, rfl, rfl⟩
                refine any_eff' (i := 9) (by kernel_rfl) rfl rfl (eff_appF (f := Tx.cs) (l2 := [y.name]) 1 sl29 (.inl ⟨9, Try.underlying29⟩) rfl rfl rfl (by first | exact Src.flatv Tx.len Tx.one (Vw.pick 0 rfl hV) | exact Src.flatv Tx.len Tx.one (Vw.pick 1 rfl hV) | exact Src.flatv Tx.len Tx.one (Vw.pick 2 rfl hV) | exact Src.flatv Tx.len Tx.one (Vw.pick 3 rfl hV) | exact Src.flatv Tx.len Tx.one (Vw.pick 4 rfl hV) | exact Src.flatv Tx.len Tx.one (Vw.pick 5 rfl hV) | exact Src.flatv Tx.len Tx.one (Vw.pick 0 rfl Vw.row) | exact Src.flatv Tx.len Tx.one (Vw.pick 1 rfl Vw.row) | exact Src.flatv Tx.len Tx.one (Vw.pick 2 rfl Vw.row) | exact Src.flatv Tx.len Tx.one (Vw.pick 3 rfl Vw.row) | exact Src.flatv Tx.len Tx.one (Vw.pick 4 rfl Vw.row) | exact Src.flatv Tx.len Tx.one (Vw.pick 5 rfl Vw.row)) (by simp only [List.length_cons, List.length_nil]; omega) (by simp only [List.length_cons, List.length_nil]; omega)) rfl ?_
                rintro _ _ ⟨p94, c94, rfl, hn94, rfl⟩
                simp only [List.set_cons_zero, List.set_cons_succ]
                refine any_unlock (m' := 11) (L' := []) (by kernel_rfl) unlock ?_
                simp only [List.cons_append, List.nil_append, List.append_nil]
                refine any_ro' (i := 10) (by kernel_rfl) rfl rfl (ro_assign rfl) rfl (fun _ _ _ h => h) ?_
                refine any_doneH (by kernel_rfl) ?_
                refine Then_normal ?_
                refine over_cut (kept ⟨p94, c94, rfl, rfl⟩ ?_ ?_ ?_)
                · exact (by repeat (first | exact Has.nil _ | refine Has.cons rfl ?_))
                · exact (by repeat (first | exact Has.nil _ | refine Has.cons rfl ?_))
                · exact (SubH.cons 1 rfl (SubH.cons 1 rfl (SubH.cons 1 rfl (SubH.cons 1 rfl (SubH.nil _)))))
              · refine at_eff' rfl rfl (eff_ro (ro_load sc9 rfl (Rd.pick 1 rfl ((row_elem Nm.len hli 0 _ rfl))))) rfl ?_
                rintro _ _ ⟨rfl, rfl⟩
                refine any_two (i := 2) (j := 8) (by kernel_rfl) ?_ ?_
                · refine at_eff' rfl rfl (eff_appF (f := Tx.cs) (l := []) (l2 := p) 0 sl29 (.inl ⟨9, Try.underlying29⟩) rfl rfl rfl (by first | exact Src.flatv Tx.len Tx.one (Vw.pick 0 rfl hV) | exact Src.flatv Tx.len Tx.one (Vw.pick 1 rfl hV) | exact Src.flatv Tx.len Tx.one (Vw.pick 2 rfl hV) | exact Src.flatv Tx.len Tx.one (Vw.pick 3 rfl hV) | exact Src.flatv Tx.len Tx.one (Vw.pick 4 rfl hV) | exact Src.flatv Tx.len Tx.one (Vw.pick 5 rfl hV) | exact Src.flatv Tx.len Tx.one (Vw.pick 0 rfl Vw.row) | exact Src.flatv Tx.len Tx.one (Vw.pick 1 rfl Vw.row) | exact Src.flatv Tx.len Tx.one (Vw.pick 2 rfl Vw.row) | exact Src.flatv Tx.len Tx.one (Vw.pick 3 rfl Vw.row) | exact Src.flatv Tx.len Tx.one (Vw.pick 4 rfl Vw.row) | exact Src.flatv Tx.len Tx.one (Vw.pick 5 rfl Vw.row)) (by first | omega | (simp only [List.length_append, List.length_cons, List.length_nil, List.length_take, List.length_drop] at *; omega)) (by first | omega | (simp only [List.length_append, List.length_cons, List.length_nil, List.length_take, List.length_drop] at *; omega))) rfl ?_
                  rintro _ _ ⟨p87, c87, rfl, hn87, rfl⟩
                  simp only [List.set_cons_zero, List.set_cons_succ, List.nil_append]
                  refine any_eff' (i := 8) (by kernel_rfl) rfl rfl (eff_lit sl29 rfl (sbld (cs := txs [y.name]) [(.string ByteArray.empty)] sl29 (by decide) (by kernel_rfl) rfl) rfl (by decide)) rfl ?_
                  rintro _ _ ⟨b93, rfl, rfl⟩
                  refine any_eff' (i := 9) (by kernel_rfl) rfl rfl (eff_appF (f := Tx.cs) (l2 := [y.name]) 1 sl29 (.inl ⟨9, Try.underlying29⟩) rfl rfl rfl (by first | exact Src.flatv Tx.len Tx.one (Vw.pick 0 rfl hV) | exact Src.flatv Tx.len Tx.one (Vw.pick 1 rfl hV) | exact Src.flatv Tx.len Tx.one (Vw.pick 2 rfl hV) | exact Src.flatv Tx.len Tx.one (Vw.pick 3 rfl hV) | exact Src.flatv Tx.len Tx.one (Vw.pick 4 rfl hV) | exact Src.flatv Tx.len Tx.one (Vw.pick 5 rfl hV) | exact Src.flatv Tx.len Tx.one (Vw.pick 0 rfl Vw.row) | exact Src.flatv Tx.len Tx.one (Vw.pick 1 rfl Vw.row) | exact Src.flatv Tx.len Tx.one (Vw.pick 2 rfl Vw.row) | exact Src.flatv Tx.len Tx.one (Vw.pick 3 rfl Vw.row) | exact Src.flatv Tx.len Tx.one (Vw.pick 4 rfl Vw.row) | exact Src.flatv Tx.len Tx.one (Vw.pick 5 rfl Vw.row)) (by simp only [List.length_cons, List.length_nil]; omega) (by simp only [List.length_cons, List.length_nil]; omega)) rfl ?_
                  rintro _ _ ⟨p94, c94, rfl, hn94, rfl⟩
                  simp only [List.set_cons_zero, List.set_cons_succ]
                  refine any_unlock (m' := 11) (L' := []) (by kernel_rfl) unlock ?_
                  simp only [List.cons_append, List.nil_append, List.append_nil]
                  refine any_ro' (i := 10) (by kernel_rfl) rfl rfl (ro_assign rfl) rfl (fun _ _ _ h => h) ?_
                  refine any_doneH (by kernel_rfl) ?_
                  refine Then_normal ?_
                  refine over_cut (kept ⟨p94, c94, rfl, rfl⟩ ?_ ?_ ?_)
                  · exact (by repeat (first | exact Has.nil _ | refine Has.cons rfl ?_))
                  · exact (by repeat (first | exact Has.nil _ | refine Has.cons rfl ?_))
                  · exact (SubH.cons 1 rfl (SubH.cons 1 rfl (SubH.cons 1 rfl (SubH.cons 1 rfl (SubH.nil _)))))
                · refine at_eff' rfl rfl (eff_lit sl29 rfl (sbld (cs := txs [y.name]) [(.string ByteArray.empty)] sl29 (by decide) (by kernel_rfl) rfl) rfl (by decide)) rfl ?_
                  rintro _ _ ⟨b93, rfl, rfl⟩
                  refine any_eff' (i := 2) (by kernel_rfl) rfl rfl (eff_appF (f := Tx.cs) (l := []) (l2 := p) 1 sl29 (.inl ⟨9, Try.underlying29⟩) rfl rfl rfl (by first | exact Src.flatv Tx.len Tx.one (Vw.pick 0 rfl hV) | exact Src.flatv Tx.len Tx.one (Vw.pick 1 rfl hV) | exact Src.flatv Tx.len Tx.one (Vw.pick 2 rfl hV) | exact Src.flatv Tx.len Tx.one (Vw.pick 3 rfl hV) | exact Src.flatv Tx.len Tx.one (Vw.pick 4 rfl hV) | exact Src.flatv Tx.len Tx.one (Vw.pick 5 rfl hV) | exact Src.flatv Tx.len Tx.one (Vw.pick 0 rfl Vw.row) | exact Src.flatv Tx.len Tx.one (Vw.pick 1 rfl Vw.row) | exact Src.flatv Tx.len Tx.one (Vw.pick 2 rfl Vw.row) | exact Src.flatv Tx.len Tx.one (Vw.pick 3 rfl Vw.row) | exact Src.flatv Tx.len Tx.one (Vw.pick 4 rfl Vw.row) | exact Src.flatv Tx.len Tx.one (Vw.pick 5 rfl Vw.row)) (by first | omega | (simp only [List.length_append, List.length_cons, List.length_nil, List.length_take, List.length_drop] at *; omega)) (by first | omega | (simp only [List.length_append, List.length_cons, List.length_nil, List.length_take, List.length_drop] at *; omega))) rfl ?_
                  rintro _ _ ⟨p87, c87, rfl, hn87, rfl⟩
                  simp only [List.set_cons_zero, List.set_cons_succ, List.nil_append]
                  refine any_eff' (i := 9) (by kernel_rfl) rfl rfl (eff_appF (f := Tx.cs) (l2 := [y.name]) 1 sl29 (.inl ⟨9, Try.underlying29⟩) rfl rfl rfl (by first | exact Src.flatv Tx.len Tx.one (Vw.pick 0 rfl hV) | exact Src.flatv Tx.len Tx.one (Vw.pick 1 rfl hV) | exact Src.flatv Tx.len Tx.one (Vw.pick 2 rfl hV) | exact Src.flatv Tx.len Tx.one (Vw.pick 3 rfl hV) | exact Src.flatv Tx.len Tx.one (Vw.pick 4 rfl hV) | exact Src.flatv Tx.len Tx.one (Vw.pick 5 rfl hV) | exact Src.flatv Tx.len Tx.one (Vw.pick 0 rfl Vw.row) | exact Src.flatv Tx.len Tx.one (Vw.pick 1 rfl Vw.row) | exact Src.flatv Tx.len Tx.one (Vw.pick 2 rfl Vw.row) | exact Src.flatv Tx.len Tx.one (Vw.pick 3 rfl Vw.row) | exact Src.flatv Tx.len Tx.one (Vw.pick 4 rfl Vw.row) | exact Src.flatv Tx.len Tx.one (Vw.pick 5 rfl Vw.row)) (by simp only [List.length_cons, List.length_nil]; omega) (by simp only [List.length_cons, List.length_nil]; omega)) rfl ?_
                  rintro _ _ ⟨p94, c94, rfl, hn94, rfl⟩
                  simp only [List.set_cons_zero, List.set_cons_succ]
                  refine any_unlock (m' := 11) (L' := []) (by kernel_rfl) unlock ?_
                  simp only [List.cons_append, List.nil_append, List.append_nil]
                  refine any_ro' (i := 10) (by kernel_rfl) rfl rfl (ro_assign rfl) rfl (fun _ _ _ h => h) ?_
                  refine any_doneH (by kernel_rfl) ?_
                  refine Then_normal ?_
                  refine over_cut (kept ⟨p94, c94, rfl, rfl⟩ ?_ ?_ ?_)
                  · exact (by repeat (first | exact Has.nil _ | refine Has.cons rfl ?_))
                  · exact (by repeat (first | exact Has.nil _ | refine Has.cons rfl ?_))
                  · exact (SubH.cons 1 rfl (SubH.cons 1 rfl (SubH.cons 1 rfl (SubH.cons 1 rfl (SubH.nil _)))))
            · refine at_eff' rfl rfl (eff_ro (ro_load sc9 rfl (Rd.pick 0 rfl ((row_elem Nm.len hli 0 _ rfl))))) rfl ?_
              rintro _ _ ⟨rfl, rfl⟩
              refine any_two (i := 0) (j := 8) (by kernel_rfl) ?_ ?_
              · refine at_eff' rfl rfl (eff_lit sl29 rfl (sbld (cs := txs []) [] sl29 (by decide) (by kernel_rfl) rfl) rfl (by decide)) rfl ?_
                rintro _ _ ⟨b85, rfl, rfl⟩
                refine any_two (i := 2) (j := 8) (by kernel_rfl) ?_ ?_
                · refine at_eff' rfl rfl (eff_appF (f := Tx.cs) (l := []) (l2 := p) 0 sl29 (.inl ⟨9, Try.underlying29⟩) rfl rfl rfl (by first | exact Src.flatv Tx.len Tx.one (Vw.pick 0 rfl hV) | exact Src.flatv Tx.len Tx.one (Vw.pick 1 rfl hV) | exact Src.flatv Tx.len Tx.one (Vw.pick 2 rfl hV) | exact Src.flatv Tx.len Tx.one (Vw.pick 3 rfl hV) | exact Src.flatv Tx.len Tx.one (Vw.pick 4 rfl hV) | exact Src.flatv Tx.len Tx.one (Vw.pick 5 rfl hV) | exact Src.flatv Tx.len Tx.one (Vw.pick 0 rfl Vw.row) | exact Src.flatv Tx.len Tx.one (Vw.pick 1 rfl Vw.row) | exact Src.flatv Tx.len Tx.one (Vw.pick 2 rfl Vw.row) | exact Src.flatv Tx.len Tx.one (Vw.pick 3 rfl Vw.row) | exact Src.flatv Tx.len Tx.one (Vw.pick 4 rfl Vw.row) | exact Src.flatv Tx.len Tx.one (Vw.pick 5 rfl Vw.row)) (by first | omega | (simp only [List.length_append, List.length_cons, List.length_nil, List.length_take, List.length_drop] at *; omega)) (by first | omega | (simp only [List.length_append, List.length_cons, List.length_nil, List.length_take, List.length_drop] at *; omega))) rfl ?_
                  rintro _ _ ⟨p87, c87, rfl, hn87, rfl⟩
                  simp only [List.set_cons_zero, List.set_cons_succ, List.nil_append]
                  refine any_eff' (i := 8) (by kernel_rfl) rfl rfl (eff_lit sl29 rfl (sbld (cs := txs [y.name]) [(.string ByteArray.empty)] sl29 (by decide) (by kernel_rfl) rfl) rfl (by decide)) rfl ?_
                  rintro _ _ ⟨b93, rfl, rfl⟩
                  refine any_eff' (i := 9) (by kernel_rfl) rfl rfl (eff_appF (f := Tx.cs) (l2 := [y.name]) 1 sl29 (.inl ⟨9, Try.underlying29⟩) rfl rfl rfl (by first | exact Src.flatv Tx.len Tx.one (Vw.pick 0 rfl hV) | exact Src.flatv Tx.len Tx.one (Vw.pick 1 rfl hV) | exact Src.flatv Tx.len Tx.one (Vw.pick 2 rfl hV) | exact Src.flatv Tx.len Tx.one (Vw.pick 3 rfl hV) | exact Src.flatv Tx.len Tx.one (Vw.pick 4 rfl hV) | exact Src.flatv Tx.len Tx.one (Vw.pick 5 rfl hV) | exact Src.flatv Tx.len Tx.one (Vw.pick 0 rfl Vw.row) | exact Src.flatv Tx.len Tx.one (Vw.pick 1 rfl Vw.row) | exact Src.flatv Tx.len Tx.one (Vw.pick 2 rfl Vw.row) | exact Src.flatv Tx.len Tx.one (Vw.pick 3 rfl Vw.row) | exact Src.flatv Tx.len Tx.one (Vw.pick 4 rfl Vw.row) | exact Src.flatv Tx.len Tx.one (Vw.pick 5 rfl Vw.row)) (by simp only [List.length_cons, List.length_nil]; omega) (by simp only [List.length_cons, List.length_nil]; omega)) rfl ?_
                  rintro _ _ ⟨p94, c94, rfl, hn94, rfl⟩
                  simp only [List.set_cons_zero, List.set_cons_succ]
                  refine any_unlock (m' := 11) (L' := []) (by kernel_rfl) unlock ?_
                  simp only [List.cons_append, List.nil_append, List.append_nil]
                  refine any_ro' (i := 10) (by kernel_rfl) rfl rfl (ro_assign rfl) rfl (fun _ _ _ h => h) ?_
                  refine any_doneH (by kernel_rfl) ?_
                  refine Then_normal ?_
                  refine over_cut (kept ⟨p94, c94, rfl, rfl⟩ ?_ ?_ ?_)
                  · exact (by repeat (first | exact Has.nil _ | refine Has.cons rfl ?_))
                  · exact (by repeat (first | exact Has.nil _ | refine Has.cons rfl ?_))
                  · exact (SubH.cons 1 rfl (SubH.cons 1 rfl (SubH.cons 1 rfl (SubH.cons 1 rfl (SubH.nil _)))))
                · refine at_eff' rfl rfl (eff_lit sl29 rfl (sbld (cs := txs [y.name]) [(.string ByteArray.empty)] sl29 (by decide) (by kernel_rfl) rfl) rfl (by decide)) rfl ?_
                  rintro _ _ ⟨b93, rfl, rfl⟩
                  refine any_eff' (i := 2) (by kernel_rfl) rfl rfl (eff_appF (f := Tx.cs) (l := []) (l2 := p) 1 sl29 (.inl ⟨9, Try.underlying29⟩) rfl rfl rfl (by first | exact Src.flatv Tx.len Tx.one (Vw.pick 0 rfl hV) | exact Src.flatv Tx.len Tx.one (Vw.pick 1 rfl hV) | exact Src.flatv Tx.len Tx.one (Vw.pick 2 rfl hV) | exact Src.flatv Tx.len Tx.one (Vw.pick 3 rfl hV) | exact Src.flatv Tx.len Tx.one (Vw.pick 4 rfl hV) | exact Src.flatv Tx.len Tx.one (Vw.pick 5 rfl hV) | exact Src.flatv Tx.len Tx.one (Vw.pick 0 rfl Vw.row) | exact Src.flatv Tx.len Tx.one (Vw.pick 1 rfl Vw.row) | exact Src.flatv Tx.len Tx.one (Vw.pick 2 rfl Vw.row) | exact Src.flatv Tx.len Tx.one (Vw.pick 3 rfl Vw.row) | exact Src.flatv Tx.len Tx.one (Vw.pick 4 rfl Vw.row) | exact Src.flatv Tx.len Tx.one (Vw.pick 5 rfl Vw.row)) (by first | omega | (simp only [List.length_append, List.length_cons, List.length_nil, List.length_take, List.length_drop] at *; omega)) (by first | omega | (simp only [List.length_append, List.length_cons, List.length_nil, List.length_take, List.length_drop] at *; omega))) rfl ?_
                  rintro _ _ ⟨p87, c87, rfl, hn87, rfl⟩
                  simp only [List.set_cons_zero, List.set_cons_succ, List.nil_append]
                  refine any_eff' (i := 9) (by kernel_rfl) rfl rfl (eff_appF (f := Tx.cs) (l2 := [y.name]) 1 sl29 (.inl ⟨9, Try.underlying29⟩) rfl rfl rfl (by first | exact Src.flatv Tx.len Tx.one (Vw.pick 0 rfl hV) | exact Src.flatv Tx.len Tx.one (Vw.pick 1 rfl hV) | exact Src.flatv Tx.len Tx.one (Vw.pick 2 rfl hV) | exact Src.flatv Tx.len Tx.one (Vw.pick 3 rfl hV) | exact Src.flatv Tx.len Tx.one (Vw.pick 4 rfl hV) | exact Src.flatv Tx.len Tx.one (Vw.pick 5 rfl hV) | exact Src.flatv Tx.len Tx.one (Vw.pick 0 rfl Vw.row) | exact Src.flatv Tx.len Tx.one (Vw.pick 1 rfl Vw.row) | exact Src.flatv Tx.len Tx.one (Vw.pick 2 rfl Vw.row) | exact Src.flatv Tx.len Tx.one (Vw.pick 3 rfl Vw.row) | exact Src.flatv Tx.len Tx.one (Vw.pick 4 rfl Vw.row) | exact Src.flatv Tx.len Tx.one (Vw.pick 5 rfl Vw.row)) (by simp only [List.length_cons, List.length_nil]; omega) (by simp only [List.length_cons, List.length_nil]; omega)) rfl ?_
                  rintro _ _ ⟨p94, c94, rfl, hn94, rfl⟩
                  simp only [List.set_cons_zero, List.set_cons_succ]
                  refine any_unlock (m' := 11) (L' := []) (by kernel_rfl) unlock ?_
                  simp only [List.cons_append, List.nil_append, List.append_nil]
                  refine any_ro' (i := 10) (by kernel_rfl) rfl rfl (ro_assign rfl) rfl (fun _ _ _ h => h) ?_
                  refine any_doneH (by kernel_rfl) ?_
                  refine Then_normal ?_
                  refine over_cut (kept ⟨p94, c94, rfl, rfl⟩ ?_ ?_ ?_)
                  · exact (by repeat (first | exact Has.nil _ | refine Has.cons rfl ?_))
                  · exact (by repeat (first | exact Has.nil _ | refine Has.cons rfl ?_))
                  · exact (SubH.cons 1 rfl (SubH.cons 1 rfl (SubH.cons 1 rfl (SubH.cons 1 rfl (SubH.nil _)))))
              · refine at_eff' rfl rfl (eff_lit sl29 rfl (sbld (cs := txs [y.name]) [(.string ByteArray.empty)] sl29 (by decide) (by kernel_rfl) rfl) rfl (by decide)) rfl ?_
                rintro _ _ ⟨b93, rfl, rfl⟩
                refine any_eff' (i := 0) (by kernel_rfl) rfl rfl (eff_lit sl29 rfl (sbld (cs := txs []) [] sl29 (by decide) (by kernel_rfl) rfl) rfl (by decide)) rfl ?_
                rintro _ _ ⟨b85, rfl, rfl⟩
                refine any_eff' (i := 2) (by kernel_rfl) rfl rfl (eff_appF (f := Tx.cs) (l := []) (l2 := p) 0 sl29 (.inl ⟨9, Try.underlying29⟩) rfl rfl rfl (by first | exact Src.flatv Tx.len Tx.one (Vw.pick 0 rfl hV) | exact Src.flatv Tx.len Tx.one (Vw.pick 1 rfl hV) | exact Src.flatv Tx.len Tx.one (Vw.pick 2 rfl hV) | exact Src.flatv Tx.len Tx.one (Vw.pick 3 rfl hV) | exact Src.flatv Tx.len Tx.one (Vw.pick 4 rfl hV) | exact Src.flatv Tx.len Tx.one (Vw.pick 5 rfl hV) | exact Src.flatv Tx.len Tx.one (Vw.pick 0 rfl Vw.row) | exact Src.flatv Tx.len Tx.one (Vw.pick 1 rfl Vw.row) | exact Src.flatv Tx.len Tx.one (Vw.pick 2 rfl Vw.row) | exact Src.flatv Tx.len Tx.one (Vw.pick 3 rfl Vw.row) | exact Src.flatv Tx.len Tx.one (Vw.pick 4 rfl Vw.row) | exact Src.flatv Tx.len Tx.one (Vw.pick 5 rfl Vw.row)) (by first | omega | (simp only [List.length_append, List.length_cons, List.length_nil, List.length_take, List.length_drop] at *; omega)) (by first | omega | (simp only [List.length_append, List.length_cons, List.length_nil, List.length_take, List.length_drop] at *; omega))) rfl ?_
                rintro _ _ ⟨p87, c87, rfl, hn87, rfl⟩
                simp only [List.set_cons_zero, List.set_cons_succ, List.nil_append]
                refine any_eff' (i := 9) (by kernel_rfl) rfl rfl (eff_appF (f := Tx.cs) (l2 := [y.name]) 0 sl29 (.inl ⟨9, Try.underlying29⟩) rfl rfl rfl (by first | exact Src.flatv Tx.len Tx.one (Vw.pick 0 rfl hV) | exact Src.flatv Tx.len Tx.one (Vw.pick 1 rfl hV) | exact Src.flatv Tx.len Tx.one (Vw.pick 2 rfl hV) | exact Src.flatv Tx.len Tx.one (Vw.pick 3 rfl hV) | exact Src.flatv Tx.len Tx.one (Vw.pick 4 rfl hV) | exact Src.flatv Tx.len Tx.one (Vw.pick 5 rfl hV) | exact Src.flatv Tx.len Tx.one (Vw.pick 0 rfl Vw.row) | exact Src.flatv Tx.len Tx.one (Vw.pick 1 rfl Vw.row) | exact Src.flatv Tx.len Tx.one (Vw.pick 2 rfl Vw.row) | exact Src.flatv Tx.len Tx.one (Vw.pick 3 rfl Vw.row) | exact Src.flatv Tx.len Tx.one (Vw.pick 4 rfl Vw.row) | exact Src.flatv Tx.len Tx.one (Vw.pick 5 rfl Vw.row)) (by simp only [List.length_cons, List.length_nil]; omega) (by simp only [List.length_cons, List.length_nil]; omega)) rfl ?_
                rintro _ _ ⟨p94, c94, rfl, hn94, rfl⟩
                simp only [List.set_cons_zero, List.set_cons_succ]
                refine any_unlock (m' := 11) (L' := []) (by kernel_rfl) unlock ?_
                simp only [List.cons_append, List.nil_append, List.append_nil]
                refine any_ro' (i := 10) (by kernel_rfl) rfl rfl (ro_assign rfl) rfl (fun _ _ _ h => h) ?_
                refine any_doneH (by kernel_rfl) ?_
                refine Then_normal ?_
                refine over_cut (kept ⟨p94, c94, rfl, rfl⟩ ?_ ?_ ?_)
                · exact (by repeat (first | exact Has.nil _ | refine Has.cons rfl ?_))
                · exact (by repeat (first | exact Has.nil _ | refine Has.cons rfl ?_))
                · exact (SubH.cons 0 rfl (SubH.cons 1 rfl (SubH.cons 1 rfl (SubH.cons 1 rfl (SubH.nil _)))))
          · rintro Δ LL ⟨p94, c94, rfl, rfl⟩
            simp only [List.cons_append, List.nil_append]
            refine wp_seq' ?_
            refine wp_region' ?_
            refine ops_ro' rfl (ro_move rfl) rfl ?_
            refine ops_ro' rfl (ro_move rfl) rfl ?_
            refine ops_eff' rfl (eff_callM (Pre := []) Try.call23 rfl rfl (Split.nil _) (look_spec (by first | exact Tv.pick 0 rfl hT | exact Tv.pick 1 rfl hT | exact Tv.pick 2 rfl hT | exact Tv.pick 3 rfl hT | exact Tv.pick 4 rfl hT | exact Tv.pick 5 rfl hT | exact Tv.pick 6 rfl hT) hW p94 c94 (p ++ [y.name]) (by first | exact (Vw.pick 0 rfl hV) | exact (Vw.pick 1 rfl hV) | exact (Vw.pick 2 rfl hV) | exact (Vw.pick 3 rfl hV) | exact (Vw.pick 4 rfl hV) | exact (Vw.pick 5 rfl hV) | exact Vw.pick 0 rfl Vw.row | exact Vw.pick 1 rfl Vw.row | exact Vw.pick 2 rfl Vw.row | exact Vw.pick 3 rfl Vw.row | exact Vw.pick 4 rfl Vw.row | exact Vw.pick 5 rfl Vw.row | exact Vw.nil _ | exact Vw.empty _ _) (by rw [List.length_append]; simp only [List.length_cons, List.length_nil]; omega))) rfl ?_
            rintro _ H' ⟨_, ⟨rfl, rfl⟩, hH⟩
            simp only [List.cons_append, List.nil_append, List.eraseIdx_cons_zero, List.eraseIdx_cons_succ, List.set_cons_zero, List.set_cons_succ] at hH
            subst hH
            rw [hfy]
            dsimp only [lookO]
            refine ops_ro' rfl (ro_move rfl) rfl ?_
            refine ops_ro' rfl (ro_extract rfl rfl) rfl ?_
            refine ops_ro' rfl (ro_extract rfl rfl) rfl ?_
            refine ops_ro' rfl (ro_assign rfl) rfl ?_
            refine ops_ro' rfl (ro_assign rfl) rfl ?_
            refine ops_nil ?_
            refine Then_normal ?_
            refine wp_cutK 1019 (fun Δ LL => ∃ (b21 : Nat), Δ = [(21, .pointer (some ⟨b21, 0, none⟩)), (22, .int .i64 0)] ∧ LL = [own b21 (.cells (y.told).cs.toArray 40 (0, 0)), row 9 1 (.slice p94 (p ++ [y.name]).length c94) (p ++ [y.name]).length (txs (p ++ [y.name])), row 93 8 (.slice (some ⟨b58, 0, none⟩) l.length c58) l.length (flat Nm.cs l), own b11 (.cells (x.told).cs.toArray 40 (0, 0)), V]) (Has.cons (k := 0) rfl (Has.cons (k := 1) rfl (Has.cons (k := 2) rfl (Has.cons (k := 13) rfl (Has.cons (k := 15) rfl (Has.cons (k := 16) rfl (Has.cons (k := 17) rfl (Has.cons (k := 18) rfl (Has.cons (k := 20) rfl (Has.nil _)))))))))) ?_ ?_
            · refine wp_region' ?_
              refine ops_ro' rfl (ro_move rfl) rfl ?_
              refine ops_ro' rfl (ro_move rfl) rfl ?_
              refine ops_eff' rfl (eff_callM (Pre := []) Try.call17 rfl rfl (Split.nil _) (attrs_spec (by first | exact Tv.pick 0 rfl hT | exact Tv.pick 1 rfl hT | exact Tv.pick 2 rfl hT | exact Tv.pick 3 rfl hT | exact Tv.pick 4 rfl hT | exact Tv.pick 5 rfl hT | exact Tv.pick 6 rfl hT) y.id hdl)) rfl ?_
              rintro _ H' ⟨_, ⟨rfl, rfl⟩, hH⟩
              simp only [List.cons_append, List.nil_append, List.eraseIdx_cons_zero, List.eraseIdx_cons_succ, List.set_cons_zero, List.set_cons_succ] at hH
              subst hH
              rw [byId_of hW.ids hy]
              dsimp only [attO]
              refine ops_ro' rfl (ro_move rfl) rfl ?_
              refine ops_ro' rfl (ro_extract rfl rfl) rfl ?_
              refine ops_ro' rfl (ro_extract rfl rfl) rfl ?_
              refine ops_eff' rfl (eff_alloc z40) rfl ?_
              rintro _ _ ⟨b21, rfl, rfl⟩
              refine ops_eff0 rfl (eff_storeA 0 ag40 rfl rfl rfl rfl rfl (Nat.le_of_ble_eq_true rfl) (warm_zero _)) rfl ?_
              rintro _ _ rfl
              simp only [List.set_cons_zero, List.set_cons_succ]
              refine ops_ro' rfl (ro_assign rfl) rfl ?_
              refine ops_nil ?_
              refine Then_normal ?_
              refine over_cut (kept ⟨b21, rfl, rfl⟩ ?_ ?_ ?_)
              · exact (by repeat (first | exact Has.nil _ | refine Has.cons rfl ?_))
              · exact (by repeat (first | exact Has.nil _ | refine Has.cons rfl ?_))
              · exact SubH.refl _
            · rintro Δ LL ⟨b21, rfl, rfl⟩
              simp only [List.cons_append, List.nil_append]
              refine wp_seq' ?_
              refine wp_region' ?_
              refine ops_ro' rfl (ro_move rfl) rfl ?_
              refine ops_ro' rfl (ro_move rfl) rfl ?_
              refine ops_ro' rfl (ro_move rfl) rfl ?_
              refine ops_ro' rfl (ro_add rfl rfl (wrap_inc (by omega))) rfl ?_
              refine ops_eff' rfl (eff_callM (Pre := []) Try.call20 rfl rfl (Split.nil _) (IH _ p94 c94 (p ++ [y.name]) y (by first | exact Tv.pick 0 rfl hT | exact Tv.pick 1 rfl hT | exact Tv.pick 2 rfl hT | exact Tv.pick 3 rfl hT | exact Tv.pick 4 rfl hT | exact Tv.pick 5 rfl hT | exact Tv.pick 6 rfl hT) (by first | exact (Vw.pick 0 rfl hV) | exact (Vw.pick 1 rfl hV) | exact (Vw.pick 2 rfl hV) | exact (Vw.pick 3 rfl hV) | exact (Vw.pick 4 rfl hV) | exact (Vw.pick 5 rfl hV) | exact Vw.pick 0 rfl Vw.row | exact Vw.pick 1 rfl Vw.row | exact Vw.pick 2 rfl Vw.row | exact Vw.pick 3 rfl Vw.row | exact Vw.pick 4 rfl Vw.row | exact Vw.pick 5 rfl Vw.row | exact Vw.nil _ | exact Vw.empty _ _) (by rw [List.length_append]; simp only [List.length_cons, List.length_nil]; omega) hfy)) rfl ?_
              rintro _ H' ⟨_, ⟨rfl, rfl⟩, hH⟩
              simp only [List.cons_append, List.nil_append, List.eraseIdx_cons_zero, List.eraseIdx_cons_succ, List.set_cons_zero, List.set_cons_succ] at hH
              subst hH
              refine ops_ro' rfl (ro_move rfl) rfl ?_
              refine ops_ro' rfl (ro_extract rfl rfl) rfl ?_
              refine ops_ro' rfl (ro_extract rfl rfl) rfl ?_
              refine ops_ro' rfl (ro_extract rfl rfl) rfl ?_
              refine ops_ro' rfl (ro_assign rfl) rfl ?_
              refine ops_ro' rfl (ro_assign rfl) rfl ?_
              refine ops_ro' rfl (ro_assign rfl) rfl ?_
              refine ops_nil ?_
              refine Then_normal ?_
              refine wp_seq' ?_
              refine wp_seq' ?_
              refine wp_draw 19 (by kernel_rfl) (Split.all _) ?_
              refine any_ro' (i := 0) (by kernel_rfl) rfl rfl (ro_move rfl) rfl (fun _ _ _ h => h) ?_
              refine any_ro' (i := 1) (by kernel_rfl) rfl rfl (ro_neq rfl rfl (decide_eq_false (by omega))) rfl (fun _ _ _ h => h) ?_
              refine any_ro' (i := 2) (by kernel_rfl) rfl rfl (ro_move (v := .bool false) rfl) rfl (fun _ _ _ h => h) ?_
              refine any_ro' (i := 3) (by kernel_rfl) rfl rfl (ro_move rfl) rfl (fun _ _ _ h => h) ?_
              refine any_ro' (i := 4) (by kernel_rfl) rfl rfl (ro_neq rfl rfl (decide_eq_false (by omega))) rfl (fun _ _ _ h => h) ?_
              refine any_ro' (i := 5) (by kernel_rfl) rfl rfl (ro_pick rfl rfl) rfl (fun _ _ _ h => h) ?_
              refine any_ro' (i := 6) (by kernel_rfl) rfl rfl (ro_move (v := .bool false) rfl) rfl (fun _ _ _ h => h) ?_
              refine any_ro' (i := 7) (by kernel_rfl) rfl rfl (ro_loadA ag40 rfl (RdN.of_pick 0 rfl rdn_all) rfl) rfl (fun _ _ _ h => h) ?_
              refine any_ro' (i := 8) (by kernel_rfl) rfl rfl (ro_move rfl) rfl (fun _ _ _ h => h) ?_
              refine any_ro' (i := 9) (by kernel_rfl) rfl rfl (ro_move rfl) rfl (fun _ _ _ h => h) ?_
              refine any_ro' (i := 10) (by kernel_rfl) rfl rfl (ro_indexSlice sl54 rfl rfl rfl (by omega)) rfl (fun _ _ _ h => h) ?_
              refine any_ro' (i := 11) (by kernel_rfl) rfl rfl (ro_fieldAddr fa93_1 rfl) rfl (fun _ _ _ h => h) ?_
              refine any_ro' (i := 12) (by kernel_rfl) rfl rfl (ro_loadA ag40 rfl (RdN.of_pick 2 rfl ((nm_at (row_elem Nm.len hli)))) rfl) rfl (fun _ _ _ h => h) ?_
              refine any_ro' (i := 13) (by kernel_rfl) rfl rfl (ro_attrNe rfl rfl (c := false) (by simp)) rfl (fun _ _ _ h => h) ?_
              refine any_ro' (i := 14) (by kernel_rfl) rfl rfl (ro_pick rfl rfl) rfl (fun _ _ _ h => h) ?_
              refine any_ro' (i := 15) (by kernel_rfl) rfl rfl (ro_move (v := .bool false) rfl) rfl (fun _ _ _ h => h) ?_
              refine any_ro' (i := 16) (by kernel_rfl) rfl rfl (ro_move rfl) rfl (fun _ _ _ h => h) ?_
              refine any_ro' (i := 17) (by kernel_rfl) rfl rfl (ro_not rfl rfl) rfl (fun _ _ _ h => h) ?_
              refine any_ro' (i := 18) (by kernel_rfl) rfl rfl (ro_pick rfl rfl) rfl (fun _ _ _ h => h) ?_
              refine any_doneL (by kernel_rfl) ?_
              refine Then_normal ?_
              refine wp_condF rfl ?_
              refine wp_skip' ?_
              refine Then_normal ?_
              refine wp_seq' ?_
              refine wp_region' ?_
              refine ops_ro' rfl (ro_move rfl) rfl ?_
              refine ops_ro' rfl (ro_move rfl) rfl ?_
              refine ops_ro' rfl (ro_add rfl rfl (show IntKind.i64.wrap (((1 + (((kidsN t.ns x).take i).map (tot t.ns (fun _ => 1) (5 - (k + 1)))).sum : Nat) : Int) + ((tot t.ns (fun _ => 1) (5 - (k + 1)) y : Nat) : Int)) = ((1 + (((kidsN t.ns x).take (i + 1)).map (tot t.ns (fun _ => 1) (5 - (k + 1)))).sum : Nat) : Int) by rw [wrap_i64_in (by omega) (by omega)]; omega)) rfl ?_
              refine ops_ro' rfl (ro_assign rfl) rfl ?_
              refine ops_nil ?_
              refine Then_normal ?_
              refine wp_region' ?_
              refine ops_ro' rfl (ro_move rfl) rfl ?_
              refine ops_ro' rfl (ro_move rfl) rfl ?_
              refine ops_ro' rfl (ro_add rfl rfl (show IntKind.i64.wrap ((((((kidsN t.ns x).take i).map (tot t.ns (fun y => y.data.length) (5 - (k + 1)))).sum : Nat) : Int) + ((tot t.ns (fun y => y.data.length) (5 - (k + 1)) y : Nat) : Int)) = (((((kidsN t.ns x).take (i + 1)).map (tot t.ns (fun y => y.data.length) (5 - (k + 1)))).sum : Nat) : Int) by rw [wrap_i64_in (by omega) (by omega)]; omega)) rfl ?_
              refine ops_ro' rfl (ro_assign rfl) rfl ?_
              refine ops_nil ?_
              refine InBlock_normal ?_
              refine Then_normal ?_
              refine wp_region' ?_
              refine ops_ro' rfl (ro_move rfl) rfl ?_
              refine ops_ro' rfl (ro_add rfl rfl (wrap_inc (by omega))) rfl ?_
              refine ops_ro' rfl (ro_assign rfl) rfl ?_
              refine ops_nil ?_
              refine Then_normal ?_
              refine back (m - 1) (by omega) (kept ⟨i + 1, by omega, rfl, rfl⟩ ?_ ?_ ?_)
              · exact (by repeat (first | exact Has.nil _ | refine Has.cons rfl ?_))
              · exact (by repeat (first | exact Has.nil _ | refine Has.cons rfl ?_))
              · exact (SubH.cons 2 rfl (SubH.cons 2 rfl (SubH.cons 2 rfl (SubH.nil _))))
        · replace hg71 := of_decide_eq_false hg71
          refine any_skip' (i := 3) (by kernel_rfl) rfl rfl rfl (fun _ _ _ h => h) ?_
          refine any_skip' (i := 4) (by kernel_rfl) rfl rfl rfl (fun _ _ _ h => h) ?_
          refine any_skip' (i := 5) (by kernel_rfl) rfl rfl rfl (fun _ _ _ h => h) ?_
          refine any_skip' (i := 6) (by kernel_rfl) rfl rfl rfl (fun _ _ _ h => h) ?_
          refine any_skip' (i := 7) (by kernel_rfl) rfl rfl rfl (fun _ _ _ h => h) ?_
          refine any_skip' (i := 8) (by kernel_rfl) rfl rfl rfl (fun _ _ _ h => h) ?_
          refine any_skip' (i := 9) (by kernel_rfl) rfl rfl rfl (fun _ _ _ h => h) ?_
          refine any_skip' (i := 10) (by kernel_rfl) rfl rfl rfl (fun _ _ _ h => h) ?_
          refine any_skip' (i := 11) (by kernel_rfl) rfl rfl rfl (fun _ _ _ h => h) ?_
          refine any_skip' (i := 12) (by kernel_rfl) rfl rfl rfl (fun _ _ _ h => h) ?_
          refine any_skip' (i := 13) (by kernel_rfl) rfl rfl rfl (fun _ _ _ h => h) ?_
          refine any_skip' (i := 14) (by kernel_rfl) rfl rfl rfl (fun _ _ _ h => h) ?_
          refine any_ro' (i := 15) (by kernel_rfl) rfl rfl (ro_pick rfl rfl) rfl (fun _ _ _ h => h) ?_
          refine any_doneL (by kernel_rfl) ?_
          refine Then_normal ?_
          refine wp_condF rfl ?_
          refine wp_skip' ?_
          refine Then_normal ?_
          refine wp_cutK 1017 (fun Δ LL => ∃ (p94 : Option Addr) (c94 : Nat), Δ = [(18, .slice p94 (p ++ [y.name]).length c94)] ∧ LL = [row 9 1 (.slice p94 (p ++ [y.name]).length c94) (p ++ [y.name]).length (txs (p ++ [y.name])), row 93 8 (.slice (some ⟨b58, 0, none⟩) l.length c58) l.length (flat Nm.cs l), own b11 (.cells (x.told).cs.toArray 40 (0, 0)), V]) (Has.cons (k := 0) rfl (Has.cons (k := 1) rfl (Has.cons (k := 2) rfl (Has.cons (k := 13) rfl (Has.cons (k := 15) rfl (Has.cons (k := 16) rfl (Has.cons (k := 17) rfl (Has.nil _)))))))) ?_ ?_
          · refine wp_draw 10 (by kernel_rfl) (Split.nil _) ?_
            refine any_ro' (i := 1) (by kernel_rfl) rfl rfl (ro_move rfl) rfl (fun _ _ _ h => h) ?_
            refine any_ro' (i := 3) (by kernel_rfl) rfl rfl (ro_move rfl) rfl (fun _ _ _ h => h) ?_
            refine any_ro' (i := 4) (by kernel_rfl) rfl rfl (ro_move rfl) rfl (fun _ _ _ h => h) ?_
            refine any_ro' (i := 5) (by kernel_rfl) rfl rfl (ro_indexSlice sl54 rfl rfl rfl (by omega)) rfl (fun _ _ _ h => h) ?_
            refine any_ro' (i := 6) (by kernel_rfl) rfl rfl (ro_fieldAddr fa93_0 rfl) rfl (fun _ _ _ h => h) ?_
            refine any_two (i := 0) (j := 7) (by kernel_rfl) ?_ ?_
            · refine at_eff' rfl rfl (eff_lit sl29 rfl (sbld (cs := txs []) [] sl29 (by decide) (by kernel_rfl) rfl) rfl (by decide)) rfl ?_
              rintro _ _ ⟨b85, rfl, rfl⟩
              refine any_two (i := 2) (j := 7) (by kernel_rfl) ?_ ?_
              · refine at_eff' rfl rfl (eff_appF (f := Tx.cs) (l := []) (l2 := p) 0 sl29 (.inl ⟨9, Try.underlying29⟩) rfl rfl rfl (by first | exact Src.flatv Tx.len Tx.one (Vw.pick 0 rfl hV) | exact Src.flatv Tx.len Tx.one (Vw.pick 1 rfl hV) | exact Src.flatv Tx.len Tx.one (Vw.pick 2 rfl hV) | exact Src.flatv Tx.len Tx.one (Vw.pick 3 rfl hV) | exact Src.flatv Tx.len Tx.one (Vw.pick 4 rfl hV) | exact Src.flatv Tx.len Tx.one (Vw.pick 5 rfl hV) | exact Src.flatv Tx.len Tx.one (Vw.pick 0 rfl Vw.row) | exact Src.flatv Tx.len Tx.one (Vw.pick 1 rfl Vw.row) | exact Src.flatv Tx.len Tx.one (Vw.pick 2 rfl Vw.row) | exact Src.flatv Tx.len Tx.one (Vw.pick 3 rfl Vw.row) | exact Src.flatv Tx.len Tx.one (Vw.pick 4 rfl Vw.row) | exact Src.flatv Tx.len Tx.one (Vw.pick 5 rfl Vw.row)) (by first | omega | (simp only [List.length_append, List.length_cons, List.length_nil, List.length_take, List.length_drop] at *; omega)) (by first | omega | (simp only [List.length_append, List.length_cons, List.length_nil, List.length_take, List.length_drop] at *; omega))) rfl ?_
                rintro _ _ ⟨p87, c87, rfl, hn87, rfl⟩
                simp only [List.set_cons_zero, List.set_cons_succ, List.nil_append]
                refine any_eff' (i := 7) (by kernel_rfl) rfl rfl (eff_ro (ro_load sc9 rfl (Rd.pick 1 rfl ((row_elem Nm.len hli 0 _ rfl))))) rfl ?_
                rintro _ _ ⟨rfl, rfl⟩
                refine any_eff' (i := 8) (by kernel_rfl) rfl rfl (eff_lit sl29 rfl (sbld (cs := txs [y.name]) [(.string ByteArray.empty)] sl29 (by decide) (by kernel_rfl) rfl) rfl (by decide)) rfl ?_
                rintro _ _ ⟨b93, rfl, rfl⟩
                refine any_eff' (i := 9) (by kernel_rfl) rfl rfl (eff_appF (f := Tx.cs) (l2 := [y.name]) 1 sl29 (.inl ⟨9, Try.underlying29⟩) rfl rfl rfl (by first | exact Src.flatv Tx.len Tx.one (Vw.pick 0 rfl hV) | exact Src.flatv Tx.len Tx.one (Vw.pick 1 rfl hV) | exact Src.flatv Tx.len Tx.one (Vw.pick 2 rfl hV) | exact Src.flatv Tx.len Tx.one (Vw.pick 3 rfl hV) | exact Src.flatv Tx.len Tx.one (Vw.pick 4 rfl hV) | exact Src.flatv Tx.len Tx.one (Vw.pick 5 rfl hV) | exact Src.flatv Tx.len Tx.one (Vw.pick 0 rfl Vw.row) | exact Src.flatv Tx.len Tx.one (Vw.pick 1 rfl Vw.row) | exact Src.flatv Tx.len Tx.one (Vw.pick 2 rfl Vw.row) | exact Src.flatv Tx.len Tx.one (Vw.pick 3 rfl Vw.row) | exact Src.flatv Tx.len Tx.one (Vw.pick 4 rfl Vw.row) | exact Src.flatv Tx.len Tx.one (Vw.pick 5 rfl Vw.row)) (by simp only [List.length_cons, List.length_nil]; omega) (by simp only [List.length_cons, List.length_nil]; omega)) rfl ?_
                rintro _ _ ⟨p94, c94, rfl, hn94, rfl⟩
                simp only [List.set_cons_zero, List.set_cons_succ]
                refine any_unlock (m' := 11) (L' := []) (by kernel_rfl) unlock ?_
                simp only [List.cons_append, List.nil_append, List.append_nil]
                refine any_ro' (i := 10) (by kernel_rfl) rfl rfl (ro_assign rfl) rfl (fun _ _ _ h => h) ?_
                refine any_doneH (by kernel_rfl) ?_
                refine Then_normal ?_
                refine over_cut (kept ⟨p94, c94, rfl, rfl⟩ ?_ ?_ ?_)
                · exact (by repeat (first | exact Has.nil _ | refine Has.cons rfl ?_))
                · exact (by repeat (first | exact Has.nil _ | refine Has.cons rfl ?_))
                · exact (SubH.cons 1 rfl (SubH.cons 1 rfl (SubH.cons 1 rfl (SubH.cons 1 rfl (SubH.nil _)))))
              · refine at_eff' rfl rfl (eff_ro (ro_load sc9 rfl (Rd.pick 1 rfl ((row_elem Nm.len hli 0 _ rfl))))) rfl ?_
                rintro _ _ ⟨rfl, rfl⟩
                refine any_two (i := 2) (j := 8) (by kernel_rfl) ?_ ?_
                · refine at_eff' rfl rfl (eff_appF (f := Tx.cs) (l := []) (l2 := p) 0 sl29 (.inl ⟨9, Try.underlying29⟩) rfl rfl rfl (by first | exact Src.flatv Tx.len Tx.one (Vw.pick 0 rfl hV) | exact Src.flatv Tx.len Tx.one (Vw.pick 1 rfl hV) | exact Src.flatv Tx.len Tx.one (Vw.pick 2 rfl hV) | exact Src.flatv Tx.len Tx.one (Vw.pick 3 rfl hV) | exact Src.flatv Tx.len Tx.one (Vw.pick 4 rfl hV) | exact Src.flatv Tx.len Tx.one (Vw.pick 5 rfl hV) | exact Src.flatv Tx.len Tx.one (Vw.pick 0 rfl Vw.row) | exact Src.flatv Tx.len Tx.one (Vw.pick 1 rfl Vw.row) | exact Src.flatv Tx.len Tx.one (Vw.pick 2 rfl Vw.row) | exact Src.flatv Tx.len Tx.one (Vw.pick 3 rfl Vw.row) | exact Src.flatv Tx.len Tx.one (Vw.pick 4 rfl Vw.row) | exact Src.flatv Tx.len Tx.one (Vw.pick 5 rfl Vw.row)) (by first | omega | (simp only [List.length_append, List.length_cons, List.length_nil, List.length_take, List.length_drop] at *; omega)) (by first | omega | (simp only [List.length_append, List.length_cons, List.length_nil, List.length_take, List.length_drop] at *; omega))) rfl ?_
                  rintro _ _ ⟨p87, c87, rfl, hn87, rfl⟩
                  simp only [List.set_cons_zero, List.set_cons_succ, List.nil_append]
                  refine any_eff' (i := 8) (by kernel_rfl) rfl rfl (eff_lit sl29 rfl (sbld (cs := txs [y.name]) [(.string ByteArray.empty)] sl29 (by decide) (by kernel_rfl) rfl) rfl (by decide)) rfl ?_
                  rintro _ _ ⟨b93, rfl, rfl⟩
                  refine any_eff' (i := 9) (by kernel_rfl) rfl rfl (eff_appF (f := Tx.cs) (l2 := [y.name]) 1 sl29 (.inl ⟨9, Try.underlying29⟩) rfl rfl rfl (by first | exact Src.flatv Tx.len Tx.one (Vw.pick 0 rfl hV) | exact Src.flatv Tx.len Tx.one (Vw.pick 1 rfl hV) | exact Src.flatv Tx.len Tx.one (Vw.pick 2 rfl hV) | exact Src.flatv Tx.len Tx.one (Vw.pick 3 rfl hV) | exact Src.flatv Tx.len Tx.one (Vw.pick 4 rfl hV) | exact Src.flatv Tx.len Tx.one (Vw.pick 5 rfl hV) | exact Src.flatv Tx.len Tx.one (Vw.pick 0 rfl Vw.row) | exact Src.flatv Tx.len Tx.one (Vw.pick 1 rfl Vw.row) | exact Src.flatv Tx.len Tx.one (Vw.pick 2 rfl Vw.row) | exact Src.flatv Tx.len Tx.one (Vw.pick 3 rfl Vw.row) | exact Src.flatv Tx.len Tx.one (Vw.pick 4 rfl Vw.row) | exact Src.flatv Tx.len Tx.one (Vw.pick 5 rfl Vw.row)) (by simp only [List.length_cons, List.length_nil]; omega) (by simp only [List.length_cons, List.length_nil]; omega)) rfl ?_
                  rintro _ _ ⟨p94, c94, rfl, hn94, rfl⟩
                  simp only [List.set_cons_zero, List.set_cons_succ]
                  refine any_unlock (m' := 11) (L' := []) (by kernel_rfl) unlock ?_
                  simp only [List.cons_append, List.nil_append, List.append_nil]
                  refine any_ro' (i := 10) (by kernel_rfl) rfl rfl (ro_assign rfl) rfl (fun _ _ _ h => h) ?_
                  refine any_doneH (by kernel_rfl) ?_
                  refine Then_normal ?_
                  refine over_cut (kept ⟨p94, c94, rfl, rfl⟩ ?_ ?_ ?_)
                  · exact (by repeat (first | exact Has.nil _ | refine Has.cons rfl ?_))
                  · exact (by repeat (first | exact Has.nil _ | refine Has.cons rfl ?_))
                  · exact (SubH.cons 1 rfl (SubH.cons 1 rfl (SubH.cons 1 rfl (SubH.cons 1 rfl (SubH.nil _)))))
                · refine at_eff' rfl rfl (eff_lit sl29 rfl (sbld (cs := txs [y.name]) [(.string ByteArray.empty)] sl29 (by decide) (by kernel_rfl) rfl) rfl (by decide)) rfl ?_
                  rintro _ _ ⟨b93, rfl, rfl⟩
                  refine any_eff' (i := 2) (by kernel_rfl) rfl rfl (eff_appF (f := Tx.cs) (l := []) (l2 := p) 1 sl29 (.inl ⟨9, Try.underlying29⟩) rfl rfl rfl (by first | exact Src.flatv Tx.len Tx.one (Vw.pick 0 rfl hV) | exact Src.flatv Tx.len Tx.one (Vw.pick 1 rfl hV) | exact Src.flatv Tx.len Tx.one (Vw.pick 2 rfl hV) | exact Src.flatv Tx.len Tx.one (Vw.pick 3 rfl hV) | exact Src.flatv Tx.len Tx.one (Vw.pick 4 rfl hV) | exact Src.flatv Tx.len Tx.one (Vw.pick 5 rfl hV) | exact Src.flatv Tx.len Tx.one (Vw.pick 0 rfl Vw.row) | exact Src.flatv Tx.len Tx.one (Vw.pick 1 rfl Vw.row) | exact Src.flatv Tx.len Tx.one (Vw.pick 2 rfl Vw.row) | exact Src.flatv Tx.len Tx.one (Vw.pick 3 rfl Vw.row) | exact Src.flatv Tx.len Tx.one (Vw.pick 4 rfl Vw.row) | exact Src.flatv Tx.len Tx.one (Vw.pick 5 rfl Vw.row)) (by first | omega | (simp only [List.length_append, List.length_cons, List.length_nil, List.length_take, List.length_drop] at *; omega)) (by first | omega | (simp only [List.length_append, List.length_cons, List.length_nil, List.length_take, List.length_drop] at *; omega))) rfl ?_
                  rintro _ _ ⟨p87, c87, rfl, hn87, rfl⟩
                  simp only [List.set_cons_zero, List.set_cons_succ, List.nil_append]
                  refine any_eff' (i := 9) (by kernel_rfl) rfl rfl (eff_appF (f := Tx.cs) (l2 := [y.name]) 1 sl29 (.inl ⟨9, Try.underlying29⟩) rfl rfl rfl (by first | exact Src.flatv Tx.len Tx.one (Vw.pick 0 rfl hV) | exact Src.flatv Tx.len Tx.one (Vw.pick 1 rfl hV) | exact Src.flatv Tx.len Tx.one (Vw.pick 2 rfl hV) | exact Src.flatv Tx.len Tx.one (Vw.pick 3 rfl hV) | exact Src.flatv Tx.len Tx.one (Vw.pick 4 rfl hV) | exact Src.flatv Tx.len Tx.one (Vw.pick 5 rfl hV) | exact Src.flatv Tx.len Tx.one (Vw.pick 0 rfl Vw.row) | exact Src.flatv Tx.len Tx.one (Vw.pick 1 rfl Vw.row) | exact Src.flatv Tx.len Tx.one (Vw.pick 2 rfl Vw.row) | exact Src.flatv Tx.len Tx.one (Vw.pick 3 rfl Vw.row) | exact Src.flatv Tx.len Tx.one (Vw.pick 4 rfl Vw.row) | exact Src.flatv Tx.len Tx.one (Vw.pick 5 rfl Vw.row)) (by simp only [List.length_cons, List.length_nil]; omega) (by simp only [List.length_cons, List.length_nil]; omega)) rfl ?_
                  rintro _ _ ⟨p94, c94, rfl, hn94, rfl⟩
                  simp only [List.set_cons_zero, List.set_cons_succ]
                  refine any_unlock (m' := 11) (L' := []) (by kernel_rfl) unlock ?_
                  simp only [List.cons_append, List.nil_append, List.append_nil]
                  refine any_ro' (i := 10) (by kernel_rfl) rfl rfl (ro_assign rfl) rfl (fun _ _ _ h => h) ?_
                  refine any_doneH (by kernel_rfl) ?_
                  refine Then_normal ?_
                  refine over_cut (kept ⟨p94, c94, rfl, rfl⟩ ?_ ?_ ?_)
                  · exact (by repeat (first | exact Has.nil _ | refine Has.cons rfl ?_))
                  · exact (by repeat (first | exact Has.nil _ | refine Has.cons rfl ?_))
                  · exact (SubH.cons 1 rfl (SubH.cons 1 rfl (SubH.cons 1 rfl (SubH.cons 1 rfl (SubH.nil _)))))
            · refine at_eff' rfl rfl (eff_ro (ro_load sc9 rfl (Rd.pick 0 rfl ((row_elem Nm.len hli 0 _ rfl))))) rfl ?_
              rintro _ _ ⟨rfl, rfl⟩
              refine any_two (i := 0) (j := 8) (by kernel_rfl) ?_ ?_
              · refine at_eff' rfl rfl (eff_lit sl29 rfl (sbld (cs := txs []) [] sl29 (by decide) (by kernel_rfl) rfl) rfl (by decide)) rfl ?_
                rintro _ _ ⟨b85, rfl, rfl⟩
                refine any_two (i := 2) (j := 8) (by kernel_rfl) ?_ ?_
                · refine at_eff' rfl rfl (eff_appF (f := Tx.cs) (l := []) (l2 := p) 0 sl29 (.inl ⟨9, Try.underlying29⟩) rfl rfl rfl (by first | exact Src.flatv Tx.len Tx.one (Vw.pick 0 rfl hV) | exact Src.flatv Tx.len Tx.one (Vw.pick 1 rfl hV) | exact Src.flatv Tx.len Tx.one (Vw.pick 2 rfl hV) | exact Src.flatv Tx.len Tx.one (Vw.pick 3 rfl hV) | exact Src.flatv Tx.len Tx.one (Vw.pick 4 rfl hV) | exact Src.flatv Tx.len Tx.one (Vw.pick 5 rfl hV) | exact Src.flatv Tx.len Tx.one (Vw.pick 0 rfl Vw.row) | exact Src.flatv Tx.len Tx.one (Vw.pick 1 rfl Vw.row) | exact Src.flatv Tx.len Tx.one (Vw.pick 2 rfl Vw.row) | exact Src.flatv Tx.len Tx.one (Vw.pick 3 rfl Vw.row) | exact Src.flatv Tx.len Tx.one (Vw.pick 4 rfl Vw.row) | exact Src.flatv Tx.len Tx.one (Vw.pick 5 rfl Vw.row)) (by first | omega | (simp only [List.length_append, List.length_cons, List.length_nil, List.length_take, List.length_drop] at *; omega)) (by first | omega | (simp only [List.length_append, List.length_cons, List.length_nil, List.length_take, List.length_drop] at *; omega))) rfl ?_
                  rintro _ _ ⟨p87, c87, rfl, hn87, rfl⟩
                  simp only [List.set_cons_zero, List.set_cons_succ, List.nil_append]
                  refine any_eff' (i := 8) (by kernel_rfl) rfl rfl (eff_lit sl29 rfl (sbld (cs := txs [y.name]) [(.string ByteArray.empty)] sl29 (by decide) (by kernel_rfl) rfl) rfl (by decide)) rfl ?_
                  rintro _ _ ⟨b93, rfl, rfl⟩
                  refine any_eff' (i := 9) (by kernel_rfl) rfl rfl (eff_appF (f := Tx.cs) (l2 := [y.name]) 1 sl29 (.inl ⟨9, Try.underlying29⟩) rfl rfl rfl (by first | exact Src.flatv Tx.len Tx.one (Vw.pick 0 rfl hV) | exact Src.flatv Tx.len Tx.one (Vw.pick 1 rfl hV) | exact Src.flatv Tx.len Tx.one (Vw.pick 2 rfl hV) | exact Src.flatv Tx.len Tx.one (Vw.pick 3 rfl hV) | exact Src.flatv Tx.len Tx.one (Vw.pick 4 rfl hV) | exact Src.flatv Tx.len Tx.one (Vw.pick 5 rfl hV) | exact Src.flatv Tx.len Tx.one (Vw.pick 0 rfl Vw.row) | exact Src.flatv Tx.len Tx.one (Vw.pick 1 rfl Vw.row) | exact Src.flatv Tx.len Tx.one (Vw.pick 2 rfl Vw.row) | exact Src.flatv Tx.len Tx.one (Vw.pick 3 rfl Vw.row) | exact Src.flatv Tx.len Tx.one (Vw.pick 4 rfl Vw.row) | exact Src.flatv Tx.len Tx.one (Vw.pick 5 rfl Vw.row)) (by simp only [List.length_cons, List.length_nil]; omega) (by simp only [List.length_cons, List.length_nil]; omega)) rfl ?_
                  rintro _ _ ⟨p94, c94, rfl, hn94, rfl⟩
                  simp only [List.set_cons_zero, List.set_cons_succ]
                  refine any_unlock (m' := 11) (L' := []) (by kernel_rfl) unlock ?_
                  simp only [List.cons_append, List.nil_append, List.append_nil]
                  refine any_ro' (i := 10) (by kernel_rfl) rfl rfl (ro_assign rfl) rfl (fun _ _ _ h => h) ?_
                  refine any_doneH (by kernel_rfl) ?_
                  refine Then_normal ?_
                  refine over_cut (kept ⟨p94, c94, rfl, rfl⟩ ?_ ?_ ?_)
                  · exact (by repeat (first | exact Has.nil _ | refine Has.cons rfl ?_))
                  · exact (by repeat (first | exact Has.nil _ | refine Has.cons rfl ?_))
                  · exact (SubH.cons 1 rfl (SubH.cons 1 rfl (SubH.cons 1 rfl (SubH.cons 1 rfl (SubH.nil _)))))
                · refine at_eff' rfl rfl (eff_lit sl29 rfl (sbld (cs := txs [y.name]) [(.string ByteArray.empty)] sl29 (by decide) (by kernel_rfl) rfl) rfl (by decide)) rfl ?_
                  rintro _ _ ⟨b93, rfl, rfl⟩
                  refine any_eff' (i := 2) (by kernel_rfl) rfl rfl (eff_appF (f := Tx.cs) (l := []) (l2 := p) 1 sl29 (.inl ⟨9, Try.underlying29⟩) rfl rfl rfl (by first | exact Src.flatv Tx.len Tx.one (Vw.pick 0 rfl hV) | exact Src.flatv Tx.len Tx.one (Vw.pick 1 rfl hV) | exact Src.flatv Tx.len Tx.one (Vw.pick 2 rfl hV) | exact Src.flatv Tx.len Tx.one (Vw.pick 3 rfl hV) | exact Src.flatv Tx.len Tx.one (Vw.pick 4 rfl hV) | exact Src.flatv Tx.len Tx.one (Vw.pick 5 rfl hV) | exact Src.flatv Tx.len Tx.one (Vw.pick 0 rfl Vw.row) | exact Src.flatv Tx.len Tx.one (Vw.pick 1 rfl Vw.row) | exact Src.flatv Tx.len Tx.one (Vw.pick 2 rfl Vw.row) | exact Src.flatv Tx.len Tx.one (Vw.pick 3 rfl Vw.row) | exact Src.flatv Tx.len Tx.one (Vw.pick 4 rfl Vw.row) | exact Src.flatv Tx.len Tx.one (Vw.pick 5 rfl Vw.row)) (by first | omega | (simp only [List.length_append, List.length_cons, List.length_nil, List.length_take, List.length_drop] at *; omega)) (by first | omega | (simp only [List.length_append, List.length_cons, List.length_nil, List.length_take, List.length_drop] at *; omega))) rfl ?_
                  rintro _ _ ⟨p87, c87, rfl, hn87, rfl⟩
                  simp only [List.set_cons_zero, List.set_cons_succ, List.nil_append]
                  refine any_eff' (i := 9) (by kernel_rfl) rfl rfl (eff_appF (f := Tx.cs) (l2 := [y.name]) 1 sl29 (.inl ⟨9, Try.underlying29⟩) rfl rfl rfl (by first | exact Src.flatv Tx.len Tx.one (Vw.pick 0 rfl hV) | exact Src.flatv Tx.len Tx.one (Vw.pick 1 rfl hV) | exact Src.flatv Tx.len Tx.one (Vw.pick 2 rfl hV) | exact Src.flatv Tx.len Tx.one (Vw.pick 3 rfl hV) | exact Src.flatv Tx.len Tx.one (Vw.pick 4 rfl hV) | exact Src.flatv Tx.len Tx.one (Vw.pick 5 rfl hV) | exact Src.flatv Tx.len Tx.one (Vw.pick 0 rfl Vw.row) | exact Src.flatv Tx.len Tx.one (Vw.pick 1 rfl Vw.row) | exact Src.flatv Tx.len Tx.one (Vw.pick 2 rfl Vw.row) | exact Src.flatv Tx.len Tx.one (Vw.pick 3 rfl Vw.row) | exact Src.flatv Tx.len Tx.one (Vw.pick 4 rfl Vw.row) | exact Src.flatv Tx.len Tx.one (Vw.pick 5 rfl Vw.row)) (by simp only [List.length_cons, List.length_nil]; omega) (by simp only [List.length_cons, List.length_nil]; omega)) rfl ?_
                  rintro _ _ ⟨p94, c94, rfl, hn94, rfl⟩
                  simp only [List.set_cons_zero, List.set_cons_succ]
                  refine any_unlock (m' := 11) (L' := []) (by kernel_rfl) unlock ?_
                  simp only [List.cons_append, List.nil_append, List.append_nil]
                  refine any_ro' (i := 10) (by kernel_rfl) rfl rfl (ro_assign rfl) rfl (fun _ _ _ h => h) ?_
                  refine any_doneH (by kernel_rfl) ?_
                  refine Then_normal ?_
                  refine over_cut (kept ⟨p94, c94, rfl, rfl⟩ ?_ ?_ ?_)
                  · exact (by repeat (first | exact Has.nil _ | refine Has.cons rfl ?_))
                  · exact (by repeat (first | exact Has.nil _ | refine Has.cons rfl ?_))
                  · exact (SubH.cons 1 rfl (SubH.cons 1 rfl (SubH.cons 1 rfl (SubH.cons 1 rfl (SubH.nil _)))))
              · refine at_eff' rfl rfl (eff_lit sl29 rfl (sbld (cs := txs [y.name]) [(.string ByteArray.empty)] sl29 (by decide) (by kernel_rfl) rfl) rfl (by decide)) rfl ?_
                rintro _ _ ⟨b93, rfl, rfl⟩
                refine any_eff' (i := 0) (by kernel_rfl) rfl rfl (eff_lit sl29 rfl (sbld (cs := txs []) [] sl29 (by decide) (by kernel_rfl) rfl) rfl (by decide)) rfl ?_
                rintro _ _ ⟨b85, rfl, rfl⟩
                refine any_eff' (i := 2) (by kernel_rfl) rfl rfl (eff_appF (f := Tx.cs) (l := []) (l2 := p) 0 sl29 (.inl ⟨9, Try.underlying29⟩) rfl rfl rfl (by first | exact Src.flatv Tx.len Tx.one (Vw.pick 0 rfl hV) | exact Src.flatv Tx.len Tx.one (Vw.pick 1 rfl hV) | exact Src.flatv Tx.len Tx.one (Vw.pick 2 rfl hV) | exact Src.flatv Tx.len Tx.one (Vw.pick 3 rfl hV) | exact Src.flatv Tx.len Tx.one (Vw.pick 4 rfl hV) | exact Src.flatv Tx.len Tx.one (Vw.pick 5 rfl hV) | exact Src.flatv Tx.len Tx.one (Vw.pick 0 rfl Vw.row) | exact Src.flatv Tx.len Tx.one (Vw.pick 1 rfl Vw.row) | exact Src.flatv Tx.len Tx.one (Vw.pick 2 rfl Vw.row) | exact Src.flatv Tx.len Tx.one (Vw.pick 3 rfl Vw.row) | exact Src.flatv Tx.len Tx.one (Vw.pick 4 rfl Vw.row) | exact Src.flatv Tx.len Tx.one (Vw.pick 5 rfl Vw.row)) (by first | omega | (simp only [List.length_append, List.length_cons, List.length_nil, List.length_take, List.length_drop] at *; omega)) (by first | omega | (simp only [List.length_append, List.length_cons, List.length_nil, List.length_take, List.length_drop] at *; omega))) rfl ?_
                rintro _ _ ⟨p87, c87, rfl, hn87, rfl⟩
                simp only [List.set_cons_zero, List.set_cons_succ, List.nil_append]
                refine any_eff' (i := 9) (by kernel_rfl) rfl rfl (eff_appF (f := Tx.cs) (l2 := [y.name]) 0 sl29 (.inl ⟨9, Try.underlying29⟩) rfl rfl rfl (by first | exact Src.flatv Tx.len Tx.one (Vw.pick 0 rfl hV) | exact Src.flatv Tx.len Tx.one (Vw.pick 1 rfl hV) | exact Src.flatv Tx.len Tx.one (Vw.pick 2 rfl hV) | exact Src.flatv Tx.len Tx.one (Vw.pick 3 rfl hV) | exact Src.flatv Tx.len Tx.one (Vw.pick 4 rfl hV) | exact Src.flatv Tx.len Tx.one (Vw.pick 5 rfl hV) | exact Src.flatv Tx.len Tx.one (Vw.pick 0 rfl Vw.row) | exact Src.flatv Tx.len Tx.one (Vw.pick 1 rfl Vw.row) | exact Src.flatv Tx.len Tx.one (Vw.pick 2 rfl Vw.row) | exact Src.flatv Tx.len Tx.one (Vw.pick 3 rfl Vw.row) | exact Src.flatv Tx.len Tx.one (Vw.pick 4 rfl Vw.row) | exact Src.flatv Tx.len Tx.one (Vw.pick 5 rfl Vw.row)) (by simp only [List.length_cons, List.length_nil]; omega) (by simp only [List.length_cons, List.length_nil]; omega)) rfl ?_
                rintro _ _ ⟨p94, c94, rfl, hn94, rfl⟩
                simp only [List.set_cons_zero, List.set_cons_succ]
                refine any_unlock (m' := 11) (L' := []) (by kernel_rfl) unlock ?_
                simp only [List.cons_append, List.nil_append, List.append_nil]
                refine any_ro' (i := 10) (by kernel_rfl) rfl rfl (ro_assign rfl) rfl (fun _ _ _ h => h) ?_
                refine any_doneH (by kernel_rfl) ?_
                refine Then_normal ?_
                refine over_cut (kept ⟨p94, c94, rfl, rfl⟩ ?_ ?_ ?_)
                · exact (by repeat (first | exact Has.nil _ | refine Has.cons rfl ?_))
                · exact (by repeat (first | exact Has.nil _ | refine Has.cons rfl ?_))
                · exact (SubH.cons 0 rfl (SubH.cons 1 rfl (SubH.cons 1 rfl (SubH.cons 1 rfl (SubH.nil _)))))
          · rintro Δ LL ⟨p94, c94, rfl, rfl⟩
            simp only [List.cons_append, List.nil_append]
            refine wp_seq' ?_
            refine wp_region' ?_
            refine ops_ro' rfl (ro_move rfl) rfl ?_
            refine ops_ro' rfl (ro_move rfl) rfl ?_
            refine ops_eff' rfl (eff_callM (Pre := []) Try.call23 rfl rfl (Split.nil _) (look_spec (by first | exact Tv.pick 0 rfl hT | exact Tv.pick 1 rfl hT | exact Tv.pick 2 rfl hT | exact Tv.pick 3 rfl hT | exact Tv.pick 4 rfl hT | exact Tv.pick 5 rfl hT | exact Tv.pick 6 rfl hT) hW p94 c94 (p ++ [y.name]) (by first | exact (Vw.pick 0 rfl hV) | exact (Vw.pick 1 rfl hV) | exact (Vw.pick 2 rfl hV) | exact (Vw.pick 3 rfl hV) | exact (Vw.pick 4 rfl hV) | exact (Vw.pick 5 rfl hV) | exact Vw.pick 0 rfl Vw.row | exact Vw.pick 1 rfl Vw.row | exact Vw.pick 2 rfl Vw.row | exact Vw.pick 3 rfl Vw.row | exact Vw.pick 4 rfl Vw.row | exact Vw.pick 5 rfl Vw.row | exact Vw.nil _ | exact Vw.empty _ _) (by rw [List.length_append]; simp only [List.length_cons, List.length_nil]; omega))) rfl ?_
            rintro _ H' ⟨_, ⟨rfl, rfl⟩, hH⟩
            simp only [List.cons_append, List.nil_append, List.eraseIdx_cons_zero, List.eraseIdx_cons_succ, List.set_cons_zero, List.set_cons_succ] at hH
            subst hH
            rw [hfy]
            dsimp only [lookO]
            refine ops_ro' rfl (ro_move rfl) rfl ?_
            refine ops_ro' rfl (ro_extract rfl rfl) rfl ?_
            refine ops_ro' rfl (ro_extract rfl rfl) rfl ?_
            refine ops_ro' rfl (ro_assign rfl) rfl ?_
            refine ops_ro' rfl (ro_assign rfl) rfl ?_
            refine ops_nil ?_
            refine Then_normal ?_
            refine wp_cutK 1019 (fun Δ LL => ∃ (b21 : Nat), Δ = [(21, .pointer (some ⟨b21, 0, none⟩)), (22, .int .i64 0)] ∧ LL = [own b21 (.cells (y.told).cs.toArray 40 (0, 0)), row 9 1 (.slice p94 (p ++ [y.name]).length c94) (p ++ [y.name]).length (txs (p ++ [y.name])), row 93 8 (.slice (some ⟨b58, 0, none⟩) l.length c58) l.length (flat Nm.cs l), own b11 (.cells (x.told).cs.toArray 40 (0, 0)), V]) (Has.cons (k := 0) rfl (Has.cons (k := 1) rfl (Has.cons (k := 2) rfl (Has.cons (k := 13) rfl (Has.cons (k := 15) rfl (Has.cons (k := 16) rfl (Has.cons (k := 17) rfl (Has.cons (k := 18) rfl (Has.cons (k := 20) rfl (Has.nil _)))))))))) ?_ ?_
            · refine wp_region' ?_
              refine ops_ro' rfl (ro_move rfl) rfl ?_
              refine ops_ro' rfl (ro_move rfl) rfl ?_
              refine ops_eff' rfl (eff_callM (Pre := []) Try.call17 rfl rfl (Split.nil _) (attrs_spec (by first | exact Tv.pick 0 rfl hT | exact Tv.pick 1 rfl hT | exact Tv.pick 2 rfl hT | exact Tv.pick 3 rfl hT | exact Tv.pick 4 rfl hT | exact Tv.pick 5 rfl hT | exact Tv.pick 6 rfl hT) y.id hdl)) rfl ?_
              rintro _ H' ⟨_, ⟨rfl, rfl⟩, hH⟩
              simp only [List.cons_append, List.nil_append, List.eraseIdx_cons_zero, List.eraseIdx_cons_succ, List.set_cons_zero, List.set_cons_succ] at hH
              subst hH
              rw [byId_of hW.ids hy]
              dsimp only [attO]
              refine ops_ro' rfl (ro_move rfl) rfl ?_
              refine ops_ro' rfl (ro_extract rfl rfl) rfl ?_
              refine ops_ro' rfl (ro_extract rfl rfl) rfl ?_
              refine ops_eff' rfl (eff_alloc z40) rfl ?_
              rintro _ _ ⟨b21, rfl, rfl⟩
              refine ops_eff0 rfl (eff_storeA 0 ag40 rfl rfl rfl rfl rfl (Nat.le_of_ble_eq_true rfl) (warm_zero _)) rfl ?_
              rintro _ _ rfl
              simp only [List.set_cons_zero, List.set_cons_succ]
              refine ops_ro' rfl (ro_assign rfl) rfl ?_
              refine ops_nil ?_
              refine Then_normal ?_
              refine over_cut (kept ⟨b21, rfl, rfl⟩ ?_ ?_ ?_)
              · exact (by repeat (first | exact Has.nil _ | refine Has.cons rfl ?_))
              · exact (by repeat (first | exact Has.nil _ | refine Has.cons rfl ?_))
              · exact SubH.refl _
            · rintro Δ LL ⟨b21, rfl, rfl⟩
              simp only [List.cons_append, List.nil_append]
              refine wp_seq' ?_
              refine wp_region' ?_
              refine ops_ro' rfl (ro_move rfl) rfl ?_
              refine ops_ro' rfl (ro_move rfl) rfl ?_
              refine ops_ro' rfl (ro_move rfl) rfl ?_
              refine ops_ro' rfl (ro_add rfl rfl (wrap_inc (by omega))) rfl ?_
              refine ops_eff' rfl (eff_callM (Pre := []) Try.call20 rfl rfl (Split.nil _) (IH _ p94 c94 (p ++ [y.name]) y (by first | exact Tv.pick 0 rfl hT | exact Tv.pick 1 rfl hT | exact Tv.pick 2 rfl hT | exact Tv.pick 3 rfl hT | exact Tv.pick 4 rfl hT | exact Tv.pick 5 rfl hT | exact Tv.pick 6 rfl hT) (by first | exact (Vw.pick 0 rfl hV) | exact (Vw.pick 1 rfl hV) | exact (Vw.pick 2 rfl hV) | exact (Vw.pick 3 rfl hV) | exact (Vw.pick 4 rfl hV) | exact (Vw.pick 5 rfl hV) | exact Vw.pick 0 rfl Vw.row | exact Vw.pick 1 rfl Vw.row | exact Vw.pick 2 rfl Vw.row | exact Vw.pick 3 rfl Vw.row | exact Vw.pick 4 rfl Vw.row | exact Vw.pick 5 rfl Vw.row | exact Vw.nil _ | exact Vw.empty _ _) (by rw [List.length_append]; simp only [List.length_cons, List.length_nil]; omega) hfy)) rfl ?_
              rintro _ H' ⟨_, ⟨rfl, rfl⟩, hH⟩
              simp only [List.cons_append, List.nil_append, List.eraseIdx_cons_zero, List.eraseIdx_cons_succ, List.set_cons_zero, List.set_cons_succ] at hH
              subst hH
              refine ops_ro' rfl (ro_move rfl) rfl ?_
              refine ops_ro' rfl (ro_extract rfl rfl) rfl ?_
              refine ops_ro' rfl (ro_extract rfl rfl) rfl ?_
              refine ops_ro' rfl (ro_extract rfl rfl) rfl ?_
              refine ops_ro' rfl (ro_assign rfl) rfl ?_
              refine ops_ro' rfl (ro_assign rfl) rfl ?_
              refine ops_ro' rfl (ro_assign rfl) rfl ?_
              refine ops_nil ?_
              refine Then_normal ?_
              refine wp_seq' ?_
              refine wp_seq' ?_
              refine wp_draw 19 (by kernel_rfl) (Split.all _) ?_
              refine any_ro' (i := 0) (by kernel_rfl) rfl rfl (ro_move rfl) rfl (fun _ _ _ h => h) ?_
              refine any_ro' (i := 1) (by kernel_rfl) rfl rfl (ro_neq rfl rfl (decide_eq_false (by omega))) rfl (fun _ _ _ h => h) ?_
              refine any_ro' (i := 2) (by kernel_rfl) rfl rfl (ro_move (v := .bool false) rfl) rfl (fun _ _ _ h => h) ?_
              refine any_ro' (i := 3) (by kernel_rfl) rfl rfl (ro_move rfl) rfl (fun _ _ _ h => h) ?_
              refine any_ro' (i := 4) (by kernel_rfl) rfl rfl (ro_neq rfl rfl (decide_eq_false (by omega))) rfl (fun _ _ _ h => h) ?_
              refine any_ro' (i := 5) (by kernel_rfl) rfl rfl (ro_pick rfl rfl) rfl (fun _ _ _ h => h) ?_
              refine any_ro' (i := 6) (by kernel_rfl) rfl rfl (ro_move (v := .bool false) rfl) rfl (fun _ _ _ h => h) ?_
              refine any_ro' (i := 7) (by kernel_rfl) rfl rfl (ro_loadA ag40 rfl (RdN.of_pick 0 rfl rdn_all) rfl) rfl (fun _ _ _ h => h) ?_
              refine any_ro' (i := 8) (by kernel_rfl) rfl rfl (ro_move rfl) rfl (fun _ _ _ h => h) ?_
              refine any_ro' (i := 9) (by kernel_rfl) rfl rfl (ro_move rfl) rfl (fun _ _ _ h => h) ?_
              refine any_ro' (i := 10) (by kernel_rfl) rfl rfl (ro_indexSlice sl54 rfl rfl rfl (by omega)) rfl (fun _ _ _ h => h) ?_
              refine any_ro' (i := 11) (by kernel_rfl) rfl rfl (ro_fieldAddr fa93_1 rfl) rfl (fun _ _ _ h => h) ?_
              refine any_ro' (i := 12) (by kernel_rfl) rfl rfl (ro_loadA ag40 rfl (RdN.of_pick 2 rfl ((nm_at (row_elem Nm.len hli)))) rfl) rfl (fun _ _ _ h => h) ?_
              refine any_ro' (i := 13) (by kernel_rfl) rfl rfl (ro_attrNe rfl rfl (c := false) (by simp)) rfl (fun _ _ _ h => h) ?_
              refine any_ro' (i := 14) (by kernel_rfl) rfl rfl (ro_pick rfl rfl) rfl (fun _ _ _ h => h) ?_
              refine any_ro' (i := 15) (by kernel_rfl) rfl rfl (ro_move (v := .bool false) rfl) rfl (fun _ _ _ h => h) ?_
              refine any_ro' (i := 16) (by kernel_rfl) rfl rfl (ro_move rfl) rfl (fun _ _ _ h => h) ?_
              refine any_ro' (i := 17) (by kernel_rfl) rfl rfl (ro_not rfl rfl) rfl (fun _ _ _ h => h) ?_
              refine any_ro' (i := 18) (by kernel_rfl) rfl rfl (ro_pick rfl rfl) rfl (fun _ _ _ h => h) ?_
              refine any_doneL (by kernel_rfl) ?_
              refine Then_normal ?_
              refine wp_condF rfl ?_
              refine wp_skip' ?_
              refine Then_normal ?_
              refine wp_seq' ?_
              refine wp_region' ?_
              refine ops_ro' rfl (ro_move rfl) rfl ?_
              refine ops_ro' rfl (ro_move rfl) rfl ?_
              refine ops_ro' rfl (ro_add rfl rfl (show IntKind.i64.wrap (((1 + (((kidsN t.ns x).take i).map (tot t.ns (fun _ => 1) (5 - (k + 1)))).sum : Nat) : Int) + ((tot t.ns (fun _ => 1) (5 - (k + 1)) y : Nat) : Int)) = ((1 + (((kidsN t.ns x).take (i + 1)).map (tot t.ns (fun _ => 1) (5 - (k + 1)))).sum : Nat) : Int) by rw [wrap_i64_in (by omega) (by omega)]; omega)) rfl ?_
              refine ops_ro' rfl (ro_assign rfl) rfl ?_
              refine ops_nil ?_
              refine Then_normal ?_
              refine wp_region' ?_
              refine ops_ro' rfl (ro_move rfl) rfl ?_
              refine ops_ro' rfl (ro_move rfl) rfl ?_
              refine ops_ro' rfl (ro_add rfl rfl (show IntKind.i64.wrap ((((((kidsN t.ns x).take i).map (tot t.ns (fun y => y.data.length) (5 - (k + 1)))).sum : Nat) : Int) + ((tot t.ns (fun y => y.data.length) (5 - (k + 1)) y : Nat) : Int)) = (((((kidsN t.ns x).take (i + 1)).map (tot t.ns (fun y => y.data.length) (5 - (k + 1)))).sum : Nat) : Int) by rw [wrap_i64_in (by omega) (by omega)]; omega)) rfl ?_
              refine ops_ro' rfl (ro_assign rfl) rfl ?_
              refine ops_nil ?_
              refine InBlock_normal ?_
              refine Then_normal ?_
              refine wp_region' ?_
              refine ops_ro' rfl (ro_move rfl) rfl ?_
              refine ops_ro' rfl (ro_add rfl rfl (wrap_inc (by omega))) rfl ?_
              refine ops_ro' rfl (ro_assign rfl) rfl ?_
              refine ops_nil ?_
              refine Then_normal ?_
              refine back (m - 1) (by omega) (kept ⟨i + 1, by omega, rfl, rfl⟩ ?_ ?_ ?_)
              · exact (by repeat (first | exact Has.nil _ | refine Has.cons rfl ?_))
              · exact (by repeat (first | exact Has.nil _ | refine Has.cons rfl ?_))
              · exact (SubH.cons 2 rfl (SubH.cons 2 rfl (SubH.cons 2 rfl (SubH.nil _))))
      · replace hc66 := of_decide_eq_false hc66
        refine wp_exit' ?_
        refine Then_exit ?_
        refine Then_exit ?_
        refine InBlock_here ?_
        refine Then_normal ?_
        refine wp_seq' ?_
        refine wp_region' ?_
        refine ops_ro' rfl (ro_move rfl) rfl ?_
        refine ops_ro' rfl (ro_move rfl) rfl ?_
        refine ops_ro' rfl (ro_assign rfl) rfl ?_
        refine ops_ro' rfl (ro_assign rfl) rfl ?_
        refine ops_ro' rfl (ro_assign rfl) rfl ?_
        refine ops_nil ?_
        refine Then_normal ?_
        refine wp_ret' ?_
        refine' doneS_ret (res3 rfl rfl rfl rfl) ?_ ?_
        rotate_left 1
        exact ⟨_, ⟨by rw [hc, hs, List.take_of_length_le (by rw [kidsN_len hW.kd hx]; omega)], rfl⟩, rfl⟩
        exact (SubH.cons 2 rfl (SubH.nil _))
  · rw [kids_dir hW hx hd] at hc hs
    replace hc : tot t.ns (fun _ => 1) (5 - k) x = 1 := hc
    replace hs : tot t.ns (fun y => y.data.length) (5 - k) x = x.data.length := hs
    replace hd : x.dir = false := by simpa using hd
    refine tri_of_wpS Try.func20 rfl Try.ntmps20 (by simp) ?_
    refine wp_seq' ?_
    refine wp_region' ?_
    refine ops_ro' rfl (ro_assign rfl) rfl ?_
    refine ops_ro' rfl (ro_assign rfl) rfl ?_
    refine ops_ro' rfl (ro_assign rfl) rfl ?_
    refine ops_nil ?_
    refine Then_normal ?_
    refine wp_seq' ?_
    refine wp_region' ?_
    refine ops_ro' rfl (ro_move rfl) rfl ?_
    refine ops_ro' rfl (ro_move rfl) rfl ?_
    refine ops_eff' rfl (eff_call Try.call23 rfl rfl (by repeat (first | exact Split.nil _ | apply Split.cons 0 rfl | apply Split.cons 1 rfl | apply Split.cons 2 rfl | apply Split.cons 3 rfl | apply Split.cons 4 rfl | apply Split.cons 5 rfl | apply Split.cons 6 rfl | apply Split.cons 7 rfl | apply Split.cons 8 rfl | apply Split.cons 9 rfl | apply Split.cons 10 rfl | apply Split.cons 11 rfl)) (look_spec hT hW q cq p hV (by omega))) rfl ?_
    rintro _ H' ⟨_, ⟨_, ⟨rfl, rfl⟩, rfl⟩, hH⟩
    simp only [List.cons_append, List.nil_append, List.eraseIdx_cons_zero, List.eraseIdx_cons_succ, List.set_cons_zero, List.set_cons_succ] at hH
    subst hH
    rw [hf]
    dsimp only [lookO]
    refine ops_ro' rfl (ro_move rfl) rfl ?_
    refine ops_ro' rfl (ro_extract rfl rfl) rfl ?_
    refine ops_ro' rfl (ro_extract rfl rfl) rfl ?_
    refine ops_ro' rfl (ro_assign rfl) rfl ?_
    refine ops_ro' rfl (ro_assign rfl) rfl ?_
    refine ops_nil ?_
    refine Then_normal ?_
    refine wp_cutK 1003 (fun Δ LL => ∃ (b11 : Nat), Δ = [(11, .pointer (some ⟨b11, 0, none⟩)), (12, .int .i64 0)] ∧ LL = [own b11 (.cells (x.told).cs.toArray 40 (0, 0)), V]) (Has.cons (k := 0) rfl (Has.cons (k := 1) rfl (Has.cons (k := 2) rfl (Has.cons (k := 9) rfl (Has.cons (k := 10) rfl (Has.nil _)))))) ?_ ?_
    · refine wp_region' ?_
      refine ops_ro' rfl (ro_move rfl) rfl ?_
      refine ops_ro' rfl (ro_move rfl) rfl ?_
      refine ops_eff' rfl (eff_callM (Pre := []) Try.call17 rfl rfl (Split.nil _) (attrs_spec (by first | exact Tv.pick 0 rfl hT | exact Tv.pick 1 rfl hT | exact Tv.pick 2 rfl hT | exact Tv.pick 3 rfl hT | exact Tv.pick 4 rfl hT | exact Tv.pick 5 rfl hT | exact Tv.pick 6 rfl hT) x.id hdl)) rfl ?_
      rintro _ H' ⟨_, ⟨rfl, rfl⟩, hH⟩
      simp only [List.cons_append, List.nil_append, List.eraseIdx_cons_zero, List.eraseIdx_cons_succ, List.set_cons_zero, List.set_cons_succ] at hH
      subst hH
      rw [byId_of hW.ids hx]
      dsimp only [attO]
      refine ops_ro' rfl (ro_move rfl) rfl ?_
      refine ops_ro' rfl (ro_extract rfl rfl) rfl ?_
      refine ops_ro' rfl (ro_extract rfl rfl) rfl ?_
      refine ops_eff' rfl (eff_alloc z40) rfl ?_
      rintro _ _ ⟨b11, rfl, rfl⟩
      refine ops_eff0 rfl (eff_storeA 0 ag40 rfl rfl rfl rfl rfl (Nat.le_of_ble_eq_true rfl) (warm_zero _)) rfl ?_
      rintro _ _ rfl
      simp only [List.set_cons_zero, List.set_cons_succ]
      refine ops_ro' rfl (ro_assign rfl) rfl ?_
      refine ops_nil ?_
      refine Then_normal ?_
      refine over_cut (kept ⟨b11, rfl, rfl⟩ ?_ ?_ ?_)
      · exact (by repeat (first | exact Has.nil _ | refine Has.cons rfl ?_))
      · exact (by repeat (first | exact Has.nil _ | refine Has.cons rfl ?_))
      · exact SubH.refl _
    · rintro Δ LL ⟨b11, rfl, rfl⟩
      simp only [List.cons_append, List.nil_append]
      refine wp_seq' ?_
      refine wp_seq' ?_
      refine wp_region' ?_
      refine ops_ro' rfl (ro_move rfl) rfl ?_
      refine ops_ro' rfl (ro_neq rfl rfl (decide_eq_false (by omega))) rfl ?_
      refine ops_ro' rfl (ro_move (v := .bool false) rfl) rfl ?_
      refine ops_ro' rfl (ro_move rfl) rfl ?_
      refine ops_ro' rfl (ro_neq rfl rfl (decide_eq_false (by omega))) rfl ?_
      refine ops_ro' rfl (ro_pick rfl rfl) rfl ?_
      refine ops_ro' rfl (ro_move (v := .bool false) rfl) rfl ?_
      refine ops_ro' rfl (ro_move rfl) rfl ?_
      refine ops_ro' rfl (ro_gtr rfl rfl (decide_eq_false (by omega))) rfl ?_
      refine ops_ro' rfl (ro_pick rfl rfl) rfl ?_
      refine ops_nil ?_
      refine Then_normal ?_
      refine wp_condF rfl ?_
      refine wp_skip' ?_
      refine Then_normal ?_
      refine wp_seq' ?_
      refine wp_seq' ?_
      refine wp_region' ?_
      refine ops_ro' rfl (ro_move rfl) rfl ?_
      refine ops_ro' rfl (ro_move rfl) rfl ?_
      refine ops_eff' rfl (eff_callM (Pre := []) Try.call42 rfl rfl (Split.nil _) (dir_spec (by first | exact Tv.pick 0 rfl hT | exact Tv.pick 1 rfl hT | exact Tv.pick 2 rfl hT | exact Tv.pick 3 rfl hT | exact Tv.pick 4 rfl hT | exact Tv.pick 5 rfl hT | exact Tv.pick 6 rfl hT) x.id)) rfl ?_
      rintro _ H' ⟨_, ⟨rfl, rfl⟩, hH⟩
      simp only [List.cons_append, List.nil_append, List.eraseIdx_cons_zero, List.eraseIdx_cons_succ, List.set_cons_zero, List.set_cons_succ] at hH
      subst hH
      rw [byId_of hW.ids hx]
      dsimp only [dirO]
      rw [hd]
      refine ops_ro' rfl (ro_not rfl rfl) rfl ?_
      try simp only [Bool.not_true, Bool.not_false]
      refine ops_nil ?_
      refine Then_normal ?_
      refine wp_condT rfl ?_
      refine wp_seq' ?_
      refine wp_draw 4 (by kernel_rfl) (Split.all _) ?_
      refine any_ro' (i := 0) (by kernel_rfl) rfl rfl (ro_fieldAddr fa40_1 rfl) rfl (fun _ _ _ h => h) ?_
      refine any_ro' (i := 1) (by kernel_rfl) rfl rfl (ro_load sc34 rfl (Rd.pick 0 rfl (Rd.own rfl))) rfl (fun _ _ _ h => h) ?_
      refine any_ro' (i := 2) (by kernel_rfl) rfl rfl (ro_conv Try.underlying34 Try.underlying3 rfl (show IntKind.i64.wrap ((x.data.length : Nat) : Int) = ((x.data.length : Nat) : Int) by rw [wrap_i64_in (by omega) (by omega)])) rfl (fun _ _ _ h => h) ?_
      refine any_ro' (i := 3) (by kernel_rfl) rfl rfl (ro_assign rfl) rfl (fun _ _ _ h => h) ?_
      refine any_unlock (m' := 6) (L' := []) (by kernel_rfl) unlock ?_
      simp only [List.cons_append, List.nil_append, List.append_nil]
      refine any_ro' (i := 4) (by kernel_rfl) rfl rfl (ro_assign rfl) rfl (fun _ _ _ h => h) ?_
      refine any_ro' (i := 5) (by kernel_rfl) rfl rfl (ro_assign rfl) rfl (fun _ _ _ h => h) ?_
      refine any_doneH (by kernel_rfl) ?_
      refine Then_normal ?_
      refine wp_ret' ?_
      refine Then_ret ?_
      refine' doneS_ret (res3 rfl rfl rfl rfl) ?_ ?_
      rotate_left 1
      exact ⟨_, ⟨by rw [hc, hs]; rfl, rfl⟩, rfl⟩
      exact (SubH.cons 1 rfl (SubH.nil _))
theorem walk_all {t : Tr} {r : Nd} (hW : Wf t r) {d : Nat → Nat} (hD : Dp t.ns d) : ∀ j k, k + j = 6 → WalkOk t r k
  | 0, k, h => fun V q cq p x hT hV hpk hf => by
    have hx := fnd_mem hW.root hf
    have h1 := fnd_deep hD hW.root hf
    have h2 := hD.le x hx
    rw [hW.rid, hD.z] at h1; omega
  | j + 1, k, h => walk_step hW hD k (walk_all hW hD j (k + 1) (by omega))

end Go.Proofs.Ytbbmhppkhcodfaa
