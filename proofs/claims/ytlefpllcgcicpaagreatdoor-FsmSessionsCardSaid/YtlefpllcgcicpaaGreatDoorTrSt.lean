/-
  A tree as bytes: put, Save.
  A tree is loaded: Load.
  A tree and the document's that hold the same things: what they tell is the same.
  What is told of a thing is set: Set.
-/
import Derived.Test.YtlefpllcgcicpaaGreatDoorTrTb
import Derived.Test.YtlefpllcgcicpaaGreatDoorTrHw
import Derived.Test.YtlefpllcgcicpaaGreatDoorLib
import Derived.Test.YtlefpllcgcicpaaGreatDoorTrE1
import Derived.Test.YtlefpllcgcicpaaGreatDoorTrH
namespace Go.Proofs.YtlefpllcgcicpaaGreatDoor
open Go.Sx
set_option linter.unusedVariables false
set_option linter.unusedSimpArgs false
set_option maxRecDepth 100000
set_option maxHeartbeats 4000000

def PutOk (t : Tr) (n : Nat) : Prop := ∀ (V : HProp), Tv V t → ∀ x ∈ t.ns, Deep t.ns n x → ∀ (pw : Nat) (p : Option Addr) (c : Nat) (l : List UInt8), l.length + (encN t.ns n x).length ≤ 1000000000000 →
  Tri Tryz.prog 89 [.pointer (some ⟨pw, 0, none⟩), .pointer (some ⟨x.blk, 0, none⟩)] (wr pw p c l ++ [V]) (fun v H' => ∃ K, (∃ p' c', v = .tuple #[] ∧ K = wr pw p' c' (l ++ encN t.ns n x)) ∧ H' = K ++ [V])

end Go.Proofs.YtlefpllcgcicpaaGreatDoor
namespace Go.Proofs.YtlefpllcgcicpaaGreatDoor
open Go.Sx
set_option linter.unusedVariables false
set_option linter.unusedSimpArgs false
set_option maxRecDepth 100000
set_option maxHeartbeats 4000000

def LoadA : Option (Tr × Nd) → HProp
  | none => emp
  | some s => tree s.1
end Go.Proofs.YtlefpllcgcicpaaGreatDoor
namespace Go.Proofs.YtlefpllcgcicpaaGreatDoor
open Go.Sx
set_option linter.unusedVariables false
set_option linter.unusedSimpArgs false
set_option maxRecDepth 100000
set_option maxHeartbeats 4000000

/-- the same things, the same next number -/
structure RelW (t : Tr) (w : Rt) : Prop where
  pm : (t.ns.map Nd.co).Perm (w.L.map Th.co)
  nx : t.next = w.next
  f15 : ∀ y ∈ w.L, y.a.f = 15
  rn : ∀ y ∈ w.L, y.id = 0 → y.name = []
section
variable {t : Tr} {w : Rt} {r : Nd} (hW : Wf t r) (h : RelW t w)
include h
include hW
omit h in
/-- what is said of where a thing would be put -/
def holdZ : (Option Nd × Nat) × Int → Int × Int
  | ((some y, _), _) => (y.id, 0)
  | ((none, _), e) => (0, e)
omit hW h in
omit hW h in
omit hW h in
omit hW h in
end

end Go.Proofs.YtlefpllcgcicpaaGreatDoor
namespace Go.Proofs.YtlefpllcgcicpaaGreatDoor
open Go.Sx
set_option linter.unusedVariables false
set_option linter.unusedSimpArgs false
set_option maxRecDepth 100000
set_option maxHeartbeats 4000000

def attF (a : At) (y : Nd) : Nd := { y with a := a }
theorem attF_keeps (a : At) : Keeps (attF a) := ⟨fun _ => rfl, fun _ => rfl, fun _ => rfl, fun _ => rfl⟩
/-- this is told of x -/
def attT (t : Tr) (x : Nd) (a : At) : Tr := { t with ns := turnB x.blk (attF a) t.ns }
theorem nd_own {b : Nat} {x : Nd} : RdN (own b (.cells (Nd.cs x).toArray 98 (0, 0))) b (0 + 5) x.a.cs := fun j v hj => by
  refine Rd.own ?_
  rw [Nd.cs, Nat.zero_add, List.getElem?_append_right (by simp)]
  simpa using hj
theorem att_close {t : Tr} {x : Nd} {ix : Nat} {a : At} (hb : (t.ns.map Nd.blk).Nodup) (h : t.ns[ix]? = some x) {w : World} {F : HProp}
    (s : sat w (star (St [own x.blk (.cells (Nd.cs (attF a x)).toArray 98 (0, 0)), rowP x.kp x.kc x.kids, rowD x.dp x.dc x.data, nds (t.ns.eraseIdx ix), own t.tb (.cells ([.pointer (some ⟨t.rb, 0, none⟩), .map (some t.mb), .int .i64 ((t.next : Nat) : Int), .int .i64 ((t.bytes : Nat) : Int)] : List Value).toArray 95 (0, 0)), own t.mb (mapO (t.ns.map Nd.me) t.ck)]) F)) : sat w (star (St [tree (attT t x a)]) F) := by
  have s1 := nds_cl (y := attF a x) h s
  rw [set_turn hb h, ← turn_me (f := attF a) (fun _ => rfl) x.blk t.ns] at s1
  refine tree_shut (t := attT t x a) (L := []) ?_
  have hs : SubH [nds (turnB x.blk (attF a) t.ns), own t.tb (.cells ([.pointer (some ⟨t.rb, 0, none⟩), .map (some t.mb), .int .i64 ((t.next : Nat) : Int), .int .i64 ((t.bytes : Nat) : Int)] : List Value).toArray 95 (0, 0)), own t.mb (mapO ((turnB x.blk (attF a) t.ns).map Nd.me) t.ck)] (trL (attT t x a) ++ []) := SubH.cons 1 rfl (SubH.cons 1 rfl (SubH.cons 0 rfl (SubH.nil _)))
  exact hs w F s1
theorem wf_att {t : Tr} {r x : Nd} {a : At} (hW : Wf t r) (ha : a.Ok ∧ a.s = 0) : Wf (attT t x a) (if r.blk = x.blk then attF a r else r) := by
  have hF := attF_keeps a
  have same : ∀ y : Nd, (if y.blk = x.blk then attF a y else y).dir = y.dir ∧ (if y.blk = x.blk then attF a y else y).data = y.data ∧ ((if y.blk = x.blk then attF a y else y).a = y.a ∨ (if y.blk = x.blk then attF a y else y).a = a) := fun y => by
    split
    · exact ⟨rfl, rfl, .inr rfl⟩
    · exact ⟨rfl, rfl, .inl rfl⟩
  have gof : ∀ u ∈ (attT t x a).ns, ∃ y ∈ t.ns, u = (if y.blk = x.blk then attF a y else y) := fun u hu => turn_mem hu
  refine ⟨kd_turn hF (fun _ => rfl) x.blk hW.kd, turn_in hW.root, by rw [(turn_eq hF r).1]; exact hW.rb, by rw [(turn_eq hF r).2.1]; exact hW.rid, by rw [(turn_eq hF r).2.2.1]; exact hW.rpar, by rw [(same r).1]; exact hW.rdir, ?_, fun u hu => ?_, fun u hu => ?_, fun u hu => ?_, ?_, ?_, fun u hu hdu => ?_, ?_, hW.max, fun u hu => ?_⟩
  · show ((turnB x.blk _ t.ns).map Nd.id).Nodup
    have e1 : (turnB x.blk (attF a) t.ns).map Nd.id = t.ns.map Nd.id := by
      unfold turnB; rw [List.map_map]
      exact List.map_congr_left fun y _ => (turn_eq hF y).2.1
    rw [e1]; exact hW.ids
  · obtain ⟨y, hy, rfl⟩ := gof u hu
    rw [(turn_eq hF y).2.1]; exact hW.lt y hy
  · obtain ⟨y, hy, rfl⟩ := gof u hu
    rw [(turn_eq hF y).2.1, (turn_eq hF y).2.2.1]
    rcases hW.par y hy with h1 | ⟨v, h1, h2, h3⟩
    · exact .inl h1
    · exact .inr ⟨_, turn_in h1, by rw [(turn_eq hF v).2.1]; exact h2, by rw [(same v).1]; exact h3⟩
  · obtain ⟨y, hy, rfl⟩ := gof u hu
    rw [(turn_eq hF y).2.1, (turn_eq hF y).2.2.2]; exact hW.nm y hy
  · obtain ⟨d, hd1⟩ := hW.rk
    refine ⟨d, fun u hu v hv hp => ?_⟩
    obtain ⟨y, hy, rfl⟩ := gof u hu
    obtain ⟨z, hz, rfl⟩ := gof v hv
    rw [(turn_eq hF z).2.2.1, (turn_eq hF y).2.1] at hp
    rw [(turn_eq hF z).2.1, (turn_eq hF y).2.1]
    exact hd1 y hy z hz hp
  · show (turnB x.blk _ t.ns).length ≤ 200
    rw [turnB, List.length_map]; exact hW.few
  · obtain ⟨y, hy, rfl⟩ := gof u hu
    rw [(same y).1] at hdu
    rw [(same y).2.1]; exact hW.dat y hy hdu
  · show t.bytes = ((turnB x.blk (attF a) t.ns).map fun y : Nd => y.data.length).sum
    rw [hW.sum]; congr 1
    unfold turnB; rw [List.map_map]
    exact List.map_congr_left fun y _ => by show _ = (if y.blk = x.blk then attF a y else y).data.length; rw [(same y).2.1]
  · obtain ⟨y, hy, rfl⟩ := gof u hu
    rcases (same y).2.2 with h | h
    · rw [h]; exact hW.a y hy
    · rw [h]; exact ha
/-- the file has its size -/
structure SetP (t : Tr) (x : Nd) (bw : At) (t1 : Tr) (x1 : Nd) (ix : Nat) : Prop where
  at' : t1.ns[ix]? = some x1
  blk : x1.blk = x.blk
  a : x1.a = x.a
  ok : x1.a.Ok
  blks : (t1.ns.map Nd.blk).Nodup
  ri : bw.right = true
  fin : (bw.f &&& 1 ≠ 0 ∧ x.dir = false ∧ szE t x bw.s = 0 ∧ ∃ b, t1 = dataT t x (some ⟨b, 0, none⟩) bw.s (szd x.data bw.s) ∧ x1 = datF (some ⟨b, 0, none⟩) bw.s (szd x.data bw.s) x) ∨ (bw.f &&& 1 = 0 ∧ t1 = t ∧ x1 = x)
theorem setP_data {t : Tr} {r x : Nd} {bw : At} {ix b : Nat} (hW : Wf t r) (hix : t.ns[ix]? = some x) (hr : bw.right = true) (hf : bw.f &&& 1 ≠ 0) (hd : x.dir = false) (hz : szE t x bw.s = 0) : SetP t x bw (dataT t x (some ⟨b, 0, none⟩) bw.s (szd x.data bw.s)) (datF (some ⟨b, 0, none⟩) bw.s (szd x.data bw.s) x) ix :=
  ⟨data_at hW.kd.blks hix, rfl, rfl, (hW.a x (List.mem_of_getElem? hix)).1, by show ((turnB x.blk _ t.ns).map Nd.blk).Nodup; rw [turn_blk (datF_keeps _ _ _)]; exact hW.kd.blks, hr, .inl ⟨hf, hd, hz, b, rfl, rfl⟩⟩
theorem setP_same {t : Tr} {r x : Nd} {bw : At} {ix : Nat} (hW : Wf t r) (hix : t.ns[ix]? = some x) (hr : bw.right = true) (hf : bw.f &&& 1 = 0) : SetP t x bw t x ix :=
  ⟨hix, rfl, rfl, (hW.a x (List.mem_of_getElem? hix)).1, hW.kd.blks, hr, .inr ⟨hf, rfl, rfl⟩⟩
def SetR (t : Tr) (id : Int) (bw : At) (t' : Tr) (e : Int) : Prop :=
  (byId t.ns id = none ∧ e = 22 ∧ t' = t) ∨ ∃ x, byId t.ns id = some x ∧
    ((bw.right = false ∧ e = 1 ∧ t' = t) ∨ (bw.right = true ∧ bw.f &&& 1 ≠ 0 ∧ x.dir = true ∧ e = 23 ∧ t' = t) ∨ (bw.right = true ∧ bw.f &&& 1 ≠ 0 ∧ x.dir = false ∧ szE t x bw.s = e ∧ e ≠ 0 ∧ t' = t) ∨
     (bw.right = true ∧ e = 0 ∧ ∃ t1 x1, ((bw.f &&& 1 ≠ 0 ∧ x.dir = false ∧ szE t x bw.s = 0 ∧ ∃ b, t1 = dataT t x (some ⟨b, 0, none⟩) bw.s (szd x.data bw.s) ∧ x1 = datF (some ⟨b, 0, none⟩) bw.s (szd x.data bw.s) x) ∨ (bw.f &&& 1 = 0 ∧ t1 = t ∧ x1 = x)) ∧ x1.blk = x.blk ∧ x1.a = x.a ∧ t' = attT t1 x1 ({ x1.a.merge bw with s := 0 } : At)))
theorem szE_max {t : Tr} {x : Nd} {n : Nat} (h : szE t x n = 0) : n ≤ 1048576 ∧ t.bytes + n - x.data.length ≤ 1048576 := by
  unfold szE at h
  split at h
  · cases h
  · split at h
    · cases h
    · omega
theorem set_wf {t : Tr} {r : Nd} {id : Int} {bw : At} {t' : Tr} {e : Int} (hW : Wf t r) (hbw : bw.Ok) (h : SetR t id bw t' e) : (∃ r', Wf t' r') ∧ t'.next = t.next ∧ t'.tb = t.tb ∧ (e ≠ 0 → t' = t) := by
  rcases h with ⟨_, rfl, rfl⟩ | ⟨x, hb, ⟨_, rfl, rfl⟩ | ⟨_, _, _, rfl, rfl⟩ | ⟨_, _, _, _, he, rfl⟩ | ⟨_, rfl, t1, x1, h1, h2, h3, rfl⟩⟩
  · exact ⟨⟨r, hW⟩, rfl, rfl, fun _ => rfl⟩
  · exact ⟨⟨r, hW⟩, rfl, rfl, fun _ => rfl⟩
  · exact ⟨⟨r, hW⟩, rfl, rfl, fun _ => rfl⟩
  · exact ⟨⟨r, hW⟩, rfl, rfl, fun _ => rfl⟩
  · have hx := (byId_some hb).1
    have ha : (({ x1.a.merge bw with s := 0 } : At)).Ok ∧ (({ x1.a.merge bw with s := 0 } : At)).s = 0 := by
      have := merge_ok (by rw [h3]; exact (hW.a x hx).1 : x1.a.Ok) hbw
      exact ⟨⟨this.f, (by show (0 : Nat) < 18446744073709551616; decide), this.u, this.g, this.m, this.a, this.t⟩, rfl⟩
    rcases h1 with ⟨_, hd, hz, b, rfl, rfl⟩ | ⟨_, rfl, rfl⟩
    · have hm := szE_max hz
      exact ⟨⟨_, wf_att (wf_data hW hx hd (by rw [szd_len]; exact hm.2)) ha⟩, rfl, rfl, fun h => absurd rfl h⟩
    · exact ⟨⟨_, wf_att hW ha⟩, rfl, rfl, fun h => absurd rfl h⟩
theorem set_spec {t : Tr} {r : Nd} (hW : Wf t r) (id : Int) (bw : At) (hbw : bw.Ok) : Tri Tryz.prog 35 [t.v, .int .i64 id, bw.v] [tree t] (fun v H' => ∃ t' e, v = .int .i64 e ∧ SetR t id bw t' e ∧ H' = [tree t']) := by
  cases hb : byId t.ns id with
  | none =>
    refine tri_of_wpS Tryz.func35 rfl Tryz.ntmps35 (by simp) ?_
    refine wp_seq' ?_
    refine wp_region' ?_
    refine ops_eff' rfl (eff_box rfl) rfl ?_
    rintro _ _ ⟨b5, rfl, rfl⟩
    refine ops_ro' rfl (ro_assign rfl) rfl ?_
    refine ops_nil ?_
    refine Then_normal ?_
    refine wp_seq' ?_
    refine wp_region' ?_
    refine ops_ro' rfl (ro_move rfl) rfl ?_
    refine ops_ro' rfl (ro_nilCheck rfl) rfl ?_
    refine ops_ro' rfl (ro_fieldAddr fa95_1 rfl) rfl ?_
    refine ops_ro' rfl (ro_load sc93 rfl (Rd.pick 1 rfl (((tree_tv t).cs 1 _ rfl)))) rfl ?_
    refine ops_ro' rfl (ro_move rfl) rfl ?_
    refine ops_ro' rfl (ro_lookup Tryz.underlying93 Tryz.underlying3 z92 rfl rfl (Mp.pick 1 rfl (tree_tv t).mp)) rfl ?_
    rw [mget_ns, hb]
    dsimp only [ptrO, Option.map]
    refine ops_ro' rfl (ro_assign rfl) rfl ?_
    refine ops_nil ?_
    refine Then_normal ?_
    refine wp_seq' ?_
    refine wp_block' ?_
    refine wp_seq' ?_
    refine wp_region' ?_
    refine ops_ro' rfl (ro_move rfl) rfl ?_
    refine ops_ro' rfl (ro_ptrEqlNil Tryz.underlying92 rfl rfl rfl) rfl ?_
    refine ops_ro' rfl (ro_assign rfl) rfl ?_
    refine ops_nil ?_
    refine Then_normal ?_
    refine wp_condT rfl ?_
    refine wp_seq' ?_
    refine wp_region' ?_
    refine ops_ro' rfl (ro_assign rfl) rfl ?_
    refine ops_nil ?_
    refine Then_normal ?_
    refine wp_ret' ?_
    refine InBlock_ret ?_
    refine Then_ret ?_
    refine' doneS_ret (res1 rfl rfl) ?_ ?_
    rotate_left 1
    exact ⟨t, 22, rfl, .inl ⟨hb, rfl, rfl⟩, rfl⟩
    exact (SubH.cons 1 rfl (SubH.nil _))
  | some x =>
    have hx := (byId_some hb).1
    obtain ⟨ix, hix⟩ := List.mem_iff_getElem?.1 hx
    refine tri_of_wpS Tryz.func35 rfl Tryz.ntmps35 (by simp) ?_
    refine wp_seq' ?_
    refine wp_region' ?_
    refine ops_eff' rfl (eff_box rfl) rfl ?_
    rintro _ _ ⟨b5, rfl, rfl⟩
    refine ops_ro' rfl (ro_assign rfl) rfl ?_
    refine ops_nil ?_
    refine Then_normal ?_
    refine wp_seq' ?_
    refine wp_region' ?_
    refine ops_ro' rfl (ro_move rfl) rfl ?_
    refine ops_ro' rfl (ro_nilCheck rfl) rfl ?_
    refine ops_ro' rfl (ro_fieldAddr fa95_1 rfl) rfl ?_
    refine ops_ro' rfl (ro_load sc93 rfl (Rd.pick 1 rfl (((tree_tv t).cs 1 _ rfl)))) rfl ?_
    refine ops_ro' rfl (ro_move rfl) rfl ?_
    refine ops_ro' rfl (ro_lookup Tryz.underlying93 Tryz.underlying3 z92 rfl rfl (Mp.pick 1 rfl (tree_tv t).mp)) rfl ?_
    rw [mget_ns, hb]
    dsimp only [ptrO, Option.map]
    refine ops_ro' rfl (ro_assign rfl) rfl ?_
    refine ops_nil ?_
    refine Then_normal ?_
    refine wp_cutK 1008 (fun Δ LL => (bw.right = true ∧ (bw.f &&& 1 ≠ 0 → x.dir = false)) ∧ Δ = [] ∧ LL = [own b5 (.cells bw.cs.toArray 30 (0, 0)), tree t]) (Has.cons (k := 0) rfl (Has.cons (k := 5) rfl (Has.cons (k := 7) rfl (Has.nil _)))) ?_ ?_
    · refine wp_block' ?_
      refine wp_seq' ?_
      refine wp_region' ?_
      refine ops_ro' rfl (ro_move rfl) rfl ?_
      refine ops_ro' rfl (ro_ptrEqlNil Tryz.underlying92 rfl rfl rfl) rfl ?_
      refine ops_ro' rfl (ro_assign rfl) rfl ?_
      refine ops_nil ?_
      refine Then_normal ?_
      refine wp_condF rfl ?_
      refine wp_seq' ?_
      refine wp_region' ?_
      refine ops_ro' rfl (ro_loadA ag30 rfl (RdN.of_pick 0 rfl rdn_all) rfl) rfl ?_
      refine ops_eff' rfl (eff_call Tryz.call30 rfl rfl (by repeat (first | exact Split.nil _ | apply Split.cons 0 rfl | apply Split.cons 1 rfl | apply Split.cons 2 rfl | apply Split.cons 3 rfl | apply Split.cons 4 rfl | apply Split.cons 5 rfl | apply Split.cons 6 rfl | apply Split.cons 7 rfl | apply Split.cons 8 rfl | apply Split.cons 9 rfl | apply Split.cons 10 rfl | apply Split.cons 11 rfl)) (right_spec bw hbw)) rfl ?_
      rintro _ H' ⟨_, ⟨rfl, rfl⟩, hH⟩
      simp only [List.cons_append, List.nil_append, List.eraseIdx_cons_zero, List.eraseIdx_cons_succ, List.set_cons_zero, List.set_cons_succ] at hH
      subst hH
      refine ops_ro' rfl (ro_not rfl rfl) rfl ?_
      refine ops_ro' rfl (ro_assign rfl) rfl ?_
      refine ops_nil ?_
      refine Then_normal ?_
      refine wp_cond' rfl (fun hc18 => ?_) (fun hc18 => ?_)
      · simp only [Bool.and_eq_true, decide_eq_true_eq, Bool.not_eq_true', decide_eq_false_iff_not, bne_iff_ne, ne_eq] at hc18
        have hr : bw.right = false := by simpa using hc18
        refine wp_seq' ?_
        refine wp_region' ?_
        refine ops_ro' rfl (ro_assign rfl) rfl ?_
        refine ops_nil ?_
        refine Then_normal ?_
        refine wp_ret' ?_
        refine InBlock_ret ?_
        refine Then_ret ?_
        refine' doneS_ret (res1 rfl rfl) ?_ ?_
        rotate_left 1
        exact ⟨t, 1, rfl, .inr ⟨x, hb, .inl ⟨hr, rfl, rfl⟩⟩, rfl⟩
        exact (SubH.cons 1 rfl (SubH.nil _))
      · simp only [Bool.and_eq_false_iff, decide_eq_false_iff_not, Bool.not_eq_false', decide_eq_true_eq] at hc18
        have hr : bw.right = true := by simpa using hc18
        refine wp_seq' ?_
        refine wp_region' ?_
        refine ops_ro' rfl (ro_fieldAddr fa30_0 rfl) rfl ?_
        refine ops_ro' rfl (ro_load sc27 rfl (Rd.pick 0 rfl (Rd.own rfl))) rfl ?_
        refine ops_ro' rfl (ro_and rfl rfl (and32 hbw.f (by decide) rfl)) rfl ?_
        refine ops_ro' rfl (ro_neq rfl rfl rfl) rfl ?_
        refine ops_split rfl rfl rfl (fun hg27 => ?_) (fun hg27 => ?_)
        · replace hg27 := of_decide_eq_true hg27
          dsimp only at hg27
          refine ops_ro' rfl (ro_move rfl) rfl ?_
          refine ops_ro' rfl (ro_nilCheck rfl) rfl ?_
          refine ops_ro' rfl (ro_fieldAddr fa98_1 rfl) rfl ?_
          refine ops_ro' rfl (ro_load sc4 rfl (Rd.pick 1 rfl (((tree_tv t).nd x hx 1 _ rfl)))) rfl ?_
          refine ops_ro' rfl (ro_pick rfl rfl) rfl ?_
          refine ops_ro' rfl (ro_assign rfl) rfl ?_
          refine ops_nil ?_
          refine Then_normal ?_
          refine wp_cond' rfl (fun hc22 => ?_) (fun hc22 => ?_)
          · skip
            refine wp_seq' ?_
            refine wp_region' ?_
            refine ops_ro' rfl (ro_assign rfl) rfl ?_
            refine ops_nil ?_
            refine Then_normal ?_
            refine wp_ret' ?_
            refine InBlock_ret ?_
            refine Then_ret ?_
            refine' doneS_ret (res1 rfl rfl) ?_ ?_
            rotate_left 1
            exact ⟨t, 23, rfl, .inr ⟨x, hb, .inr (.inl ⟨hr, by omega, by simpa using hc22, rfl, rfl⟩)⟩, rfl⟩
            exact (SubH.cons 1 rfl (SubH.nil _))
          · skip
            refine wp_skip' ?_
            refine InBlock_normal ?_
            refine Then_normal ?_
            refine over_cut (kept ⟨⟨hr, fun _ => by simpa using hc22⟩, rfl, rfl⟩ ?_ ?_ ?_)
            · exact (by repeat (first | exact Has.nil _ | refine Has.cons rfl ?_))
            · exact (by repeat (first | exact Has.nil _ | refine Has.cons rfl ?_))
            · exact SubH.refl _
        · replace hg27 := of_decide_eq_false hg27
          dsimp only at hg27
          refine ops_skip' rfl rfl ?_
          refine ops_skip' rfl rfl ?_
          refine ops_skip' rfl rfl ?_
          refine ops_skip' rfl rfl ?_
          refine ops_ro' rfl (ro_pick rfl rfl) rfl ?_
          refine ops_ro' rfl (ro_assign rfl) rfl ?_
          refine ops_nil ?_
          refine Then_normal ?_
          refine wp_condF rfl ?_
          refine wp_skip' ?_
          refine InBlock_normal ?_
          refine Then_normal ?_
          refine over_cut (kept ⟨⟨hr, fun h => absurd h (by omega)⟩, rfl, rfl⟩ ?_ ?_ ?_)
          · exact (by repeat (first | exact Has.nil _ | refine Has.cons rfl ?_))
          · exact (by repeat (first | exact Has.nil _ | refine Has.cons rfl ?_))
          · exact SubH.refl _
    · rintro Δ LL ⟨⟨hr, hq⟩, rfl, rfl⟩
      simp only [List.cons_append, List.nil_append]
      refine wp_cutK 1012 (fun Δ LL => ∃ (t1 : Tr) (x1 : Nd), (SetP t x bw t1 x1 ix) ∧ Δ = [] ∧ LL = [own b5 (.cells bw.cs.toArray 30 (0, 0)), tree t1]) (Has.cons (k := 5) rfl (Has.cons (k := 7) rfl (Has.nil _))) ?_ ?_
      · refine wp_seq' ?_
        refine wp_region' ?_
        refine ops_ro' rfl (ro_fieldAddr fa30_0 rfl) rfl ?_
        refine ops_ro' rfl (ro_load sc27 rfl (Rd.pick 0 rfl (Rd.own rfl))) rfl ?_
        refine ops_ro' rfl (ro_and rfl rfl (and32 hbw.f (by decide) rfl)) rfl ?_
        refine ops_ro' rfl (ro_neq rfl rfl rfl) rfl ?_
        refine ops_nil ?_
        refine Then_normal ?_
        refine wp_cond' rfl (fun hc36 => ?_) (fun hc36 => ?_)
        · replace hc36 := of_decide_eq_true hc36
          dsimp only at hc36
          have hd : x.dir = false := hq (by omega)
          refine wp_seq' ?_
          refine wp_region' ?_
          refine ops_ro' rfl (ro_move rfl) rfl ?_
          refine ops_ro' rfl (ro_move rfl) rfl ?_
          refine ops_ro' rfl (ro_fieldAddr fa30_1 rfl) rfl ?_
          refine ops_ro' rfl (ro_load sc28 rfl (Rd.pick 0 rfl (Rd.own rfl))) rfl ?_
          refine ops_eff' rfl (eff_call Tryz.call79 rfl rfl (by repeat (first | exact Split.nil _ | apply Split.cons 0 rfl | apply Split.cons 1 rfl | apply Split.cons 2 rfl | apply Split.cons 3 rfl | apply Split.cons 4 rfl | apply Split.cons 5 rfl | apply Split.cons 6 rfl | apply Split.cons 7 rfl | apply Split.cons 8 rfl | apply Split.cons 9 rfl | apply Split.cons 10 rfl | apply Split.cons 11 rfl)) (sized_spec hW hx bw.s hbw.s)) rfl ?_
          rintro _ H' ⟨_, ⟨t1, e, rfl, hR, rfl⟩, hH⟩
          simp only [List.cons_append, List.nil_append, List.eraseIdx_cons_zero, List.eraseIdx_cons_succ, List.set_cons_zero, List.set_cons_succ] at hH
          subst hH
          refine ops_ro' rfl (ro_assign rfl) rfl ?_
          refine ops_nil ?_
          refine Then_normal ?_
          refine wp_seq' ?_
          refine wp_region' ?_
          refine ops_ro' rfl (ro_move rfl) rfl ?_
          refine ops_ro' rfl (ro_neq rfl rfl rfl) rfl ?_
          refine ops_nil ?_
          refine Then_normal ?_
          refine wp_cond' rfl (fun hc43 => ?_) (fun hc43 => ?_)
          · replace hc43 := of_decide_eq_true hc43
            refine wp_seq' ?_
            refine wp_region' ?_
            refine ops_ro' rfl (ro_move rfl) rfl ?_
            refine ops_ro' rfl (ro_assign rfl) rfl ?_
            refine ops_nil ?_
            refine Then_normal ?_
            refine wp_ret' ?_
            refine Then_ret ?_
            refine' doneS_ret (res1 rfl rfl) ?_ ?_
            rotate_left 1
            rcases hR with ⟨h1, rfl, h3⟩ | ⟨h1, _⟩
            · exact ⟨_, e, rfl, .inr ⟨x, hb, .inr (.inr (.inl ⟨hr, by omega, hd, h3, h1, rfl⟩))⟩, rfl⟩
            · exact absurd h1 (by omega)
            exact (SubH.cons 0 rfl (SubH.nil _))
          · replace hc43 := of_decide_eq_false hc43
            obtain ⟨hz, b0, rfl⟩ : szE t x bw.s = 0 ∧ ∃ b0, t1 = dataT t x (some ⟨b0, 0, none⟩) bw.s (szd x.data bw.s) := by
              rcases hR with ⟨h1, _⟩ | ⟨_, h2⟩
              · exact absurd h1 (by omega)
              · exact h2
            refine wp_skip' ?_
            refine Then_normal ?_
            refine over_cut (kept ⟨dataT t x (some ⟨b0, 0, none⟩) bw.s (szd x.data bw.s), datF (some ⟨b0, 0, none⟩) bw.s (szd x.data bw.s) x, (setP_data hW hix hr (by omega) hd hz), rfl, rfl⟩ ?_ ?_ ?_)
            · exact (by repeat (first | exact Has.nil _ | refine Has.cons rfl ?_))
            · exact (by repeat (first | exact Has.nil _ | refine Has.cons rfl ?_))
            · exact (SubH.cons 1 rfl (SubH.cons 0 rfl (SubH.nil _)))
        · replace hc36 := of_decide_eq_false hc36
          dsimp only at hc36
          refine wp_skip' ?_
          refine Then_normal ?_
          refine over_cut (kept ⟨t, x, (setP_same hW hix hr (by omega)), rfl, rfl⟩ ?_ ?_ ?_)
          · exact (by repeat (first | exact Has.nil _ | refine Has.cons rfl ?_))
          · exact (by repeat (first | exact Has.nil _ | refine Has.cons rfl ?_))
          · exact SubH.refl _
      · rintro Δ LL ⟨t1, x1, hP, rfl, rfl⟩
        simp only [List.cons_append, List.nil_append]
        refine wp_seq' ?_
        rw [← hP.blk]
        refine wp_sub' (L := [tree t1, own b5 (.cells bw.cs.toArray 30 (0, 0))]) (by repeat (first | exact SubH.nil _ | refine SubH.cons 0 rfl ?_ | refine SubH.cons 1 rfl ?_ | refine SubH.cons 2 rfl ?_ | refine SubH.cons 3 rfl ?_ | refine SubH.cons 4 rfl ?_ | refine SubH.cons 5 rfl ?_ | refine SubH.cons 6 rfl ?_ | refine SubH.cons 7 rfl ?_ | refine SubH.cons 8 rfl ?_ | refine SubH.cons 9 rfl ?_ | refine SubH.cons 10 rfl ?_ | refine SubH.cons 11 rfl ?_ | refine SubH.cons 12 rfl ?_ | refine SubH.cons 13 rfl ?_ | refine SubH.rown ?_)) ?_
        refine wp_heap (H' := trL t1 ++ [own b5 (.cells bw.cs.toArray 30 (0, 0))]) (fun w F s => tree_open s) ?_
        simp only [trL, List.cons_append, List.nil_append]
        refine wp_sub' (L := [nds t1.ns, own t1.tb (.cells ([.pointer (some ⟨t1.rb, 0, none⟩), .map (some t1.mb), .int .i64 ((t1.next : Nat) : Int), .int .i64 ((t1.bytes : Nat) : Int)] : List Value).toArray 95 (0, 0)), own t1.mb (mapO (t1.ns.map Nd.me) t1.ck), own b5 (.cells bw.cs.toArray 30 (0, 0))]) (by repeat (first | exact SubH.nil _ | refine SubH.cons 0 rfl ?_ | refine SubH.cons 1 rfl ?_ | refine SubH.cons 2 rfl ?_ | refine SubH.cons 3 rfl ?_ | refine SubH.cons 4 rfl ?_ | refine SubH.cons 5 rfl ?_ | refine SubH.cons 6 rfl ?_ | refine SubH.cons 7 rfl ?_ | refine SubH.cons 8 rfl ?_ | refine SubH.cons 9 rfl ?_ | refine SubH.cons 10 rfl ?_ | refine SubH.cons 11 rfl ?_ | refine SubH.cons 12 rfl ?_ | refine SubH.cons 13 rfl ?_ | refine SubH.rown ?_)) ?_
        refine wp_heap (fun w F s => nds_op hP.at' s) ?_
        refine wp_draw 7 (by kernel_rfl) (Split.cons 0 rfl (Split.cons 5 rfl (Split.nil _))) ?_
        refine any_ro' (i := 0) (by kernel_rfl) rfl rfl (ro_move rfl) rfl (fun _ _ _ h => h) ?_
        refine any_ro' (i := 1) (by kernel_rfl) rfl rfl (ro_move rfl) rfl (fun _ _ _ h => h) ?_
        refine any_ro' (i := 2) (by kernel_rfl) rfl rfl (ro_nilCheck rfl) rfl (fun _ _ _ h => h) ?_
        refine any_ro' (i := 3) (by kernel_rfl) rfl rfl (ro_fieldAddr fa98_5 rfl) rfl (fun _ _ _ h => h) ?_
        refine any_ro' (i := 4) (by kernel_rfl) rfl rfl (ro_loadA ag30 rfl (RdN.of_pick 0 rfl (nd_own)) rfl) rfl (fun _ _ _ h => h) ?_
        refine any_ro' (i := 5) (by kernel_rfl) rfl rfl (ro_loadA ag30 rfl (RdN.of_pick 1 rfl rdn_all) rfl) rfl (fun _ _ _ h => h) ?_
        refine any_eff' (i := 6) (by kernel_rfl) rfl rfl (eff_call Tryz.call80 rfl rfl (by repeat (first | exact Split.nil _ | apply Split.cons 0 rfl | apply Split.cons 1 rfl | apply Split.cons 2 rfl | apply Split.cons 3 rfl | apply Split.cons 4 rfl | apply Split.cons 5 rfl | apply Split.cons 6 rfl | apply Split.cons 7 rfl | apply Split.cons 8 rfl | apply Split.cons 9 rfl | apply Split.cons 10 rfl | apply Split.cons 11 rfl)) (merge_spec x1.a bw hP.ok hbw)) rfl ?_
        rintro _ H' ⟨_, ⟨rfl, rfl⟩, hH⟩
        simp only [List.cons_append, List.nil_append, List.eraseIdx_cons_zero, List.eraseIdx_cons_succ, List.set_cons_zero, List.set_cons_succ] at hH
        subst hH
        refine any_unlock (m' := 10) (L' := []) (by kernel_rfl) unlock ?_
        simp only [List.cons_append, List.nil_append, List.append_nil]
        refine any_ro' (i := 7) (by kernel_rfl) rfl rfl (ro_nilCheck rfl) rfl (fun _ _ _ h => h) ?_
        refine any_ro' (i := 8) (by kernel_rfl) rfl rfl (ro_fieldAddr fa98_5 rfl) rfl (fun _ _ _ h => h) ?_
        refine any_eff0 (i := 9) (by kernel_rfl) rfl rfl (eff_storeA 0 ag30 rfl rfl rfl rfl rfl (Nat.le_of_ble_eq_true rfl) (warm_zero _)) rfl ?_
        rintro _ _ rfl
        refine any_doneH (by kernel_rfl) ?_
        refine Then_normal ?_
        refine wp_seq' ?_
        refine wp_region' ?_
        refine ops_ro' rfl (ro_move rfl) rfl ?_
        refine ops_ro' rfl (ro_nilCheck rfl) rfl ?_
        refine ops_ro' rfl (ro_fieldAddr fa98_5 rfl) rfl ?_
        refine ops_ro' rfl (ro_fieldAddr fa30_1 rfl) rfl ?_
        refine ops_eff0 rfl (eff_store 0 sc28 rfl rfl rfl rfl (Nat.le_of_ble_eq_true rfl) (warm_zero _)) rfl ?_
        rintro _ _ rfl
        refine ops_nil ?_
        refine Then_normal ?_
        refine wp_seq' ?_
        refine wp_sub' (L := [own x1.blk (.cells (Nd.cs (attF ({ x1.a.merge bw with s := 0 } : At) x1)).toArray 98 (0, 0)), rowP x1.kp x1.kc x1.kids, rowD x1.dp x1.dc x1.data, nds (t1.ns.eraseIdx ix), own t1.tb (.cells ([.pointer (some ⟨t1.rb, 0, none⟩), .map (some t1.mb), .int .i64 ((t1.next : Nat) : Int), .int .i64 ((t1.bytes : Nat) : Int)] : List Value).toArray 95 (0, 0)), own t1.mb (mapO (t1.ns.map Nd.me) t1.ck)]) (by repeat (first | exact SubH.nil _ | refine SubH.cons 0 rfl ?_ | refine SubH.cons 1 rfl ?_ | refine SubH.cons 2 rfl ?_ | refine SubH.cons 3 rfl ?_ | refine SubH.cons 4 rfl ?_ | refine SubH.cons 5 rfl ?_ | refine SubH.cons 6 rfl ?_ | refine SubH.cons 7 rfl ?_ | refine SubH.cons 8 rfl ?_ | refine SubH.cons 9 rfl ?_ | refine SubH.cons 10 rfl ?_ | refine SubH.cons 11 rfl ?_ | refine SubH.cons 12 rfl ?_ | refine SubH.cons 13 rfl ?_ | refine SubH.rown ?_)) ?_
        refine wp_heap (H' := [tree (attT t1 x1 ({ x1.a.merge bw with s := 0 } : At))]) (fun w F s => att_close hP.blks hP.at' s) ?_
        refine wp_region' ?_
        refine ops_ro' rfl (ro_assign rfl) rfl ?_
        refine ops_nil ?_
        refine Then_normal ?_
        refine wp_ret' ?_
        refine' doneS_ret (res1 rfl rfl) ?_ ?_
        rotate_left 1
        exact ⟨_, 0, rfl, .inr ⟨x, hb, .inr (.inr (.inr ⟨hP.ri, rfl, t1, x1, hP.fin, hP.blk, hP.a, rfl⟩))⟩, rfl⟩
        exact SubH.refl _

end Go.Proofs.YtlefpllcgcicpaaGreatDoor
