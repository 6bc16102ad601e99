/-
  slices.Equal at lists of texts; Rename.
  Law 15's asks, cut short.
  What a thing is that was renamed: plain laws.
  Names held against one another.
-/
import Derived.Test.YtbbmhppkhcodfaaTrD1
import Derived.Test.YtbbmhppkhcodfaaSxSub
import Derived.Test.YtbbmhppkhcodfaaWire
namespace Go.Proofs.Ytbbmhppkhcodfaa
open Go.Sx
set_option linter.unusedVariables false
set_option linter.unusedSimpArgs false
set_option maxRecDepth 100000
set_option maxHeartbeats 4000000

theorem seqs_spec (V : HProp) (a b : List (List UInt8)) (p1 p2 : Option Addr) (c1 c2 : Nat) (h1 : Vw V (.slice p1 a.length c1) a.length (txs a)) (h2 : Vw V (.slice p2 b.length c2) b.length (txs b)) (hl : a.length ≤ 140737488355328) :
    Tri Try.prog 49 [.slice p1 a.length c1, .slice p2 b.length c2] [V] (fun v H' => ∃ K, (v = .bool (decide (a = b)) ∧ K = []) ∧ H' = K ++ [V]) := by
  refine tri_of_wpS Try.func49 rfl Try.ntmps49 (by simp) ?_
  refine wp_seq' ?_
  refine wp_region' ?_
  refine ops_ro' rfl (ro_assign rfl) rfl ?_
  refine ops_nil ?_
  refine Then_normal ?_
  refine wp_seq' ?_
  refine wp_seq' ?_
  refine wp_region' ?_
  refine ops_ro' rfl (ro_move rfl) rfl ?_
  refine ops_ro' rfl (ro_sliceLen Try.underlying29 rfl) rfl ?_
  refine ops_ro' rfl (ro_move rfl) rfl ?_
  refine ops_ro' rfl (ro_sliceLen Try.underlying29 rfl) rfl ?_
  refine ops_ro' rfl (ro_neq rfl rfl rfl) rfl ?_
  refine ops_nil ?_
  refine Then_normal ?_
  refine wp_cond' rfl (fun hc10 => ?_) (fun hc10 => ?_)
  · replace hc10 := of_decide_eq_true hc10
    refine wp_seq' ?_
    refine wp_region' ?_
    refine ops_ro' rfl (ro_assign rfl) rfl ?_
    refine ops_nil ?_
    refine Then_normal ?_
    refine wp_ret' ?_
    refine Then_ret ?_
    refine' doneS_ret (res1 rfl rfl) ?_ ?_
    rotate_left 1
    exact ⟨_, ⟨by rw [decide_eq_false (fun h => by rw [h] at hc10; exact hc10 rfl)], rfl⟩, rfl⟩
    exact SubH.refl _
  · replace hc10 := of_decide_eq_false hc10
    refine wp_skip' ?_
    refine Then_normal ?_
    refine wp_seq' ?_
    refine wp_seq' ?_
    refine wp_region' ?_
    refine ops_ro' rfl (ro_move rfl) rfl ?_
    refine ops_ro' rfl (ro_sliceLen Try.underlying29 rfl) rfl ?_
    refine ops_ro' rfl (ro_move rfl) rfl ?_
    refine ops_nil ?_
    refine Then_normal ?_
    refine wp_block' ?_
    refine wp_loopK 4 (fun m Δ LL => ∃ (i : Nat), (i + m = a.length ∧ a.length = b.length ∧ a.take i = b.take i) ∧ Δ = [(13, .int .i64 (i : Nat))] ∧ LL = [V]) (m := a.length) (Has.cons (k := 0) rfl (Has.cons (k := 1) rfl (Has.cons (k := 12) rfl (Has.nil _)))) (kept ⟨0, ⟨by omega, by omega, by simp⟩, rfl, rfl⟩ (by repeat (first | exact Has.nil _ | refine Has.cons rfl ?_)) (by repeat (first | exact Has.nil _ | refine Has.cons rfl ?_)) (by repeat (first | exact SubH.nil _ | refine SubH.cons 0 rfl ?_ | refine SubH.cons 1 rfl ?_ | refine SubH.cons 2 rfl ?_ | refine SubH.cons 3 rfl ?_ | refine SubH.cons 4 rfl ?_ | refine SubH.cons 5 rfl ?_ | refine SubH.cons 6 rfl ?_ | refine SubH.cons 7 rfl ?_ | refine SubH.cons 8 rfl ?_ | refine SubH.cons 9 rfl ?_ | refine SubH.cons 10 rfl ?_ | refine SubH.cons 11 rfl ?_ | refine SubH.cons 12 rfl ?_ | refine SubH.cons 13 rfl ?_ | refine SubH.rown ?_))) ?_
    rintro m Δ LL ⟨i, ⟨hm, hab, ht⟩, rfl, rfl⟩
    simp only [List.cons_append, List.nil_append]
    refine wp_seq' ?_
    refine wp_region' ?_
    refine ops_ro' rfl (ro_lss rfl rfl rfl) rfl ?_
    refine ops_nil ?_
    refine Then_normal ?_
    refine wp_seq' ?_
    refine wp_cond' rfl (fun hc14 => ?_) (fun hc14 => ?_)
    · replace hc14 := of_decide_eq_true hc14
      have hi : i < a.length := by omega
      have hj : i < b.length := by omega
      refine wp_know (fun w F s => vw_ptr (Vw.pick (H := [V]) 0 rfl h1) s (by omega)) ?_
      rintro ⟨b1, o1, rfl⟩
      refine wp_know (fun w F s => vw_ptr (Vw.pick (H := [V]) 0 rfl h2) s (by omega)) ?_
      rintro ⟨b2, o2, rfl⟩
      refine wp_skip' ?_
      refine Then_normal ?_
      refine wp_seq' ?_
      refine wp_block' ?_
      refine wp_seq' ?_
      refine wp_region' ?_
      refine ops_ro' rfl (ro_move rfl) rfl ?_
      refine ops_ro' rfl (ro_assign rfl) rfl ?_
      refine ops_nil ?_
      refine Then_normal ?_
      refine wp_seq' ?_
      refine wp_draw 9 (by kernel_rfl) (Split.all _) ?_
      refine any_ro' (i := 0) (by kernel_rfl) rfl rfl (ro_move rfl) rfl (fun _ _ _ h => h) ?_
      refine any_ro' (i := 1) (by kernel_rfl) rfl rfl (ro_move rfl) rfl (fun _ _ _ h => h) ?_
      refine any_ro' (i := 2) (by kernel_rfl) rfl rfl (ro_indexSlice sl29 rfl rfl rfl (by omega)) rfl (fun _ _ _ h => h) ?_
      refine any_ro' (i := 3) (by kernel_rfl) rfl rfl (ro_load sc9 rfl (Rd.pick 0 rfl (Rd.elem (j := 0) (vw_rdn h1) Tx.len (List.getElem?_eq_getElem hi) rfl))) rfl (fun _ _ _ h => h) ?_
      refine any_ro' (i := 4) (by kernel_rfl) rfl rfl (ro_move rfl) rfl (fun _ _ _ h => h) ?_
      refine any_ro' (i := 5) (by kernel_rfl) rfl rfl (ro_move rfl) rfl (fun _ _ _ h => h) ?_
      refine any_ro' (i := 6) (by kernel_rfl) rfl rfl (ro_indexSlice sl29 rfl rfl rfl (by omega)) rfl (fun _ _ _ h => h) ?_
      refine any_ro' (i := 7) (by kernel_rfl) rfl rfl (ro_load sc9 rfl (Rd.pick 0 rfl (Rd.elem (j := 0) (vw_rdn h2) Tx.len (List.getElem?_eq_getElem hj) rfl))) rfl (fun _ _ _ h => h) ?_
      refine any_ro' (i := 8) (by kernel_rfl) rfl rfl (ro_neqS rfl rfl rfl) rfl (fun _ _ _ h => h) ?_
      refine any_doneL (by kernel_rfl) ?_
      refine Then_normal ?_
      refine wp_cond' rfl (fun hc24 => ?_) (fun hc24 => ?_)
      · replace hc24 := of_decide_eq_true hc24
        refine wp_seq' ?_
        refine wp_region' ?_
        refine ops_ro' rfl (ro_assign rfl) rfl ?_
        refine ops_nil ?_
        refine Then_normal ?_
        refine wp_ret' ?_
        refine InBlock_ret ?_
        refine Then_ret ?_
        refine Then_ret ?_
        refine InBlock_ret ?_
        refine Then_ret ?_
        refine' doneS_ret (res1 rfl rfl) ?_ ?_
        rotate_left 1
        exact ⟨_, ⟨by rw [decide_eq_false (fun h => by subst h; exact hc24 rfl)], rfl⟩, rfl⟩
        exact SubH.refl _
      · replace hc24 := of_decide_eq_false hc24
        replace hc24 : a[i] = b[i] := Classical.byContradiction hc24
        refine wp_skip' ?_
        refine InBlock_normal ?_
        refine Then_normal ?_
        refine wp_region' ?_
        refine ops_ro' rfl (ro_add rfl rfl (wrap_inc (by omega))) rfl ?_
        refine ops_ro' rfl (ro_move rfl) rfl ?_
        refine ops_nil ?_
        refine Then_normal ?_
        refine back (m - 1) (by omega) (kept ⟨i + 1, ⟨by omega, hab, by rw [List.take_succ_eq_append_getElem hi, List.take_succ_eq_append_getElem hj, ht, hc24]⟩, rfl, rfl⟩ ?_ ?_ ?_)
        · exact (by repeat (first | exact Has.nil _ | refine Has.cons rfl ?_))
        · exact (by repeat (first | exact Has.nil _ | refine Has.cons rfl ?_))
        · exact SubH.refl _
    · replace hc14 := of_decide_eq_false hc14
      refine wp_exit' ?_
      refine Then_exit ?_
      refine Then_exit ?_
      refine InBlock_here ?_
      refine Then_normal ?_
      refine wp_seq' ?_
      refine wp_region' ?_
      refine ops_ro' rfl (ro_assign rfl) rfl ?_
      refine ops_nil ?_
      refine Then_normal ?_
      refine wp_ret' ?_
      refine' doneS_ret (res1 rfl rfl) ?_ ?_
      rotate_left 1
      exact ⟨_, ⟨by rw [decide_eq_true (by rw [List.take_of_length_le (by omega), List.take_of_length_le (by omega)] at ht; exact ht)], rfl⟩, rfl⟩
      exact SubH.refl _


theorem nds_opb {ns : List Nd} {i b : Nat} {x : Nd} {L : List HProp} (hb : x.blk = b) (h : ns[i]? = some x) {w : World} {F : HProp} (s : sat w (star (St (nds ns :: L)) F)) : sat w (star (St (own b (.cells x.cs.toArray 85 (0, 0)) :: rowP x.kp x.kc x.kids :: rowD x.dp x.dc x.data :: nds (ns.eraseIdx i) :: L)) F) := by
  subst hb; exact nds_op h s
theorem tri_argc {f : FuncId} {t : Tr} {tb : Nat} {args : List Value} {H : List HProp} {Ψ : Value → List HProp → Prop} (h : t.tb = tb) (hT : Tri Try.prog f (t.v :: args) H Ψ) : Tri Try.prog f (.pointer (some ⟨tb, 0, none⟩) :: args) H Ψ := by rw [← h]; exact hT
def renE (ns : List Nd) (r : Nd) (fr to : List (List UInt8)) : Int :=
  if fr = [] ∨ to = [] then 1 else match fnd ns r fr with
    | none => 22
    | some _ => match holdO ns r to with
      | ((none, _), e) => e
      | ((some _, _), _) => if fr.length < to.length ∧ to.take fr.length = fr then 1 else 0
theorem renE_nil {ns : List Nd} {r : Nd} {fr to : List (List UInt8)} (h : fr = [] ∨ to = []) : renE ns r fr to = 1 := by unfold renE; rw [if_pos h]
theorem ne_or {fr to : List (List UInt8)} (h1 : fr ≠ []) (h2 : to ≠ []) : ¬ (fr = [] ∨ to = []) := fun h => h.elim h1 h2
theorem renE_none {ns : List Nd} {r : Nd} {fr to : List (List UInt8)} (h1 : fr ≠ []) (h2 : to ≠ []) (h : fnd ns r fr = none) : renE ns r fr to = 22 := by unfold renE; rw [if_neg (ne_or h1 h2), h]
theorem renE_hold {ns : List Nd} {r x : Nd} {fr to : List (List UInt8)} {e : Int} (h1 : fr ≠ []) (h2 : to ≠ []) (h : fnd ns r fr = some x) (hh : holdO ns r to = ((none, 0), e)) : renE ns r fr to = e := by unfold renE; rw [if_neg (ne_or h1 h2), h, hh]
theorem renE_pre {ns : List Nd} {r x y : Nd} {fr to : List (List UInt8)} {k : Nat} (h1 : fr ≠ []) (h2 : to ≠ []) (h : fnd ns r fr = some x) (hh : holdO ns r to = ((some y, k), 0)) (h3 : fr.length < to.length) (h4 : to.take fr.length = fr) : renE ns r fr to = 1 := by unfold renE; rw [if_neg (ne_or h1 h2), h, hh]; simp only; rw [if_pos ⟨h3, h4⟩]
theorem renE_ok {ns : List Nd} {r x y : Nd} {fr to : List (List UInt8)} {k : Nat} (h1 : fr ≠ []) (h2 : to ≠ []) (h : fnd ns r fr = some x) (hh : holdO ns r to = ((some y, k), 0)) (h3 : ¬ (fr.length < to.length ∧ to.take fr.length = fr)) : renE ns r fr to = 0 := by unfold renE; rw [if_neg (ne_or h1 h2), h, hh]; simp only; rw [if_neg h3]
def RenR (t : Tr) (r : Nd) (fr to : List (List UInt8)) (t' : Tr) (r' : Nd) (e : Int) : Prop :=
  (e = renE t.ns r fr to ∧ e ≠ 0 ∧ t' = t ∧ r' = r) ∨
  (renE t.ns r fr to = 0 ∧ e = 0 ∧ fr ≠ [] ∧ to ≠ [] ∧ ∃ x y k g, fnd t.ns r fr = some x ∧ x.id ≠ 0 ∧ holdO t.ns r to = ((some y, k), 0) ∧ ¬ Bel t.ns x y ∧ Mv t.ns t'.ns x y (lastN to) g ∧ Kd t'.ns ∧ r' = g r ∧ t'.next = t.next ∧ t'.bytes = t.bytes)
theorem cut_at {t : Tr} {x y : Nd} {kp : Option Addr} {kc k ix : Nat} {s : List UInt8} (h : t.ns[ix]? = some x) : (t.ns.map (cutG x y kp kc k s))[ix]? = some (outF s x) := by
  rw [List.getElem?_map, h]
  show some (cutG x y kp kc k s x) = _
  rw [cutG_x]
theorem cut_named {ns : List Nd} {x y : Nd} {kp : Option Addr} {kc k ix : Nat} {s0 s : List UInt8} (hb : (ns.map Nd.blk).Nodup) (h : ns[ix]? = some x) : (ns.map (cutG x y kp kc k s0)).set ix (outF s x) = ns.map (cutG x y kp kc k s) := by
  have hix := (List.getElem?_eq_some_iff.1 h).1
  refine List.ext_getElem? fun i => ?_
  rw [List.getElem?_set, List.getElem?_map, List.getElem?_map, List.length_map]
  by_cases e : ix = i
  · subst e
    rw [if_pos rfl, if_pos hix, h]
    show _ = some (cutG x y kp kc k s x)
    rw [cutG_x]
  · rw [if_neg e]
    cases hu : ns[i]? with
    | none => rfl
    | some u =>
      have hne : u.blk ≠ x.blk := fun e2 => by
        have e3 : (ns.map Nd.blk)[i]? = (ns.map Nd.blk)[ix]? := by rw [List.getElem?_map, List.getElem?_map, hu, h]; show some u.blk = some x.blk; rw [e2]
        exact e ((List.getElem?_inj (by rw [List.length_map]; exact (List.getElem?_eq_some_iff.1 hu).1) hb).1 e3).symm
      show some (cutG x y kp kc k s0 u) = some (cutG x y kp kc k s u)
      unfold cutG; rw [if_neg hne, if_neg hne]
theorem name_close {t : Tr} {x y : Nd} {kp : Option Addr} {kc k ix : Nat} {s : List UInt8} {L : List HProp} (hb : (t.ns.map Nd.blk).Nodup) (h : t.ns[ix]? = some x) {w : World} {F : HProp}
    (q : sat w (star (St (own x.blk (.cells (Nd.cs (outF s x)).toArray 85 (0, 0)) :: rowP x.kp x.kc x.kids :: rowD x.dp x.dc x.data :: nds ((t.ns.map (cutG x y kp kc k x.name)).eraseIdx ix) :: own t.tb (.cells ([.pointer (some ⟨t.rb, 0, none⟩), .map (some t.mb), .int .i64 ((t.next : Nat) : Int), .int .i64 ((t.bytes : Nat) : Int)] : List Value).toArray 78 (0, 0)) :: own t.mb (mapO ((t.ns.map (cutG x y kp kc k x.name)).map Nd.me) t.ck) :: L)) F)) : sat w (star (St (tree (cutT t x y kp kc k s) :: L)) F) := by
  have s1 := nds_cl (y := outF s x) (cut_at (y := y) (kp := kp) (kc := kc) (k := k) (s := x.name) h) q
  rw [cut_named hb h, cutG_me, ← cutG_me x y kp kc k s] at s1
  refine tree_shut (t := cutT t x y kp kc k s) ?_
  have hs : SubH (nds (t.ns.map (cutG x y kp kc k s)) :: own t.tb (.cells ([.pointer (some ⟨t.rb, 0, none⟩), .map (some t.mb), .int .i64 ((t.next : Nat) : Int), .int .i64 ((t.bytes : Nat) : Int)] : List Value).toArray 78 (0, 0)) :: own t.mb (mapO ((t.ns.map (cutG x y kp kc k s)).map Nd.me) t.ck) :: L) (trL (cutT t x y kp kc k s) ++ L) := SubH.cons 1 rfl (SubH.cons 1 rfl (SubH.cons 0 rfl (SubH.refl _)))
  exact hs w F s1
/-- x stands in y -/
def putT (t : Tr) (x y : Nd) (kp : Option Addr) (kc k : Nat) : Tr := { t with ns := t.ns.map (putG x y kp kc k) }
theorem put_close {t : Tr} {x0 y0 : Nd} {kp0 : Option Addr} {kc0 k0 : Nat} {s : List UInt8} {x y : Nd} {kp : Option Addr} {kc k iy : Nat} {L : List HProp} (hb : ((t.ns.map (cutG x0 y0 kp0 kc0 k0 s)).map Nd.blk).Nodup) (h : (t.ns.map (cutG x0 y0 kp0 kc0 k0 s))[iy]? = some y) (hxy : x.blk ≠ y.blk) {w : World} {F : HProp}
    (q : sat w (star (St (own y.blk (.cells (Nd.cs (heldF kp kc k x.blk y)).toArray 85 (0, 0)) :: rowP kp kc (insAt y.kids k x.blk) :: rowD y.dp y.dc y.data :: nds ((t.ns.map (cutG x0 y0 kp0 kc0 k0 s)).eraseIdx iy) :: own t.tb (.cells ([.pointer (some ⟨t.rb, 0, none⟩), .map (some t.mb), .int .i64 ((t.next : Nat) : Int), .int .i64 ((t.bytes : Nat) : Int)] : List Value).toArray 78 (0, 0)) :: own t.mb (mapO ((t.ns.map (cutG x0 y0 kp0 kc0 k0 s)).map Nd.me) t.ck) :: L)) F)) : sat w (star (St (tree (putT (cutT t x0 y0 kp0 kc0 k0 s) x y kp kc k) :: L)) F) := by
  have s1 := nds_cl (y := heldF kp kc k x.blk y) h q
  rw [set_turn hb h] at s1
  have e0 : nds (turnB y.blk (heldF kp kc k x.blk) (t.ns.map (cutG x0 y0 kp0 kc0 k0 s))) = nds ((t.ns.map (cutG x0 y0 kp0 kc0 k0 s)).map (putG x y kp kc k)) := by
    rw [← putG_ns x y hxy kp kc k]
    unfold nds turnB
    rw [List.map_map (l := List.map _ (List.map _ _))]
    congr 1
    refine List.map_congr_left fun u _ => ?_
    show nd u = nd (if u.blk = x.blk then { u with par := y.id } else u)
    split <;> rfl
  rw [e0, ← putG_me x y kp kc k] at s1
  refine tree_shut (t := putT (cutT t x0 y0 kp0 kc0 k0 s) x y kp kc k) ?_
  have hs : SubH (nds ((t.ns.map (cutG x0 y0 kp0 kc0 k0 s)).map (putG x y kp kc k)) :: own t.tb (.cells ([.pointer (some ⟨t.rb, 0, none⟩), .map (some t.mb), .int .i64 ((t.next : Nat) : Int), .int .i64 ((t.bytes : Nat) : Int)] : List Value).toArray 78 (0, 0)) :: own t.mb (mapO (((t.ns.map (cutG x0 y0 kp0 kc0 k0 s)).map (putG x y kp kc k)).map Nd.me) t.ck) :: L) (trL (putT (cutT t x0 y0 kp0 kc0 k0 s) x y kp kc k) ++ L) := SubH.cons 1 rfl (SubH.cons 1 rfl (SubH.cons 0 rfl (SubH.refl _)))
  exact hs w F s1
theorem ren_wk {t : Tr} {r x y : Nd} (hW : Wf t r) (hx : x ∈ t.ns) (hy : y ∈ t.ns) (hp : x.par = y.id) (hxy : x.blk ≠ y.blk) {k : Nat} (hk : y.kids[k]? = some x.blk) (kp : Option Addr) (kc : Nat) (s : List UInt8) : Wk (cutT t x y kp kc k s) (cutG x y kp kc k s r) :=
  ⟨kd_cut hW.kd hW.ids hx hy hp hxy hk kp kc s, List.mem_map.2 ⟨r, hW.root, rfl⟩, by rw [(cutG_same x y kp kc k s r).1]; exact hW.rb⟩
theorem ren_hold {t : Tr} {r x y y2 : Nd} {to : List (List UInt8)} {k2 : Nat} (hW : Wf t r) (hx : x ∈ t.ns) (hy : y ∈ t.ns) (hp : x.par = y.id) (hxy : x.blk ≠ y.blk) {k : Nat} (hk : y.kids[k]? = some x.blk) (hh : holdO t.ns r to = ((some y2, k2), 0)) (hn : ¬ Bel t.ns x y2) (kp : Option Addr) (kc : Nat) :
    holdO (cutT t x y kp kc k (lastN to)).ns (cutG x y kp kc k (lastN to) r) to = ((some (cutG x y kp kc k (lastN to) y2), kpl (t.ns.map (cutG x y kp kc k (lastN to))) (cutG x y kp kc k (lastN to) y2) (lastN to)), 0) := by
  obtain ⟨h1, hd, hno, _, hok, _⟩ := holdO_inv hh
  have hWk := ren_wk hW hx hy hp hxy hk kp kc (lastN to)
  have hG := cutG_same x y kp kc k (lastN to)
  have no : ∀ v ∈ t.ns, v ≠ x → v.blk ≠ x.blk := fun v hv h e => h (nmB_mem hW.kd.blks hv hx e)
  have h2 := fnd_keep (ns' := (cutT t x y kp kc k (lastN to)).ns) hW.kd hWk.kd (fun u hu => List.mem_map.2 ⟨u, hu, rfl⟩) (fun u => (hG u).2.1) (fun u hu e => cutG_no (no u hu e)) hW.root hn h1
  have h3 : kid (cutT t x y kp kc k (lastN to)).ns (cutG x y kp kc k (lastN to) y2).id (lastN to) = none := by
    cases hk2 : kid (cutT t x y kp kc k (lastN to)).ns (cutG x y kp kc k (lastN to) y2).id (lastN to) with
    | none => rfl
    | some z =>
      exfalso
      obtain ⟨hz, hzp, hzn⟩ := kid_some hk2
      obtain ⟨u, hu, rfl⟩ := List.mem_map.1 hz
      rw [(hG y2).2.1] at hzp
      by_cases e : u = x
      · rw [e, cutG_x] at hzp
        have hzp : (-2 : Int) = y2.id := hzp
        omega
      · rw [(cutG_no (no u hu e)).1] at hzp
        rw [(cutG_no (no u hu e)).2] at hzn
        exact kid_none hno hu hzp hzn
  unfold holdO
  rw [if_pos hok, h2]
  simp only
  rw [if_pos (by rw [(hG y2).2.2.1]; exact hd), h3]
  rfl
theorem ren_ne {t : Tr} {r x y2 y : Nd} {kp : Option Addr} {kc k : Nat} {s : List UInt8} (hW : Wf t r) (hx : x ∈ t.ns) (hy2 : y2 ∈ t.ns) (hn : ¬ Bel t.ns x y2) : (outF s x).blk ≠ (cutG x y kp kc k s y2).blk := fun e => by
  rw [(cutG_same x y kp kc k s y2).1] at e
  exact hn (by rw [← nmB_mem hW.kd.blks hx hy2 e]; exact ⟨[], rfl⟩)
theorem ren_mv {t : Tr} {r x y y2 y3 : Nd} {kp kp2 : Option Addr} {kc k kc2 k2 : Nat} {s : List UInt8} (hW : Wf t r) (hx : x ∈ t.ns) (hy3 : y3 = cutG x y kp kc k s y2) (hy2 : y2 ∈ t.ns) (hn : ¬ Bel t.ns x y2) :
    Mv t.ns (putT (cutT t x y kp kc k s) (outF s x) y3 kp2 kc2 k2).ns x y2 s (fun u => putG (outF s x) y3 kp2 kc2 k2 (cutG x y kp kc k s u)) := by
  have hG := cutG_same x y kp kc k s
  have hP := putG_same (outF s x) y3 kp2 kc2 k2
  have no : ∀ v ∈ t.ns, v ≠ x → v.blk ≠ x.blk := fun v hv h e => h (nmB_mem hW.kd.blks hv hx e)
  refine ⟨?_, fun u => ?_, fun u => ?_, fun u => ?_, fun u => ?_, fun u => ?_, fun u hu e => ?_, ?_, ?_⟩
  · show (t.ns.map _).map _ = _
    rw [List.map_map]; rfl
  · rw [(hP _).1, (hG u).1]
  · rw [(hP _).2.1, (hG u).2.1]
  · rw [(hP _).2.2.1, (hG u).2.2.1]
  · rw [(hP _).2.2.2.1, (hG u).2.2.2.1]
  · rw [(hP _).2.2.2.2.1, (hG u).2.2.2.2]
  · have h1 : (cutG x y kp kc k s u).blk ≠ (outF s x).blk := by rw [(hG u).1]; exact no u hu e
    exact ⟨by rw [putG_no h1]; exact (cutG_no (no u hu e)).1, by rw [(hP _).2.2.2.2.2]; exact (cutG_no (no u hu e)).2⟩
  · rw [cutG_x, putG_x, hy3, (hG y2).2.1]
  · rw [(hP _).2.2.2.2.2, cutG_x]; rfl
theorem ren_kd {t : Tr} {r x y y2 y3 : Nd} {to : List (List UInt8)} {kk k2 : Nat} {kp kp2 : Option Addr} {kc k kc2 : Nat} (hW : Wf t r) (hx : x ∈ t.ns) (hy : y ∈ t.ns) (hp : x.par = y.id) (hxy : x.blk ≠ y.blk) (hk : y.kids[k]? = some x.blk) (hh : holdO t.ns r to = ((some y2, kk), 0)) (hn : ¬ Bel t.ns x y2) (hy3 : y3 = cutG x y kp kc k (lastN to) y2) (hk2 : kpl (t.ns.map (cutG x y kp kc k (lastN to))) y3 (lastN to) = k2) :
    Kd (putT (cutT t x y kp kc k (lastN to)) (outF (lastN to) x) y3 kp2 kc2 k2).ns := by
  have hWk := ren_wk hW hx hy hp hxy hk kp kc (lastN to)
  have hy2 := fnd_mem hW.root (holdO_inv hh).1
  have hhB := ren_hold hW hx hy hp hxy hk hh hn kp kc
  rw [← hy3] at hhB
  obtain ⟨_, _, hno, _⟩ := holdO_inv hhB
  have hx3 : outF (lastN to) x ∈ t.ns.map (cutG x y kp kc k (lastN to)) := List.mem_map.2 ⟨x, hx, cutG_x⟩
  have hy3m : y3 ∈ t.ns.map (cutG x y kp kc k (lastN to)) := by rw [hy3]; exact List.mem_map.2 ⟨y2, hy2, rfl⟩
  have hkl := kids_le hWk.kd hy3m
  have hfew := hW.few
  have hlen : (cutT t x y kp kc k (lastN to)).ns.length = t.ns.length := List.length_map _
  rw [← hk2]
  exact kd_into (x := outF (lastN to) x) hWk.kd (by show ((t.ns.map _).map Nd.id).Nodup; rw [cutG_ids]; exact hW.ids) hx3 hy3m (fun u _ e => by
    have e : (-2 : Int) = u.id := e
    omega) (by rw [hy3]; exact ren_ne hW hx hy2 hn) hno (by omega) kp2 kc2
theorem ren_wf {t : Tr} {r x y y2 y3 : Nd} {to : List (List UInt8)} {kk k2 : Nat} {kp kp2 : Option Addr} {kc k kc2 : Nat} (hW : Wf t r) (hx : x ∈ t.ns) (hx0 : x.id ≠ 0) (hy : y ∈ t.ns) (hp : x.par = y.id) (hxy : x.blk ≠ y.blk) (hk : y.kids[k]? = some x.blk) (hh : holdO t.ns r to = ((some y2, kk), 0)) (hn : ¬ Bel t.ns x y2) (hy3 : y3 = cutG x y kp kc k (lastN to) y2) (hk2 : kpl (t.ns.map (cutG x y kp kc k (lastN to))) y3 (lastN to) = k2) :
    Wf (putT (cutT t x y kp kc k (lastN to)) (outF (lastN to) x) y3 kp2 kc2 k2) (putG (outF (lastN to) x) y3 kp2 kc2 k2 (cutG x y kp kc k (lastN to) r)) := by
  obtain ⟨h1, hd, _, _, hok, _⟩ := holdO_inv hh
  have hy2 := fnd_mem hW.root h1
  exact wf_moved (g := fun u => putG (outF (lastN to) x) y3 kp2 kc2 k2 (cutG x y kp kc k (lastN to) u)) hW (ren_mv hW hx hy3 hy2 hn) (ren_kd hW hx hy hp hxy hk hh hn hy3 hk2) hx hx0 hy2 hd hn hok rfl rfl rfl
theorem ren_done {t : Tr} {r x y y2 y3 : Nd} {fr to : List (List UInt8)} {kk k2 : Nat} {kp kp2 : Option Addr} {kc k kc2 : Nat} (hW : Wf t r) (hpf : fr ≠ []) (hpt : to ≠ []) (hb : fnd t.ns r fr = some x) (hx : x ∈ t.ns) (hx0 : x.id ≠ 0) (hy : y ∈ t.ns) (hp : x.par = y.id) (hxy : x.blk ≠ y.blk) (hk : y.kids[k]? = some x.blk) (hh : holdO t.ns r to = ((some y2, kk), 0)) (hnp : ¬ (fr.length < to.length ∧ to.take fr.length = fr)) (hn : ¬ Bel t.ns x y2) (hy3 : y3 = cutG x y kp kc k (lastN to) y2) (hk2 : kpl (t.ns.map (cutG x y kp kc k (lastN to))) y3 (lastN to) = k2) :
    renE t.ns r fr to = 0 ∧ (0 : Int) = 0 ∧ fr ≠ [] ∧ to ≠ [] ∧ ∃ x0 y0 k0 g, fnd t.ns r fr = some x0 ∧ x0.id ≠ 0 ∧ holdO t.ns r to = ((some y0, k0), 0) ∧ ¬ Bel t.ns x0 y0 ∧ Mv t.ns (putT (cutT t x y kp kc k (lastN to)) (outF (lastN to) x) y3 kp2 kc2 k2).ns x0 y0 (lastN to) g ∧ Kd (putT (cutT t x y kp kc k (lastN to)) (outF (lastN to) x) y3 kp2 kc2 k2).ns ∧ putG (outF (lastN to) x) y3 kp2 kc2 k2 (cutG x y kp kc k (lastN to) r) = g r ∧ (putT (cutT t x y kp kc k (lastN to)) (outF (lastN to) x) y3 kp2 kc2 k2).next = t.next ∧ (putT (cutT t x y kp kc k (lastN to)) (outF (lastN to) x) y3 kp2 kc2 k2).bytes = t.bytes :=
  ⟨renE_ok hpf hpt hb hh hnp, rfl, hpf, hpt, x, y2, kk, _, hb, hx0, hh, hn, ren_mv hW hx hy3 (fnd_mem hW.root (holdO_inv hh).1) hn, ren_kd hW hx hy hp hxy hk hh hn hy3 hk2, rfl, rfl, rfl⟩


theorem not_bel {t : Tr} {r x y : Nd} {fr to : List (List UInt8)} {k : Nat} (hW : Wf t r) (hpt : to ≠ []) (hb : fnd t.ns r fr = some x) (hh : holdO t.ns r to = ((some y, k), 0)) : Bel t.ns x y ↔ (fr.length < to.length ∧ to.take fr.length = fr) := by
  have hl := List.length_pos_iff.2 hpt
  rw [bel_path hW hb (holdO_inv hh).1, List.length_take, List.take_take]
  constructor
  · rintro ⟨h1, h2⟩
    have e : min fr.length (to.length - 1) = fr.length := by omega
    rw [e] at h2
    exact ⟨by omega, h2⟩
  · rintro ⟨h1, h2⟩
    have e : min fr.length (to.length - 1) = fr.length := by omega
    rw [e]
    exact ⟨by omega, h2⟩
theorem rename_spec {V : HProp} {t : Tr} {r : Nd} (hW : Wf t r) (q : Option Addr) (cq : Nat) (fr : List (List UInt8)) (hV1 : Vw V (.slice q fr.length cq) fr.length (txs fr)) (hcq : fr.length ≤ cq) (hlf : fr.length ≤ 100000) (q2 : Option Addr) (cq2 : Nat) (to : List (List UInt8)) (hV2 : Vw V (.slice q2 to.length cq2) to.length (txs to)) (hcq2 : to.length ≤ cq2) (hlt : to.length ≤ 100000) (hln : (lastN to).length ≤ 9223372036854775807) :
    Tri Try.prog 26 [t.v, .slice q fr.length cq, .slice q2 to.length cq2] [tree t, V] (fun v H' => ∃ t' r' e, v = .int .i64 e ∧ RenR t r fr to t' r' e ∧ Wf t' r' ∧ t'.tb = t.tb ∧ t'.next = t.next ∧ H' = [tree t', V]) := by
  by_cases h0 : fr = [] ∨ to = []
  · skip
    refine tri_of_wpS Try.func26 rfl Try.ntmps26 (by simp) ?_
    refine wp_seq' ?_
    refine wp_region' ?_
    refine ops_ro' rfl (ro_assign rfl) rfl ?_
    refine ops_nil ?_
    refine Then_normal ?_
    refine wp_seq' ?_
    refine wp_block' ?_
    refine wp_seq' ?_
    refine wp_region' ?_
    refine ops_ro' rfl (ro_move rfl) rfl ?_
    refine ops_ro' rfl (ro_sliceLen Try.underlying29 rfl) rfl ?_
    refine ops_ro' rfl (ro_eql rfl rfl rfl) rfl ?_
    refine ops_split rfl rfl rfl (fun hg18 => ?_) (fun hg18 => ?_)
    · replace hg18 := of_decide_eq_true hg18
      refine ops_skip' rfl rfl ?_
      refine ops_skip' rfl rfl ?_
      refine ops_skip' rfl rfl ?_
      refine ops_ro' rfl (ro_pick rfl rfl) rfl ?_
      refine ops_ro' rfl (ro_assign rfl) rfl ?_
      refine ops_nil ?_
      refine Then_normal ?_
      refine wp_condT rfl ?_
      refine wp_seq' ?_
      refine wp_region' ?_
      refine ops_ro' rfl (ro_assign rfl) rfl ?_
      refine ops_nil ?_
      refine Then_normal ?_
      refine wp_ret' ?_
      refine InBlock_ret ?_
      refine Then_ret ?_
      refine' doneS_ret (res1 rfl rfl) ?_ ?_
      rotate_left 1
      exact ⟨t, r, _, rfl, .inl ⟨(renE_nil h0).symm, by decide, rfl, rfl⟩, hW, rfl, rfl, rfl⟩
      exact SubH.refl _
    · replace hg18 := of_decide_eq_false hg18
      refine ops_ro' rfl (ro_move rfl) rfl ?_
      refine ops_ro' rfl (ro_sliceLen Try.underlying29 rfl) rfl ?_
      refine ops_ro' rfl (ro_eql rfl rfl rfl) rfl ?_
      refine ops_ro' rfl (ro_pick rfl rfl) rfl ?_
      refine ops_ro' rfl (ro_assign rfl) rfl ?_
      refine ops_nil ?_
      refine Then_normal ?_
      refine wp_cond' rfl (fun hc14 => ?_) (fun hc14 => ?_)
      · replace hc14 := of_decide_eq_true hc14
        refine wp_seq' ?_
        refine wp_region' ?_
        refine ops_ro' rfl (ro_assign rfl) rfl ?_
        refine ops_nil ?_
        refine Then_normal ?_
        refine wp_ret' ?_
        refine InBlock_ret ?_
        refine Then_ret ?_
        refine' doneS_ret (res1 rfl rfl) ?_ ?_
        rotate_left 1
        exact ⟨t, r, _, rfl, .inl ⟨(renE_nil h0).symm, by decide, rfl, rfl⟩, hW, rfl, rfl, rfl⟩
        exact SubH.refl _
      · replace hc14 := of_decide_eq_false hc14
        exact absurd h0 (by rintro (h | h) <;> (rw [h] at *; simp_all))
  · obtain ⟨hpf, hpt⟩ : fr ≠ [] ∧ to ≠ [] := ⟨fun h => h0 (.inl h), fun h => h0 (.inr h)⟩
    have hlf0 := List.length_pos_iff.2 hpf
    have hlt0 := List.length_pos_iff.2 hpt
    cases hb : fnd t.ns r fr with
    | none =>
      refine tri_of_wpS Try.func26 rfl Try.ntmps26 (by simp) ?_
      refine wp_seq' ?_
      refine wp_region' ?_
      refine ops_ro' rfl (ro_assign rfl) rfl ?_
      refine ops_nil ?_
      refine Then_normal ?_
      refine wp_seq' ?_
      refine wp_block' ?_
      refine wp_seq' ?_
      refine wp_region' ?_
      refine ops_ro' rfl (ro_move rfl) rfl ?_
      refine ops_ro' rfl (ro_sliceLen Try.underlying29 rfl) rfl ?_
      refine ops_ro' rfl (ro_eql rfl rfl (decide_eq_false (by omega))) rfl ?_
      refine ops_ro' rfl (ro_move (v := .bool false) rfl) rfl ?_
      refine ops_ro' rfl (ro_move rfl) rfl ?_
      refine ops_ro' rfl (ro_sliceLen Try.underlying29 rfl) rfl ?_
      refine ops_ro' rfl (ro_eql rfl rfl (decide_eq_false (by omega))) rfl ?_
      refine ops_ro' rfl (ro_pick rfl rfl) rfl ?_
      refine ops_ro' rfl (ro_assign rfl) rfl ?_
      refine ops_nil ?_
      refine Then_normal ?_
      refine wp_condF rfl ?_
      refine wp_seq' ?_
      refine wp_region' ?_
      refine ops_ro' rfl (ro_move rfl) rfl ?_
      refine ops_ro' rfl (ro_move rfl) rfl ?_
      refine ops_eff' rfl (eff_callM (Pre := []) Try.call44 rfl rfl (Split.nil _) (find_spec (Tv.pick 0 rfl (tree_tv t)) hW q cq fr (by first | exact (Vw.pick 0 rfl hV1) | exact (Vw.pick 1 rfl hV1) | exact (Vw.pick 2 rfl hV1) | exact (Vw.pick 0 rfl hV2) | exact (Vw.pick 1 rfl hV2) | exact (Vw.pick 2 rfl hV2) | exact (Vw.pick 0 rfl hv47) | exact (Vw.pick 1 rfl hv47) | exact (Vw.pick 2 rfl hv47) | exact Vw.pick 0 rfl Vw.row | exact Vw.pick 1 rfl Vw.row | exact Vw.pick 2 rfl Vw.row | exact Vw.nil _ | exact Vw.empty _ _) hlf)) rfl ?_
      rintro _ H' ⟨_, ⟨rfl, rfl⟩, hH⟩
      simp only [List.cons_append, List.nil_append, List.eraseIdx_cons_zero, List.eraseIdx_cons_succ, List.set_cons_zero, List.set_cons_succ] at hH
      subst hH
      rw [hb]
      dsimp only [ptrO, Option.map]
      refine ops_ro' rfl (ro_ptrEqlNil Try.underlying76 rfl rfl rfl) rfl ?_
      refine ops_ro' rfl (ro_assign rfl) rfl ?_
      refine ops_nil ?_
      refine Then_normal ?_
      refine wp_condT rfl ?_
      refine wp_seq' ?_
      refine wp_region' ?_
      refine ops_ro' rfl (ro_assign rfl) rfl ?_
      refine ops_nil ?_
      refine Then_normal ?_
      refine wp_ret' ?_
      refine InBlock_ret ?_
      refine Then_ret ?_
      refine' doneS_ret (res1 rfl rfl) ?_ ?_
      rotate_left 1
      exact ⟨t, r, _, rfl, .inl ⟨(renE_none hpf hpt hb).symm, by decide, rfl, rfl⟩, hW, rfl, rfl, rfl⟩
      exact SubH.refl _
    | some x =>
      rcases holdO_bad (ns := t.ns) (r := r) (p := to) with ⟨e, hh, he⟩ | ⟨y2, kk, hh⟩
      · skip
        refine tri_of_wpS Try.func26 rfl Try.ntmps26 (by simp) ?_
        refine wp_seq' ?_
        refine wp_region' ?_
        refine ops_ro' rfl (ro_assign rfl) rfl ?_
        refine ops_nil ?_
        refine Then_normal ?_
        refine wp_seq' ?_
        refine wp_block' ?_
        refine wp_seq' ?_
        refine wp_region' ?_
        refine ops_ro' rfl (ro_move rfl) rfl ?_
        refine ops_ro' rfl (ro_sliceLen Try.underlying29 rfl) rfl ?_
        refine ops_ro' rfl (ro_eql rfl rfl (decide_eq_false (by omega))) rfl ?_
        refine ops_ro' rfl (ro_move (v := .bool false) rfl) rfl ?_
        refine ops_ro' rfl (ro_move rfl) rfl ?_
        refine ops_ro' rfl (ro_sliceLen Try.underlying29 rfl) rfl ?_
        refine ops_ro' rfl (ro_eql rfl rfl (decide_eq_false (by omega))) rfl ?_
        refine ops_ro' rfl (ro_pick rfl rfl) rfl ?_
        refine ops_ro' rfl (ro_assign rfl) rfl ?_
        refine ops_nil ?_
        refine Then_normal ?_
        refine wp_condF rfl ?_
        refine wp_seq' ?_
        refine wp_region' ?_
        refine ops_ro' rfl (ro_move rfl) rfl ?_
        refine ops_ro' rfl (ro_move rfl) rfl ?_
        refine ops_eff' rfl (eff_callM (Pre := []) Try.call44 rfl rfl (Split.nil _) (find_spec (Tv.pick 0 rfl (tree_tv t)) hW q cq fr (by first | exact (Vw.pick 0 rfl hV1) | exact (Vw.pick 1 rfl hV1) | exact (Vw.pick 2 rfl hV1) | exact (Vw.pick 0 rfl hV2) | exact (Vw.pick 1 rfl hV2) | exact (Vw.pick 2 rfl hV2) | exact (Vw.pick 0 rfl hv47) | exact (Vw.pick 1 rfl hv47) | exact (Vw.pick 2 rfl hv47) | exact Vw.pick 0 rfl Vw.row | exact Vw.pick 1 rfl Vw.row | exact Vw.pick 2 rfl Vw.row | exact Vw.nil _ | exact Vw.empty _ _) hlf)) rfl ?_
        rintro _ H' ⟨_, ⟨rfl, rfl⟩, hH⟩
        simp only [List.cons_append, List.nil_append, List.eraseIdx_cons_zero, List.eraseIdx_cons_succ, List.set_cons_zero, List.set_cons_succ] at hH
        subst hH
        rw [hb]
        dsimp only [ptrO, Option.map]
        refine ops_ro' rfl (ro_ptrEqlNil Try.underlying76 rfl rfl rfl) rfl ?_
        refine ops_ro' rfl (ro_assign rfl) rfl ?_
        refine ops_nil ?_
        refine Then_normal ?_
        refine wp_condF rfl ?_
        refine wp_skip' ?_
        refine InBlock_normal ?_
        refine Then_normal ?_
        refine wp_seq' ?_
        refine wp_seq' ?_
        refine wp_region' ?_
        refine ops_ro' rfl (ro_move rfl) rfl ?_
        refine ops_ro' rfl (ro_move rfl) rfl ?_
        refine ops_eff' rfl (eff_callM (Pre := []) Try.call36 rfl rfl (Split.nil _) (holder_spec (Tv.pick 0 rfl (tree_tv t)) hW _ cq2 to (by first | exact (Vw.pick 0 rfl hV1) | exact (Vw.pick 1 rfl hV1) | exact (Vw.pick 2 rfl hV1) | exact (Vw.pick 0 rfl hV2) | exact (Vw.pick 1 rfl hV2) | exact (Vw.pick 2 rfl hV2) | exact (Vw.pick 0 rfl hv47) | exact (Vw.pick 1 rfl hv47) | exact (Vw.pick 2 rfl hv47) | exact Vw.pick 0 rfl Vw.row | exact Vw.pick 1 rfl Vw.row | exact Vw.pick 2 rfl Vw.row | exact Vw.nil _ | exact Vw.empty _ _) hcq2 hlt hpt hln)) rfl ?_
        rintro _ H' ⟨_, ⟨rfl, rfl⟩, hH⟩
        simp only [List.cons_append, List.nil_append, List.eraseIdx_cons_zero, List.eraseIdx_cons_succ, List.set_cons_zero, List.set_cons_succ] at hH
        subst hH
        rw [hh]
        dsimp only [ptrO, Option.map]
        refine ops_ro' rfl (ro_move rfl) rfl ?_
        refine ops_ro' rfl (ro_extract rfl rfl) rfl ?_
        refine ops_ro' rfl (ro_extract rfl rfl) rfl ?_
        refine ops_ro' rfl (ro_extract rfl rfl) rfl ?_
        refine ops_ro' rfl (ro_assign rfl) rfl ?_
        refine ops_ro' rfl (ro_assign rfl) rfl ?_
        refine ops_ro' rfl (ro_assign rfl) rfl ?_
        refine ops_nil ?_
        refine Then_normal ?_
        refine wp_seq' ?_
        refine wp_region' ?_
        refine ops_ro' rfl (ro_move rfl) rfl ?_
        refine ops_ro' rfl (ro_neq rfl rfl (decide_eq_true (by omega))) rfl ?_
        refine ops_nil ?_
        refine Then_normal ?_
        refine wp_condT rfl ?_
        refine wp_seq' ?_
        refine wp_region' ?_
        refine ops_ro' rfl (ro_move rfl) rfl ?_
        refine ops_ro' rfl (ro_assign rfl) rfl ?_
        refine ops_nil ?_
        refine Then_normal ?_
        refine wp_ret' ?_
        refine Then_ret ?_
        refine' doneS_ret (res1 rfl rfl) ?_ ?_
        rotate_left 1
        exact ⟨t, r, e, rfl, .inl ⟨(renE_hold hpf hpt hb hh).symm, he, rfl, rfl⟩, hW, rfl, rfl, rfl⟩
        exact SubH.refl _
      · obtain ⟨y1, hfy, hkd⟩ := fnd_last hpf hb
        have hx := fnd_mem hW.root hb
        have hy1 := fnd_mem hW.root hfy
        have hpar := (kid_some hkd).2.1
        have hxy := par_ne hW hx hy1 hpar
        have hkx := (kid_hit hW.kd hy1 hkd).2
        obtain ⟨k1, hkk⟩ : ∃ k, plc (y1.kids.map (nmB t.ns)) (lastN fr) = k := ⟨_, rfl⟩
        rw [show kpl t.ns y1 (lastN fr) = k1 from hkk] at hkx
        have hy2 := fnd_mem hW.root (holdO_inv hh).1
        have hx0 : x.id ≠ 0 := fun e => by
          have h1 : x = r := nmId hW.ids hx hW.root (by rw [e, hW.rid])
          have h2 := hW.rpar
          rw [← h1, hpar] at h2; omega
        have hlast := lastN_at hpt
        obtain ⟨ix, hix⟩ := List.mem_iff_getElem?.1 hx
        have hnBel := not_bel hW hpt hb hh
        refine tri_know (fun w F s => vw_ptr (Vw.pick (H := [tree t, V]) 1 rfl hV2) s (by omega)) ?_
        rintro ⟨b2, o2, rfl⟩
        refine tri_of_wpS Try.func26 rfl Try.ntmps26 (by simp) ?_
        refine wp_seq' ?_
        refine wp_region' ?_
        refine ops_ro' rfl (ro_assign rfl) rfl ?_
        refine ops_nil ?_
        refine Then_normal ?_
        refine wp_seq' ?_
        refine wp_block' ?_
        refine wp_seq' ?_
        refine wp_region' ?_
        refine ops_ro' rfl (ro_move rfl) rfl ?_
        refine ops_ro' rfl (ro_sliceLen Try.underlying29 rfl) rfl ?_
        refine ops_ro' rfl (ro_eql rfl rfl (decide_eq_false (by omega))) rfl ?_
        refine ops_ro' rfl (ro_move (v := .bool false) rfl) rfl ?_
        refine ops_ro' rfl (ro_move rfl) rfl ?_
        refine ops_ro' rfl (ro_sliceLen Try.underlying29 rfl) rfl ?_
        refine ops_ro' rfl (ro_eql rfl rfl (decide_eq_false (by omega))) rfl ?_
        refine ops_ro' rfl (ro_pick rfl rfl) rfl ?_
        refine ops_ro' rfl (ro_assign rfl) rfl ?_
        refine ops_nil ?_
        refine Then_normal ?_
        refine wp_condF rfl ?_
        refine wp_seq' ?_
        refine wp_region' ?_
        refine ops_ro' rfl (ro_move rfl) rfl ?_
        refine ops_ro' rfl (ro_move rfl) rfl ?_
        refine ops_eff' rfl (eff_callM (Pre := []) Try.call44 rfl rfl (Split.nil _) (find_spec (Tv.pick 0 rfl (tree_tv t)) hW q cq fr (by first | exact (Vw.pick 0 rfl hV1) | exact (Vw.pick 1 rfl hV1) | exact (Vw.pick 2 rfl hV1) | exact (Vw.pick 3 rfl hV1) | exact (Vw.pick 4 rfl hV1) | exact (Vw.pick 5 rfl hV1) | exact (Vw.pick 6 rfl hV1) | exact (Vw.pick 7 rfl hV1) | exact (Vw.pick 0 rfl hV2) | exact (Vw.pick 1 rfl hV2) | exact (Vw.pick 2 rfl hV2) | exact (Vw.pick 3 rfl hV2) | exact (Vw.pick 4 rfl hV2) | exact (Vw.pick 5 rfl hV2) | exact (Vw.pick 6 rfl hV2) | exact (Vw.pick 7 rfl hV2) | exact (Vw.pick 0 rfl hv47) | exact (Vw.pick 1 rfl hv47) | exact (Vw.pick 2 rfl hv47) | exact (Vw.pick 3 rfl hv47) | exact (Vw.pick 4 rfl hv47) | exact (Vw.pick 5 rfl hv47) | exact (Vw.pick 6 rfl hv47) | exact (Vw.pick 7 rfl hv47) | exact Vw.pick 0 rfl Vw.row | exact Vw.pick 1 rfl Vw.row | exact Vw.pick 2 rfl Vw.row | exact Vw.pick 3 rfl Vw.row | exact Vw.pick 4 rfl Vw.row | exact Vw.pick 5 rfl Vw.row | exact Vw.pick 6 rfl Vw.row | exact Vw.pick 7 rfl Vw.row | exact Vw.nil _ | exact Vw.empty _ _) hlf)) rfl ?_
        rintro _ H' ⟨_, ⟨rfl, rfl⟩, hH⟩
        simp only [List.cons_append, List.nil_append, List.eraseIdx_cons_zero, List.eraseIdx_cons_succ, List.set_cons_zero, List.set_cons_succ] at hH
        subst hH
        rw [hb]
        dsimp only [ptrO, Option.map]
        refine ops_ro' rfl (ro_ptrEqlNil Try.underlying76 rfl rfl rfl) rfl ?_
        refine ops_ro' rfl (ro_assign rfl) rfl ?_
        refine ops_nil ?_
        refine Then_normal ?_
        refine wp_condF rfl ?_
        refine wp_skip' ?_
        refine InBlock_normal ?_
        refine Then_normal ?_
        refine wp_seq' ?_
        refine wp_seq' ?_
        refine wp_region' ?_
        refine ops_ro' rfl (ro_move rfl) rfl ?_
        refine ops_ro' rfl (ro_move rfl) rfl ?_
        refine ops_eff' rfl (eff_callM (Pre := []) Try.call36 rfl rfl (Split.nil _) (holder_spec (Tv.pick 0 rfl (tree_tv t)) hW _ cq2 to (by first | exact (Vw.pick 0 rfl hV1) | exact (Vw.pick 1 rfl hV1) | exact (Vw.pick 2 rfl hV1) | exact (Vw.pick 3 rfl hV1) | exact (Vw.pick 4 rfl hV1) | exact (Vw.pick 5 rfl hV1) | exact (Vw.pick 6 rfl hV1) | exact (Vw.pick 7 rfl hV1) | exact (Vw.pick 0 rfl hV2) | exact (Vw.pick 1 rfl hV2) | exact (Vw.pick 2 rfl hV2) | exact (Vw.pick 3 rfl hV2) | exact (Vw.pick 4 rfl hV2) | exact (Vw.pick 5 rfl hV2) | exact (Vw.pick 6 rfl hV2) | exact (Vw.pick 7 rfl hV2) | exact (Vw.pick 0 rfl hv47) | exact (Vw.pick 1 rfl hv47) | exact (Vw.pick 2 rfl hv47) | exact (Vw.pick 3 rfl hv47) | exact (Vw.pick 4 rfl hv47) | exact (Vw.pick 5 rfl hv47) | exact (Vw.pick 6 rfl hv47) | exact (Vw.pick 7 rfl hv47) | exact Vw.pick 0 rfl Vw.row | exact Vw.pick 1 rfl Vw.row | exact Vw.pick 2 rfl Vw.row | exact Vw.pick 3 rfl Vw.row | exact Vw.pick 4 rfl Vw.row | exact Vw.pick 5 rfl Vw.row | exact Vw.pick 6 rfl Vw.row | exact Vw.pick 7 rfl Vw.row | exact Vw.nil _ | exact Vw.empty _ _) hcq2 hlt hpt hln)) rfl ?_
        rintro _ H' ⟨_, ⟨rfl, rfl⟩, hH⟩
        simp only [List.cons_append, List.nil_append, List.eraseIdx_cons_zero, List.eraseIdx_cons_succ, List.set_cons_zero, List.set_cons_succ] at hH
        subst hH
        rw [hh]
        dsimp only [ptrO, Option.map]
        refine ops_ro' rfl (ro_move rfl) rfl ?_
        refine ops_ro' rfl (ro_extract rfl rfl) rfl ?_
        refine ops_ro' rfl (ro_extract rfl rfl) rfl ?_
        refine ops_ro' rfl (ro_extract rfl rfl) rfl ?_
        refine ops_ro' rfl (ro_assign rfl) rfl ?_
        refine ops_ro' rfl (ro_assign rfl) rfl ?_
        refine ops_ro' rfl (ro_assign rfl) rfl ?_
        refine ops_nil ?_
        refine Then_normal ?_
        refine wp_seq' ?_
        refine wp_region' ?_
        refine ops_ro' rfl (ro_move rfl) rfl ?_
        refine ops_ro' rfl (ro_neq rfl rfl (decide_eq_false (by omega))) rfl ?_
        refine ops_nil ?_
        refine Then_normal ?_
        refine wp_condF rfl ?_
        refine wp_skip' ?_
        refine Then_normal ?_
        refine wp_cutK 1010 (fun Δ LL => (¬ (fr.length < to.length ∧ to.take fr.length = fr)) ∧ Δ = [] ∧ LL = [tree t, V]) (Has.cons (k := 0) rfl (Has.cons (k := 1) rfl (Has.cons (k := 2) rfl (Has.nil _)))) ?_ ?_
        · refine wp_seq' ?_
          refine wp_region' ?_
          refine ops_ro' rfl (ro_move rfl) rfl ?_
          refine ops_ro' rfl (ro_sliceLen Try.underlying29 rfl) rfl ?_
          refine ops_ro' rfl (ro_move rfl) rfl ?_
          refine ops_ro' rfl (ro_sliceLen Try.underlying29 rfl) rfl ?_
          refine ops_ro' rfl (ro_gtr rfl rfl rfl) rfl ?_
          refine ops_split rfl rfl rfl (fun hg43 => ?_) (fun hg43 => ?_)
          · replace hg43 := of_decide_eq_true hg43
            refine ops_ro' rfl (ro_move rfl) rfl ?_
            refine ops_ro' rfl (ro_move rfl) rfl ?_
            refine ops_ro' rfl (ro_sliceLen Try.underlying29 rfl) rfl ?_
            refine ops_eff' rfl (eff_sliceF 1 rfl Tx.len sl29 rfl (hV2) rfl (bnd_of rfl rfl) (by omega) (by omega) hcq2) rfl ?_
            rintro _ _ ⟨p47, rfl, hv47, hn47, rfl⟩
            try rw [show List.take (fr.length - 0) (List.drop 0 to) = to.take fr.length from by simp] at hv47 ⊢
            refine ops_ro' rfl (ro_move rfl) rfl ?_
            refine ops_eff' rfl (eff_callM (Pre := []) Try.call49 rfl rfl (Split.nil _) (seqs_spec _ _ _ _ _ _ _ (by first | exact (Vw.pick 0 rfl hV1) | exact (Vw.pick 1 rfl hV1) | exact (Vw.pick 2 rfl hV1) | exact (Vw.pick 3 rfl hV1) | exact (Vw.pick 4 rfl hV1) | exact (Vw.pick 5 rfl hV1) | exact (Vw.pick 6 rfl hV1) | exact (Vw.pick 7 rfl hV1) | exact (Vw.pick 0 rfl hV2) | exact (Vw.pick 1 rfl hV2) | exact (Vw.pick 2 rfl hV2) | exact (Vw.pick 3 rfl hV2) | exact (Vw.pick 4 rfl hV2) | exact (Vw.pick 5 rfl hV2) | exact (Vw.pick 6 rfl hV2) | exact (Vw.pick 7 rfl hV2) | exact (Vw.pick 0 rfl hv47) | exact (Vw.pick 1 rfl hv47) | exact (Vw.pick 2 rfl hv47) | exact (Vw.pick 3 rfl hv47) | exact (Vw.pick 4 rfl hv47) | exact (Vw.pick 5 rfl hv47) | exact (Vw.pick 6 rfl hv47) | exact (Vw.pick 7 rfl hv47) | exact Vw.pick 0 rfl Vw.row | exact Vw.pick 1 rfl Vw.row | exact Vw.pick 2 rfl Vw.row | exact Vw.pick 3 rfl Vw.row | exact Vw.pick 4 rfl Vw.row | exact Vw.pick 5 rfl Vw.row | exact Vw.pick 6 rfl Vw.row | exact Vw.pick 7 rfl Vw.row | exact Vw.nil _ | exact Vw.empty _ _) (by first | exact (Vw.pick 0 rfl hV1) | exact (Vw.pick 1 rfl hV1) | exact (Vw.pick 2 rfl hV1) | exact (Vw.pick 3 rfl hV1) | exact (Vw.pick 4 rfl hV1) | exact (Vw.pick 5 rfl hV1) | exact (Vw.pick 6 rfl hV1) | exact (Vw.pick 7 rfl hV1) | exact (Vw.pick 0 rfl hV2) | exact (Vw.pick 1 rfl hV2) | exact (Vw.pick 2 rfl hV2) | exact (Vw.pick 3 rfl hV2) | exact (Vw.pick 4 rfl hV2) | exact (Vw.pick 5 rfl hV2) | exact (Vw.pick 6 rfl hV2) | exact (Vw.pick 7 rfl hV2) | exact (Vw.pick 0 rfl hv47) | exact (Vw.pick 1 rfl hv47) | exact (Vw.pick 2 rfl hv47) | exact (Vw.pick 3 rfl hv47) | exact (Vw.pick 4 rfl hv47) | exact (Vw.pick 5 rfl hv47) | exact (Vw.pick 6 rfl hv47) | exact (Vw.pick 7 rfl hv47) | exact Vw.pick 0 rfl Vw.row | exact Vw.pick 1 rfl Vw.row | exact Vw.pick 2 rfl Vw.row | exact Vw.pick 3 rfl Vw.row | exact Vw.pick 4 rfl Vw.row | exact Vw.pick 5 rfl Vw.row | exact Vw.pick 6 rfl Vw.row | exact Vw.pick 7 rfl Vw.row | exact Vw.nil _ | exact Vw.empty _ _) (by rw [List.length_take]; omega))) rfl ?_
            rintro _ H' ⟨_, ⟨rfl, rfl⟩, hH⟩
            simp only [List.cons_append, List.nil_append, List.eraseIdx_cons_zero, List.eraseIdx_cons_succ, List.set_cons_zero, List.set_cons_succ] at hH
            subst hH
            refine ops_ro' rfl (ro_pick rfl rfl) rfl ?_
            refine ops_nil ?_
            refine Then_normal ?_
            refine wp_cond' rfl (fun hc50 => ?_) (fun hc50 => ?_)
            · replace hc50 := of_decide_eq_true hc50
              refine wp_seq' ?_
              refine wp_region' ?_
              refine ops_ro' rfl (ro_assign rfl) rfl ?_
              refine ops_nil ?_
              refine Then_normal ?_
              refine wp_ret' ?_
              refine Then_ret ?_
              refine' doneS_ret (res1 rfl rfl) ?_ ?_
              rotate_left 1
              exact ⟨t, r, _, rfl, .inl ⟨(renE_pre hpf hpt hb hh (by first | assumption | omega | (simp_all; done)) (by first | assumption | (simp_all; done))).symm, by decide, rfl, rfl⟩, hW, rfl, rfl, rfl⟩
              exact SubH.refl _
            · replace hc50 := of_decide_eq_false hc50
              refine wp_skip' ?_
              refine Then_normal ?_
              refine over_cut (kept ⟨(fun h => by simp_all), rfl, rfl⟩ ?_ ?_ ?_)
              · exact (by repeat (first | exact Has.nil _ | refine Has.cons rfl ?_))
              · exact (by repeat (first | exact Has.nil _ | refine Has.cons rfl ?_))
              · exact SubH.refl _
          · replace hg43 := of_decide_eq_false hg43
            refine ops_skip' rfl rfl ?_
            refine ops_skip' rfl rfl ?_
            refine ops_skip' rfl rfl ?_
            refine ops_skip' rfl rfl ?_
            try rw [show List.take (fr.length - 0) (List.drop 0 to) = to.take fr.length from by simp] at hv47 ⊢
            refine ops_skip' rfl rfl ?_
            refine ops_skip' rfl rfl ?_
            refine ops_ro' rfl (ro_pick rfl rfl) rfl ?_
            refine ops_nil ?_
            refine Then_normal ?_
            refine wp_condF rfl ?_
            refine wp_skip' ?_
            refine Then_normal ?_
            refine over_cut (kept ⟨(fun h => absurd h.1 (by omega)), rfl, rfl⟩ ?_ ?_ ?_)
            · exact (by repeat (first | exact Has.nil _ | refine Has.cons rfl ?_))
            · exact (by repeat (first | exact Has.nil _ | refine Has.cons rfl ?_))
            · exact SubH.refl _
        · rintro Δ LL ⟨hnp, rfl, rfl⟩
          simp only [List.cons_append, List.nil_append]
          refine wp_seq' ?_
          have hnB : ¬ Bel t.ns x y2 := fun h => hnp (hnBel.1 h)
          refine wp_region' ?_
          refine ops_ro' rfl (ro_move rfl) rfl ?_
          refine ops_ro' rfl (ro_move rfl) rfl ?_
          refine ops_eff' rfl (eff_call Try.call50 rfl rfl (by repeat (first | exact Split.nil _ | apply Split.cons 0 rfl | apply Split.cons 1 rfl | apply Split.cons 2 rfl | apply Split.cons 3 rfl | apply Split.cons 4 rfl | apply Split.cons 5 rfl | apply Split.cons 6 rfl | apply Split.cons 7 rfl | apply Split.cons 8 rfl | apply Split.cons 9 rfl | apply Split.cons 10 rfl | apply Split.cons 11 rfl)) (cut_spec hW q cq fr hV1 hcq hlf hpf hfy hkd hxy k1 hkk)) rfl ?_
          rintro _ H' ⟨_, ⟨kp1, kc1, rfl, rfl⟩, hH⟩
          simp only [List.cons_append, List.nil_append, List.eraseIdx_cons_zero, List.eraseIdx_cons_succ, List.set_cons_zero, List.set_cons_succ] at hH
          subst hH
          refine ops_ro' rfl (ro_assign rfl) rfl ?_
          refine ops_nil ?_
          refine Then_normal ?_
          refine wp_seq' ?_
          refine wp_heap (H' := trL (cutT t x y1 kp1 kc1 k1 x.name) ++ [V]) (fun w F s => tree_open s) ?_
          simp only [trL, List.cons_append, List.nil_append]
          refine wp_sub' (L := [nds (t.ns.map (cutG x y1 kp1 kc1 k1 x.name)), own t.tb (.cells ([.pointer (some ⟨t.rb, 0, none⟩), .map (some t.mb), .int .i64 ((t.next : Nat) : Int), .int .i64 ((t.bytes : Nat) : Int)] : List Value).toArray 78 (0, 0)), own t.mb (mapO (((t.ns.map (cutG x y1 kp1 kc1 k1 x.name))).map Nd.me) t.ck), V]) (by repeat (first | exact SubH.nil _ | refine SubH.cons 0 rfl ?_ | refine SubH.cons 1 rfl ?_ | refine SubH.cons 2 rfl ?_ | refine SubH.cons 3 rfl ?_ | refine SubH.cons 4 rfl ?_ | refine SubH.cons 5 rfl ?_ | refine SubH.cons 6 rfl ?_ | refine SubH.cons 7 rfl ?_ | refine SubH.cons 8 rfl ?_ | refine SubH.cons 9 rfl ?_ | refine SubH.cons 10 rfl ?_ | refine SubH.cons 11 rfl ?_ | refine SubH.cons 12 rfl ?_ | refine SubH.cons 13 rfl ?_ | refine SubH.rown ?_)) ?_
          refine wp_heap (fun w F s => nds_opb (b := x.blk) (x := outF x.name x) rfl (cut_at hix) s) ?_
          refine wp_region' ?_
          refine ops_ro' rfl (ro_move rfl) rfl ?_
          refine ops_ro' rfl (ro_move rfl) rfl ?_
          refine ops_ro' rfl (ro_move rfl) rfl ?_
          refine ops_ro' rfl (ro_sliceLen Try.underlying29 rfl) rfl ?_
          refine ops_ro' rfl (ro_sub rfl rfl (wrap_dec (by omega) (by omega))) rfl ?_
          refine ops_ro' rfl (ro_indexSlice sl29 rfl rfl rfl (by omega)) rfl ?_
          refine ops_ro' rfl (ro_load sc9 rfl (Rd.pick 6 rfl (Rd.elem (j := 0) (vw_rdn hV2) Tx.len hlast rfl))) rfl ?_
          refine ops_ro' rfl (ro_nilCheck rfl) rfl ?_
          refine ops_ro' rfl (ro_fieldAddr fa85_2 rfl) rfl ?_
          refine ops_eff0 rfl (eff_store 0 sc9 rfl rfl rfl rfl (Nat.le_of_ble_eq_true rfl) (warm_zero _)) rfl ?_
          rintro _ _ rfl
          refine ops_nil ?_
          refine Then_normal ?_
          refine wp_seq' ?_
          have hWk := ren_wk hW hx hy1 hpar hxy hkx kp1 kc1 (lastN to)
          have hhB := ren_hold hW hx hy1 hpar hxy hkx hh hnB kp1 kc1
          refine wp_sub' (L := [own x.blk (.cells (Nd.cs ((outF (lastN to) x))).toArray 85 (0, 0)), rowP x.kp x.kc x.kids, rowD x.dp x.dc x.data, nds ((t.ns.map (cutG x y1 kp1 kc1 k1 x.name)).eraseIdx ix), own t.tb (.cells ([.pointer (some ⟨t.rb, 0, none⟩), .map (some t.mb), .int .i64 ((t.next : Nat) : Int), .int .i64 ((t.bytes : Nat) : Int)] : List Value).toArray 78 (0, 0)), own t.mb (mapO (((t.ns.map (cutG x y1 kp1 kc1 k1 x.name))).map Nd.me) t.ck), V]) (by repeat (first | exact SubH.nil _ | refine SubH.cons 0 rfl ?_ | refine SubH.cons 1 rfl ?_ | refine SubH.cons 2 rfl ?_ | refine SubH.cons 3 rfl ?_ | refine SubH.cons 4 rfl ?_ | refine SubH.cons 5 rfl ?_ | refine SubH.cons 6 rfl ?_ | refine SubH.cons 7 rfl ?_ | refine SubH.cons 8 rfl ?_ | refine SubH.cons 9 rfl ?_ | refine SubH.cons 10 rfl ?_ | refine SubH.cons 11 rfl ?_ | refine SubH.cons 12 rfl ?_ | refine SubH.cons 13 rfl ?_ | refine SubH.rown ?_)) ?_
          refine wp_heap (fun w F s => name_close hW.kd.blks hix s) ?_
          obtain ⟨y3, hy3⟩ : ∃ y3, y3 = cutG x y1 kp1 kc1 k1 (lastN to) y2 := ⟨_, rfl⟩
          rw [← hy3] at hhB
          refine wp_region' ?_
          refine ops_ro' rfl (ro_move rfl) rfl ?_
          refine ops_ro' rfl (ro_move rfl) rfl ?_
          refine ops_eff' rfl (eff_callM (Pre := []) Try.call36 rfl rfl (Split.nil _) (tri_argc (t := (cutT t x y1 kp1 kc1 k1 (lastN to))) rfl (holderK_spec (Tv.pick 0 rfl (tree_tv (cutT t x y1 kp1 kc1 k1 (lastN to)))) hWk _ cq2 to (by first | exact (Vw.pick 0 rfl hV1) | exact (Vw.pick 1 rfl hV1) | exact (Vw.pick 2 rfl hV1) | exact (Vw.pick 3 rfl hV1) | exact (Vw.pick 4 rfl hV1) | exact (Vw.pick 5 rfl hV1) | exact (Vw.pick 6 rfl hV1) | exact (Vw.pick 7 rfl hV1) | exact (Vw.pick 0 rfl hV2) | exact (Vw.pick 1 rfl hV2) | exact (Vw.pick 2 rfl hV2) | exact (Vw.pick 3 rfl hV2) | exact (Vw.pick 4 rfl hV2) | exact (Vw.pick 5 rfl hV2) | exact (Vw.pick 6 rfl hV2) | exact (Vw.pick 7 rfl hV2) | exact (Vw.pick 0 rfl hv47) | exact (Vw.pick 1 rfl hv47) | exact (Vw.pick 2 rfl hv47) | exact (Vw.pick 3 rfl hv47) | exact (Vw.pick 4 rfl hv47) | exact (Vw.pick 5 rfl hv47) | exact (Vw.pick 6 rfl hv47) | exact (Vw.pick 7 rfl hv47) | exact Vw.pick 0 rfl Vw.row | exact Vw.pick 1 rfl Vw.row | exact Vw.pick 2 rfl Vw.row | exact Vw.pick 3 rfl Vw.row | exact Vw.pick 4 rfl Vw.row | exact Vw.pick 5 rfl Vw.row | exact Vw.pick 6 rfl Vw.row | exact Vw.pick 7 rfl Vw.row | exact Vw.nil _ | exact Vw.empty _ _) hcq2 hlt hpt hln))) rfl ?_
          rintro _ H' ⟨_, ⟨rfl, rfl⟩, hH⟩
          simp only [List.cons_append, List.nil_append, List.eraseIdx_cons_zero, List.eraseIdx_cons_succ, List.set_cons_zero, List.set_cons_succ] at hH
          subst hH
          rw [hhB]
          dsimp only [ptrO, Option.map]
          refine ops_ro' rfl (ro_move rfl) rfl ?_
          refine ops_ro' rfl (ro_extract rfl rfl) rfl ?_
          refine ops_ro' rfl (ro_extract rfl rfl) rfl ?_
          refine ops_ro' rfl (ro_extract rfl rfl) rfl ?_
          refine ops_ro' rfl (ro_assign rfl) rfl ?_
          refine ops_ro' rfl (ro_assign rfl) rfl ?_
          refine ops_ro' rfl (ro_assign rfl) rfl ?_
          refine ops_nil ?_
          refine Then_normal ?_
          refine wp_seq' ?_
          have hy3m : y3 ∈ (t.ns.map (cutG x y1 kp1 kc1 k1 (lastN to))) := by rw [hy3]; exact List.mem_map.2 ⟨y2, hy2, rfl⟩
          obtain ⟨iy, hiy⟩ := List.mem_iff_getElem?.1 hy3m
          have hf3 := hWk.kd.few y3 hy3m
          obtain ⟨k2, hk2⟩ : ∃ k2, kpl (t.ns.map (cutG x y1 kp1 kc1 k1 (lastN to))) y3 (lastN to) = k2 := ⟨_, rfl⟩
          have hk2l : k2 ≤ y3.kids.length := by rw [← hk2]; have := plc_le (y3.kids.map (nmB (t.ns.map (cutG x y1 kp1 kc1 k1 (lastN to))))) (lastN to); rwa [List.length_map] at this
          refine wp_heap (H' := trL (cutT t x y1 kp1 kc1 k1 (lastN to)) ++ [V]) (fun w F s => tree_open s) ?_
          simp only [trL, List.cons_append, List.nil_append]
          refine wp_sub' (L := [nds (t.ns.map (cutG x y1 kp1 kc1 k1 (lastN to))), own t.tb (.cells ([.pointer (some ⟨t.rb, 0, none⟩), .map (some t.mb), .int .i64 ((t.next : Nat) : Int), .int .i64 ((t.bytes : Nat) : Int)] : List Value).toArray 78 (0, 0)), own t.mb (mapO (((t.ns.map (cutG x y1 kp1 kc1 k1 (lastN to)))).map Nd.me) t.ck), V]) (by repeat (first | exact SubH.nil _ | refine SubH.cons 0 rfl ?_ | refine SubH.cons 1 rfl ?_ | refine SubH.cons 2 rfl ?_ | refine SubH.cons 3 rfl ?_ | refine SubH.cons 4 rfl ?_ | refine SubH.cons 5 rfl ?_ | refine SubH.cons 6 rfl ?_ | refine SubH.cons 7 rfl ?_ | refine SubH.cons 8 rfl ?_ | refine SubH.cons 9 rfl ?_ | refine SubH.cons 10 rfl ?_ | refine SubH.cons 11 rfl ?_ | refine SubH.cons 12 rfl ?_ | refine SubH.cons 13 rfl ?_ | refine SubH.rown ?_)) ?_
          refine wp_heap (fun w F s => nds_op hiy s) ?_
          refine wp_region' ?_
          refine ops_ro' rfl (ro_move rfl) rfl ?_
          refine ops_ro' rfl (ro_move rfl) rfl ?_
          refine ops_ro' rfl (ro_nilCheck rfl) rfl ?_
          refine ops_ro' rfl (ro_fieldAddr fa85_3 rfl) rfl ?_
          refine ops_ro' rfl (ro_load sc82 rfl (Rd.pick 0 rfl (Rd.own rfl))) rfl ?_
          refine ops_ro' rfl (ro_move rfl) rfl ?_
          try rw [hk2]
          refine ops_ro' rfl (ro_move rfl) rfl ?_
          refine ops_eff' rfl (eff_buildSlice rfl (sbld (cs := [_]) [(.pointer none)] sl82 (by decide) (by kernel_rfl) rfl)) rfl ?_
          rintro _ _ ⟨b77, rfl, rfl⟩
          refine ops_eff' rfl (eff_call Try.call37 rfl rfl (by repeat (first | exact Split.nil _ | apply Split.cons 0 rfl | apply Split.cons 1 rfl | apply Split.cons 2 rfl | apply Split.cons 3 rfl | apply Split.cons 4 rfl | apply Split.cons 5 rfl | apply Split.cons 6 rfl | apply Split.cons 7 rfl | apply Split.cons 8 rfl | apply Split.cons 9 rfl | apply Split.cons 10 rfl | apply Split.cons 11 rfl)) (ins_spec y3.kp y3.kc y3.kids hf3 k2 hk2l x.blk b77)) rfl ?_
          rintro _ H' ⟨_, ⟨kp2, kc2, rfl, rfl⟩, hH⟩
          simp only [List.cons_append, List.nil_append, List.eraseIdx_cons_zero, List.eraseIdx_cons_succ, List.set_cons_zero, List.set_cons_succ] at hH
          subst hH
          refine ops_ro' rfl (ro_nilCheck rfl) rfl ?_
          refine ops_ro' rfl (ro_fieldAddr fa85_3 rfl) rfl ?_
          refine ops_eff0 rfl (eff_store 1 sc82 rfl rfl rfl rfl (Nat.le_of_ble_eq_true rfl) (warm_zero _)) rfl ?_
          rintro _ _ rfl
          refine ops_nil ?_
          refine Then_normal ?_
          refine wp_seq' ?_
          refine wp_sub' (L := [own y3.blk (.cells (Nd.cs (heldF kp2 kc2 k2 x.blk y3)).toArray 85 (0, 0)), rowP kp2 kc2 (insAt y3.kids k2 x.blk), rowD y3.dp y3.dc y3.data, nds ((t.ns.map (cutG x y1 kp1 kc1 k1 (lastN to))).eraseIdx iy), own t.tb (.cells ([.pointer (some ⟨t.rb, 0, none⟩), .map (some t.mb), .int .i64 ((t.next : Nat) : Int), .int .i64 ((t.bytes : Nat) : Int)] : List Value).toArray 78 (0, 0)), own t.mb (mapO (((t.ns.map (cutG x y1 kp1 kc1 k1 (lastN to)))).map Nd.me) t.ck), V]) (by repeat (first | exact SubH.nil _ | refine SubH.cons 0 rfl ?_ | refine SubH.cons 1 rfl ?_ | refine SubH.cons 2 rfl ?_ | refine SubH.cons 3 rfl ?_ | refine SubH.cons 4 rfl ?_ | refine SubH.cons 5 rfl ?_ | refine SubH.cons 6 rfl ?_ | refine SubH.cons 7 rfl ?_ | refine SubH.cons 8 rfl ?_ | refine SubH.cons 9 rfl ?_ | refine SubH.cons 10 rfl ?_ | refine SubH.cons 11 rfl ?_ | refine SubH.cons 12 rfl ?_ | refine SubH.cons 13 rfl ?_ | refine SubH.rown ?_)) ?_
          refine wp_heap (fun w F s => put_close (x := (outF (lastN to) x)) (y := y3) hWk.kd.blks hiy (by rw [hy3]; exact ren_ne hW hx hy2 hnB) s) ?_
          refine wp_region' ?_
          refine ops_ro' rfl (ro_assign rfl) rfl ?_
          refine ops_nil ?_
          refine Then_normal ?_
          refine wp_ret' ?_
          refine' doneS_ret (res1 rfl rfl) ?_ ?_
          rotate_left 1
          exact ⟨putT (cutT t x y1 kp1 kc1 k1 (lastN to)) (outF (lastN to) x) y3 kp2 kc2 k2, putG (outF (lastN to) x) y3 kp2 kc2 k2 (cutG x y1 kp1 kc1 k1 (lastN to) r), 0, rfl, .inr (ren_done hW hpf hpt hb hx hx0 hy1 hpar hxy hkx hh hnp hnB hy3 hk2), ren_wf hW hx hx0 hy1 hpar hxy hkx hh hnB hy3 hk2, rfl, rfl, rfl⟩
          exact SubH.refl _

end Go.Proofs.Ytbbmhppkhcodfaa
namespace Go.Proofs.Ytbbmhppkhcodfaa
open Go.Sx
set_option linter.unusedVariables false
set_option linter.unusedSimpArgs false
set_option maxRecDepth 100000
set_option maxHeartbeats 4000000

structure Ak where
  k : Int
  id : Int
  p : List (List UInt8)
  to : List (List UInt8)
  dir : Bool
  at' : Nat
  n : Nat
  b : List UInt8
  a : At
structure Ap where
  pp : Option Addr
  pc : Nat
  tp : Option Addr
  tc : Nat
  bp : Option Addr
  bc : Nat
def Ak.cs (x : Ak) (q : Ap) : List Value := [.int .i64 x.k, .int .i64 x.id, .slice q.pp x.p.length q.pc, .slice q.tp x.to.length q.tc, .bool x.dir, .int .u64 (x.at' : Int), .int .u32 (x.n : Int), .slice q.bp x.b.length q.bc, .int .u32 x.a.f, .int .u64 x.a.s, .int .u32 x.a.u, .int .u32 x.a.g, .int .u32 x.a.m, .int .u32 x.a.a, .int .u32 x.a.t]
theorem Ak.len (x : Ak) (q : Ap) : (x.cs q).length = 15 := rfl
/-- V lets an ask be read -/
structure Ak.Ok (V : HProp) (x : Ak) (q : Ap) : Prop where
  p : Vw V (.slice q.pp x.p.length q.pc) x.p.length (txs x.p)
  pl : x.p.length ≤ 9223372036854775807
  to : Vw V (.slice q.tp x.to.length q.tc) x.to.length (txs x.to)
  tl : x.to.length ≤ 9223372036854775807
  b : Vw V (.slice q.bp x.b.length q.bc) x.b.length (cel x.b)
  bc : x.b.length ≤ q.bc
  n : x.n < 4294967296
  at' : x.at' < 18446744073709551616
  a : x.a.Ok
def shortA (x : Ak) : Ak := { x with p := few2 (x.p.take 5) 32, to := few2 (x.to.take 5) 32, b := x.b.take 200 }
theorem shortA_p (x : Ak) : (shortA x).p.length ≤ 5 := by simp only [shortA, few2, List.length_map, List.length_take]; omega
theorem shortA_b (x : Ak) : (shortA x).b.length ≤ 200 := by simp only [shortA, List.length_take]; omega
theorem few2_le {l : List (List UInt8)} {m : Nat} : ∀ s ∈ few2 l m, s.length ≤ m := fun s hs => by
  obtain ⟨y, _, rfl⟩ := List.mem_map.1 hs
  rw [List.length_take]; omega
theorem lastN_le {l : List (List UInt8)} {m : Nat} (h : ∀ s ∈ l, s.length ≤ m) : (lastN l).length ≤ m := by
  by_cases hp : l = []
  · subst hp; exact Nat.zero_le _
  · exact h _ (List.mem_of_getElem? (lastN_at hp))
theorem write_wf {t : Tr} {r : Nd} {id : Int} {k : Nat} {b : List UInt8} {t' : Tr} {e : Int} (hW : Wf t r) (hR : WriteR t id k b t' e) : Wf t' r ∧ t'.next = t.next ∧ t'.tb = t.tb ∧ (t' = t ∨ ∃ x bx c l, t' = dataT t x bx c l) := by
  rcases hR with ⟨_, _, rfl⟩ | ⟨x, hf, h⟩
  · exact ⟨hW, rfl, rfl, .inl rfl⟩
  · rcases h with ⟨_, _, rfl⟩ | ⟨_, _, _, rfl⟩ | ⟨h1, h2, ⟨_, _, rfl⟩ | ⟨h3, _, b0, rfl⟩⟩
    · exact ⟨hW, rfl, rfl, .inl rfl⟩
    · exact ⟨hW, rfl, rfl, .inl rfl⟩
    · exact ⟨hW, rfl, rfl, .inl rfl⟩
    · obtain ⟨hb, hd⟩ : byId t.ns id = some x ∧ x.dir = false := by
        rcases fileO_cases (byId t.ns id) with ⟨e, h4, _⟩ | ⟨y, h4, h5, h6⟩
        · rw [h4] at hf; simp at hf
        · rw [h6] at hf
          have e1 : y = x := by have := congrArg Prod.fst hf; simpa using this
          subst e1; exact ⟨h4, h5⟩
      have hx := (byId_some hb).1
      have hl : (wr2 (szd x.data (max (k + b.length) x.data.length)) k b).length = max (k + b.length) x.data.length := by rw [wr2_len (by rw [szd_len]; omega), szd_len]
      refine ⟨wf_data hW hx hd ?_, rfl, rfl, .inr ⟨x, _, _, _, rfl⟩⟩
      unfold szE at h3
      rw [hl]
      split at h3
      · omega
      · split at h3
        · omega
        · omega
theorem short15_spec (V : HProp) (x : Ak) (q : Ap) (h : x.Ok V q) : Tri Try.prog 19 [.agg (x.cs q).toArray] [V] (fun v H' => ∃ q' : Ap, v = .agg ((shortA x).cs q').toArray ∧ Vw V (.slice q'.bp (shortA x).b.length q'.bc) (shortA x).b.length (cel (shortA x).b) ∧ (shortA x).b.length ≤ q'.bc ∧ H' = [row 9 1 (.slice q'.tp ((shortA x).to).length q'.tc) ((shortA x).to).length (txs ((shortA x).to)), row 9 1 (.slice q'.pp ((shortA x).p).length q'.pc) ((shortA x).p).length (txs ((shortA x).p)), V]) := by
  refine tri_of_wpS Try.func19 rfl Try.ntmps19 (by simp) ?_
  refine wp_seq' ?_
  refine wp_region' ?_
  refine ops_eff' rfl (eff_box rfl) rfl ?_
  rintro _ _ ⟨b1, rfl, rfl⟩
  refine ops_eff' rfl (eff_alloc z47) rfl ?_
  rintro _ _ ⟨b2, rfl, rfl⟩
  refine ops_nil ?_
  refine Then_normal ?_
  refine wp_seq' ?_
  refine wp_region' ?_
  refine ops_ro' rfl (ro_fieldAddr fa47_2 rfl) rfl ?_
  refine ops_ro' rfl (ro_load sc29 rfl (Rd.pick 1 rfl (Rd.own rfl))) rfl ?_
  refine ops_eff' rfl (eff_call Try.call22 rfl rfl (by repeat (first | exact Split.nil _ | apply Split.cons 0 rfl | apply Split.cons 1 rfl | apply Split.cons 2 rfl | apply Split.cons 3 rfl | apply Split.cons 4 rfl | apply Split.cons 5 rfl | apply Split.cons 6 rfl | apply Split.cons 7 rfl | apply Split.cons 8 rfl | apply Split.cons 9 rfl | apply Split.cons 10 rfl | apply Split.cons 11 rfl)) (kFew V q.pp q.pc x.p h.p 5 32 (by omega) (by have := h.pl; omega))) rfl ?_
  rintro _ H' ⟨_, ⟨_, ⟨p5, c5, rfl, rfl⟩, rfl⟩, hH⟩
  simp only [List.cons_append, List.nil_append, List.eraseIdx_cons_zero, List.eraseIdx_cons_succ, List.set_cons_zero, List.set_cons_succ] at hH
  subst hH
  refine ops_ro' rfl (ro_fieldAddr fa47_2 rfl) rfl ?_
  refine ops_eff0 rfl (eff_store 3 sc29 rfl rfl rfl rfl (Nat.le_of_ble_eq_true rfl) (warm_zero _)) rfl ?_
  rintro _ _ rfl
  refine ops_nil ?_
  refine Then_normal ?_
  refine wp_seq' ?_
  refine wp_region' ?_
  refine ops_ro' rfl (ro_fieldAddr fa47_3 rfl) rfl ?_
  refine ops_ro' rfl (ro_load sc29 rfl (Rd.pick 3 rfl (Rd.own rfl))) rfl ?_
  refine ops_eff' rfl (eff_call Try.call22 rfl rfl (by repeat (first | exact Split.nil _ | apply Split.cons 0 rfl | apply Split.cons 1 rfl | apply Split.cons 2 rfl | apply Split.cons 3 rfl | apply Split.cons 4 rfl | apply Split.cons 5 rfl | apply Split.cons 6 rfl | apply Split.cons 7 rfl | apply Split.cons 8 rfl | apply Split.cons 9 rfl | apply Split.cons 10 rfl | apply Split.cons 11 rfl)) (kFew V q.tp q.tc x.to h.to 5 32 (by omega) (by have := h.tl; omega))) rfl ?_
  rintro _ H' ⟨_, ⟨_, ⟨p9, c9, rfl, rfl⟩, rfl⟩, hH⟩
  simp only [List.cons_append, List.nil_append, List.eraseIdx_cons_zero, List.eraseIdx_cons_succ, List.set_cons_zero, List.set_cons_succ] at hH
  subst hH
  refine ops_ro' rfl (ro_fieldAddr fa47_3 rfl) rfl ?_
  refine ops_eff0 rfl (eff_store 4 sc29 rfl rfl rfl rfl (Nat.le_of_ble_eq_true rfl) (warm_zero _)) rfl ?_
  rintro _ _ rfl
  refine ops_nil ?_
  refine Then_normal ?_
  refine wp_seq' ?_
  refine wp_region' ?_
  refine ops_ro' rfl (ro_fieldAddr fa47_7 rfl) rfl ?_
  refine ops_ro' rfl (ro_load sc30 rfl (Rd.pick 4 rfl (Rd.own rfl))) rfl ?_
  refine ops_eff' rfl (eff_call Try.call12 rfl rfl (by repeat (first | exact Split.nil _ | apply Split.cons 0 rfl | apply Split.cons 1 rfl | apply Split.cons 2 rfl | apply Split.cons 3 rfl | apply Split.cons 4 rfl | apply Split.cons 5 rfl | apply Split.cons 6 rfl | apply Split.cons 7 rfl | apply Split.cons 8 rfl | apply Split.cons 9 rfl | apply Split.cons 10 rfl | apply Split.cons 11 rfl)) (kCut V q.bp q.bc x.b 200 h.b h.bc)) rfl ?_
  rintro _ H' ⟨_, ⟨_, ⟨p13, c13, rfl, hv13, hc13, rfl⟩, rfl⟩, hH⟩
  simp only [List.cons_append, List.nil_append, List.eraseIdx_cons_zero, List.eraseIdx_cons_succ, List.set_cons_zero, List.set_cons_succ] at hH
  subst hH
  refine ops_ro' rfl (ro_fieldAddr fa47_7 rfl) rfl ?_
  refine ops_eff0 rfl (eff_store 4 sc30 rfl rfl rfl rfl (Nat.le_of_ble_eq_true rfl) (warm_zero _)) rfl ?_
  rintro _ _ rfl
  refine ops_nil ?_
  refine Then_normal ?_
  refine wp_seq' ?_
  refine wp_region' ?_
  refine ops_ro' rfl (ro_loadA ag47 rfl (RdN.of_pick 4 rfl rdn_all) rfl) rfl ?_
  refine ops_eff0 rfl (eff_storeA 3 ag47 rfl rfl rfl rfl rfl (Nat.le_of_ble_eq_true rfl) (warm_zero _)) rfl ?_
  rintro _ _ rfl
  refine ops_nil ?_
  refine Then_normal ?_
  refine wp_ret' ?_
  refine' doneS_ret (resv1 rfl (rv_cellA ag47 rfl (by first | exact RdN.of_pick 0 rfl rdn_all | exact RdN.of_pick 1 rfl rdn_all | exact RdN.of_pick 2 rfl rdn_all | exact RdN.of_pick 3 rfl rdn_all | exact RdN.of_pick 4 rfl rdn_all | exact RdN.of_pick 5 rfl rdn_all | exact RdN.of_pick 6 rfl rdn_all) rfl)) ?_ ?_
  rotate_left 1
  exact ⟨⟨p5, c5, p9, c9, p13, c13⟩, rfl, hv13, hc13, rfl⟩
  exact (SubH.cons 1 rfl (SubH.cons 1 rfl (SubH.cons 0 rfl (SubH.nil _))))

end Go.Proofs.Ytbbmhppkhcodfaa
namespace Go.Proofs.Ytbbmhppkhcodfaa
open Go.Sx
set_option linter.unusedVariables false
set_option linter.unusedSimpArgs false
set_option maxRecDepth 100000
set_option maxHeartbeats 4000000

theorem make_nx {t : Tr} {r : Nd} {p : List (List UInt8)} {dir : Bool} {t' : Tr} {r' : Nd} {i e : Int} (hR : MakeR t r p dir t' r' i e) : t'.next ≤ t.next + 1 ∧ t'.tb = t.tb := by
  rcases hR with ⟨rfl, _⟩ | ⟨_, x, hh, _, _, _, b, kp, kc, _, rfl, _⟩
  · exact ⟨by omega, rfl⟩
  · exact ⟨Nat.le_refl _, rfl⟩
theorem lookO_none {ns : List Nd} {r : Nd} {p : List (List UInt8)} (h : fnd ns r p = none) : lookO (fnd ns r p) = (0, 22) := by rw [h]; rfl
theorem lookO_some {ns : List Nd} {r x : Nd} {p : List (List UInt8)} (h : fnd ns r p = some x) : lookO (fnd ns r p) = ((x.id : Int), 0) := by rw [h]; rfl
theorem fnd_gone {ns : List Nd} {r y : Nd} {p : List (List UInt8)} (hp : p ≠ []) (h : fnd ns r (p.take (p.length - 1)) = some y) (hk : kid ns y.id (lastN p) = none) : fnd ns r p = none := by
  have e := snoc_of hp
  have h1 := fnd_snoc (s := lastN p) h
  rw [← e, hk] at h1; exact h1
theorem fnd_there {ns : List Nd} {r y x : Nd} {p : List (List UInt8)} (hp : p ≠ []) (h : fnd ns r (p.take (p.length - 1)) = some y) (hk : kid ns y.id (lastN p) = some x) : fnd ns r p = some x := by
  have e := snoc_of hp
  have h1 := fnd_snoc (s := lastN p) h
  rw [← e, hk] at h1; exact h1
theorem kid_uniq {ns : List Nd} (h : Kd ns) {x u z : Nd} {s : List UInt8} (hx : x ∈ ns) (hu : u ∈ ns) (hp : u.par = x.id) (hs : u.name = s) (hk : kid ns x.id s = some z) : u = z := by
  have h1 := kid_of h hx hu hp
  rw [hs, hk] at h1
  injection h1 with h1; exact h1.symm
def Co.nm (c : Co) : Nm := ⟨c.name, { c.a with s := c.data.length }⟩
theorem lsK_co {ns : List Nd} (h : Kd ns) {x : Nd} (hx : x ∈ ns) : lsK ns x.kids = ((kidsN ns x).map Nd.co).map Co.nm := by
  rw [lsK_kids h hx, List.map_map]; rfl
/-- what is so when a thing was renamed -/
structure RenF (t : Tr) (r : Nd) (fr to : List (List UInt8)) (t' : Tr) (r' : Nd) (x : Nd) : Prop where
  l1 : lookO (fnd t.ns r fr) = ((x.id : Int), 0)
  l2 : lookO (fnd t.ns r to) = (0, 22)
  l3 : lookO (fnd t'.ns r' to) = ((x.id : Int), 0)
  l4 : lookO (fnd t'.ns r' fr) = (0, 22)
  att : attO (byId t'.ns x.id) = attO (byId t.ns x.id)
  lst : listO t'.ns (byId t'.ns x.id) = listO t.ns (byId t.ns x.id)
  back : renE t'.ns r' to fr = 0
  same : ∀ t2 r2 e, RenR t' r' to fr t2 r2 e → e = 0 → SameC t2.ns t.ns ∧ t2.next = t.next
theorem ren_facts {t : Tr} {r : Nd} {fr to : List (List UInt8)} {t' : Tr} {r' : Nd} {e : Int} (hW : Wf t r) (hW' : Wf t' r') (hR : RenR t r fr to t' r' e) (he : ¬ (e ≠ 0 ∧ t' = t)) : ∃ x, RenF t r fr to t' r' x := by
  rcases hR with ⟨_, h1, h2, _⟩ | ⟨h0, _, hpf, hpt, x, y, k, g, hb, hx0, hh, hnB, hM, hK, hr', hnx, hbs⟩
  · exact absurd ⟨h1, h2⟩ he
  obtain ⟨h1, hyd, hno, _, hok, _⟩ := holdO_inv hh
  obtain ⟨y1, hfy, hkd⟩ := fnd_last hpf hb
  have hx := fnd_mem hW.root hb
  have hy := fnd_mem hW.root h1
  have hy1 := fnd_mem hW.root hfy
  obtain ⟨_, hpar, hxn⟩ := kid_some hkd
  have gin : ∀ v ∈ t.ns, g v ∈ t'.ns := fun v hv => by rw [hM.lst]; exact List.mem_map.2 ⟨v, hv, rfl⟩
  have gof : ∀ u ∈ t'.ns, ∃ v ∈ t.ns, u = g v := fun u hu => by
    rw [hM.lst] at hu
    obtain ⟨v, h1, h2⟩ := List.mem_map.1 hu
    exact ⟨v, h1, h2.symm⟩
  subst hr'
  have keep : ∀ {p z}, ¬ Bel t.ns x z → fnd t.ns r p = some z → fnd t'.ns (g r) p = some (g z) := fun hn hf => fnd_keep hW.kd hK gin hM.id hM.no hW.root hn hf
  have hnB1 : ¬ Bel t.ns x y1 := by
    rintro ⟨q, hq⟩
    obtain ⟨d, hD⟩ := hW.rk
    have e1 := fnd_deep' hD hx hq
    have e2 := hD y1 hy1 x hx hpar
    omega
  have fto : fnd t.ns r to = none := fnd_gone hpt h1 hno
  have e1 := keep hnB h1
  have e2 := keep hnB1 hfy
  have kto : kid t'.ns (g y).id (lastN to) = some (g x) := by
    have := kid_of hK (gin y hy) (gin x hx) (by rw [hM.par, hM.id])
    rw [hM.name] at this; exact this
  have kfr : kid t'.ns (g y1).id (lastN fr) = none := by
    cases hk : kid t'.ns (g y1).id (lastN fr) with
    | none => rfl
    | some z =>
      exfalso
      obtain ⟨hz, hzp, hzn⟩ := kid_some hk
      obtain ⟨u, hu, rfl⟩ := gof z hz
      rw [hM.id] at hzp
      by_cases e : u = x
      · subst e
        rw [hM.par] at hzp
        rw [hM.name] at hzn
        have e3 : y = y1 := nmId hW.ids hy hy1 (by omega)
        rw [e3, hzn, hkd] at hno; cases hno
      · rw [(hM.no u hu e).1] at hzp
        rw [(hM.no u hu e).2] at hzn
        exact e (kid_uniq hW.kd hy1 hu hzp hzn hkd)
  have ft2 : fnd t'.ns (g r) to = some (g x) := fnd_there hpt e1 kto
  have ff2 : fnd t'.ns (g r) fr = none := fnd_gone hpf e2 kfr
  have hxy1 : x.id ≠ y1.id := fun e => par_ne hW hx hy1 hpar (by rw [nmId hW.ids hx hy1 e])
  have hxy : x ≠ y := fun e => hnB (by rw [e]; exact ⟨[], rfl⟩)
  have hxyi : x.id ≠ y.id := fun e => hxy (nmId hW.ids hx hy e)
  have b1 : byId t.ns (x.id : Int) = some x := byId_of hW.ids hx
  have b2 : byId t'.ns (x.id : Int) = some (g x) := by
    have := byId_of hW'.ids (gin x hx)
    rw [hM.id] at this; exact this
  have hk2 : (kidsN t'.ns (g x)).map Nd.co = (kidsN t.ns x).map Nd.co := by
    refine sorted_eq (kidsN_rise hK (gin x hx)) (kidsN_rise hW.kd hx) fun c => ⟨fun hc => ?_, fun hc => ?_⟩
    · obtain ⟨z, hz, rfl⟩ := List.mem_map.1 hc
      obtain ⟨z1, z2⟩ := (kidsN_mem hK hW'.ids (gin x hx)).1 hz
      obtain ⟨u, hu, rfl⟩ := gof z z1
      rw [hM.id] at z2
      have hux : u ≠ x := fun e => by rw [e, hM.par] at z2; omega
      rw [(hM.no u hu hux).1] at z2
      refine List.mem_map.2 ⟨u, (kidsN_mem hW.kd hW.ids hx).2 ⟨hu, z2⟩, ?_⟩
      unfold Nd.co
      rw [hM.id, hM.dir, hM.data, hM.a, (hM.no u hu hux).1, (hM.no u hu hux).2]
    · obtain ⟨u, hu, rfl⟩ := List.mem_map.1 hc
      obtain ⟨u1, u2⟩ := (kidsN_mem hW.kd hW.ids hx).1 hu
      have hux : u ≠ x := fun e => by rw [e, hpar] at u2; omega
      refine List.mem_map.2 ⟨g u, (kidsN_mem hK hW'.ids (gin x hx)).2 ⟨gin u u1, by rw [(hM.no u u1 hux).1, hM.id]; exact u2⟩, ?_⟩
      unfold Nd.co
      rw [hM.id, hM.dir, hM.data, hM.a, (hM.no u u1 hux).1, (hM.no u u1 hux).2]
  have hy1d : y1.dir = true := by
    rcases hW.par x hx with h | ⟨z, z1, z2, z3⟩
    · exact absurd h hx0
    · rw [nmId hW.ids hy1 z1 (by omega)]; exact z3
  have okf : ptOk (lastN fr) = true := by
    rcases hW.nm x hx with h | h
    · exact absurd h hx0
    · rw [← hxn]; exact h
  have hh2 : holdO t'.ns (g r) fr = ((some (g y1), kpl t'.ns (g y1) (lastN fr)), 0) := by
    unfold holdO
    rw [if_pos okf, e2]
    simp only
    rw [if_pos (by rw [hM.dir]; exact hy1d), kfr]; rfl
  have hnp : ¬ (to.length < fr.length ∧ fr.take to.length = to) := fun ⟨hl, ht⟩ => by
    have ht2 : (fr.take (fr.length - 1)).take to.length = to := by rw [List.take_take, Nat.min_eq_left (by omega)]; exact ht
    obtain ⟨q, hq⟩ := take_pre to.length ht2 (by rw [List.length_take]; omega)
    rw [hq] at hfy
    have hno2 : ∀ {p : List (List UInt8)} {r : Nd}, fnd t.ns r p = none → ∀ q, fnd t.ns r (p ++ q) = none := by
      intro p
      induction p with
      | nil => intro r h; cases h
      | cons s p ih =>
        intro r h q
        rw [List.cons_append]
        cases hk : kid t.ns r.id s with
        | none => exact fnd_none hk _
        | some y => rw [fnd_cons hk] at h ⊢; exact ih h q
    rw [hno2 fto] at hfy; cases hfy
  refine ⟨x, lookO_some hb, lookO_none fto, ?_, lookO_none ff2, ?_, ?_, renE_ok hpt hpf ft2 hh2 hnp, fun t2 r2 e2 hR2 he2 => ?_⟩
  · rw [lookO_some ft2, hM.id]
  · rw [b1, b2]
    show ((g x).told, (0 : Int)) = (x.told, 0)
    unfold Nd.told; rw [hM.a, hM.data]
  · rw [b1, b2]
    unfold listO
    simp only
    rw [hM.dir, lsK_co hK (gin x hx), lsK_co hW.kd hx, hk2]
  · rcases hR2 with ⟨_, h3, _⟩ | ⟨_, _, _, _, x2, y2, k2, g2, f1, _, f2, _, f3, _, _, f4, _⟩
    · exact absurd he2 h3
    · rw [ft2] at f1
      injection f1 with f1
      subst f1
      rw [hh2] at f2
      have e5 : g y1 = y2 := by simpa using congrArg (fun z => z.1.1) f2
      subst e5
      exact ⟨mv_back hW.ids hM hx f3 (by rw [hM.id]; exact hpar.symm) hxn.symm, by rw [f4, hnx]⟩

end Go.Proofs.Ytbbmhppkhcodfaa
namespace Go.Proofs.Ytbbmhppkhcodfaa
open Go.Sx
set_option linter.unusedVariables false
set_option linter.unusedSimpArgs false
set_option maxRecDepth 100000
set_option maxHeartbeats 4000000

theorem run_nameFields (d : Nat) (x y : Nm) (w : World) : (Op.eqFields (d+3) x.cs.toArray y.cs.toArray (Try.prog.fieldsOf 93).toList).run Try.prog w = .ok (decide (x = y)) w := by
  have h : decide (x = y) = (decide (str x.n = str y.n) && decide (x.at' = y.at')) := by
    cases x; cases y; simp only [Nm.mk.injEq, Bool.decide_and]
    congr 1
    simp only [decide_eq_decide]
    exact ⟨fun h => by rw [h], str_inj⟩
  have hl : (Try.prog.fieldsOf 93).toList = [⟨ "Name", 9, 0, false, "", "", 0⟩, ⟨ "Attrs", 40, 1, false, "", "", 16⟩] := by kernel_rfl
  have e1 : ∀ (a b : ByteArray) (w : World), (Op.equalIn (d + 3) 9 (.string a) (.string b)).run Try.prog w = .ok (decide (a = b)) w := fun a b w => by rw [run_equalIn_string w (d + 2) 9 a b Try.underlying9, beqBytes]
  have p1 : ∀ z : Nm, z.cs.toArray[0]? = some (.string (str z.n)) := fun z => rfl
  have p2 : ∀ z : Nm, z.cs.toArray.extract 1 (1 + 7) = z.at'.cs.toArray := fun z => rfl
  rw [h, hl]
  simp only [Op.eqFields, Sem.run_bind, Sem.run_ite, part, Try.isAgg9, Try.isAgg40, Try.sizeOf40, Result.andThen_ok, Bool.false_eq_true, if_false, if_true, p1, p2, Sem.run_pure, e1]
  have e2 := fun w => run_attrEqIn (d + 1) x.at' y.at' w
  simp only [e2, Result.andThen_ok, Sem.run_bind, Sem.run_ite, Sem.run_pure]
  by_cases h1 : str x.n = str y.n <;> by_cases h2 : x.at' = y.at' <;> simp [h1, h2]
theorem run_nameEqIn (d : Nat) (x y : Nm) (w : World) : (Op.equalIn (d + 4) 93 (.agg x.cs.toArray) (.agg y.cs.toArray)).run Try.prog w = .ok (decide (x = y)) w := by
  rw [run_equalIn_agg w (d + 3) 93 _ _ (by kernel_rfl) (by kernel_rfl)]; exact run_nameFields d x y w
theorem run_nameNe (x y : Nm) (w : World) : (binOp .neq 93 (.agg x.cs.toArray) (.agg y.cs.toArray)).run Try.prog w = .ok (.bool (!decide (x = y))) w := by
  rw [run_neq_struct]; show ((Op.equalIn (9996 + 4) 93 _ _).run Try.prog w).andThen _ = _
  rw [run_nameEqIn]; rfl
theorem nameGuard (op : BinOp) (o1 o2 : Operand) (x y : Nm) (w : World) : (eqGuard op 93 o1 o2 (.agg x.cs.toArray) (.agg y.cs.toArray)).run Try.prog w = .ok () w := run_eqGuard_agg w op 93 o1 o2 _ _ (by kernel_rfl)
section
variable {n : Nat} {L : HProp} {Γ : Env} {d : Option Tmp} {ty : TypeId} {pos : String} {aft : Array Edge} {g : Option (Nat × Bool)}
theorem ro_nameNe {ty' : TypeId} {o1 o2 : Operand} {x y : Nm} {c : Bool} (hx : ev Γ o1 = some (.agg x.cs.toArray)) (hy : ev Γ o2 = some (.agg y.cs.toArray)) (hz : (!decide (x = y)) = c) : RO Try.prog n L Γ ⟨d, .binOp .neq 93 o1 o2 ty', ty, pos, aft, g⟩ (.bool c) := by
  subst hz; exact ro_cmpOf hx hy (fun w => nameGuard _ _ _ x y w) (fun w => run_nameNe x y w)
end


theorem knames_spec (V : HProp) (a b : List Nm) (p1 p2 : Option Addr) (c1 c2 : Nat) (h1 : Vw V (.slice p1 a.length c1) a.length (flat Nm.cs a)) (h2 : Vw V (.slice p2 b.length c2) b.length (flat Nm.cs b)) (hl : a.length ≤ 140737488355328) :
    Tri Try.prog 27 [.slice p1 a.length c1, .slice p2 b.length c2] [V] (fun v H' => ∃ K, (v = .bool (decide (a = b)) ∧ K = []) ∧ H' = K ++ [V]) := by
  refine tri_of_wpS Try.func27 rfl Try.ntmps27 (by simp) ?_
  refine wp_seq' ?_
  refine wp_region' ?_
  refine ops_ro' rfl (ro_assign rfl) rfl ?_
  refine ops_nil ?_
  refine Then_normal ?_
  refine wp_seq' ?_
  refine wp_seq' ?_
  refine wp_region' ?_
  refine ops_ro' rfl (ro_move rfl) rfl ?_
  refine ops_ro' rfl (ro_sliceLen Try.underlying54 rfl) rfl ?_
  refine ops_ro' rfl (ro_move rfl) rfl ?_
  refine ops_ro' rfl (ro_sliceLen Try.underlying54 rfl) rfl ?_
  refine ops_ro' rfl (ro_neq rfl rfl rfl) rfl ?_
  refine ops_nil ?_
  refine Then_normal ?_
  refine wp_cond' rfl (fun hc10 => ?_) (fun hc10 => ?_)
  · replace hc10 := of_decide_eq_true hc10
    refine wp_seq' ?_
    refine wp_region' ?_
    refine ops_ro' rfl (ro_assign rfl) rfl ?_
    refine ops_nil ?_
    refine Then_normal ?_
    refine wp_ret' ?_
    refine Then_ret ?_
    refine' doneS_ret (res1 rfl rfl) ?_ ?_
    rotate_left 1
    exact ⟨_, ⟨by rw [decide_eq_false (fun h => by rw [h] at hc10; exact hc10 rfl)], rfl⟩, rfl⟩
    exact SubH.refl _
  · replace hc10 := of_decide_eq_false hc10
    refine wp_skip' ?_
    refine Then_normal ?_
    refine wp_seq' ?_
    refine wp_seq' ?_
    refine wp_region' ?_
    refine ops_ro' rfl (ro_assign rfl) rfl ?_
    refine ops_nil ?_
    refine Then_normal ?_
    refine wp_block' ?_
    refine wp_loopK 4 (fun m Δ LL => ∃ (i : Nat), (i + m = a.length ∧ a.length = b.length ∧ a.take i = b.take i) ∧ Δ = [(5, .int .i64 (i : Nat))] ∧ LL = [V]) (m := a.length) (Has.cons (k := 0) rfl (Has.cons (k := 1) rfl (Has.nil _))) (kept ⟨0, ⟨by omega, by omega, by simp⟩, rfl, rfl⟩ (by repeat (first | exact Has.nil _ | refine Has.cons rfl ?_)) (by repeat (first | exact Has.nil _ | refine Has.cons rfl ?_)) (by repeat (first | exact SubH.nil _ | refine SubH.cons 0 rfl ?_ | refine SubH.cons 1 rfl ?_ | refine SubH.cons 2 rfl ?_ | refine SubH.cons 3 rfl ?_ | refine SubH.cons 4 rfl ?_ | refine SubH.cons 5 rfl ?_ | refine SubH.cons 6 rfl ?_ | refine SubH.cons 7 rfl ?_ | refine SubH.cons 8 rfl ?_ | refine SubH.cons 9 rfl ?_ | refine SubH.cons 10 rfl ?_ | refine SubH.cons 11 rfl ?_ | refine SubH.cons 12 rfl ?_ | refine SubH.cons 13 rfl ?_ | refine SubH.rown ?_))) ?_
    rintro m Δ LL ⟨i, ⟨hm, hab, ht⟩, rfl, rfl⟩
    simp only [List.cons_append, List.nil_append]
    refine wp_seq' ?_
    refine wp_seq' ?_
    refine wp_region' ?_
    refine ops_ro' rfl (ro_move rfl) rfl ?_
    refine ops_ro' rfl (ro_move rfl) rfl ?_
    refine ops_ro' rfl (ro_sliceLen Try.underlying54 rfl) rfl ?_
    refine ops_ro' rfl (ro_lss rfl rfl rfl) rfl ?_
    refine ops_nil ?_
    refine Then_normal ?_
    refine wp_cond' rfl (fun hc14 => ?_) (fun hc14 => ?_)
    · replace hc14 := of_decide_eq_true hc14
      have hi : i < a.length := by omega
      have hj : i < b.length := by omega
      refine wp_know (fun w F s => vw_ptr (Vw.pick (H := [V]) 0 rfl h1) s (by omega)) ?_
      rintro ⟨b1, o1, rfl⟩
      refine wp_know (fun w F s => vw_ptr (Vw.pick (H := [V]) 0 rfl h2) s (by omega)) ?_
      rintro ⟨b2, o2, rfl⟩
      refine wp_skip' ?_
      refine Then_normal ?_
      refine wp_seq' ?_
      refine wp_block' ?_
      refine wp_seq' ?_
      refine wp_draw 9 (by kernel_rfl) (Split.all _) ?_
      refine any_ro' (i := 0) (by kernel_rfl) rfl rfl (ro_move rfl) rfl (fun _ _ _ h => h) ?_
      refine any_ro' (i := 1) (by kernel_rfl) rfl rfl (ro_move rfl) rfl (fun _ _ _ h => h) ?_
      refine any_ro' (i := 2) (by kernel_rfl) rfl rfl (ro_indexSlice sl54 rfl rfl rfl (by omega)) rfl (fun _ _ _ h => h) ?_
      refine any_ro' (i := 3) (by kernel_rfl) rfl rfl (ro_loadA ag93 rfl (RdN.of_pick 0 rfl (RdN.elem (vw_rdn h1) Nm.len (List.getElem?_eq_getElem hi))) rfl) rfl (fun _ _ _ h => h) ?_
      refine any_ro' (i := 4) (by kernel_rfl) rfl rfl (ro_move rfl) rfl (fun _ _ _ h => h) ?_
      refine any_ro' (i := 5) (by kernel_rfl) rfl rfl (ro_move rfl) rfl (fun _ _ _ h => h) ?_
      refine any_ro' (i := 6) (by kernel_rfl) rfl rfl (ro_indexSlice sl54 rfl rfl rfl (by omega)) rfl (fun _ _ _ h => h) ?_
      refine any_ro' (i := 7) (by kernel_rfl) rfl rfl (ro_loadA ag93 rfl (RdN.of_pick 0 rfl (RdN.elem (vw_rdn h2) Nm.len (List.getElem?_eq_getElem hj))) rfl) rfl (fun _ _ _ h => h) ?_
      refine any_ro' (i := 8) (by kernel_rfl) rfl rfl (ro_nameNe rfl rfl rfl) rfl (fun _ _ _ h => h) ?_
      refine any_doneL (by kernel_rfl) ?_
      refine Then_normal ?_
      refine wp_cond' rfl (fun hc25 => ?_) (fun hc25 => ?_)
      · simp only [Bool.and_eq_true, decide_eq_true_eq, Bool.not_eq_true', decide_eq_false_iff_not, bne_iff_ne, ne_eq] at hc25
        replace hc25 : a[i] ≠ b[i] := by simpa using hc25
        refine wp_seq' ?_
        refine wp_region' ?_
        refine ops_ro' rfl (ro_assign rfl) rfl ?_
        refine ops_nil ?_
        refine Then_normal ?_
        refine wp_ret' ?_
        refine InBlock_ret ?_
        refine Then_ret ?_
        refine Then_ret ?_
        refine InBlock_ret ?_
        refine Then_ret ?_
        refine' doneS_ret (res1 rfl rfl) ?_ ?_
        rotate_left 1
        exact ⟨_, ⟨by rw [decide_eq_false (fun h => by subst h; exact hc25 rfl)], rfl⟩, rfl⟩
        exact SubH.refl _
      · simp only [Bool.and_eq_false_iff, decide_eq_false_iff_not, Bool.not_eq_false', decide_eq_true_eq] at hc25
        replace hc25 : a[i] = b[i] := by simpa using hc25
        refine wp_skip' ?_
        refine InBlock_normal ?_
        refine Then_normal ?_
        refine wp_region' ?_
        refine ops_ro' rfl (ro_move rfl) rfl ?_
        refine ops_ro' rfl (ro_add rfl rfl (wrap_inc (by omega))) rfl ?_
        refine ops_ro' rfl (ro_assign rfl) rfl ?_
        refine ops_nil ?_
        refine Then_normal ?_
        refine back (m - 1) (by omega) (kept ⟨i + 1, ⟨by omega, hab, by rw [List.take_succ_eq_append_getElem hi, List.take_succ_eq_append_getElem hj, ht, hc25]⟩, rfl, rfl⟩ ?_ ?_ ?_)
        · exact (by repeat (first | exact Has.nil _ | refine Has.cons rfl ?_))
        · exact (by repeat (first | exact Has.nil _ | refine Has.cons rfl ?_))
        · exact SubH.refl _
    · replace hc14 := of_decide_eq_false hc14
      refine wp_exit' ?_
      refine Then_exit ?_
      refine Then_exit ?_
      refine InBlock_here ?_
      refine Then_normal ?_
      refine wp_seq' ?_
      refine wp_region' ?_
      refine ops_ro' rfl (ro_assign rfl) rfl ?_
      refine ops_nil ?_
      refine Then_normal ?_
      refine wp_ret' ?_
      refine' doneS_ret (res1 rfl rfl) ?_ ?_
      rotate_left 1
      exact ⟨_, ⟨by rw [decide_eq_true (by rw [List.take_of_length_le (by omega), List.take_of_length_le (by omega)] at ht; exact ht)], rfl⟩, rfl⟩
      exact SubH.refl _

end Go.Proofs.Ytbbmhppkhcodfaa
