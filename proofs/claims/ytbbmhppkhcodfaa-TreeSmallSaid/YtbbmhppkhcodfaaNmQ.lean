/-
  A tree and the document's that hold the same things: they do after each call.
  A tree and the document's that hold the same things: they do after Write, Set and Rename.
  What was saved tells all that was there.
  Names held against one another.
-/
import Derived.Test.YtbbmhppkhcodfaaTrSt
import Derived.Test.YtbbmhppkhcodfaaTrTb
namespace Go.Proofs.Ytbbmhppkhcodfaa
open Go.Sx
set_option linter.unusedVariables false
set_option linter.unusedSimpArgs false
set_option maxRecDepth 100000
set_option maxHeartbeats 4000000

theorem newc_spec : Tri Try.prog 10 [] [] (fun v H' => ∃ t b, v = Tr.v t ∧ t.ns = [root0 b] ∧ t.next = 1 ∧ Wf t (root0 b) ∧ H' = [tree t]) := by
  refine tri_of_wpS Try.func10 rfl Try.ntmps10 (by simp) ?_; refine wp_seq' (wp_region' (ops_ro' rfl (ro_assign rfl) rfl (ops_nil (Then_normal (wp_seq' ?_))))); refine wp_region' (ops_eff' rfl (eff_makeMap) rfl ?_); rintro _ _ ⟨b2, rfl, rfl⟩; refine ops_ro' rfl (ro_build rfl (bld_struct (cs := [.pointer none, .map (some b2), .int .i64 0, .int .i64 0]) st78 rfl)) rfl (ops_eff' rfl (eff_box rfl) rfl ?_); rintro _ _ ⟨b4, rfl, rfl⟩; refine ops_ro' rfl (ro_assign rfl) rfl (ops_nil (Then_normal (wp_seq' (wp_heap (fun w F s => nds_nil s) ?_)))); refine wp_region' (ops_ro' rfl (ro_move rfl) rfl (ops_ro' rfl (ro_move rfl) rfl (ops_eff' rfl (eff_call Try.call35 rfl rfl (by repeat (first | exact Split.nil _ | apply Split.cons 0 rfl | apply Split.cons 1 rfl | apply Split.cons 2 rfl | apply Split.cons 3 rfl | apply Split.cons 4 rfl | apply Split.cons 5 rfl | apply Split.cons 6 rfl | apply Split.cons 7 rfl)) (made_spec b4 b2 0 0 0 (.pointer none) rfl [] [] true (-1) (by omega) (fun y hy => by cases hy))) rfl ?_))); rintro _ H' ⟨_, ⟨b7, rfl, hb7, rfl⟩, hH⟩; simp only [zA, zB, zC, zD, zE, zF] at hH; subst hH; refine ops_ro' rfl (ro_nilCheck rfl) rfl (ops_ro' rfl (ro_fieldAddr fa78_0 rfl) rfl (ops_eff0 rfl (eff_store 0 sc76 rfl rfl rfl rfl (Nat.le_of_ble_eq_true rfl) (warm_zero _)) rfl ?_)); rintro _ _ rfl; refine ops_nil (Then_normal (wp_seq' (wp_heap (H' := [tree (⟨b4, b2, 1, b7, 1, 0, [newNd b7 0 0 (-1) true []]⟩ : Tr)]) (fun w F s => new_close s) ?_))); refine wp_region' (ops_ro' rfl (ro_move rfl) rfl (ops_ro' rfl (ro_assign rfl) rfl (ops_nil (Then_normal (wp_ret' ?_))))); refine' doneS_ret (res1 rfl rfl) ?_ ?_
  rotate_left 1
  exact ⟨(⟨b4, b2, 1, b7, 1, 0, [newNd b7 0 0 (-1) true []]⟩ : Tr), b7, rfl, rfl, rfl, wf_new b4 b2 b7, rfl⟩
  exact SubH.refl _


theorem rel_new {t : Tr} {w : Rt} {b : Nat} (h1 : t.ns = [root0 b]) (h2 : t.next = 1) (h3 : w.L = [root15]) (h4 : w.next = 1) : RelW t w :=
  ⟨by rw [h1, h3]; exact List.Perm.refl _, by rw [h2, h4], fun y hy => by rw [h3] at hy; rw [List.mem_singleton.1 hy]; rfl, fun y hy _ => by rw [h3] at hy; rw [List.mem_singleton.1 hy]; rfl⟩
def updC (k : Nat) (f : Co → Co) (c : Co) : Co := if c.id = k then f c else c
theorem updC_no {k : Nat} {f : Co → Co} {c : Co} (h : c.id ≠ k) : updC k f c = c := by unfold updC; rw [if_neg h]
theorem updC_yes {k : Nat} {f : Co → Co} {c : Co} (h : c.id = k) : updC k f c = f c := by unfold updC; rw [if_pos h]
theorem set_co {f : Co → Co} : ∀ {l : List Th} {i : Nat} {x z : Th}, (l.map Th.id).Nodup → l[i]? = some x → z.co = f x.co → (l.set i z).map Th.co = (l.map Th.co).map (updC x.id f)
  | y :: l, 0, x, z, hn, hi, hz => by
    injection hi with hi; subst hi
    rw [List.map_cons, List.nodup_cons] at hn
    show z.co :: l.map Th.co = updC y.id f y.co :: (l.map Th.co).map (updC y.id f)
    have e1 : updC y.id f y.co = f y.co := updC_yes rfl
    have e2 : (l.map Th.co).map (updC y.id f) = l.map Th.co := by
      rw [List.map_map]; refine List.map_congr_left fun u hu => ?_
      exact updC_no fun e => hn.1 (List.mem_map.2 ⟨u, hu, e⟩)
    rw [e1, e2, hz]
  | y :: l, i + 1, x, z, hn, hi, hz => by
    rw [List.map_cons, List.nodup_cons] at hn; have hi2 : l[i]? = some x := by simpa using hi
    have hx : x ∈ l := List.mem_of_getElem? hi2
    show y.co :: (l.set i z).map Th.co = updC x.id f y.co :: (l.map Th.co).map (updC x.id f)
    have e1 : updC x.id f y.co = y.co := updC_no fun e => hn.1 (List.mem_map.2 ⟨x, hx, e.symm⟩)
    rw [e1, set_co hn.2 hi2 hz]
theorem turn_co {f : Co → Co} {F : Nd → Nd} {ns : List Nd} {x : Nd} (hid : (ns.map Nd.id).Nodup) (hb : (ns.map Nd.blk).Nodup) (hx : x ∈ ns) (hF : (F x).co = f x.co) : (turnB x.blk F ns).map Nd.co = (ns.map Nd.co).map (updC x.id f) := by
  unfold turnB; rw [List.map_map, List.map_map]; refine List.map_congr_left fun u hu => ?_
  show (if u.blk = x.blk then F u else u).co = updC x.id f u.co
  by_cases e : u.blk = x.blk
  · have e2 : u = x := map_inj hb hu hx e
    rw [if_pos e, e2, hF]; exact (updC_yes rfl).symm
  · rw [if_neg e]; exact (updC_no fun e2 => e (by rw [nmId hid hu hx e2])).symm
theorem rel_put {t t' : Tr} {w w' : Rt} {x : Nd} {i : Nat} {y z : Th} {f : Co → Co} (h : RelW t w) (hid : (t.ns.map Nd.id).Nodup) (hyi : w.L[i]? = some y) (e : x.co = y.co) (hz : z.co = f y.co)
    (ht : t'.ns.map Nd.co = (t.ns.map Nd.co).map (updC x.id f)) (hn : t'.next = t.next) (hw : w'.L = w.L.set i z) (hwn : w'.next = w.next) (h15 : z.a.f = 15) (hrn : z.id = 0 → z.name = []) : RelW t' w' := by
  have hids : (w.L.map Th.id).Nodup := by
    have h1 := (h.pm.map Co.id).nodup_iff
    rw [List.map_map, List.map_map] at h1; exact h1.1 hid
  refine ⟨?_, by rw [hn, h.nx, hwn], fun u hu => ?_, fun u hu h0 => ?_⟩
  · rw [ht, hw, set_co hids hyi hz, show x.id = y.id from congrArg Co.id e]; exact h.pm.map _
  · rw [hw] at hu
    rcases List.mem_or_eq_of_mem_set hu with h1 | h1
    · exact h.f15 u h1
    · rw [h1]; exact h15
  · rw [hw] at hu
    rcases List.mem_or_eq_of_mem_set hu with h1 | h1
    · exact h.rn u h1 h0
    · rw [h1] at h0 ⊢; exact hrn h0
section
variable {t : Tr} {w : Rt} {r : Nd} (hW : Wf t r) (h : RelW t w)
include hW h
theorem rel_root : ∃ y, tAt w.L 0 = some y := by
  rcases rel_at hW h 0 with ⟨h1, _⟩ | ⟨x, y, _, h2, _⟩
  · have h2 := byId_of hW.ids hW.root
    rw [hW.rid] at h2; rw [show ((0 : Nat) : Int) = 0 from rfl, h1] at h2; cases h2
  · exact ⟨y, h2⟩
theorem rel_tatx {x : Nd} (hx : x ∈ t.ns) : ∃ y, tAt w.L x.id = some y ∧ y ∈ w.L ∧ x.co = y.co := by
  obtain ⟨y, hy, e⟩ := rel_tw h hx
  refine ⟨y, ?_, hy, e⟩; rw [show x.id = y.id from congrArg Co.id e]; exact rel_tat hW h hy
theorem up_of : ∀ (m : Nat) {d : Nat → Nat} (_ : ∀ x ∈ t.ns, ∀ y ∈ t.ns, y.par = (x.id : Int) → d y.id = d x.id + 1) {x : Nd}, x ∈ t.ns → d x.id ≤ m → ∃ n, Up w.L x.id n := fun m => by
  induction m with
  | zero =>
    intro d hD x hx hm; obtain ⟨y, hy, hyl, e⟩ := rel_tatx hW h hx
    have ep : x.par = y.par := congrArg Co.par e
    rcases hW.par x hx with h0 | ⟨z, hz, hp, _⟩
    · have hr : x = r := nmId hW.ids hx hW.root (by rw [h0, hW.rid])
      exact ⟨_, Up.up (by omega) hy (Up.out (by rw [← ep, hr, hW.rpar]; decide))⟩
    · have := hD z hz x hx hp; omega
  | succ m ih =>
    intro d hD x hx hm; obtain ⟨y, hy, hyl, e⟩ := rel_tatx hW h hx
    have ep : x.par = y.par := congrArg Co.par e
    rcases hW.par x hx with h0 | ⟨z, hz, hp, _⟩
    · have hr : x = r := nmId hW.ids hx hW.root (by rw [h0, hW.rid])
      exact ⟨_, Up.up (by omega) hy (Up.out (by rw [← ep, hr, hW.rpar]; decide))⟩
    · have h1 := hD z hz x hx hp
      obtain ⟨n, hn⟩ := ih hD hz (by omega)
      exact ⟨n + 1, Up.up (by omega) hy (by rw [← ep, hp]; exact hn)⟩
theorem rel_up (k : Int) (hk : ∃ y, tAt w.L k = some y) : ∃ n, Up w.L k n := by
  rcases rel_at hW h k with ⟨_, h2⟩ | ⟨x, y, _, _, hx, _, _, e⟩
  · obtain ⟨y, hy⟩ := hk
    rw [h2] at hy; cases hy
  · obtain ⟨d, hD⟩ := hW.rk
    rw [← e]; exact up_of hW h _ hD hx (Nat.le_refl _)
theorem rel_bel {x : Nd} (hx : x ∈ t.ns) {k : Int} {n : Nat} (hu : Up w.L k n) : ∀ u ∈ t.ns, (u.id : Int) = k → (belR w.L x.id (n + 1) k = true ↔ Bel t.ns x u) := by
  induction hu with
  | out h1 => intro u _ e; omega
  | @up k y n h1 h2 h3 ih =>
    intro u hu e; obtain ⟨y2, hy2, hyl, ec⟩ := rel_tatx hW h hu
    rw [e, h2] at hy2
    injection hy2 with hy2
    have ep : u.par = y.par := by rw [hy2]; exact congrArg Co.par ec
    by_cases hk : k = x.id
    · have hux : u = x := nmId hW.ids hu hx (by omega)
      rw [belR_hit h1 hk, hux]; exact ⟨fun _ => ⟨[], rfl⟩, fun _ => rfl⟩
    · rw [← belR_go h1 hk h2]; have hne : u ≠ x := fun e2 => hk (by rw [← e, e2])
      rcases hW.par u hu with h0 | ⟨z, hz, hp, _⟩
      · have hr : u = r := nmId hW.ids hu hW.root (by rw [h0, hW.rid])
        rw [← ep, hr, hW.rpar, belR_out (by decide)]; refine ⟨fun h => (by cases h), fun ⟨q, hq⟩ => ?_⟩
        have hq0 : q ≠ [] := fun e2 => by
          rw [e2] at hq
          injection hq with hq
          exact hne (by rw [hr, hq])
        obtain ⟨z, _, hz2⟩ := fnd_last hq0 hq
        have := (kid_some hz2).2.1
        rw [hW.rpar] at this; omega
      · rw [ih z hz (by rw [← hp, ep])]; exact ⟨bel_kid hW.kd hz hu hp, bel_par hW.ids hx hz hp hne⟩
theorem rel_mkE (p : List (List UInt8)) : mkE w.L p = if p = [] then 1 else if (holdZ (holdO t.ns r p)).2 ≠ 0 then (holdZ (holdO t.ns r p)).2 else if 200 ≤ t.ns.length then 13 else 0 := by
  unfold mkE; rw [rel_hold hW h, rel_len h]
theorem rel_make {p : List (List UInt8)} {dir : Bool} {t' : Tr} {r' : Nd} {i e i2 e2 : Int} {w' : Rt} (hR : MakeR t r p dir t' r' i e) (hR2 : MakeW w p dir w' i2 e2) : i = i2 ∧ e = e2 ∧ RelW t' w' := by
  have hm := rel_mkE hW h p
  rcases hR with ⟨rfl, rfl, rfl, hc⟩ | ⟨hp, x, hh, hl, rfl, rfl, b, kp, kc, hb, rfl, rfl⟩
  · have he : e ≠ 0 ∧ mkE w.L p = e := by
      rw [hm]
      rcases hc with ⟨h1, rfl⟩ | ⟨h1, ⟨x, k, h2⟩, h3, rfl⟩ | ⟨h1, h2, h3⟩
      · exact ⟨by decide, if_pos h1⟩
      · refine ⟨by decide, ?_⟩; rw [if_neg h1, h2]
        show (if (0 : Int) ≠ 0 then _ else _) = _
        rw [if_neg (by decide), if_pos h3]
      · refine ⟨h3, ?_⟩; rw [if_neg h1, h2]; exact if_pos h3
    rcases hR2 with ⟨h1, rfl, rfl, h4⟩ | ⟨h1, h2, _⟩
    · exact ⟨rfl, by rw [h4, he.2], h⟩
    · rw [h2] at he; exact absurd he.2.symm he.1
  · obtain ⟨g1, g2, g3, g4, g5, _⟩ := holdO_inv hh
    have hx := fnd_mem hW.root g1
    have hz : mkE w.L p = 0 := by
      rw [hm, if_neg hp, hh]
      show (if (0 : Int) ≠ 0 then _ else _) = _
      rw [if_neg (by decide), if_neg (by omega)]
    rcases hR2 with ⟨h1, _, _, h4⟩ | ⟨rfl, _, rfl, htb, hnx, hL⟩
    · rw [h4, hz] at h1; exact absurd rfl h1
    · refine ⟨by rw [h.nx], rfl, ⟨?_, ?_, fun u hu => ?_, fun u hu h0 => ?_⟩⟩
      · show ((turnB x.blk _ t.ns ++ [newNd b t.ck t.next x.id dir (lastN p)]).map Nd.co).Perm _
        have e1 : (turnB x.blk (heldF kp kc (kpl t.ns x (lastN p)) b) t.ns).map Nd.co = t.ns.map Nd.co := by
          unfold turnB; rw [List.map_map]; refine List.map_congr_left fun u _ => ?_
          show (if u.blk = x.blk then heldF kp kc (kpl t.ns x (lastN p)) b u else u).co = u.co
          split <;> rfl
        have e2 : (newNd b t.ck t.next x.id dir (lastN p)).co = (newTh w.next (holdR w.L p).1 dir (lastN p)).co := by
          rw [rel_hold hW h, hh, h.nx]; rfl
        rw [hL, List.map_append, List.map_append, e1, List.map_cons, List.map_cons, e2]; exact h.pm.append_right _
      · show t.next + 1 = _
        rw [hnx, h.nx]
      · rw [hL] at hu
        rcases List.mem_append.1 hu with hu | hu
        · exact h.f15 u hu
        · rw [List.mem_singleton.1 hu]
          show (mkA dir).f = 15
          unfold mkA; split <;> rfl
      · rw [hL] at hu
        rcases List.mem_append.1 hu with hu | hu
        · exact h.rn u hu h0
        · rw [List.mem_singleton.1 hu] at h0; have h1 : w.next = 0 := h0
          have h2 := hW.lt r hW.root
          rw [h.nx] at h2; omega
theorem rel_rmE (p : List (List UInt8)) (dir : Bool) : rmE w.L p dir = remE t.ns r p dir := by
  unfold rmE remE
  by_cases hp : p = []
  · rw [if_pos hp, if_pos (by rw [hp]; rfl)]
  · rw [if_neg hp, if_neg (fun e => hp (List.eq_nil_of_length_eq_zero e)), rel_look hW h]
    cases hf : fnd t.ns r p with
    | none => rfl
    | some x =>
      have hx := fnd_mem hW.root hf
      have e1 : (lookO (some x)).1 = (x.id : Int) := rfl
      have e2 : (lookO (some x)).2 = 0 := rfl
      rw [e1, e2, if_neg (by decide), rel_dirx hW h hx]; simp only
      by_cases hd : x.dir = dir
      · rw [if_neg (show ¬ x.dir ≠ dir by simpa using hd), if_neg (show ¬ x.dir ≠ dir by simpa using hd)]
        by_cases hk : 0 < x.kids.length
        · rw [if_pos hk]; refine if_pos ?_; obtain ⟨z, hz, _, hp2⟩ := hW.kd.sub x hx (x.kids[0]) (List.getElem_mem hk)
          obtain ⟨y, hy, ey⟩ := rel_tw h hz
          exact ⟨y, hy, (congrArg Co.par ey).symm.trans hp2⟩
        · rw [if_neg hk]; refine if_neg ?_; rintro ⟨y, hy, hp2⟩; obtain ⟨z, hz, ez⟩ := rel_wt h hy
          have := hW.kd.all x hx z hz ((congrArg Co.par ez).trans hp2)
          exact hk (List.length_pos_of_mem this)
      · rw [if_pos (show x.dir ≠ dir from hd), if_pos (show x.dir ≠ dir from hd)]
omit hW h in
theorem rem_co {x y : Nd} {kp : Option Addr} {kc k : Nat} {s : List UInt8} {ns : List Nd} (hid : (ns.map Nd.id).Nodup) (hb : (ns.map Nd.blk).Nodup) (hx : x ∈ ns) : ∀ {l : List Nd}, (∀ u ∈ l, u ∈ ns) →
    ((l.map (cutG x y kp kc k s)).filter fun u => decide (u.blk ≠ x.blk)).map Nd.co = (l.map Nd.co).filter fun c => decide ((c.id : Int) ≠ x.id)
  | [], _ => rfl
  | u :: l, hl => by
    have ih := rem_co (y := y) (kp := kp) (kc := kc) (k := k) (s := s) hid hb hx (l := l) fun v hv => hl v (List.mem_cons_of_mem _ hv)
    have hu := hl u (by simp)
    have hg := (cutG_same x y kp kc k s u).1
    rw [List.map_cons, List.map_cons, List.filter_cons, List.filter_cons, hg]
    by_cases e : u.blk = x.blk
    · have e2 : u = x := map_inj hb hu hx e
      rw [if_neg (by simpa using e), if_neg (by rw [e2]; simp [Nd.co])]; exact ih
    · have e2 : ¬ u.id = x.id := fun e2 => e (by rw [nmId hid hu hx e2])
      rw [if_pos (by simpa using e), if_pos (by show decide _ = true; refine decide_eq_true ?_; show ¬ (u.id : Int) = x.id; omega), List.map_cons, ih]
      congr 1
      unfold cutG; rw [if_neg e]
      split <;> rfl
theorem rel_remove {p : List (List UInt8)} {dir : Bool} {t' : Tr} {r' : Nd} {e e2 : Int} {w' : Rt} (hR : RemR t r p dir t' r' e) (hR2 : RemW w p dir w' e2) : e = e2 ∧ RelW t' w' := by
  have hm := rel_rmE hW h p dir
  rcases hR with ⟨h1, h2, rfl, rfl⟩ | ⟨h1, rfl, x, y, k, kp, kc, hp, hf, hxk, hx, hy, hpar, hxy, hk, rfl, rfl⟩
  · rcases hR2 with ⟨h3, rfl, h4⟩ | ⟨h3, h4, _⟩
    · exact ⟨by rw [h1, h4, hm], h⟩
    · rw [hm, ← h1] at h4; exact absurd h4 h2
  · rcases hR2 with ⟨h3, rfl, h4⟩ | ⟨rfl, h4, htb, hnx, hL⟩
    · rw [h4, hm, h1] at h3; exact absurd rfl h3
    · have hl : (lookR w.L 0 p).1 = (x.id : Int) := by rw [rel_look hW h, hf]; rfl
      rw [hl] at hL; refine ⟨rfl, ⟨?_, by rw [hnx, ← h.nx]; rfl, fun u hu => ?_, fun u hu h0 => ?_⟩⟩
      · show (((t.ns.map (cutG x y kp kc k x.name)).filter fun u => decide (u.blk ≠ x.blk)).map Nd.co).Perm _
        rw [rem_co hW.ids hW.kd.blks hx fun u hu => hu, hL]
        have e1 : (w.L.filter fun y => decide ((y.id : Int) ≠ x.id)).map Th.co = (w.L.map Th.co).filter fun c => decide ((c.id : Int) ≠ x.id) := by
          rw [List.filter_map]; rfl
        rw [e1]; exact h.pm.filter _
      · rw [hL] at hu; exact h.f15 u (List.mem_filter.1 hu).1
      · rw [hL] at hu; exact h.rn u (List.mem_filter.1 hu).1 h0
end

end Go.Proofs.Ytbbmhppkhcodfaa
namespace Go.Proofs.Ytbbmhppkhcodfaa
open Go.Sx
set_option linter.unusedVariables false
set_option linter.unusedSimpArgs false
set_option maxRecDepth 100000
set_option maxHeartbeats 4000000

section
variable {t : Tr} {w : Rt} {r : Nd} (hW : Wf t r) (h : RelW t w)
include hW h
theorem rel_file {id : Int} {i : Nat} {x : Nd} {y : Th} (hb : byId t.ns id = some x) (hyi : w.L[i]? = some y) (hy : tAt w.L id = some y) : x ∈ t.ns ∧ x.co = y.co ∧ (x.id : Int) = id := by
  rcases rel_at hW h id with ⟨h1, _⟩ | ⟨x2, y2, h1, h2, hx, _, e, hk⟩
  · rw [hb] at h1; cases h1
  · rw [hb] at h1; injection h1 with h1; subst h1
    rw [hy] at h2; injection h2 with h2; subst h2
    exact ⟨hx, e, hk⟩
omit hW h in
theorem fileO_some {o : Option Nd} {x : Nd} {e : Int} (hf : fileO o = (some x, e)) : o = some x ∧ x.dir = false ∧ e = 0 := by
  cases o with
  | none => cases hf
  | some z =>
    unfold fileO at hf; simp only at hf
    split at hf
    · cases hf
    · rename_i hd
      injection hf with h1 h2
      injection h1 with h1; subst h1
      exact ⟨rfl, by simpa using hd, h2.symm⟩
omit hW h in
theorem fileO_bad {o : Option Nd} {e : Int} (hf : fileO o = (none, e)) : (o = none ∧ e = 22) ∨ ∃ x, o = some x ∧ x.dir = true ∧ e = 23 := by
  cases o with
  | none => injection hf with _ h2; exact .inl ⟨rfl, h2.symm⟩
  | some z =>
    unfold fileO at hf; simp only at hf
    split at hf
    · rename_i hd
      injection hf with _ h2
      exact .inr ⟨z, rfl, hd, h2.symm⟩
    · cases hf
theorem rel_fileR {id e : Int} (hf : fileO (byId t.ns id) = (none, e)) : fileR w.L id = (0, e) := by
  rcases fileO_bad hf with ⟨h1, rfl⟩ | ⟨x, h1, hd, rfl⟩
  · rcases rel_at hW h id with ⟨_, h2⟩ | ⟨x2, y2, h2, _⟩
    · unfold fileR; rw [h2]
    · rw [h1] at h2; cases h2
  · rcases rel_at hW h id with ⟨h2, _⟩ | ⟨x2, y2, h2, h3, _, _, ec, _⟩
    · rw [h1] at h2; cases h2
    · rw [h1] at h2; injection h2 with h2; subst h2
      unfold fileR; rw [h3]; simp only
      rw [if_pos (show y2.dir = true from (congrArg Co.dir ec).symm.trans hd)]
theorem rel_write {id : Int} {a : Nat} {b : List UInt8} {t' : Tr} {e e2 : Int} {w' : Rt} (hR : WriteR t id a b t' e) (hR2 : WriteW w id a b w' e2) : e = e2 ∧ RelW t' w' := by
  rcases hR with ⟨h1, h2, rfl⟩ | ⟨x, h1, hc⟩
  · rcases hR2 with ⟨h3, h4, rfl⟩ | ⟨i, y, hyi, hy, hd, _⟩
    · rw [rel_fileR hW h h1] at h3
      injection h3 with _ h3
      exact ⟨h3, h⟩
    · have h5 := rel_fileR hW h h1
      unfold fileR at h5; rw [hy] at h5; simp only at h5
      rw [if_neg (by rw [hd]; decide)] at h5
      injection h5 with _ h5
      exact absurd h5.symm h2
  · obtain ⟨hb, hd, _⟩ := fileO_some h1
    rcases hR2 with ⟨h3, h4, rfl⟩ | ⟨i, y, hyi, hy, hd2, hc2⟩
    · rcases rel_at hW h id with ⟨h5, _⟩ | ⟨x2, y2, h5, h6, _, _, ec, _⟩
      · rw [hb] at h5; cases h5
      · rw [hb] at h5; injection h5 with h5; subst h5
        unfold fileR at h3; rw [h6] at h3; simp only at h3
        rw [if_neg (by rw [show y2.dir = x.dir from (congrArg Co.dir ec).symm, hd]; decide)] at h3
        injection h3 with _ h3
        exact absurd h3.symm h4
    · obtain ⟨hx, ec, hk⟩ := rel_file hW h hb hyi hy
      have ed : x.data = y.b := congrArg Co.data ec
      have es := fun n => rel_size hW h hx ec n
      rcases hc with ⟨g1, rfl, rfl⟩ | ⟨g1, g2, rfl, rfl⟩ | ⟨g1, g2, hs⟩
      · rcases hc2 with ⟨k1, rfl, rfl⟩ | ⟨k1, _⟩ | ⟨k1, _⟩
        · exact ⟨rfl, h⟩
        · omega
        · omega
      · rcases hc2 with ⟨k1, _⟩ | ⟨k1, k2, rfl, rfl⟩ | ⟨k1, k2, _⟩
        · omega
        · exact ⟨rfl, h⟩
        · omega
      · rcases hc2 with ⟨k1, _⟩ | ⟨k1, k2, _⟩ | ⟨k1, k2, hs2⟩
        · omega
        · omega
        · rw [ed] at hs; rw [es] at hs2
          rcases hs with ⟨m1, m2, rfl⟩ | ⟨m1, rfl, b0, rfl⟩
          · rcases hs2 with ⟨n1, n2, rfl⟩ | ⟨n1, _⟩
            · exact ⟨by rw [← m1, n1], h⟩
            · rw [m1] at n1; exact absurd n1 m2
          · rcases hs2 with ⟨n1, n2, _⟩ | ⟨n1, rfl, htb, hnx, p, c, hL⟩
            · rw [m1] at n1; exact absurd n1.symm n2
            · refine ⟨rfl, rel_put (f := fun c => { c with data := wr2 (szd y.b (max (a + b.length) y.b.length)) a b }) h hW.ids hyi ec rfl ?_ rfl hL hnx (h.f15 y (List.mem_of_getElem? hyi)) (h.rn y (List.mem_of_getElem? hyi))⟩; exact turn_co hW.ids hW.kd.blks hx rfl
omit hW h in
theorem or15 {f : Nat} (hf : f ≤ 15) : 15 ||| f = 15 := by
  have : ∀ g : Fin 16, 15 ||| g.1 = 15 := by decide
  exact this ⟨f, by omega⟩
omit hW h in
theorem merge15 {a b : At} (ha : a.f = 15) (hb : b.right = true) : ({ a.merge b with s := 0 } : At).f = 15 := by
  show (a.merge b).f = 15
  rw [merge_fields]
  show a.f ||| b.f = 15
  rw [ha]; exact or15 ((right_good b).1 hb).f
theorem rel_set {id : Int} {bw : At} {t' : Tr} {e e2 : Int} {w' : Rt} (hR : SetR t id bw t' e) (hR2 : SetW w id bw w' e2) : e = e2 ∧ RelW t' w' := by
  rcases hR with ⟨h1, rfl, rfl⟩ | ⟨x, hb, hc⟩
  · rcases hR2 with ⟨_, rfl, rfl⟩ | ⟨i, y, hyi, hy, _⟩
    · exact ⟨rfl, h⟩
    · rcases rel_at hW h id with ⟨_, h2⟩ | ⟨x2, y2, h2, _⟩
      · rw [hy] at h2; cases h2
      · rw [h1] at h2; cases h2
  · rcases hR2 with ⟨h1, _⟩ | ⟨i, y, hyi, hy, hc2⟩
    · rcases rel_at hW h id with ⟨h2, _⟩ | ⟨x2, y2, _, h2, _⟩
      · rw [hb] at h2; cases h2
      · rw [h1] at h2; cases h2
    · obtain ⟨hx, ec, hk⟩ := rel_file hW h hb hyi hy
      have ed : x.data = y.b := congrArg Co.data ec
      have edi : x.dir = y.dir := congrArg Co.dir ec
      have ea : x.a = y.a := congrArg Co.a ec
      have es := fun n => rel_size hW h hx ec n
      have hyl := List.mem_of_getElem? hyi
      have hi := (List.getElem?_eq_some_iff.1 hyi).1
      rw [es] at hc2
      rcases hc with ⟨g1, rfl, rfl⟩ | ⟨g1, g2, g3, rfl, rfl⟩ | ⟨g1, g2, g3, g4, g5, rfl⟩ | ⟨g1, rfl, t1, x1, g2, g3, g4, rfl⟩
      · rcases hc2 with ⟨k1, rfl, rfl⟩ | ⟨k1, _⟩ | ⟨k1, _⟩ | ⟨k1, _⟩
        · exact ⟨rfl, h⟩
        all_goals (rw [g1] at k1; cases k1)
      · rcases hc2 with ⟨k1, _⟩ | ⟨k1, k2, k3, rfl, rfl⟩ | ⟨k1, k2, k3, _⟩ | ⟨k1, rfl, _, _, z, hL, ⟨k2, _⟩ | ⟨k2, k3, _⟩⟩
        · rw [g1] at k1; cases k1
        · exact ⟨rfl, h⟩
        · rw [← edi, g3] at k3; cases k3
        · exact absurd k2 g2
        · rw [← edi, g3] at k3; cases k3
      · rcases hc2 with ⟨k1, _⟩ | ⟨k1, k2, k3, _⟩ | ⟨k1, k2, k3, k4, k5, rfl⟩ | ⟨k1, rfl, _, _, z, hL, ⟨k2, _⟩ | ⟨k2, k3, k4, _⟩⟩
        · rw [g1] at k1; cases k1
        · rw [← edi, g3] at k3; cases k3
        · exact ⟨by rw [← g4, k4], h⟩
        · exact absurd k2 g2
        · rw [g4] at k4; exact absurd k4 g5
      · rcases hc2 with ⟨k1, _⟩ | ⟨k1, k2, k3, _⟩ | ⟨k1, k2, k3, k4, k5, _⟩ | ⟨k1, rfl, htb, hnx, z, hL, hz⟩
        · rw [g1] at k1; cases k1
        · rcases g2 with ⟨_, g6, _⟩ | ⟨g6, _⟩
          · rw [← edi, g6] at k3; cases k3
          · exact absurd g6 k2
        · rcases g2 with ⟨_, _, g7, _⟩ | ⟨g6, _⟩
          · rw [g7] at k4; exact absurd k4.symm k5
          · exact absurd g6 k2
        · refine ⟨rfl, ?_⟩; rw [g4, ea]; have h15 := merge15 (h.f15 y hyl) g1
          rcases g2 with ⟨g5, g6, g7, b, rfl, rfl⟩ | ⟨g5, rfl, rfl⟩
          · rcases hz with ⟨k2, _⟩ | ⟨k2, k3, k4, p, c, rfl⟩
            · exact absurd k2 g5
            · have hF := datF_keeps (some ⟨b, 0, none⟩) bw.s (szd x.data bw.s)
              have hr1 : RelW (dataT t x (some ⟨b, 0, none⟩) bw.s (szd x.data bw.s)) ⟨w.tb, w.p, w.c, w.next, w.L.set i (y.with p c (szd y.b bw.s))⟩ := by
                refine rel_put (f := fun c => { c with data := szd y.b bw.s }) h hW.ids hyi ec rfl ?_ rfl rfl rfl (h.f15 y hyl) (h.rn y hyl); exact turn_co hW.ids hW.kd.blks hx (by rw [← ed]; rfl)
              have hid1 : ((dataT t x (some ⟨b, 0, none⟩) bw.s (szd x.data bw.s)).ns.map Nd.id).Nodup := by
                have e1 : (turnB x.blk (datF (some ⟨b, 0, none⟩) bw.s (szd x.data bw.s)) t.ns).map Nd.id = t.ns.map Nd.id := by
                  unfold turnB; rw [List.map_map]; exact List.map_congr_left fun y _ => (turn_eq hF y).2.1
                show ((turnB x.blk _ t.ns).map Nd.id).Nodup
                rw [e1]; exact hW.ids
              have hbl1 : ((dataT t x (some ⟨b, 0, none⟩) bw.s (szd x.data bw.s)).ns.map Nd.blk).Nodup := by
                show ((turnB x.blk _ t.ns).map Nd.blk).Nodup
                rw [turn_blk hF]; exact hW.kd.blks
              have hx1 : datF (some ⟨b, 0, none⟩) bw.s (szd x.data bw.s) x ∈ (dataT t x (some ⟨b, 0, none⟩) bw.s (szd x.data bw.s)).ns := by
                have := turn_in (f := datF (some ⟨b, 0, none⟩) bw.s (szd x.data bw.s)) (b := x.blk) hx
                rw [if_pos rfl] at this; exact this
              refine rel_put (x := datF (some ⟨b, 0, none⟩) bw.s (szd x.data bw.s) x) (i := i) (y := y.with p c (szd y.b bw.s)) (z := (y.with p c (szd y.b bw.s)).att { y.a.merge bw with s := 0 }) (f := fun c => { c with a := { y.a.merge bw with s := 0 } }) hr1 hid1 (List.getElem?_set_self hi) ?_ rfl ?_ rfl (by rw [hL, List.set_set]) hnx h15 (h.rn y hyl)
              · show (⟨x.id, x.par, x.dir, x.name, szd x.data bw.s, x.a⟩ : Co) = ⟨y.id, y.par, y.dir, y.name, szd y.b bw.s, y.a⟩
                rw [ed]; have e1 : x.id = y.id := congrArg Co.id ec
                have e2 : x.par = y.par := congrArg Co.par ec
                have e3 : x.name = y.name := congrArg Co.name ec
                rw [e1, e2, e3, edi, ea]
              · exact turn_co hid1 hbl1 hx1 rfl
          · rcases hz with ⟨k2, rfl⟩ | ⟨k2, _⟩
            · refine rel_put (f := fun c => { c with a := { z.a.merge bw with s := 0 } }) h hW.ids hyi ec rfl ?_ rfl hL hnx h15 (h.rn z hyl); exact turn_co hW.ids hW.kd.blks hx rfl
            · exact absurd g5 k2
theorem rel_rnE (fr to : List (List UInt8)) : rnE w.L fr to = renE t.ns r fr to := by
  unfold rnE renE
  by_cases hp : fr = [] ∨ to = []
  · rw [if_pos hp, if_pos hp]
  · rw [if_neg hp, if_neg hp, rel_look hW h, rel_hold hW h]; have hto : to ≠ [] := fun e => hp (.inr e)
    cases hf : fnd t.ns r fr with
    | none => rfl
    | some x =>
      have hx := fnd_mem hW.root hf
      have e1 : (lookO (some x)).1 = (x.id : Int) := rfl
      have e2 : (lookO (some x)).2 = 0 := rfl
      rw [e1, e2, if_neg (show ¬ (0 : Int) ≠ 0 by decide)]; simp only
      rcases holdO_bad (ns := t.ns) (r := r) (p := to) with ⟨e, he, h0⟩ | ⟨y, k, hy⟩
      · rw [he]
        show (if e ≠ 0 then e else _) = e
        rw [if_pos h0]
      · rw [hy]
        show (if (0 : Int) ≠ 0 then (0 : Int) else if belR w.L x.id (upN w.L y.id + 1) y.id = true then 1 else 0) = _
        rw [if_neg (show ¬ (0 : Int) ≠ 0 by decide)]; obtain ⟨g1, _⟩ := holdO_inv hy
        have hyn := fnd_mem hW.root g1
        obtain ⟨z, hz, _⟩ := rel_tatx hW h hyn
        obtain ⟨n, hn⟩ := rel_up hW h y.id ⟨z, hz⟩
        rw [upN_eq hn]; have hB := (rel_bel hW h hx hn y hyn rfl).trans (not_bel hW hto hf hy)
        by_cases hc : fr.length < to.length ∧ to.take fr.length = fr
        · rw [if_pos (hB.2 hc), if_pos hc]
        · rw [if_neg (fun h => hc (hB.1 h)), if_neg hc]
theorem rel_rename {fr to : List (List UInt8)} {t' : Tr} {r' : Nd} {e e2 : Int} {w' : Rt} (hR : RenR t r fr to t' r' e) (hR2 : RenW w fr to w' e2) : e = e2 ∧ RelW t' w' := by
  have hm := rel_rnE hW h fr to
  rcases hR with ⟨h1, h2, rfl, rfl⟩ | ⟨h1, rfl, hfr, hto, x, y, k, g, hf, hx0, hh, hnb, hM, hK, rfl, hnx, hby⟩
  · rcases hR2 with ⟨h3, rfl, h4⟩ | ⟨h3, h4, _⟩
    · exact ⟨by rw [h1, h4, hm], h⟩
    · rw [hm, ← h1] at h4; exact absurd h4 h2
  · rcases hR2 with ⟨h3, rfl, h4⟩ | ⟨rfl, h4, htb, hnx2, i, z, hzi, hz, hL⟩
    · rw [h4, hm, h1] at h3; exact absurd rfl h3
    · have hx := fnd_mem hW.root hf
      have hl : (lookR w.L 0 fr).1 = (x.id : Int) := by rw [rel_look hW h, hf]; rfl
      have hh2 : (holdR w.L to).1 = (y.id : Int) := by rw [rel_hold hW h, hh]; rfl
      rw [hl] at hz; rw [hh2] at hL; have hzl := List.mem_of_getElem? hzi
      obtain ⟨z2, hz2, _, ec⟩ := rel_tatx hW h hx
      rw [hz] at hz2; injection hz2 with hz2; subst hz2
      refine ⟨rfl, rel_put (f := fun c => { c with par := (y.id : Int), name := lastN to }) h hW.ids hzi ec rfl ?_ hnx hL hnx2 (h.f15 z hzl) fun h0 => ?_⟩
      · rw [hM.lst, List.map_map, List.map_map]; refine List.map_congr_left fun u hu => ?_
        show (g u).co = updC x.id _ u.co
        by_cases e : u = x
        · rw [e, updC_yes (show x.co.id = x.id from rfl)]
          show (⟨(g x).id, (g x).par, (g x).dir, (g x).name, (g x).data, (g x).a⟩ : Co) = ⟨x.id, (y.id : Int), x.dir, lastN to, x.data, x.a⟩
          rw [hM.id, hM.par, hM.dir, hM.name, hM.data, hM.a]
        · rw [updC_no (fun e2 => e (nmId hW.ids hu hx e2))]; obtain ⟨m1, m2⟩ := hM.no u hu e
          show (⟨(g u).id, (g u).par, (g u).dir, (g u).name, (g u).data, (g u).a⟩ : Co) = ⟨u.id, u.par, u.dir, u.name, u.data, u.a⟩
          rw [hM.id, m1, hM.dir, m2, hM.data, hM.a]
      · have h5 : z.id = 0 := h0
        have h6 : x.id = z.id := congrArg Co.id ec
        exact absurd (h6.trans h5) hx0
end

end Go.Proofs.Ytbbmhppkhcodfaa
namespace Go.Proofs.Ytbbmhppkhcodfaa
open Go.Sx
set_option linter.unusedVariables false
set_option linter.unusedSimpArgs false
set_option maxRecDepth 100000
set_option maxHeartbeats 4000000

theorem be_inj {a b k : Nat} (ha : a < 256 ^ k) (hb : b < 256 ^ k) (h : be a k = be b k) : a = b := by
  have h1 := congrArg val h
  rw [val_be, val_be, Nat.mod_eq_of_lt ha, Nat.mod_eq_of_lt hb] at h1; exact h1
theorem be_cut {a b k : Nat} {s1 s2 : List UInt8} (ha : a < 256 ^ k) (hb : b < 256 ^ k) (h : be a k ++ s1 = be b k ++ s2) : a = b ∧ s1 = s2 := by
  have h1 := List.append_inj h (by rw [be_length, be_length])
  exact ⟨be_inj ha hb h1.1, h1.2⟩
theorem five_cut {a b : At} (ha : a.Ok) (hb : b.Ok) (h : enc4 (five a) = enc4 (five b)) : a.u = b.u ∧ a.g = b.g ∧ a.m = b.m ∧ a.a = b.a ∧ a.t = b.t := by
  simp only [enc4, five, List.flatMap_cons, List.flatMap_nil] at h; have p : (4294967296 : Nat) = 256 ^ 4 := by decide
  obtain ⟨h1, h⟩ := be_cut (p ▸ ha.u) (p ▸ hb.u) h
  obtain ⟨h2, h⟩ := be_cut (p ▸ ha.g) (p ▸ hb.g) h
  obtain ⟨h3, h⟩ := be_cut (p ▸ ha.m) (p ▸ hb.m) h
  obtain ⟨h4, h⟩ := be_cut (p ▸ ha.a) (p ▸ hb.a) h
  obtain ⟨h5, h⟩ := be_cut (p ▸ ha.t) (p ▸ hb.t) h
  exact ⟨h1, h2, h3, h4, h5⟩
theorem hdr_inj {x y : Nd} (hx : x.id < 256 ^ 8) (hy : y.id < 256 ^ 8) (ax : x.a.Ok ∧ x.a.s = 0 ∧ x.a.f = 15) (ay : y.a.Ok ∧ y.a.s = 0 ∧ y.a.f = 15) (h : hdr x = hdr y) : x.id = y.id ∧ x.dir = y.dir ∧ x.a = y.a := by
  unfold hdr at h; rw [List.append_assoc, List.append_assoc] at h; obtain ⟨h1, h⟩ := be_cut hx hy h
  have h2 := List.append_inj h rfl
  obtain ⟨e1, e2, e3, e4, e5⟩ := five_cut ax.1 ay.1 h2.2
  refine ⟨h1, ?_, ?_⟩
  · have h4 := h2.1
    cases hxd : x.dir <;> cases hyd : y.dir <;> first | rfl | (rw [hxd, hyd] at h4; exact absurd h4 (by decide))
  · have hx2 := ax.2.1; have hx3 := ax.2.2; have hy2 := ay.2.1; have hy3 := ay.2.2
    revert e1 e2 e3 e4 e5 hx2 hx3 hy2 hy3
    cases x.a; cases y.a
    simp only [At.mk.injEq]; intro e1 e2 e3 e4 e5 g1 g2 g3 g4; exact ⟨by omega, by omega, e1, e2, e3, e4, e5⟩
section
variable {A B : Tr} {rA rB : Nd} (hA : Wf A rA) (hB : Wf B rB) (fA : ∀ u ∈ A.ns, u.a.f = 15) (fB : ∀ u ∈ B.ns, u.a.f = 15) (nA : A.next ≤ 9223372036854775807) (nB : B.next ≤ 9223372036854775807)
include hA hB fA fB nA nB
/-- what stands below, of two things with the same bytes -/
theorem enc_inj : ∀ (n m : Nat) {x y : Nd} {s1 s2 : List UInt8}, x ∈ A.ns → y ∈ B.ns → Deep A.ns n x → Deep B.ns m y → encN A.ns n x ++ s1 = encN B.ns m y ++ s2 →
    s1 = s2 ∧ x.id = y.id ∧ x.dir = y.dir ∧ x.data = y.data ∧ x.a = y.a ∧ ((kidsN A.ns x).flatMap (dfs A.ns (n - 1))).map Nd.co = ((kidsN B.ns y).flatMap (dfs B.ns (m - 1))).map Nd.co
  | 0, _, _, _, _, _, _, _, h, _, _ => h.elim
  | _ + 1, 0, _, _, _, _, _, _, _, h, _ => h.elim
  | n + 1, m + 1, x, y, s1, s2, hx, hy, dx, dy, h => by
    rw [encN_body, encN_body, List.append_assoc, List.append_assoc] at h; have h1 := List.append_inj h (by rw [hdr_len, hdr_len])
    have lx := hA.lt x hx
    have ly := hB.lt y hy
    obtain ⟨e1, e2, e3⟩ := hdr_inj (by omega) (by omega) ⟨(hA.a x hx).1, (hA.a x hx).2, fA x hx⟩ ⟨(hB.a y hy).1, (hB.a y hy).2, fB y hy⟩ h1.1
    have h2 := h1.2
    unfold body at h2
    by_cases hd : x.dir = true
    · have hd2 : y.dir = true := by rw [← e2]; exact hd
      rw [if_pos hd, if_pos hd2, List.append_assoc, List.append_assoc] at h2; have kx := kids_le hA.kd hx
      have ky := kids_le hB.kd hy
      have fx := hA.few
      have fy := hB.few
      obtain ⟨hk, h3⟩ := be_cut (show x.kids.length < 256 ^ 4 by omega) (show y.kids.length < 256 ^ 4 by omega) h2
      have go : ∀ (l1 l2 : List Nd), l1.length = l2.length → (∀ u ∈ l1, u ∈ A.ns ∧ u.par = x.id ∧ Deep A.ns n u) → (∀ v ∈ l2, v ∈ B.ns ∧ v.par = y.id ∧ Deep B.ns m v) → l1.flatMap (kidB A.ns n) ++ s1 = l2.flatMap (kidB B.ns m) ++ s2 →
          s1 = s2 ∧ (l1.flatMap (dfs A.ns n)).map Nd.co = (l2.flatMap (dfs B.ns m)).map Nd.co := fun l1 => by
        induction l1 with
        | nil =>
          intro l2 hl _ _ he; have : l2 = [] := List.eq_nil_of_length_eq_zero hl.symm
          subst this; exact ⟨he, rfl⟩
        | cons u l1 ih =>
          intro l2 hl m1 m2 he
          cases l2 with
          | nil => cases hl
          | cons v l2 =>
            obtain ⟨hu, up, ud⟩ := m1 u (by simp)
            obtain ⟨hv, vp, vd⟩ := m2 v (by simp)
            rw [List.flatMap_cons, List.flatMap_cons] at he; unfold kidB at he; simp only [List.append_assoc] at he
            have un : u.name.length ≤ 30 := by
              rcases hA.nm u hu with h0 | h0
              · have : u = rA := nmId hA.ids hu hA.root (by rw [h0, hA.rid])
                rw [this, hA.rpar] at up; omega
              · exact ptOk_len h0
            have vn : v.name.length ≤ 30 := by
              rcases hB.nm v hv with h0 | h0
              · have : v = rB := nmId hB.ids hv hB.root (by rw [h0, hB.rid])
                rw [this, hB.rpar] at vp; omega
              · exact ptOk_len h0
            obtain ⟨hnl, he⟩ := be_cut (show u.name.length < 256 ^ 4 by omega) (show v.name.length < 256 ^ 4 by omega) he
            have h4 := List.append_inj he hnl
            obtain ⟨g1, g2, g3, g4, g5, g6⟩ := enc_inj n m hu hv ud vd h4.2
            obtain ⟨q1, q2⟩ := ih l2 (by simpa using hl) (fun w hw => m1 w (List.mem_cons_of_mem _ hw)) (fun w hw => m2 w (List.mem_cons_of_mem _ hw)) g1
            refine ⟨q1, ?_⟩; rw [List.flatMap_cons, List.flatMap_cons, List.map_append, List.map_append, q2]
            congr 1
            have ec : u.co = v.co := by
              show (⟨u.id, u.par, u.dir, u.name, u.data, u.a⟩ : Co) = ⟨v.id, v.par, v.dir, v.name, v.data, v.a⟩
              rw [g2, up, vp, e1, g3, h4.1, g4, g5]
            cases n with
            | zero => exact ud.elim
            | succ n => cases m with
              | zero => exact vd.elim
              | succ m =>
                show (u :: (kidsN A.ns u).flatMap (dfs A.ns n)).map Nd.co = (v :: (kidsN B.ns v).flatMap (dfs B.ns m)).map Nd.co
                rw [List.map_cons, List.map_cons, ec, show ((kidsN A.ns u).flatMap (dfs A.ns n)).map Nd.co = ((kidsN B.ns v).flatMap (dfs B.ns m)).map Nd.co from g6]
      obtain ⟨q1, q2⟩ := go (kidsN A.ns x) (kidsN B.ns y) (by rw [kidsN_len hA.kd hx, kidsN_len hB.kd hy, hk]) (fun u hu => ⟨((kidsN_mem hA.kd hA.ids hx).1 hu).1, ((kidsN_mem hA.kd hA.ids hx).1 hu).2, dx u hu⟩) (fun v hv => ⟨((kidsN_mem hB.kd hB.ids hy).1 hv).1, ((kidsN_mem hB.kd hB.ids hy).1 hv).2, dy v hv⟩) h3
      exact ⟨q1, e1, e2, by rw [hA.dat x hx hd, hB.dat y hy hd2], e3, q2⟩
    · have hd2 : ¬ y.dir = true := by rw [← e2]; exact hd
      rw [if_neg hd, if_neg hd2, List.append_assoc, List.append_assoc] at h2; have kx := wf_dl hA x hx
      have ky := wf_dl hB y hy
      obtain ⟨hk, h3⟩ := be_cut (show x.data.length < 256 ^ 4 by omega) (show y.data.length < 256 ^ 4 by omega) h2
      have h4 := List.append_inj h3 hk
      exact ⟨h4.2, e1, e2, h4.1, e3, by rw [kids_dir hA hx hd, kids_dir hB hy hd2]; rfl⟩
end
theorem dfs_self {ns : List Nd} {n : Nat} {x : Nd} (h : Deep ns n x) : x ∈ dfs ns n x := by
  cases n with
  | zero => exact h.elim
  | succ n => exact List.mem_cons_self
theorem dfs_closed {ns : List Nd} : ∀ {n : Nat} {x z u : Nd}, Deep ns n x → z ∈ dfs ns n x → u ∈ kidsN ns z → u ∈ dfs ns n x
  | 0, _, _, _, h, _, _ => h.elim
  | n + 1, x, z, u, h, hz, hu => by
    show u ∈ x :: (kidsN ns x).flatMap (dfs ns n)
    have hz2 : z ∈ x :: (kidsN ns x).flatMap (dfs ns n) := hz
    rcases List.mem_cons.1 hz2 with hz2 | hz2
    · rw [hz2] at hu; exact List.mem_cons_of_mem _ (List.mem_flatMap.2 ⟨u, hu, dfs_self (h u hu)⟩)
    · obtain ⟨k, hk, hzk⟩ := List.mem_flatMap.1 hz2
      exact List.mem_cons_of_mem _ (List.mem_flatMap.2 ⟨k, hk, dfs_closed (h k hk) hzk hu⟩)
theorem dfs_all {t : Tr} {r : Nd} (hW : Wf t r) {n : Nat} (hn : Deep t.ns n r) : ∀ (m : Nat) {d : Nat → Nat} (_ : ∀ x ∈ t.ns, ∀ y ∈ t.ns, y.par = (x.id : Int) → d y.id = d x.id + 1) {x : Nd}, x ∈ t.ns → d x.id ≤ m → x ∈ dfs t.ns n r := fun m => by
  induction m with
  | zero =>
    intro d hD x hx hm
    rcases hW.par x hx with h0 | ⟨z, hz, hp, _⟩
    · rw [nmId hW.ids hx hW.root (by rw [h0, hW.rid])]; exact dfs_self hn
    · have := hD z hz x hx hp; omega
  | succ m ih =>
    intro d hD x hx hm
    rcases hW.par x hx with h0 | ⟨z, hz, hp, _⟩
    · rw [nmId hW.ids hx hW.root (by rw [h0, hW.rid])]; exact dfs_self hn
    · have h1 := hD z hz x hx hp
      exact dfs_closed hn (ih hD hz (by omega)) ((kidsN_mem hW.kd hW.ids hz).2 ⟨hx, hp⟩)
theorem dfs_perm {t : Tr} {r : Nd} (hW : Wf t r) {n : Nat} (hn : Deep t.ns n r) : (dfs t.ns n r).Perm t.ns := by
  obtain ⟨d, hD⟩ := hW.rk
  obtain ⟨h1, h2⟩ := dfs_nodup hW n hW.root
  exact (List.perm_ext_iff_of_nodup h1 (nodup_from hW.ids)).2 fun x => ⟨h2 x, fun hx => dfs_all hW hn _ hD hx (Nat.le_refl _)⟩
/-- a tree that was saved and loaded holds the same -/
theorem rel_load {t t' : Tr} {r r' : Nd} {w : Rt} {b : List UInt8} (hW : Wf t r) (h : RelW t w) (hn : t.next ≤ 9223372036854775807) (hS : SaveR t r b) (hW' : Wf t' r') (hS' : SaveR t' r' b) (hn' : t'.next ≤ 9223372036854775807) (hf : ∀ u ∈ t'.ns, u.a.f = 15) (hnm : r'.name = []) : RelW t' w := by
  obtain ⟨n, dn, hb⟩ := hS.ex
  obtain ⟨m, dm, hb'⟩ := hS'.ex
  rw [hb] at hb'; obtain ⟨e1, e2⟩ := be_cut (show t.next < 256 ^ 8 by omega) (show t'.next < 256 ^ 8 by omega) hb'
  have f15 : ∀ u ∈ t.ns, u.a.f = 15 := fun u hu => by
    obtain ⟨y, hy, e⟩ := rel_tw h hu
    rw [show u.a = y.a from congrArg Co.a e]; exact h.f15 y hy
  have rn : r.name = [] := by
    obtain ⟨y, hy, e⟩ := rel_tw h hW.root
    rw [show r.name = y.name from congrArg Co.name e]; exact h.rn y hy (by rw [← show r.id = y.id from congrArg Co.id e]; exact hW.rid)
  obtain ⟨_, g2, g3, g4, g5, g6⟩ := enc_inj hW hW' f15 hf hn hn' n m (s1 := []) (s2 := []) hW.root hW'.root dn dm (by rw [e2])
  have ec : r.co = r'.co := by
    show (⟨r.id, r.par, r.dir, r.name, r.data, r.a⟩ : Co) = ⟨r'.id, r'.par, r'.dir, r'.name, r'.data, r'.a⟩
    rw [g2, hW.rpar, hW'.rpar, g3, rn, hnm, g4, g5]
  have eq : (dfs t.ns n r).map Nd.co = (dfs t'.ns m r').map Nd.co := by
    cases n with
    | zero => exact dn.elim
    | succ n => cases m with
      | zero => exact dm.elim
      | succ m =>
        show (r :: (kidsN t.ns r).flatMap (dfs t.ns n)).map Nd.co = (r' :: (kidsN t'.ns r').flatMap (dfs t'.ns m)).map Nd.co
        rw [List.map_cons, List.map_cons, ec, show ((kidsN t.ns r).flatMap (dfs t.ns n)).map Nd.co = ((kidsN t'.ns r').flatMap (dfs t'.ns m)).map Nd.co from g6]
  have p1 := (dfs_perm hW' dm).map Nd.co
  rw [← eq] at p1; exact ⟨p1.symm.trans (((dfs_perm hW dn).map Nd.co).trans h.pm), by rw [← e1, h.nx], h.f15, h.rn⟩

end Go.Proofs.Ytbbmhppkhcodfaa
namespace Go.Proofs.Ytbbmhppkhcodfaa
open Go.Sx
set_option linter.unusedVariables false
set_option linter.unusedSimpArgs false
set_option maxRecDepth 100000
set_option maxHeartbeats 4000000

theorem run_nameFields (d : Nat) (x y : Nm) (w : World) : (Op.eqFields (d+3) x.cs.toArray y.cs.toArray (Try.prog.fieldsOf 93).toList).run Try.prog w = .ok (decide (x = y)) w := by
  have h : decide (x = y) = (decide (str x.n = str y.n) && decide (x.at' = y.at')) := by
    cases x; cases y; simp only [Nm.mk.injEq, Bool.decide_and]
    congr 1
    simp only [decide_eq_decide]; exact ⟨fun h => by rw [h], str_inj⟩
  have hl : (Try.prog.fieldsOf 93).toList = [⟨ "Name", 9, 0, false, "", "", 0⟩, ⟨ "Attrs", 40, 1, false, "", "", 16⟩] := by kernel_rfl
  have e1 : ∀ (a b : ByteArray) (w : World), (Op.equalIn (d + 3) 9 (.string a) (.string b)).run Try.prog w = .ok (decide (a = b)) w := fun a b w => by rw [run_equalIn_string w (d + 2) 9 a b Try.underlying9, beqBytes]
  have p1 : ∀ z : Nm, z.cs.toArray[0]? = some (.string (str z.n)) := fun z => rfl
  have p2 : ∀ z : Nm, z.cs.toArray.extract 1 (1 + 7) = z.at'.cs.toArray := fun z => rfl
  rw [h, hl]; simp only [Op.eqFields, Sem.run_bind, Sem.run_ite, part, Try.isAgg9, Try.isAgg40, Try.sizeOf40, Result.andThen_ok, Bool.false_eq_true, if_false, if_true, p1, p2, Sem.run_pure, e1]; have e2 := fun w => run_attrEqIn (d + 1) x.at' y.at' w
  simp only [e2, Result.andThen_ok, Sem.run_bind, Sem.run_ite, Sem.run_pure]
  by_cases h1 : str x.n = str y.n <;> by_cases h2 : x.at' = y.at' <;> simp [h1, h2]
theorem run_nameEqIn (d : Nat) (x y : Nm) (w : World) : (Op.equalIn (d + 4) 93 (.agg x.cs.toArray) (.agg y.cs.toArray)).run Try.prog w = .ok (decide (x = y)) w := by
  rw [run_equalIn_agg w (d + 3) 93 _ _ (by kernel_rfl) (by kernel_rfl)]; exact run_nameFields d x y w
theorem run_nameNe (x y : Nm) (w : World) : (binOp .neq 93 (.agg x.cs.toArray) (.agg y.cs.toArray)).run Try.prog w = .ok (.bool (!decide (x = y))) w := by
  rw [run_neq_struct]; show ((Op.equalIn (9996 + 4) 93 _ _).run Try.prog w).andThen _ = _
  rw [run_nameEqIn]; rfl
theorem nameGuard (op : BinOp) (o1 o2 : Operand) (x y : Nm) (w : World) : (eqGuard op 93 o1 o2 (.agg x.cs.toArray) (.agg y.cs.toArray)).run Try.prog w = .ok () w := run_eqGuard_agg w op 93 o1 o2 _ _ (by kernel_rfl)
section
variable {n : Nat} {L : HProp} {Γ : Env} {d : Option Tmp} {ty : TypeId} {pos : String} {aft : Array Edge} {g : Option (Nat × Bool)}
theorem ro_nameNe {ty' : TypeId} {o1 o2 : Operand} {x y : Nm} {c : Bool} (hx : ev Γ o1 = some (.agg x.cs.toArray)) (hy : ev Γ o2 = some (.agg y.cs.toArray)) (hz : (!decide (x = y)) = c) : RO Try.prog n L Γ ⟨d, .binOp .neq 93 o1 o2 ty', ty, pos, aft, g⟩ (.bool c) := by
  subst hz; exact ro_cmpOf hx hy (fun w => nameGuard _ _ _ x y w) (fun w => run_nameNe x y w)
end


theorem knames_spec (V : HProp) (a b : List Nm) (p1 p2 : Option Addr) (c1 c2 : Nat) (h1 : Vw V (.slice p1 a.length c1) a.length (flat Nm.cs a)) (h2 : Vw V (.slice p2 b.length c2) b.length (flat Nm.cs b)) (hl : a.length ≤ 140737488355328) :
    Tri Try.prog 27 [.slice p1 a.length c1, .slice p2 b.length c2] [V] (fun v H' => ∃ K, (v = .bool (decide (a = b)) ∧ K = []) ∧ H' = K ++ [V]) := by
  refine tri_of_wpS Try.func27 rfl Try.ntmps27 (by simp) ?_; refine wp_seq' (wp_region' (ops_ro' rfl (ro_assign rfl) rfl (ops_nil (Then_normal (wp_seq' ?_))))); refine wp_seq' (wp_region' (ops_ro' rfl (ro_move rfl) rfl (ops_ro' rfl (ro_sliceLen Try.underlying54 rfl) rfl (ops_ro' rfl (ro_move rfl) rfl (ops_ro' rfl (ro_sliceLen Try.underlying54 rfl) rfl ?_))))); refine ops_ro' rfl (ro_neq rfl rfl rfl) rfl (ops_nil (Then_normal (wp_cond' rfl (fun hc10 => ?_) (fun hc10 => ?_))))
  · replace hc10 := of_decide_eq_true hc10
    refine wp_seq' (wp_region' (ops_ro' rfl (ro_assign rfl) rfl (ops_nil (Then_normal (wp_ret' ?_))))); refine Then_ret ?_; refine' doneS_ret (res1 rfl rfl) ?_ ?_
    rotate_left 1
    exact ⟨_, ⟨by rw [decide_eq_false (fun h => by rw [h] at hc10; exact hc10 rfl)], rfl⟩, rfl⟩
    exact SubH.refl _
  · replace hc10 := of_decide_eq_false hc10
    refine wp_skip' ?_; refine Then_normal (wp_seq' (wp_seq' (wp_region' (ops_ro' rfl (ro_assign rfl) rfl (ops_nil ?_))))); refine Then_normal (wp_block' ?_); refine wp_loopK 4 (fun m Δ LL => ∃ (i : Nat), (i + m = a.length ∧ a.length = b.length ∧ a.take i = b.take i) ∧ Δ = [(5, .int .i64 (i : Nat))] ∧ LL = [V]) (m := a.length) (Has.cons (k := 0) rfl (Has.cons (k := 1) rfl (Has.nil _))) (kept ⟨0, ⟨by omega, by omega, by simp⟩, rfl, rfl⟩ (by repeat (first | exact Has.nil _ | refine Has.cons rfl ?_)) (by repeat (first | exact Has.nil _ | refine Has.cons rfl ?_)) (by repeat (first | exact SubH.nil _ | refine SubH.cons 0 rfl ?_ | refine SubH.cons 1 rfl ?_ | refine SubH.cons 2 rfl ?_ | refine SubH.cons 3 rfl ?_ | refine SubH.cons 4 rfl ?_ | refine SubH.cons 5 rfl ?_ | refine SubH.cons 6 rfl ?_ | refine SubH.cons 7 rfl ?_ | refine SubH.rown ?_))) ?_; rintro m Δ LL ⟨i, ⟨hm, hab, ht⟩, rfl, rfl⟩; simp only [zA, zB]; refine wp_seq' (wp_seq' (wp_region' (ops_ro' rfl (ro_move rfl) rfl (ops_ro' rfl (ro_move rfl) rfl (ops_ro' rfl (ro_sliceLen Try.underlying54 rfl) rfl ?_))))); refine ops_ro' rfl (ro_lss rfl rfl rfl) rfl (ops_nil (Then_normal (wp_cond' rfl (fun hc14 => ?_) (fun hc14 => ?_))))
    · replace hc14 := of_decide_eq_true hc14
      have hi : i < a.length := by omega
      have hj : i < b.length := by omega
      refine wp_know (fun w F s => vw_ptr (Vw.pick (H := [V]) 0 rfl h1) s (by omega)) ?_; rintro ⟨b1, o1, rfl⟩; refine wp_know (fun w F s => vw_ptr (Vw.pick (H := [V]) 0 rfl h2) s (by omega)) ?_; rintro ⟨b2, o2, rfl⟩; refine wp_skip' ?_; refine Then_normal (wp_seq' (wp_block' ?_)); refine wp_seq' (wp_draw 9 (by kernel_rfl) (Split.all _) ?_); refine any_ro' (i := 0) (by kernel_rfl) rfl rfl (ro_move rfl) rfl (fun _ _ _ h => h) ?_; refine any_ro' (i := 1) (by kernel_rfl) rfl rfl (ro_move rfl) rfl (fun _ _ _ h => h) ?_; refine any_ro' (i := 2) (by kernel_rfl) rfl rfl (ro_indexSlice sl54 rfl rfl rfl (by omega)) rfl (fun _ _ _ h => h) ?_; refine any_ro' (i := 3) (by kernel_rfl) rfl rfl (ro_loadA ag93 rfl (RdN.of_pick 0 rfl (RdN.elem (vw_rdn h1) Nm.len (List.getElem?_eq_getElem hi))) rfl) rfl (fun _ _ _ h => h) ?_; refine any_ro' (i := 4) (by kernel_rfl) rfl rfl (ro_move rfl) rfl (fun _ _ _ h => h) ?_; refine any_ro' (i := 5) (by kernel_rfl) rfl rfl (ro_move rfl) rfl (fun _ _ _ h => h) ?_; refine any_ro' (i := 6) (by kernel_rfl) rfl rfl (ro_indexSlice sl54 rfl rfl rfl (by omega)) rfl (fun _ _ _ h => h) ?_; refine any_ro' (i := 7) (by kernel_rfl) rfl rfl (ro_loadA ag93 rfl (RdN.of_pick 0 rfl (RdN.elem (vw_rdn h2) Nm.len (List.getElem?_eq_getElem hj))) rfl) rfl (fun _ _ _ h => h) ?_; refine any_ro' (i := 8) (by kernel_rfl) rfl rfl (ro_nameNe rfl rfl rfl) rfl (fun _ _ _ h => h) ?_; refine any_doneL (by kernel_rfl) ?_; refine Then_normal (wp_cond' rfl (fun hc25 => ?_) (fun hc25 => ?_))
      · simp only [Bool.and_eq_true, decide_eq_true_eq, Bool.not_eq_true', decide_eq_false_iff_not, bne_iff_ne, ne_eq] at hc25
        replace hc25 : a[i] ≠ b[i] := by simpa using hc25
        refine wp_seq' (wp_region' (ops_ro' rfl (ro_assign rfl) rfl (ops_nil (Then_normal (wp_ret' ?_))))); refine InBlock_ret ?_; refine Then_ret ?_; refine Then_ret ?_; refine InBlock_ret ?_; refine Then_ret ?_; refine' doneS_ret (res1 rfl rfl) ?_ ?_
        rotate_left 1
        exact ⟨_, ⟨by rw [decide_eq_false (fun h => by subst h; exact hc25 rfl)], rfl⟩, rfl⟩
        exact SubH.refl _
      · simp only [Bool.and_eq_false_iff, decide_eq_false_iff_not, Bool.not_eq_false', decide_eq_true_eq] at hc25
        replace hc25 : a[i] = b[i] := by simpa using hc25
        refine wp_skip' ?_; refine InBlock_normal ?_; refine Then_normal (wp_region' (ops_ro' rfl (ro_move rfl) rfl (ops_ro' rfl (ro_add rfl rfl (wrap_inc (by omega))) rfl (ops_ro' rfl (ro_assign rfl) rfl (ops_nil ?_))))); refine Then_normal (back (m - 1) (by omega) (kept ⟨i + 1, ⟨by omega, hab, by rw [List.take_succ_eq_append_getElem hi, List.take_succ_eq_append_getElem hj, ht, hc25]⟩, rfl, rfl⟩ ?_ ?_ ?_))
        · exact (by repeat (first | exact Has.nil _ | refine Has.cons rfl ?_))
        · exact (by repeat (first | exact Has.nil _ | refine Has.cons rfl ?_))
        · exact SubH.refl _
    · replace hc14 := of_decide_eq_false hc14
      refine wp_exit' ?_; refine Then_exit ?_; refine Then_exit ?_; refine InBlock_here ?_; refine Then_normal (wp_seq' (wp_region' (ops_ro' rfl (ro_assign rfl) rfl (ops_nil (Then_normal ?_))))); refine wp_ret' ?_; refine' doneS_ret (res1 rfl rfl) ?_ ?_
      rotate_left 1
      exact ⟨_, ⟨by rw [decide_eq_true (by rw [List.take_of_length_le (by omega), List.take_of_length_le (by omega)] at ht; exact ht)], rfl⟩, rfl⟩
      exact SubH.refl _

end Go.Proofs.Ytbbmhppkhcodfaa
