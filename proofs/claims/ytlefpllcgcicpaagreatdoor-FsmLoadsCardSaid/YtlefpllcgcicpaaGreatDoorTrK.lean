/-
  A tree grows: Make, New.
  A tree begins: New; a file's size: sized.
  A file is written: Write.
  What Remove refuses; the runs of chapter 15.
-/
import Derived.Test.YtlefpllcgcicpaaGreatDoorTrX
import Derived.Test.YtlefpllcgcicpaaGreatDoorSxSub
set_option linter.unusedVariables false
set_option linter.unusedSimpArgs false
namespace Go.Proofs.YtlefpllcgcicpaaGreatDoor
open Go.Sx
set_option maxRecDepth 100000
set_option maxHeartbeats 4000000
theorem tree_open {t : Tr} {L : List HProp} {w : World} {F : HProp} (s : sat w (star (St (tree t :: L)) F)) : sat w (star (St (trL t ++ L)) F) := by
 rw [qJ, tree, ← yC] at s; exact s
theorem xO {t : Tr} {L : List HProp} {w : World} {F : HProp} (s : sat w (star (St (trL t ++ L)) F)) : sat w (star (St (tree t :: L)) F) := by
 rw [qJ, tree, ← yC]; exact s
theorem nds_op {ns : List Nd} {i : Nat} {x : Nd} {L : List HProp} (h : ns[i]? = some x) {w : World} {F : HProp} (s : sat w (star (St (nds ns :: L)) F)) : sat w (star (St (own x.blk (.cells x.cs.toArray 98 (0, 0)) :: rowP x.kp x.kc x.kids :: rowD x.dp x.dc x.data :: nds (ns.eraseIdx i) :: L)) F) := by
 rw [qJ, nds_open h, nd_parts] at s; simp only [qJ, zv] at s ⊢; exact s
theorem nds_cl {ns : List Nd} {i : Nat} {x y : Nd} {L : List HProp} (h : ns[i]? = some x) {w : World} {F : HProp} (s : sat w (star (St (own y.blk (.cells y.cs.toArray 98 (0, 0)) :: rowP y.kp y.kc y.kids :: rowD y.dp y.dc y.data :: nds (ns.eraseIdx i) :: L)) F)) : sat w (star (St (nds (ns.set i y) :: L)) F) := by
 rw [qJ, nds_close h, nd_parts]; simp only [qJ, zv] at s ⊢; exact s
theorem turn_me {f : Nd → Nd} (h : ∀ y, (f y).me = y.me) (b : Nat) (ns : List Nd) : (turnB b f ns).map Nd.me = ns.map Nd.me := by
 unfold turnB; rw [List.map_map]; exact List.map_congr_left fun y _ => by show (if y.blk = b then f y else y).me = y.me; split; exact h y; rfl
theorem made_in {t : Tr} {x : Nd} {nm : List UInt8} {dir : Bool} {b : Nat} {kp : Option Addr} {kc : Nat} : newNd b t.ck t.next x.id dir nm ∈ (made t x nm dir b kp kc).ns := List.mem_append_right _ (List.mem_singleton_self _)
theorem make_close {t : Tr} {x : Nd} {nm : List UInt8} {dir : Bool} {b i : Nat} {kp : Option Addr} {kc : Nat} {L : List HProp} (hb : (t.ns.map Nd.blk).Nodup) (h : t.ns[i]? = some x) {w : World} {F : HProp}
 (s : sat w (star (St (own x.blk (.cells (Nd.cs (heldF kp kc (kpl t.ns x nm) b x)).toArray 98 (0, 0)) :: rowP kp kc (insAt x.kids (kpl t.ns x nm) b) :: rowD x.dp x.dc x.data :: nds ((t.ns ++ [newNd b t.ck t.next x.id dir nm]).eraseIdx i) :: own t.tb (.cells ([.pointer (some ⟨t.rb, 0, none⟩), .map (some t.mb), .int .i64 ((t.next + 1 : Nat) : Int), .int .i64 (t.bytes : Int)] : List Value).toArray 95 (0, 0)) :: own t.mb (mapO ((t.ns ++ [newNd b t.ck t.next x.id dir nm]).map Nd.me) (t.ck + 1)) :: L)) F)) :
 sat w (star (St (tree (made t x nm dir b kp kc) :: L)) F) := by
 have hi := (List.getElem?_eq_some_iff.1 h).1
 have h2 : (t.ns ++ [newNd b t.ck t.next x.id dir nm])[i]? = some x := by rw [List.getElem?_append_left hi]; exact h
 have s1 := nds_cl (y := heldF kp kc (kpl t.ns x nm) b x) h2 s
 rw [List.set_append_left _ _ hi, set_turn hb h] at s1
 have e1 : (t.ns ++ [newNd b t.ck t.next x.id dir nm]).map Nd.me = (made t x nm dir b kp kc).ns.map Nd.me := by
  show _ = (turnB x.blk (heldF kp kc (kpl t.ns x nm) b) t.ns ++ [_]).map Nd.me
  rw [List.map_append, List.map_append, turn_me (f := heldF kp kc (kpl t.ns x nm) b) (fun _ => rfl)]
 rw [e1] at s1; refine xO (t := made t x nm dir b kp kc) ?_; have s2 : sat w (star (St (nds (made t x nm dir b kp kc).ns :: own (made t x nm dir b kp kc).tb (.cells (made t x nm dir b kp kc).cs.toArray 95 (0, 0)) :: own (made t x nm dir b kp kc).mb (mapO ((made t x nm dir b kp kc).ns.map Nd.me) (made t x nm dir b kp kc).ck) :: L)) F) := s1
 have hs : SubH (nds (made t x nm dir b kp kc).ns :: own (made t x nm dir b kp kc).tb (.cells (made t x nm dir b kp kc).cs.toArray 95 (0, 0)) :: own (made t x nm dir b kp kc).mb (mapO ((made t x nm dir b kp kc).ns.map Nd.me) (made t x nm dir b kp kc).ck) :: L) (trL (made t x nm dir b kp kc) ++ L) :=
  zJ 1 rfl (zJ 1 rfl (zJ 0 rfl (zj _)))
 exact hs w F s2
def MakeR (t : Tr) (r : Nd) (p : List (List UInt8)) (dir : Bool) (t' : Tr) (r' : Nd) (i e : Int) : Prop :=
 (t' = t ∧ r' = r ∧ i = 0 ∧ ((p = [] ∧ e = 1) ∨ (p ≠ [] ∧ (∃ x k, holdO t.ns r p = ((some x, k), 0)) ∧ 200 ≤ t.ns.length ∧ e = 13) ∨ (p ≠ [] ∧ holdO t.ns r p = ((none, 0), e) ∧ e ≠ 0))) ∨
 (p ≠ [] ∧ ∃ x, holdO t.ns r p = ((some x, kpl t.ns x (lastN p)), 0) ∧ t.ns.length < 200 ∧ i = t.next ∧ e = 0 ∧ ∃ b kp kc, (∀ y ∈ t.ns, y.blk ≠ b) ∧ t' = made t x (lastN p) dir b kp kc ∧ r' = (if r.blk = x.blk then heldF kp kc (kpl t.ns x (lastN p)) b r else r))
theorem make_spec {V : HProp} {t : Tr} {r : Nd} (hW : Wf t r) (hnx : t.next ≤ 9223372036854775806) (q : Option Addr) (cq : Nat) (p : List (List UInt8)) (hV : Vw V (.slice q p.length cq) p.length (txs p)) (hcq : p.length ≤ cq) (hl : p.length ≤ 100000) (hln : (lastN p).length ≤ 9223372036854775807) (dir : Bool) :
 Tri Tryz.prog 34 [t.v, .slice q p.length cq, .bool dir] [tree t, V] (fun v H' => ∃ t' r' i e, v = .tuple #[.int .i64 i, .int .i64 e] ∧ MakeR t r p dir t' r' i e ∧ Wf t' r' ∧ H' = [tree t', V]) := by
 by_cases hp : p = []
 ·have hp0 : p.length = 0 := by rw [hp]; rfl
  refine zt Tryz.func34 rfl Tryz.ntmps34 (by simp) ?_; refine zM (zK (zH rfl (zO rfl) rfl (zH rfl (zO rfl) rfl (zN (zI ?_))))); refine zM (zM (zK (zH rfl (zL rfl) rfl (zH rfl (zw Tryz.underlying47 rfl) rfl (zH rfl (qQ rfl rfl (decide_eq_true (by omega))) rfl ?_))))); refine zN (zI (qG rfl ?_)); refine zM (zK (zH rfl (zO rfl) rfl (zH rfl (zO rfl) rfl (zN (zI ?_))))); refine zi ?_; refine zh ?_; refine' zX (res2 rfl rfl rfl) ?_ ?_
  rotate_left 1
  exact ⟨t, r, 0, 1, rfl, .inl ⟨rfl, rfl, rfl, .inl ⟨hp, rfl⟩⟩, hW, rfl⟩
  exact zj _
 ·have hp1 := List.length_pos_iff.2 hp
  have hlast := lastN_at hp
  have hfr : ∀ y ∈ t.ns.map Nd.me, y.k ≠ (t.next : Int) := fun y hy => by
   obtain ⟨z, hz, rfl⟩ := List.mem_map.1 hy
   have := hW.lt z hz
   show (z.id : Int) ≠ _; omega
  refine tri_know (fun w F s => vw_ptr (zy5 (H := [tree t, V]) 1 rfl hV) s (by omega)) ?_; rintro ⟨b0, o0, rfl⟩
  rcases holdO_bad (ns := t.ns) (r := r) (p := p) with ⟨e, hh, he⟩ | ⟨x, k, hh⟩
  ·skip; refine zt Tryz.func34 rfl Tryz.ntmps34 (by simp) ?_; refine zM (zK (zH rfl (zO rfl) rfl (zH rfl (zO rfl) rfl (zN (zI ?_))))); refine zM (zM (zK (zH rfl (zL rfl) rfl (zH rfl (zw Tryz.underlying47 rfl) rfl (zH rfl (qQ rfl rfl (decide_eq_false (by omega))) rfl ?_))))); refine zN (zI (qC rfl ?_)); refine zl ?_; refine zI (zM (zK (zH rfl (zL rfl) rfl (zH rfl (zL rfl) rfl (zT rfl (zy (Pre := []) Tryz.call77 rfl rfl (zR _) (holder_spec (Tv.pick 0 rfl (qh t)) hW _ cq p ((zy5 1 rfl hV)) hcq hl hp hln)) rfl ?_))))); rintro _ H' ⟨_, ⟨rfl, rfl⟩, hH⟩; simp only [zy7] at hH; subst hH; rw [hh]; dsimp only [ptrO, Option.map]; refine zH rfl (zL rfl) rfl (zH rfl (zu rfl rfl) rfl (zH rfl (zu rfl rfl) rfl (zH rfl (zu rfl rfl) rfl (zH rfl (zO rfl) rfl (zH rfl (zO rfl) rfl ?_))))); refine zH rfl (zO rfl) rfl (zN (zI (zM (qA ?_)))); refine zM (zK (zH rfl (zL rfl) rfl (zH rfl (q9 rfl rfl (decide_eq_true (by omega))) rfl (zH rfl (zO rfl) rfl (zN ?_))))); refine zI (qG rfl ?_); refine zM (zK (zH rfl (zL rfl) rfl (zH rfl (zO rfl) rfl (zH rfl (zO rfl) rfl (zN ?_))))); refine zI (zi ?_); refine zn ?_; refine zh ?_; refine' zX (res2 rfl rfl rfl) ?_ ?_
   rotate_left 1
   exact ⟨t, r, 0, e, rfl, .inl ⟨rfl, rfl, rfl, .inr (.inr ⟨hp, hh, he⟩)⟩, hW, rfl⟩
   exact zj _
  ·obtain ⟨h1, hdir, hno, rfl, hok, _⟩ := x9 hh
   have hx := yu hW.root h1
   obtain ⟨ix, hix⟩ := List.mem_iff_getElem?.1 hx
   have hkl : kpl t.ns x (lastN p) ≤ x.kids.length := by have := plc_le (x.kids.map (nmB t.ns)) (lastN p); rwa [List.length_map] at this
   refine zt Tryz.func34 rfl Tryz.ntmps34 (by simp) ?_; refine zM (zK (zH rfl (zO rfl) rfl (zH rfl (zO rfl) rfl (zN (zI ?_))))); refine zM (zM (zK (zH rfl (zL rfl) rfl (zH rfl (zw Tryz.underlying47 rfl) rfl (zH rfl (qQ rfl rfl (decide_eq_false (by omega))) rfl ?_))))); refine zN (zI (qC rfl ?_)); refine zl ?_; refine zI (zM (zK (zH rfl (zL rfl) rfl (zH rfl (zL rfl) rfl (zT rfl (zy (Pre := []) Tryz.call77 rfl rfl (zR _) (holder_spec (Tv.pick 0 rfl (qh t)) hW _ cq p ((zy5 1 rfl hV)) hcq hl hp hln)) rfl ?_))))); rintro _ H' ⟨_, ⟨rfl, rfl⟩, hH⟩; simp only [zy7] at hH; subst hH; rw [hh]; dsimp only [ptrO, Option.map]; refine zH rfl (zL rfl) rfl (zH rfl (zu rfl rfl) rfl (zH rfl (zu rfl rfl) rfl (zH rfl (zu rfl rfl) rfl (zH rfl (zO rfl) rfl (zH rfl (zO rfl) rfl ?_))))); refine zH rfl (zO rfl) rfl (zN (zI (zM (qA ?_)))); refine zM (zK (zH rfl (zL rfl) rfl (zH rfl (q9 rfl rfl (decide_eq_false (by omega))) rfl (zH rfl (zO rfl) rfl (zN ?_))))); refine zI (qC rfl ?_); refine zM (zK (zH rfl (zL rfl) rfl (zH rfl (zU rfl) rfl (zH rfl (zP fa95_1 rfl) rfl (zH rfl (zW sc93 rfl (zy4 0 rfl (((qh t).cs 1 _ rfl)))) rfl ?_))))); refine zH rfl (ro_mapLen Tryz.underlying93 rfl (Mp.pick 0 rfl (qh t).mp)) rfl ?_; rw [List.length_map]; refine zH rfl (ro_geq rfl rfl rfl) rfl (zH rfl (zO rfl) rfl (zN (zI (zq rfl (fun hc26 => ?_) (fun hc26 => ?_)))))
   ·replace hc26 := zy2 hc26
    refine zM (zK (zH rfl (zO rfl) rfl (zH rfl (zO rfl) rfl (zN (zI ?_))))); refine zi ?_; refine zn ?_; refine zh ?_; refine' zX (res2 rfl rfl rfl) ?_ ?_
    rotate_left 1
    exact ⟨t, r, 0, 13, rfl, .inl ⟨rfl, rfl, rfl, .inr (.inl ⟨hp, ⟨x, _, hh⟩, by omega, rfl⟩)⟩, hW, rfl⟩
    exact zj _
   ·replace hc26 := zy3 hc26
    refine zl ?_; refine zQ ?_; refine zI (zM (qD (H' := trL t ++ [V]) (fun w F s => tree_open s) ?_)); simp only [trL, zA, zB]; refine zK (zH rfl (zL rfl) rfl (zH rfl (zL rfl) rfl (zH rfl (zL rfl) rfl (zH rfl (zw Tryz.underlying47 rfl) rfl (zH rfl (yi rfl rfl (xV (by omega) (by omega))) rfl ?_))))); refine zH rfl (qO sl47 rfl rfl rfl (by omega)) rfl (zH rfl (zW sc9 rfl (zy4 3 rfl (Rd.elem (j := 0) (ym hV) Tx.len hlast rfl))) rfl (zH rfl (zL rfl) rfl (zT rfl (zb Tryz.call63 rfl rfl (by repeat (first | exact zR _ | apply zG 0 rfl | apply zG 1 rfl | apply zG 2 rfl | apply zG 3 rfl | apply zG 4 rfl | apply zG 5 rfl | apply zG 6 rfl | apply zG 7 rfl)) (made_spec t.tb t.mb t.ck t.next t.bytes (.pointer (some ⟨t.rb, 0, none⟩)) rfl t.ns (lastN p) dir (x.id : Int) hnx hfr)) rfl ?_))); rintro _ H' ⟨_, ⟨b41, rfl, hb41, rfl⟩, hH⟩; simp only [zy7] at hH; subst hH; refine zH rfl (zO rfl) rfl (zN (zI (zM ?_))); have hix2 : (t.ns ++ [newNd b41 t.ck t.next x.id dir (lastN p)])[ix]? = some x := by rw [List.getElem?_append_left (List.getElem?_eq_some_iff.1 hix).1]; exact hix
    refine q8 (L := [nds (t.ns ++ [newNd b41 t.ck t.next x.id dir (lastN p)]), own t.tb (.cells ([.pointer (some ⟨t.rb, 0, none⟩), .map (some t.mb), .int .i64 ((t.next + 1 : Nat) : Int), .int .i64 (t.bytes : Int)] : List Value).toArray 95 (0, 0)), own t.mb (mapO ((t.ns ++ [newNd b41 t.ck t.next x.id dir (lastN p)]).map Nd.me) (t.ck + 1)), V]) (by repeat (first | exact zY _ | refine zJ 0 rfl ?_ | refine zJ 1 rfl ?_ | refine zJ 2 rfl ?_ | refine zJ 3 rfl ?_ | refine zJ 4 rfl ?_ | refine zJ 5 rfl ?_ | refine zJ 6 rfl ?_ | refine zJ 7 rfl ?_ | refine SubH.rown ?_)) ?_; refine qD (fun w F s => nds_op hix2 s) ?_; refine zK (zH rfl (zL rfl) rfl (zH rfl (zL rfl) rfl (zH rfl (zU rfl) rfl (zH rfl (zP xP rfl) rfl (zH rfl (zW sc96 rfl (zy4 0 rfl (Rd.own rfl))) rfl ?_))))); refine zH rfl (zL rfl) rfl (zH rfl (zL rfl) rfl (zT rfl (xL rfl (sbld (cs := [_]) [(.pointer none)] sl96 (by decide) (by kernel_rfl) rfl)) rfl ?_)); rintro _ _ ⟨b49, rfl, rfl⟩; refine zT rfl (zb Tryz.call78 rfl rfl (by repeat (first | exact zR _ | apply zG 0 rfl | apply zG 1 rfl | apply zG 2 rfl | apply zG 3 rfl | apply zG 4 rfl | apply zG 5 rfl | apply zG 6 rfl | apply zG 7 rfl)) (ins_spec x.kp x.kc x.kids (hW.kd.few x hx) (kpl t.ns x (lastN p)) hkl b41 b49)) rfl ?_; rintro _ H' ⟨_, ⟨p50, c50, rfl, rfl⟩, hH⟩; simp only [zy7] at hH; subst hH; refine zH rfl (zU rfl) rfl (zH rfl (zP xP rfl) rfl (zo rfl (qP 1 sc96 rfl rfl rfl rfl (zy1 rfl) (zg _)) rfl ?_)); rintro _ _ rfl; refine zN (zI (zM (q8 (L := [own x.blk (.cells (Nd.cs (heldF p50 c50 (kpl t.ns x (lastN p)) b41 x)).toArray 98 (0, 0)), rowP p50 c50 (insAt x.kids (kpl t.ns x (lastN p)) b41), rowD x.dp x.dc x.data, nds ((t.ns ++ [newNd b41 t.ck t.next x.id dir (lastN p)]).eraseIdx ix), own t.tb (.cells ([.pointer (some ⟨t.rb, 0, none⟩), .map (some t.mb), .int .i64 ((t.next + 1 : Nat) : Int), .int .i64 (t.bytes : Int)] : List Value).toArray 95 (0, 0)), own t.mb (mapO ((t.ns ++ [newNd b41 t.ck t.next x.id dir (lastN p)]).map Nd.me) (t.ck + 1)), V]) (by repeat (first | exact zY _ | refine zJ 0 rfl ?_ | refine zJ 1 rfl ?_ | refine zJ 2 rfl ?_ | refine zJ 3 rfl ?_ | refine zJ 4 rfl ?_ | refine zJ 5 rfl ?_ | refine zJ 6 rfl ?_ | refine zJ 7 rfl ?_ | refine SubH.rown ?_)) ?_))); refine qD (fun w F s => make_close (kp := p50) (kc := c50) hW.kd.blks hix s) ?_; refine zK (zH rfl (zL rfl) rfl (zH rfl (zU rfl) rfl (zH rfl (zP fa98_0 rfl) rfl (zH rfl (zW sc3 rfl (zy4 0 rfl (((qh (made t x (lastN p) dir b41 p50 c50)).nd (newNd b41 t.ck t.next x.id dir (lastN p)) made_in 0 _ rfl)))) rfl (zH rfl (zO rfl) rfl ?_))))); refine zH rfl (zO rfl) rfl (zN (zI (zi ?_))); refine' zX (res2 rfl rfl rfl) ?_ ?_
    rotate_left 1
    exact ⟨(made t x (lastN p) dir b41 p50 c50), _, (t.next : Int), 0, rfl, .inr ⟨hp, x, hh, by omega, rfl, rfl, b41, p50, c50, hb41, rfl, rfl⟩, wf_made hW hx hdir hno hok (by omega) hb41, rfl⟩
    exact zj _
theorem nds_nil {H : List HProp} {w : World} {F : HProp} (s : sat w (star (St H) F)) : sat w (star (St (nds [] :: H)) F) := by
 rw [qJ, show nds [] = emp from rfl, emp_star]; exact s
def root0 (b : Nat) : Nd := newNd b 0 0 (-1) true []
theorem wf_new (tb mb b : Nat) : Wf ⟨tb, mb, 1, b, 1, 0, [newNd b 0 0 (-1) true []]⟩ (newNd b 0 0 (-1) true []) := by
 have one : ∀ x ∈ [newNd b 0 0 (-1) true []], x = newNd b 0 0 (-1) true [] := fun x hx => List.mem_singleton.1 hx
 refine ⟨⟨by simp, fun x hx k hk => ?_, fun x hx y hy hp => ?_, fun x hx => ?_, fun x hx => ?_⟩, List.mem_singleton_self _, rfl, rfl, rfl, rfl, by simp, fun x hx => ?_, fun x hx => ?_, fun x hx => ?_, ⟨fun _ => 0, fun x hx y hy hp => ?_⟩, by simp, fun x hx _ => ?_, rfl, by simp, fun x hx => ?_⟩
 ·rw [one x hx] at hk; cases hk
 ·rw [one x hx, one y hy] at hp; cases hp
 ·rw [one x hx]; exact List.Pairwise.nil
 ·rw [one x hx]; exact Nat.zero_le _
 ·rw [one x hx]; exact Nat.zero_lt_one
 ·rw [one x hx]; exact .inl rfl
 ·rw [one x hx]; exact .inl rfl
 ·rw [one x hx, one y hy] at hp; cases hp
 ·rw [one x hx]; rfl
 ·rw [one x hx]; exact mkA_ok true
theorem new_close {b4 b2 b7 : Nat} {w : World} {F : HProp} (s : sat w (star (St [own b4 (.cells ([.pointer (some ⟨b7, 0, none⟩), .map (some b2), .int .i64 ((0 + 1 : Nat) : Int), .int .i64 ((0 : Nat) : Int)] : List Value).toArray 95 (0, 0)), own b2 (mapO (([] ++ [newNd b7 0 0 (-1) true []]).map Nd.me) (0 + 1)), nds ([] ++ [newNd b7 0 0 (-1) true []])]) F)) : sat w (star (St [tree (⟨b4, b2, 1, b7, 1, 0, [newNd b7 0 0 (-1) true []]⟩ : Tr)]) F) :=
 xO (t := (⟨b4, b2, 1, b7, 1, 0, [newNd b7 0 0 (-1) true []]⟩ : Tr)) (L := []) s
theorem new_spec : Tri Tryz.prog 27 [] [] (fun v H' => ∃ t r, v = Tr.v t ∧ t.ns = [r] ∧ t.next = 1 ∧ Wf t r ∧ H' = [tree t]) := by
 refine zt Tryz.func27 rfl Tryz.ntmps27 (by simp) ?_; refine zM (zK (zH rfl (zO rfl) rfl (zN (zI (zM ?_))))); refine zK (zT rfl (eff_makeMap) rfl ?_); rintro _ _ ⟨b2, rfl, rfl⟩; refine zH rfl (qY rfl (qK (cs := [.pointer none, .map (some b2), .int .i64 0, .int .i64 0]) st95 rfl)) rfl (zT rfl (qj rfl) rfl ?_); rintro _ _ ⟨b4, rfl, rfl⟩; refine zH rfl (zO rfl) rfl (zN (zI (zM (qD (fun w F s => nds_nil s) ?_)))); refine zK (zH rfl (zL rfl) rfl (zH rfl (zL rfl) rfl (zT rfl (zb Tryz.call63 rfl rfl (by repeat (first | exact zR _ | apply zG 0 rfl | apply zG 1 rfl | apply zG 2 rfl | apply zG 3 rfl | apply zG 4 rfl | apply zG 5 rfl | apply zG 6 rfl | apply zG 7 rfl)) (made_spec b4 b2 0 0 0 (.pointer none) rfl [] [] true (-1) (by omega) (fun y hy => by cases hy))) rfl ?_))); rintro _ H' ⟨_, ⟨b7, rfl, hb7, rfl⟩, hH⟩; simp only [zy7] at hH; subst hH; refine zH rfl (zU rfl) rfl (zH rfl (zP fa95_0 rfl) rfl (zo rfl (qP 0 sc92 rfl rfl rfl rfl (zy1 rfl) (zg _)) rfl ?_)); rintro _ _ rfl; refine zN (zI (zM (qD (H' := [tree (⟨b4, b2, 1, b7, 1, 0, [newNd b7 0 0 (-1) true []]⟩ : Tr)]) (fun w F s => new_close s) ?_))); refine zK (zH rfl (zL rfl) rfl (zH rfl (zO rfl) rfl (zN (zI (zi ?_))))); refine' zX (qk rfl rfl) ?_ ?_
 rotate_left 1
 exact ⟨(⟨b4, b2, 1, b7, 1, 0, [newNd b7 0 0 (-1) true []]⟩ : Tr), _, rfl, rfl, rfl, wf_new b4 b2 b7, rfl⟩
 exact zj _
def szd (l : List UInt8) (n : Nat) : List UInt8 := l.take n ++ List.replicate (n - l.length) 0
theorem szd_len (l : List UInt8) (n : Nat) : (szd l n).length = n := by unfold szd; rw [List.length_append, List.length_take, List.length_replicate]; omega
theorem szd_copy {l : List UInt8} {n : Nat} : List.take 0 (List.replicate n (0 : UInt8)) ++ l.take n ++ List.drop (0 + min l.length n) (List.replicate n 0) = szd l n := by
 unfold szd; rw [List.take_zero, List.nil_append, List.drop_replicate]
 congr 2; omega
def datF (p : Option Addr) (c : Nat) (l : List UInt8) (y : Nd) : Nd := { y with dp := p, dc := c, data := l }
theorem datF_keeps (p : Option Addr) (c : Nat) (l : List UInt8) : Keeps (datF p c l) := ⟨fun _ => rfl, fun _ => rfl, fun _ => rfl, fun _ => rfl⟩
/-- a file has these bytes -/
def dataT (t : Tr) (x : Nd) (p : Option Addr) (c : Nat) (l : List UInt8) : Tr := { t with bytes := t.bytes + l.length - x.data.length, ns := turnB x.blk (datF p c l) t.ns }
def szE (t : Tr) (x : Nd) (n : Nat) : Int := if 1048576 < n then 3 else if 1048576 < t.bytes + n - x.data.length then 13 else 0
theorem sum_in {x : Nd} : ∀ {ns : List Nd}, x ∈ ns → x.data.length ≤ (ns.map fun y : Nd => y.data.length).sum
 | y :: r, h => by
  rw [List.map_cons, List.sum_cons]
  rcases List.mem_cons.1 h with h | h
  ·rw [h]; omega
  ·have := sum_in h; omega
theorem sum_turn {x : Nd} {p : Option Addr} {c : Nat} {l : List UInt8} : ∀ {ns : List Nd}, (ns.map Nd.blk).Nodup → x ∈ ns → ((turnB x.blk (datF p c l) ns).map fun y : Nd => y.data.length).sum + x.data.length = (ns.map fun y : Nd => y.data.length).sum + l.length
 | y :: r, h, hx => by
  rw [List.map_cons, List.nodup_cons] at h
  show (((if y.blk = x.blk then datF p c l y else y) :: turnB x.blk (datF p c l) r).map fun y : Nd => y.data.length).sum + _ = _
  rw [List.map_cons, List.sum_cons, List.map_cons, List.sum_cons]
  by_cases e : y.blk = x.blk
  ·have e1 : turnB x.blk (datF p c l) r = r := by
    unfold turnB
    conv => rhs; rw [← List.map_id r]
    exact List.map_congr_left fun z hz => by rw [if_neg (fun e2 : z.blk = x.blk => h.1 (by rw [e, ← e2]; exact List.mem_map.2 ⟨z, hz, rfl⟩))]; rfl
   have e2 : y = x := by
    rcases List.mem_cons.1 hx with h1 | h1
    ·exact h1.symm
    ·exact absurd (List.mem_map.2 ⟨x, h1, e.symm⟩) h.1
   rw [if_pos e, e1, e2]
   show l.length + _ + _ = _
   omega
  ·rcases List.mem_cons.1 hx with h1 | h1
   ·rw [h1] at e; exact absurd rfl e
   ·have := sum_turn (p := p) (c := c) (l := l) h.2 h1
    rw [if_neg e]; omega
theorem wf_data {t : Tr} {r x : Nd} {p : Option Addr} {c : Nat} {l : List UInt8} (hW : Wf t r) (hx : x ∈ t.ns) (hd : x.dir = false) (hb : t.bytes + l.length - x.data.length ≤ 1048576) : Wf (dataT t x p c l) r := by
 have hF := datF_keeps p c l
 have hxs := sum_in hx
 have hne : ∀ y ∈ t.ns, y.dir = true → (if y.blk = x.blk then datF p c l y else y) = y := fun y hy hyd => by
  rw [if_neg fun e => ?_]; rw [xA hW.kd.blks hy hx e, hd] at hyd; cases hyd
 have gof : ∀ u ∈ (dataT t x p c l).ns, ∃ y ∈ t.ns, u = (if y.blk = x.blk then datF p c l y else y) := fun u hu => yj hu
 have same : ∀ y : Nd, (if y.blk = x.blk then datF p c l y else y).dir = y.dir ∧ (if y.blk = x.blk then datF p c l y else y).a = y.a := fun y => by split <;> exact ⟨rfl, rfl⟩
 refine ⟨kd_turn hF (fun _ => rfl) x.blk hW.kd, ?_, hW.rb, hW.rid, hW.rpar, hW.rdir, ?_, fun u hu => ?_, fun u hu => ?_, fun u hu => ?_, ?_, ?_, fun u hu hdu => ?_, ?_, hb, fun u hu => ?_⟩
 ·have := turn_in (f := datF p c l) (b := x.blk) hW.root
  rw [hne r hW.root hW.rdir] at this; exact this
 ·show ((turnB x.blk _ t.ns).map Nd.id).Nodup
  have e1 : (turnB x.blk (datF p c l) t.ns).map Nd.id = t.ns.map Nd.id := by
   unfold turnB; rw [List.map_map]; exact List.map_congr_left fun y _ => (qN hF y).2.1
  rw [e1]; exact hW.ids
 ·obtain ⟨y, hy, rfl⟩ := gof u hu
  rw [(qN hF y).2.1]; exact hW.lt y hy
 ·obtain ⟨y, hy, rfl⟩ := gof u hu
  rw [(qN hF y).2.1, (qN hF y).2.2.1]
  rcases hW.par y hy with h1 | ⟨v, h1, h2, h3⟩
  ·exact .inl h1
  ·have := turn_in (f := datF p c l) (b := x.blk) h1
   rw [hne v h1 h3] at this; exact .inr ⟨v, this, h2, h3⟩
 ·obtain ⟨y, hy, rfl⟩ := gof u hu
  rw [(qN hF y).2.1, (qN hF y).2.2.2]; exact hW.nm y hy
 ·obtain ⟨d, hd1⟩ := hW.rk
  refine ⟨d, fun u hu v hv hp => ?_⟩; obtain ⟨y, hy, rfl⟩ := gof u hu
  obtain ⟨z, hz, rfl⟩ := gof v hv
  rw [(qN hF z).2.2.1, (qN hF y).2.1] at hp; rw [(qN hF z).2.1, (qN hF y).2.1]; exact hd1 y hy z hz hp
 ·show (turnB x.blk _ t.ns).length ≤ 200
  rw [turnB, List.length_map]; exact hW.few
 ·obtain ⟨y, hy, rfl⟩ := gof u hu
  rw [(same y).1] at hdu; rw [hne y hy hdu]; exact hW.dat y hy hdu
 ·show t.bytes + l.length - x.data.length = ((turnB x.blk (datF p c l) t.ns).map fun y : Nd => y.data.length).sum
  have h1 := sum_turn (p := p) (c := c) (l := l) hW.kd.blks hx
  have h2 := hW.sum
  omega
 ·obtain ⟨y, hy, rfl⟩ := gof u hu
  rw [(same y).2]; exact hW.a y hy
theorem sized_back {t : Tr} {x : Nd} {ix : Nat} (hix : t.ns[ix]? = some x) {w : World} {F : HProp} (s : sat w (star (St [own t.tb (.cells ([.pointer (some ⟨t.rb, 0, none⟩), .map (some t.mb), .int .i64 (t.next : Int), .int .i64 ((t.bytes : Nat) : Int)] : List Value).toArray 95 (0, 0)), own t.mb (mapO (t.ns.map Nd.me) t.ck), own x.blk (.cells x.cs.toArray 98 (0, 0)), rowP x.kp x.kc x.kids, rowD x.dp x.dc x.data, nds (t.ns.eraseIdx ix)]) F)) : sat w (star (St [tree t]) F) := by
 refine xO (L := []) ?_; have hs : SubH [own t.tb (.cells ([.pointer (some ⟨t.rb, 0, none⟩), .map (some t.mb), .int .i64 (t.next : Int), .int .i64 ((t.bytes : Nat) : Int)] : List Value).toArray 95 (0, 0)), own t.mb (mapO (t.ns.map Nd.me) t.ck), own x.blk (.cells x.cs.toArray 98 (0, 0)), rowP x.kp x.kc x.kids, rowD x.dp x.dc x.data, nds (t.ns.eraseIdx ix)] [own x.blk (.cells x.cs.toArray 98 (0, 0)), rowP x.kp x.kc x.kids, rowD x.dp x.dc x.data, nds (t.ns.eraseIdx ix), own t.tb (.cells ([.pointer (some ⟨t.rb, 0, none⟩), .map (some t.mb), .int .i64 (t.next : Int), .int .i64 ((t.bytes : Nat) : Int)] : List Value).toArray 95 (0, 0)), own t.mb (mapO (t.ns.map Nd.me) t.ck)] := (by repeat (first | exact zY _ | refine zJ 0 rfl ?_ | refine zJ 1 rfl ?_ | refine zJ 2 rfl ?_ | refine zJ 3 rfl ?_ | refine zJ 4 rfl ?_ | refine zJ 5 rfl ?_ | refine zJ 6 rfl ?_ | refine zJ 7 rfl ?_ | refine SubH.rown ?_))
 have s1 := nds_cl (y := x) hix (hs w F s)
 have e : t.ns.set ix x = t.ns := by
  obtain ⟨h1, h2⟩ := List.getElem?_eq_some_iff.1 hix
  rw [← h2]; exact List.set_getElem_self h1
 rw [e] at s1; have h2 : SubH [nds t.ns, own t.tb (.cells ([.pointer (some ⟨t.rb, 0, none⟩), .map (some t.mb), .int .i64 (t.next : Int), .int .i64 ((t.bytes : Nat) : Int)] : List Value).toArray 95 (0, 0)), own t.mb (mapO (t.ns.map Nd.me) t.ck)] (trL t ++ []) := zJ 1 rfl (zJ 1 rfl (zJ 0 rfl (zY _)))
 exact h2 w F s1
theorem sized_close {t : Tr} {x : Nd} {ix b n : Nat} {A : HProp} (hix : t.ns[ix]? = some x) (hb : (t.ns.map Nd.blk).Nodup) {w : World} {F : HProp}
 (s : sat w (star (St [row 5 1 (.slice (some ⟨b, 0, none⟩) n n) n (cel (szd x.data n)), own t.tb (.cells ([.pointer (some ⟨t.rb, 0, none⟩), .map (some t.mb), .int .i64 (t.next : Int), .int .i64 ((t.bytes + n - x.data.length : Nat) : Int)] : List Value).toArray 95 (0, 0)), own t.mb (mapO (t.ns.map Nd.me) t.ck), own x.blk (.cells (x.cs.set (0 + 4) (.slice (some ⟨b, 0, none⟩) n n)).toArray 98 (0, 0)), rowP x.kp x.kc x.kids, A, nds (t.ns.eraseIdx ix)]) F)) : sat w (star (St [tree (dataT t x (some ⟨b, 0, none⟩) n (szd x.data n))]) F) := by
 refine xO (t := dataT t x (some ⟨b, 0, none⟩) n (szd x.data n)) (L := []) ?_
 have e1 : row 5 1 (.slice (some ⟨b, 0, none⟩) n n) n (cel (szd x.data n)) = rowD (some ⟨b, 0, none⟩) n (szd x.data n) := by
  show _ = row 5 1 (.slice (some ⟨b, 0, none⟩) (szd x.data n).length n) (szd x.data n).length (cel (szd x.data n))
  rw [szd_len]
 have e2 : x.cs.set (0 + 4) (.slice (some ⟨b, 0, none⟩) n n) = Nd.cs (datF (some ⟨b, 0, none⟩) n (szd x.data n) x) := by
  show _ = [.int .i64 (x.id : Int), .bool x.dir, .string (str x.name), .slice x.kp x.kids.length x.kc, .slice (some ⟨b, 0, none⟩) (szd x.data n).length n] ++ x.a.cs
  rw [szd_len]; rfl
 rw [e1, e2] at s
 have hs : SubH [rowD (some ⟨b, 0, none⟩) n (szd x.data n), own t.tb (.cells ([.pointer (some ⟨t.rb, 0, none⟩), .map (some t.mb), .int .i64 (t.next : Int), .int .i64 ((t.bytes + n - x.data.length : Nat) : Int)] : List Value).toArray 95 (0, 0)), own t.mb (mapO (t.ns.map Nd.me) t.ck), own x.blk (.cells (Nd.cs (datF (some ⟨b, 0, none⟩) n (szd x.data n) x)).toArray 98 (0, 0)), rowP x.kp x.kc x.kids, A, nds (t.ns.eraseIdx ix)]
  [own x.blk (.cells (Nd.cs (datF (some ⟨b, 0, none⟩) n (szd x.data n) x)).toArray 98 (0, 0)), rowP x.kp x.kc x.kids, rowD (some ⟨b, 0, none⟩) n (szd x.data n), nds (t.ns.eraseIdx ix), own t.tb (.cells ([.pointer (some ⟨t.rb, 0, none⟩), .map (some t.mb), .int .i64 (t.next : Int), .int .i64 ((t.bytes + n - x.data.length : Nat) : Int)] : List Value).toArray 95 (0, 0)), own t.mb (mapO (t.ns.map Nd.me) t.ck)] := zJ 3 rfl (zJ 3 rfl (zJ 0 rfl (zJ 3 rfl (zJ 0 rfl (zJ 0 rfl (zY _))))))
 have s1 := nds_cl (y := datF (some ⟨b, 0, none⟩) n (szd x.data n) x) hix (hs w F s)
 rw [set_turn hb hix] at s1; have e3 : (t.ns.map Nd.me) = (dataT t x (some ⟨b, 0, none⟩) n (szd x.data n)).ns.map Nd.me := (turn_me (f := datF (some ⟨b, 0, none⟩) n (szd x.data n)) (fun _ => rfl) x.blk t.ns).symm
 have e4 : t.bytes + n - x.data.length = (dataT t x (some ⟨b, 0, none⟩) n (szd x.data n)).bytes := by show _ = t.bytes + (szd x.data n).length - x.data.length; rw [szd_len]
 rw [e3, e4] at s1; have h2 : SubH [nds (turnB x.blk (datF (some ⟨b, 0, none⟩) n (szd x.data n)) t.ns), own t.tb (.cells ([.pointer (some ⟨t.rb, 0, none⟩), .map (some t.mb), .int .i64 (t.next : Int), .int .i64 (((dataT t x (some ⟨b, 0, none⟩) n (szd x.data n)).bytes : Nat) : Int)] : List Value).toArray 95 (0, 0)), own t.mb (mapO ((dataT t x (some ⟨b, 0, none⟩) n (szd x.data n)).ns.map Nd.me) t.ck)] (trL (dataT t x (some ⟨b, 0, none⟩) n (szd x.data n)) ++ []) := zJ 1 rfl (zJ 1 rfl (zJ 0 rfl (zY _)))
 exact h2 w F s1
theorem sized_open {t : Tr} {x : Nd} {ix : Nat} (hix : t.ns[ix]? = some x) {w : World} {F : HProp} (s : sat w (star (St [tree t]) F)) : sat w (star (St [own t.tb (.cells ([.pointer (some ⟨t.rb, 0, none⟩), .map (some t.mb), .int .i64 (t.next : Int), .int .i64 ((t.bytes : Nat) : Int)] : List Value).toArray 95 (0, 0)), own t.mb (mapO (t.ns.map Nd.me) t.ck), own x.blk (.cells x.cs.toArray 98 (0, 0)), rowP x.kp x.kc x.kids, rowD x.dp x.dc x.data, nds (t.ns.eraseIdx ix)]) F) := by
 have s1 := tree_open s
 have h1 : SubH (trL t ++ []) [nds t.ns, own t.tb (.cells ([.pointer (some ⟨t.rb, 0, none⟩), .map (some t.mb), .int .i64 (t.next : Int), .int .i64 ((t.bytes : Nat) : Int)] : List Value).toArray 95 (0, 0)), own t.mb (mapO (t.ns.map Nd.me) t.ck)] := zJ 2 rfl (zJ 0 rfl (zJ 0 rfl (zY _)))
 have s2 := nds_op hix (h1 w F s1)
 have h2 : SubH [own x.blk (.cells x.cs.toArray 98 (0, 0)), rowP x.kp x.kc x.kids, rowD x.dp x.dc x.data, nds (t.ns.eraseIdx ix), own t.tb (.cells ([.pointer (some ⟨t.rb, 0, none⟩), .map (some t.mb), .int .i64 (t.next : Int), .int .i64 ((t.bytes : Nat) : Int)] : List Value).toArray 95 (0, 0)), own t.mb (mapO (t.ns.map Nd.me) t.ck)] [own t.tb (.cells ([.pointer (some ⟨t.rb, 0, none⟩), .map (some t.mb), .int .i64 (t.next : Int), .int .i64 ((t.bytes : Nat) : Int)] : List Value).toArray 95 (0, 0)), own t.mb (mapO (t.ns.map Nd.me) t.ck), own x.blk (.cells x.cs.toArray 98 (0, 0)), rowP x.kp x.kc x.kids, rowD x.dp x.dc x.data, nds (t.ns.eraseIdx ix)] := (by repeat (first | exact zY _ | refine zJ 0 rfl ?_ | refine zJ 1 rfl ?_ | refine zJ 2 rfl ?_ | refine zJ 3 rfl ?_ | refine zJ 4 rfl ?_ | refine zJ 5 rfl ?_ | refine zJ 6 rfl ?_ | refine zJ 7 rfl ?_ | refine SubH.rown ?_))
 exact h2 w F s2
theorem sized_spec {t : Tr} {r x : Nd} (hW : Wf t r) (hx : x ∈ t.ns) (n : Nat) (hn : n < 18446744073709551616) : Tri Tryz.prog 79 [t.v, .pointer (some ⟨x.blk, 0, none⟩), .int .u64 (n : Int)] [tree t]
 (fun v H' => ∃ t' e, v = .int .i64 e ∧ ((e ≠ 0 ∧ t' = t ∧ szE t x n = e) ∨ (e = 0 ∧ szE t x n = 0 ∧ ∃ b, t' = dataT t x (some ⟨b, 0, none⟩) n (szd x.data n))) ∧ H' = [tree t']) := by
 obtain ⟨ix, hix⟩ := List.mem_iff_getElem?.1 hx
 have hlen : x.data.length ≤ t.bytes := by rw [hW.sum]; exact sum_in hx
 have hmx := hW.max
 refine tri_sub (L := [own t.tb (.cells ([.pointer (some ⟨t.rb, 0, none⟩), .map (some t.mb), .int .i64 (t.next : Int), .int .i64 ((t.bytes : Nat) : Int)] : List Value).toArray 95 (0, 0)), own t.mb (mapO (t.ns.map Nd.me) t.ck), own x.blk (.cells x.cs.toArray 98 (0, 0)), rowP x.kp x.kc x.kids, rowD x.dp x.dc x.data, nds (t.ns.eraseIdx ix)]) (fun w F s => sized_open hix s) ?_; refine zt Tryz.func79 rfl Tryz.ntmps79 (by simp) ?_; refine zM (zK (zH rfl (zO rfl) rfl (zN (zI (zM ?_))))); refine qA ?_; refine zM (zK (zH rfl (zL rfl) rfl (zH rfl (yd rfl rfl rfl) rfl (zH rfl (zO rfl) rfl (zN ?_))))); refine zI (zq rfl (fun hc8 => ?_) (fun hc8 => ?_))
 ·replace hc8 := zy2 hc8
  refine zM (qD (H' := [tree t]) (fun w F s => sized_back hix s) ?_); refine zK (zH rfl (zO rfl) rfl (zN (zI (zi ?_)))); refine zn ?_; refine zh ?_; refine' zX (qk rfl rfl) ?_ ?_
  rotate_left 1
  exact ⟨t, 3, rfl, .inl ⟨by decide, rfl, by unfold szE; rw [if_pos (by omega)]⟩, rfl⟩
  exact zj _
 ·replace hc8 := zy3 hc8
  refine zM (qZ 15 (by kernel_rfl) (Split.all _) ?_); refine zRO (i := 0) (by kernel_rfl) rfl rfl (zL rfl) rfl (zRO (i := 1) (by kernel_rfl) rfl rfl (zU rfl) rfl (zRO (i := 2) (by kernel_rfl) rfl rfl (zP fa95_3 rfl) rfl (zRO (i := 3) (by kernel_rfl) rfl rfl (zW sc3 rfl (zy4 0 rfl (Rd.own rfl))) rfl (zRO (i := 4) (by kernel_rfl) rfl rfl (zL rfl) rfl (zRO (i := 5) (by kernel_rfl) rfl rfl (zU rfl) rfl ?_))))); refine zRO (i := 6) (by kernel_rfl) rfl rfl (zP fa98_4 rfl) rfl (zRO (i := 7) (by kernel_rfl) rfl rfl (zW sc25 rfl (zy4 2 rfl (Rd.own rfl))) rfl (zRO (i := 8) (by kernel_rfl) rfl rfl (zw Tryz.underlying25 rfl) rfl ?_)); refine xQ (i := 9) (by kernel_rfl) rfl rfl (yi rfl rfl (show IntKind.i64.wrap ((t.bytes : Int) - (x.data.length : Int)) = ((t.bytes - x.data.length : Nat) : Int) by rw [qU (by omega) (by omega)]; omega)) rfl (fun _ _ _ h => h) (zRO (i := 10) (by kernel_rfl) rfl rfl (zL rfl) rfl (zRO (i := 11) (by kernel_rfl) rfl rfl (yF Tryz.underlying28 Tryz.underlying3 rfl (wrap_natN (by omega))) rfl ?_)); refine xQ (i := 12) (by kernel_rfl) rfl rfl (ql rfl rfl (show IntKind.i64.wrap (((t.bytes - x.data.length : Nat) : Int) + (n : Int)) = ((t.bytes + n - x.data.length : Nat) : Int) by rw [qU (by omega) (by omega)]; omega)) rfl (fun _ _ _ h => h) (zRO (i := 13) (by kernel_rfl) rfl rfl (yd rfl rfl rfl) rfl (zRO (i := 14) (by kernel_rfl) rfl rfl (zO rfl) rfl (xW (by kernel_rfl) ?_))); refine zI (zq rfl (fun hc11 => ?_) (fun hc11 => ?_))
  ·replace hc11 := zy2 hc11
   refine zM (qD (H' := [tree t]) (fun w F s => sized_back hix s) ?_); refine zK (zH rfl (zO rfl) rfl (zN (zI (zi ?_)))); refine zn ?_; refine zh ?_; refine' zX (qk rfl rfl) ?_ ?_
   rotate_left 1
   exact ⟨t, 13, rfl, .inl ⟨by decide, rfl, by unfold szE; rw [if_neg (by omega), if_pos (by omega)]⟩, rfl⟩
   exact zj _
  ·replace hc11 := zy3 hc11
   refine zl ?_; refine zQ ?_; refine zI (zM (qZ 13 (by kernel_rfl) (Split.all _) ?_)); refine zRO (i := 0) (by kernel_rfl) rfl rfl (zL rfl) rfl (zRO (i := 1) (by kernel_rfl) rfl rfl (zU rfl) rfl (zRO (i := 2) (by kernel_rfl) rfl rfl (zP fa95_3 rfl) rfl (zRO (i := 3) (by kernel_rfl) rfl rfl (zW sc3 rfl (zy4 0 rfl (Rd.own rfl))) rfl (zRO (i := 4) (by kernel_rfl) rfl rfl (zL rfl) rfl (zRO (i := 5) (by kernel_rfl) rfl rfl (yF Tryz.underlying28 Tryz.underlying3 rfl (wrap_natN (by omega))) rfl ?_))))); refine zRO (i := 6) (by kernel_rfl) rfl rfl (zL rfl) rfl (zRO (i := 7) (by kernel_rfl) rfl rfl (zU rfl) rfl (zRO (i := 8) (by kernel_rfl) rfl rfl (zP fa98_4 rfl) rfl (zRO (i := 9) (by kernel_rfl) rfl rfl (zW sc25 rfl (zy4 2 rfl (Rd.own rfl))) rfl (zRO (i := 10) (by kernel_rfl) rfl rfl (zw Tryz.underlying25 rfl) rfl (zRO (i := 11) (by kernel_rfl) rfl rfl (yi rfl rfl (qU (by omega) (by omega))) rfl ?_))))); refine xQ (i := 12) (by kernel_rfl) rfl rfl (ql rfl rfl (show IntKind.i64.wrap ((t.bytes : Int) + ((n : Int) - (x.data.length : Int))) = ((t.bytes + n - x.data.length : Nat) : Int) by rw [qU (by omega) (by omega)]; omega)) rfl (fun _ _ _ h => h) (qR (m' := 16) (L' := []) (by kernel_rfl) qx ?_); simp only [zA, zB, List.append_nil]; refine zRO (i := 13) (by kernel_rfl) rfl rfl (zU rfl) rfl (zRO (i := 14) (by kernel_rfl) rfl rfl (zP fa95_3 rfl) rfl (qq (i := 15) (by kernel_rfl) rfl rfl (qP 0 sc3 rfl rfl rfl rfl (zy1 rfl) (zg _)) rfl ?_)); rintro _ _ rfl; refine qT (by kernel_rfl) ?_; refine zI (zM (zK (zH rfl (zL rfl) rfl (zT rfl (eff_makeB sl25 rfl rfl (by omega)) rfl ?_)))); rintro _ _ ⟨b42, rfl, rfl⟩; refine zH rfl (zO rfl) rfl (zN (zI (zM (zK (zH rfl (zL rfl) rfl ?_))))); refine zH rfl (zL rfl) rfl (zH rfl (zU rfl) rfl (zH rfl (zP fa98_4 rfl) rfl (zH rfl (zW sc25 rfl (zy4 3 rfl (Rd.own rfl))) rfl (zT rfl (eff_copyB (s := x.data) 0 sl25 rfl rfl rfl (zy5 4 rfl Vw.row) (by first | omega | (simp; done) | (simp; omega))) rfl ?_)))); rintro _ _ ⟨rfl, rfl⟩; simp only [zE, zF]; rw [szd_copy]; refine zN (zI (zM (zK (zH rfl (zL rfl) rfl (zH rfl (zL rfl) rfl ?_))))); refine zH rfl (zU rfl) rfl (zH rfl (zP fa98_4 rfl) rfl (zo rfl (qP 3 sc25 rfl rfl rfl rfl (zy1 rfl) (zg _)) rfl ?_)); rintro _ _ rfl; refine zN (zI (zM (qD (H' := [tree (dataT t x (some ⟨b42, 0, none⟩) n (szd x.data n))]) (fun w F s => sized_close hix hW.kd.blks s) ?_))); refine zK (zH rfl (zO rfl) rfl (zN (zI (zi ?_)))); refine' zX (qk rfl rfl) ?_ ?_
   rotate_left 1
   exact ⟨_, 0, rfl, .inr ⟨rfl, by unfold szE; rw [if_neg (by omega), if_neg (by omega)], b42, rfl⟩, rfl⟩
   exact zj _
/-- b is laid yE l from a on -/
def wr2 (l : List UInt8) (a : Nat) (b : List UInt8) : List UInt8 := l.take a ++ b ++ l.drop (a + b.length)
theorem wr2_len {l b : List UInt8} {a : Nat} (h : a + b.length ≤ l.length) : (wr2 l a b).length = l.length := by
 unfold wr2; simp only [List.length_append, List.length_take, List.length_drop]; omega
theorem wr2_eq {l b : List UInt8} {a : Nat} (h : a + b.length ≤ l.length) : l.take a ++ b.take (l.length - a) ++ l.drop (a + min b.length (l.length - a)) = wr2 l a b := by
 unfold wr2; rw [List.take_of_length_le (l := b) (by omega), Nat.min_eq_left (by omega)]
theorem data_at {t : Tr} {x : Nd} {p : Option Addr} {c : Nat} {l : List UInt8} {ix : Nat} (hb : (t.ns.map Nd.blk).Nodup) (h : t.ns[ix]? = some x) : (dataT t x p c l).ns[ix]? = some (datF p c l x) := by
 show (turnB x.blk (datF p c l) t.ns)[ix]? = _
 unfold turnB; rw [List.getElem?_map, h]
 show some (if x.blk = x.blk then _ else _) = _
 rw [if_pos rfl]
theorem data_twice {t : Tr} {x : Nd} {p q : Option Addr} {c d : Nat} {l m : List UInt8} (h : x.data.length ≤ t.bytes) : dataT (dataT t x p c l) (datF p c l x) q d m = dataT t x q d m := by
 unfold dataT; have e1 : t.bytes + l.length - x.data.length + m.length - (datF p c l x).data.length = t.bytes + m.length - x.data.length := by show _ - l.length = _; omega
 have e2 : turnB (datF p c l x).blk (datF q d m) (turnB x.blk (datF p c l) t.ns) = turnB x.blk (datF q d m) t.ns := by
  show turnB x.blk _ _ = _
  unfold turnB; rw [List.map_map]; refine List.map_congr_left fun y _ => ?_
  show (if (if y.blk = x.blk then datF p c l y else y).blk = x.blk then datF q d m (if y.blk = x.blk then datF p c l y else y) else (if y.blk = x.blk then datF p c l y else y)) = _
  by_cases e : y.blk = x.blk
  ·rw [if_pos e, if_pos (show (datF p c l y).blk = x.blk from e), if_pos e]; rfl
  ·rw [if_neg e, if_neg e]
 simp only [e1, e2]
theorem write_open {t : Tr} {x : Nd} {ix b0 : Nat} {L : List HProp} (hix : t.ns[ix]? = some x) (hdp : x.dp = some ⟨b0, 0, none⟩) {w : World} {F : HProp} (s : sat w (star (St (tree t :: L)) F)) : sat w (star (St (own t.tb (.cells ([.pointer (some ⟨t.rb, 0, none⟩), .map (some t.mb), .int .i64 (t.next : Int), .int .i64 ((t.bytes : Nat) : Int)] : List Value).toArray 95 (0, 0)) :: own t.mb (mapO (t.ns.map Nd.me) t.ck) :: own x.blk (.cells x.cs.toArray 98 (0, 0)) :: rowP x.kp x.kc x.kids :: rowD (some ⟨b0, 0, none⟩) x.dc x.data :: nds (t.ns.eraseIdx ix) :: L)) F) := by
 have s1 := tree_open s
 have h1 : SubH (trL t ++ L) (nds t.ns :: own t.tb (.cells ([.pointer (some ⟨t.rb, 0, none⟩), .map (some t.mb), .int .i64 (t.next : Int), .int .i64 ((t.bytes : Nat) : Int)] : List Value).toArray 95 (0, 0)) :: own t.mb (mapO (t.ns.map Nd.me) t.ck) :: L) := zJ 2 rfl (zJ 0 rfl (zJ 0 rfl (zj _)))
 have s2 := nds_op hix (h1 w F s1)
 rw [hdp] at s2; have h2 : SubH (own x.blk (.cells x.cs.toArray 98 (0, 0)) :: rowP x.kp x.kc x.kids :: rowD (some ⟨b0, 0, none⟩) x.dc x.data :: nds (t.ns.eraseIdx ix) :: own t.tb (.cells ([.pointer (some ⟨t.rb, 0, none⟩), .map (some t.mb), .int .i64 (t.next : Int), .int .i64 ((t.bytes : Nat) : Int)] : List Value).toArray 95 (0, 0)) :: own t.mb (mapO (t.ns.map Nd.me) t.ck) :: L) (own t.tb (.cells ([.pointer (some ⟨t.rb, 0, none⟩), .map (some t.mb), .int .i64 (t.next : Int), .int .i64 ((t.bytes : Nat) : Int)] : List Value).toArray 95 (0, 0)) :: own t.mb (mapO (t.ns.map Nd.me) t.ck) :: own x.blk (.cells x.cs.toArray 98 (0, 0)) :: rowP x.kp x.kc x.kids :: rowD (some ⟨b0, 0, none⟩) x.dc x.data :: nds (t.ns.eraseIdx ix) :: L) := zJ 4 rfl (zJ 4 rfl (zJ 0 rfl (zJ 0 rfl (zJ 0 rfl (zJ 0 rfl (zj _))))))
 exact h2 w F s2
theorem write_close {t : Tr} {x : Nd} {ix b0 : Nat} {l : List UInt8} {L : List HProp} (hix : t.ns[ix]? = some x) (hb : (t.ns.map Nd.blk).Nodup) (hdp : x.dp = some ⟨b0, 0, none⟩) (hl : l.length = x.data.length) {w : World} {F : HProp}
 (s : sat w (star (St (own t.tb (.cells ([.pointer (some ⟨t.rb, 0, none⟩), .map (some t.mb), .int .i64 (t.next : Int), .int .i64 ((t.bytes : Nat) : Int)] : List Value).toArray 95 (0, 0)) :: own t.mb (mapO (t.ns.map Nd.me) t.ck) :: own x.blk (.cells x.cs.toArray 98 (0, 0)) :: rowP x.kp x.kc x.kids :: row 5 1 (.slice (some ⟨b0, 0, none⟩) x.data.length x.dc) x.data.length (cel l) :: nds (t.ns.eraseIdx ix) :: L)) F)) : sat w (star (St (tree (dataT t x (some ⟨b0, 0, none⟩) x.dc l) :: L)) F) := by
 refine xO (t := dataT t x (some ⟨b0, 0, none⟩) x.dc l) ?_
 have e1 : row 5 1 (.slice (some ⟨b0, 0, none⟩) x.data.length x.dc) x.data.length (cel l) = rowD (some ⟨b0, 0, none⟩) x.dc l := by
  show _ = row 5 1 (.slice (some ⟨b0, 0, none⟩) l.length x.dc) l.length (cel l)
  rw [hl]
 have e2 : x.cs = Nd.cs (datF (some ⟨b0, 0, none⟩) x.dc l x) := by
  show [.int .i64 (x.id : Int), .bool x.dir, .string (str x.name), .slice x.kp x.kids.length x.kc, .slice x.dp x.data.length x.dc] ++ x.a.cs = [.int .i64 (x.id : Int), .bool x.dir, .string (str x.name), .slice x.kp x.kids.length x.kc, .slice (some ⟨b0, 0, none⟩) l.length x.dc] ++ x.a.cs
  rw [hl, hdp]
 rw [e1, e2] at s
 have hs : SubH (own t.tb (.cells ([.pointer (some ⟨t.rb, 0, none⟩), .map (some t.mb), .int .i64 (t.next : Int), .int .i64 ((t.bytes : Nat) : Int)] : List Value).toArray 95 (0, 0)) :: own t.mb (mapO (t.ns.map Nd.me) t.ck) :: own x.blk (.cells (Nd.cs (datF (some ⟨b0, 0, none⟩) x.dc l x)).toArray 98 (0, 0)) :: rowP x.kp x.kc x.kids :: rowD (some ⟨b0, 0, none⟩) x.dc l :: nds (t.ns.eraseIdx ix) :: L)
  (own x.blk (.cells (Nd.cs (datF (some ⟨b0, 0, none⟩) x.dc l x)).toArray 98 (0, 0)) :: rowP x.kp x.kc x.kids :: rowD (some ⟨b0, 0, none⟩) x.dc l :: nds (t.ns.eraseIdx ix) :: own t.tb (.cells ([.pointer (some ⟨t.rb, 0, none⟩), .map (some t.mb), .int .i64 (t.next : Int), .int .i64 ((t.bytes : Nat) : Int)] : List Value).toArray 95 (0, 0)) :: own t.mb (mapO (t.ns.map Nd.me) t.ck) :: L) := zJ 2 rfl (zJ 2 rfl (zJ 2 rfl (zJ 2 rfl (zJ 0 rfl (zJ 0 rfl (zj _))))))
 have s1 := nds_cl (y := datF (some ⟨b0, 0, none⟩) x.dc l x) hix (hs w F s)
 rw [set_turn hb hix] at s1; have e3 : (t.ns.map Nd.me) = (dataT t x (some ⟨b0, 0, none⟩) x.dc l).ns.map Nd.me := (turn_me (f := datF (some ⟨b0, 0, none⟩) x.dc l) (fun _ => rfl) x.blk t.ns).symm
 have e4 : t.bytes = (dataT t x (some ⟨b0, 0, none⟩) x.dc l).bytes := by show _ = t.bytes + l.length - x.data.length; omega
 rw [e3, e4] at s1; have h2 : SubH (nds (turnB x.blk (datF (some ⟨b0, 0, none⟩) x.dc l) t.ns) :: own t.tb (.cells ([.pointer (some ⟨t.rb, 0, none⟩), .map (some t.mb), .int .i64 (t.next : Int), .int .i64 (((dataT t x (some ⟨b0, 0, none⟩) x.dc l).bytes : Nat) : Int)] : List Value).toArray 95 (0, 0)) :: own t.mb (mapO ((dataT t x (some ⟨b0, 0, none⟩) x.dc l).ns.map Nd.me) t.ck) :: L) (trL (dataT t x (some ⟨b0, 0, none⟩) x.dc l) ++ L) := zJ 1 rfl (zJ 1 rfl (zJ 0 rfl (zj _)))
 exact h2 w F s1
def WriteR (t : Tr) (id : Int) (at' : Nat) (b : List UInt8) (t' : Tr) (e : Int) : Prop :=
 (fileO (byId t.ns id) = (none, e) ∧ e ≠ 0 ∧ t' = t) ∨ ∃ x, fileO (byId t.ns id) = (some x, 0) ∧
  ((b.length = 0 ∧ e = 0 ∧ t' = t) ∨ (0 < b.length ∧ 1048576 < at' + b.length ∧ e = 3 ∧ t' = t) ∨
   (0 < b.length ∧ at' + b.length ≤ 1048576 ∧ ((szE t x (max (at' + b.length) x.data.length) = e ∧ e ≠ 0 ∧ t' = t) ∨ (szE t x (max (at' + b.length) x.data.length) = 0 ∧ e = 0 ∧ ∃ b0, t' = dataT t x (some ⟨b0, 0, none⟩) (max (at' + b.length) x.data.length) (wr2 (szd x.data (max (at' + b.length) x.data.length)) at' b)))))
theorem write_spec {V : HProp} {t : Tr} {r : Nd} (hW : Wf t r) (id : Int) (at' : Nat) (ha : at' < 18446744073709551616) (q : Option Addr) (cq : Nat) (b : List UInt8) (hV : Vw V (.slice q b.length cq) b.length (cel b)) (hbl : b.length ≤ 140737488355328) :
 Tri Tryz.prog 127 [t.v, .int .i64 id, .int .u64 (at' : Int), .slice q b.length cq] [tree t, V] (fun v H' => ∃ t' e, v = .int .i64 e ∧ WriteR t id at' b t' e ∧ H' = [tree t', V]) := by
 rcases fileO_cases (byId t.ns id) with ⟨e, hf, he⟩ | ⟨x, hb, hd, hf⟩
 ·skip; refine zt Tryz.func127 rfl Tryz.ntmps127 (by simp) ?_; refine zM (zK (zH rfl (zO rfl) rfl (zN (zI (zM ?_))))); refine zK (zH rfl (zL rfl) rfl (zH rfl (zL rfl) rfl (zT rfl (zy (Pre := []) Tryz.call160 rfl rfl (zR _) (file_spec (Tv.pick 0 rfl (qh t)) id)) rfl ?_))); rintro _ H' ⟨_, ⟨rfl, rfl⟩, hH⟩; simp only [zy7] at hH; subst hH; rw [hf]; dsimp only [ptrO, Option.map]; refine zH rfl (zL rfl) rfl (zH rfl (zu rfl rfl) rfl (zH rfl (zu rfl rfl) rfl (zH rfl (zO rfl) rfl (zH rfl (zO rfl) rfl (zN ?_))))); refine zI (zM (qA ?_)); refine zM (zK (zH rfl (zL rfl) rfl (zH rfl (q9 rfl rfl (decide_eq_true (by omega))) rfl (zH rfl (zO rfl) rfl (zN ?_))))); refine zI (qG rfl ?_); refine zM (zK (zH rfl (zL rfl) rfl (zH rfl (zO rfl) rfl (zN (zI ?_))))); refine zi ?_; refine zn ?_; refine zh ?_; refine' zX (qk rfl rfl) ?_ ?_
  rotate_left 1
  exact ⟨t, e, rfl, .inl ⟨hf, he, rfl⟩, rfl⟩
  exact zj _
 ·have hx := (yD hb).1
  have hxl : x.data.length ≤ 1048576 := Nat.le_trans (by rw [hW.sum]; exact sum_in hx) hW.max
  refine zt Tryz.func127 rfl Tryz.ntmps127 (by simp) ?_; refine zM (zK (zH rfl (zO rfl) rfl (zN (zI (zM ?_))))); refine zK (zH rfl (zL rfl) rfl (zH rfl (zL rfl) rfl (zT rfl (zy (Pre := []) Tryz.call160 rfl rfl (zR _) (file_spec (Tv.pick 0 rfl (qh t)) id)) rfl ?_))); rintro _ H' ⟨_, ⟨rfl, rfl⟩, hH⟩; simp only [zy7] at hH; subst hH; rw [hf]; dsimp only [ptrO, Option.map]; refine zH rfl (zL rfl) rfl (zH rfl (zu rfl rfl) rfl (zH rfl (zu rfl rfl) rfl (zH rfl (zO rfl) rfl (zH rfl (zO rfl) rfl (zN ?_))))); refine zI (zM (qA ?_)); refine zM (zK (zH rfl (zL rfl) rfl (zH rfl (q9 rfl rfl (decide_eq_false (by omega))) rfl (zH rfl (zO rfl) rfl (zN ?_))))); refine zI (qC rfl ?_); refine zM (zK (zH rfl (zL rfl) rfl (zH rfl (zw Tryz.underlying25 rfl) rfl (zH rfl (qQ rfl rfl rfl) rfl (zH rfl (zO rfl) rfl ?_))))); refine zN (zI (zq rfl (fun hc22 => ?_) (fun hc22 => ?_)))
  ·replace hc22 := zy2 hc22
   refine zM (zK (zH rfl (zO rfl) rfl (zN (zI (zi ?_))))); refine zn ?_; refine zh ?_; refine' zX (qk rfl rfl) ?_ ?_
   rotate_left 1
   exact ⟨t, 0, rfl, .inr ⟨x, hf, .inl ⟨by omega, rfl, rfl⟩⟩, rfl⟩
   exact zj _
  ·replace hc22 := zy3 hc22
   refine zM (zK (zH rfl (zL rfl) rfl (zH rfl (yd rfl rfl rfl) rfl (qi rfl rfl rfl (fun hg29 => ?_) (fun hg29 => ?_)))))
   ·replace hg29 := zy2 hg29
    refine zZ rfl rfl (zZ rfl rfl (zZ rfl rfl (zZ rfl rfl (zZ rfl rfl (zZ rfl rfl ?_))))); refine zH rfl (zr rfl rfl) rfl (zH rfl (zO rfl) rfl (zN (zI (qG rfl ?_)))); refine zM (zK (zH rfl (zO rfl) rfl (zN (zI (zi ?_))))); refine zn ?_; refine zh ?_; refine' zX (qk rfl rfl) ?_ ?_
    rotate_left 1
    exact ⟨t, 3, rfl, .inr ⟨x, hf, .inr (.inl ⟨by omega, by omega, rfl, rfl⟩)⟩, rfl⟩
    exact zj _
   ·replace hg29 := zy3 hg29
    refine zH rfl (zL rfl) rfl (zH rfl (zw Tryz.underlying25 rfl) rfl (zH rfl (zL rfl) rfl (zH rfl (yF Tryz.underlying28 Tryz.underlying3 rfl (wrap_natN (by omega))) rfl ?_))); refine zH rfl (yi rfl rfl (show IntKind.i64.wrap (1048576 - (at' : Int)) = ((1048576 - at' : Nat) : Int) by rw [qU (by omega) (by omega)]; omega)) rfl (zH rfl (yd rfl rfl rfl) rfl (zH rfl (zr rfl rfl) rfl (zH rfl (zO rfl) rfl (zN (zI ?_))))); refine zq rfl (fun hc26 => ?_) (fun hc26 => ?_)
    ·replace hc26 := zy2 hc26
     refine zM (zK (zH rfl (zO rfl) rfl (zN (zI (zi ?_))))); refine zn ?_; refine zh ?_; refine' zX (qk rfl rfl) ?_ ?_
     rotate_left 1
     exact ⟨t, 3, rfl, .inr ⟨x, hf, .inr (.inl ⟨by omega, by omega, rfl, rfl⟩)⟩, rfl⟩
     exact zj _
    ·replace hc26 := zy3 hc26
     refine zl ?_; refine zQ ?_; refine zI (zM (zM (zK (zH rfl (zL rfl) rfl (zH rfl (zL rfl) rfl ?_))))); refine zH rfl (zL rfl) rfl (zH rfl (zL rfl) rfl (zH rfl (zw Tryz.underlying25 rfl) rfl (zH rfl (yF Tryz.underlying3 Tryz.underlying28 rfl (yI (by omega) (by omega))) rfl ?_))); refine zH rfl (ql rfl rfl (show IntKind.u64.wrap ((at' : Int) + (b.length : Int)) = ((at' + b.length : Nat) : Int) by rw [yI (by omega) (by omega)]; omega)) rfl (zH rfl (zL rfl) rfl (zH rfl (zU rfl) rfl (zH rfl (zP fa98_4 rfl) rfl (zH rfl (zW sc25 rfl (zy4 0 rfl (((qh t).nd x hx 4 _ rfl)))) rfl (zH rfl (zw Tryz.underlying25 rfl) rfl ?_))))); refine zH rfl (yF Tryz.underlying3 Tryz.underlying28 rfl (yI (by omega) (by omega))) rfl ?_; refine zH rfl (ro_max rfl rfl (show (if ((x.data.length : Nat) : Int) > ((at' + b.length : Nat) : Int) then ((x.data.length : Nat) : Int) else ((at' + b.length : Nat) : Int)) = ((max (at' + b.length) x.data.length : Nat) : Int) by split <;> omega)) rfl (zT rfl (zb Tryz.call79 rfl rfl (by repeat (first | exact zR _ | apply zG 0 rfl | apply zG 1 rfl | apply zG 2 rfl | apply zG 3 rfl | apply zG 4 rfl | apply zG 5 rfl | apply zG 6 rfl | apply zG 7 rfl)) (sized_spec hW hx (max (at' + b.length) x.data.length) (by omega))) rfl ?_); rintro _ H' ⟨_, ⟨t1, e, rfl, hR, rfl⟩, hH⟩; simp only [zy7] at hH; subst hH; refine zH rfl (zO rfl) rfl (zN (zI (zM (zK (zH rfl (zL rfl) rfl ?_))))); refine zH rfl (q9 rfl rfl rfl) rfl (zN (zI (zq rfl (fun hc53 => ?_) (fun hc53 => ?_))))
     ·replace hc53 := zy2 hc53
      refine zM (zK (zH rfl (zL rfl) rfl (zH rfl (zO rfl) rfl (zN (zI ?_))))); refine zi ?_; refine zh ?_; refine' zX (qk rfl rfl) ?_ ?_
      rotate_left 1
      rcases hR with ⟨h1, h2, h3⟩ | ⟨h1, _⟩
      ·subst h2; exact ⟨_, e, rfl, .inr ⟨x, hf, .inr (.inr ⟨by omega, by omega, .inl ⟨h3, h1, rfl⟩⟩)⟩, rfl⟩
      ·exact absurd h1 (by omega)
      exact zj _
     ·replace hc53 := zy3 hc53
      obtain ⟨hz, b0, rfl⟩ : szE t x (max (at' + b.length) x.data.length) = 0 ∧ ∃ b0, t1 = dataT t x (some ⟨b0, 0, none⟩) (max (at' + b.length) x.data.length) (szd x.data (max (at' + b.length) x.data.length)) := by
       rcases hR with ⟨h1, _⟩ | ⟨_, h2⟩
       ·exact absurd h1 (by omega)
       ·exact h2
      obtain ⟨ix, hix⟩ := List.mem_iff_getElem?.1 hx
      have hix1 := data_at (p := some ⟨b0, 0, none⟩) (c := max (at' + b.length) x.data.length) (l := szd x.data (max (at' + b.length) x.data.length)) hW.kd.blks hix
      have hl1 := szd_len x.data (max (at' + b.length) x.data.length)
      refine zl ?_; refine zI (zM ?_); generalize hx1 : datF (some ⟨b0, 0, none⟩) (max (at' + b.length) x.data.length) (szd x.data (max (at' + b.length) x.data.length)) x = x1 at *
      have hdp : x1.dp = some ⟨b0, 0, none⟩ := by rw [← hx1]; rfl
      have hdc : x1.dc = max (at' + b.length) x.data.length := by rw [← hx1]; rfl
      have hdd : x1.data = szd x.data (max (at' + b.length) x.data.length) := by rw [← hx1]; rfl
      rw [← hdd] at hl1; obtain ⟨t1, ht1⟩ : ∃ t1, t1 = dataT t x (some ⟨b0, 0, none⟩) (max (at' + b.length) x.data.length) (szd x.data (max (at' + b.length) x.data.length)) := ⟨_, rfl⟩
      rw [← ht1] at hix1 ⊢; have hbl : (t1.ns.map Nd.blk).Nodup := by rw [ht1]; show ((turnB x.blk _ t.ns).map Nd.blk).Nodup; rw [turn_blk (datF_keeps _ _ _)]; exact hW.kd.blks
      refine qD (fun w F s => write_open hix1 hdp s) ?_; have hxb : x1.blk = x.blk := by rw [← hx1]; rfl
      rw [hxb]; refine zK (zH rfl (zL rfl) rfl (zH rfl (zU rfl) rfl (zH rfl (zP fa98_4 rfl) rfl (zH rfl (zW sc25 rfl (zy4 2 rfl (Rd.own rfl))) rfl ?_)))); rw [hdp]; refine zH rfl (zL rfl) rfl (zH rfl (yf sl25 rfl (yZ rfl rfl) rfl (by omega) (by omega)) rfl ?_); rw [resl_lt (by omega)]; refine zH rfl (zL rfl) rfl (zT rfl (eff_copyB (s := b) 4 sl25 rfl rfl rfl ((zy5 5 rfl hV)) (by first | omega | (simp; done) | (simp; omega))) rfl ?_); rintro _ _ ⟨rfl, rfl⟩; simp only [zE, zF]; rw [wr2_eq (by omega)]; refine zN (zI (zM ?_)); rw [← hxb]; refine qD (fun w F s => write_close hix1 hbl hdp (wr2_len (by omega)) s) ?_; refine zK (zH rfl (zO rfl) rfl (zN (zI (zi ?_)))); refine' zX (qk rfl rfl) ?_ ?_
      rotate_left 1
      refine ⟨dataT t1 x1 (some ⟨b0, 0, none⟩) x1.dc (wr2 x1.data at' b), 0, rfl, .inr ⟨x, hf, .inr (.inr ⟨by omega, by omega, .inr ⟨hz, rfl, b0, ?_⟩⟩)⟩, rfl⟩; rw [ht1, hdc, hdd, ← hx1]; exact data_twice (by rw [hW.sum]; exact sum_in hx)
      exact zj _
theorem write_wf {t : Tr} {r : Nd} {id : Int} {k : Nat} {b : List UInt8} {t' : Tr} {e : Int} (hW : Wf t r) (hR : WriteR t id k b t' e) : Wf t' r ∧ t'.next = t.next ∧ t'.tb = t.tb ∧ (t' = t ∨ ∃ x bx c l, t' = dataT t x bx c l) := by
 rcases hR with ⟨_, _, rfl⟩ | ⟨x, hf, h⟩
 ·exact ⟨hW, rfl, rfl, .inl rfl⟩
 ·rcases h with ⟨_, _, rfl⟩ | ⟨_, _, _, rfl⟩ | ⟨h1, h2, ⟨_, _, rfl⟩ | ⟨h3, _, b0, rfl⟩⟩
  ·exact ⟨hW, rfl, rfl, .inl rfl⟩
  ·exact ⟨hW, rfl, rfl, .inl rfl⟩
  ·exact ⟨hW, rfl, rfl, .inl rfl⟩
  ·obtain ⟨hb, hd⟩ : byId t.ns id = some x ∧ x.dir = false := by
    rcases fileO_cases (byId t.ns id) with ⟨e, h4, _⟩ | ⟨y, h4, h5, h6⟩
    ·rw [h4] at hf; simp at hf
    ·rw [h6] at hf; have e1 : y = x := by have := congrArg Prod.fst hf; simpa using this
     subst e1; exact ⟨h4, h5⟩
   have hx := (yD hb).1
   have hl : (wr2 (szd x.data (max (k + b.length) x.data.length)) k b).length = max (k + b.length) x.data.length := by rw [wr2_len (by rw [szd_len]; omega), szd_len]
   refine ⟨wf_data hW hx hd ?_, rfl, rfl, .inr ⟨x, _, _, _, rfl⟩⟩; unfold szE at h3; rw [hl]
   split at h3
   ·omega
   ·split at h3
    ·omega
    ·omega
def remE (ns : List Nd) (r : Nd) (p : List (List UInt8)) (dir : Bool) : Int :=
 if p.length = 0 then 1 else match fnd ns r p with
  | none => 22
  | some x => if x.dir ≠ dir then 23 else if 0 < x.kids.length then 27 else 0
theorem remE_nil {ns : List Nd} {r : Nd} {p : List (List UInt8)} {dir : Bool} (h : p.length = 0) : remE ns r p dir = 1 := by unfold remE; rw [if_pos h]
theorem remE_none {ns : List Nd} {r : Nd} {p : List (List UInt8)} {dir : Bool} (h : ¬ p.length = 0) (h1 : fnd ns r p = none) : remE ns r p dir = 22 := by unfold remE; rw [if_neg h, h1]
theorem remE_kind {ns : List Nd} {r x : Nd} {p : List (List UInt8)} {dir : Bool} (h : ¬ p.length = 0) (h1 : fnd ns r p = some x) (h2 : x.dir ≠ dir) : remE ns r p dir = 23 := by unfold remE; rw [if_neg h, h1]; simp only; rw [if_pos h2]
theorem remE_used {ns : List Nd} {r x : Nd} {p : List (List UInt8)} {dir : Bool} (h : ¬ p.length = 0) (h1 : fnd ns r p = some x) (h2 : x.dir = dir) (h3 : 0 < x.kids.length) : remE ns r p dir = 27 := by unfold remE; rw [if_neg h, h1]; simp only; rw [if_neg (by simp [h2]), if_pos h3]
theorem remE_ok {ns : List Nd} {r x : Nd} {p : List (List UInt8)} {dir : Bool} (h : ¬ p.length = 0) (h1 : fnd ns r p = some x) (h2 : x.dir = dir) (h3 : ¬ 0 < x.kids.length) : remE ns r p dir = 0 := by unfold remE; rw [if_neg h, h1]; simp only; rw [if_neg (by simp [h2]), if_neg h3]
/-- what is refused changes nothing -/
theorem remBad_spec {V : HProp} {t : Tr} {r : Nd} (hW : Wf t r) (q : Option Addr) (cq : Nat) (p : List (List UInt8)) (hV : Vw V (.slice q p.length cq) p.length (txs p)) (hl : p.length ≤ 100000) (dir : Bool) (he : remE t.ns r p dir ≠ 0) :
 Tri Tryz.prog 33 [t.v, .slice q p.length cq, .bool dir] [tree t, V] (fun v H' => v = .int .i64 (remE t.ns r p dir) ∧ H' = [tree t, V]) := by
 cases hb : fnd t.ns r p with
 | none =>
  refine zt Tryz.func33 rfl Tryz.ntmps33 (by simp) ?_; refine zM (zK (zH rfl (zO rfl) rfl (zN (zI (zM ?_))))); refine zK (zH rfl (zL rfl) rfl (zH rfl (zL rfl) rfl (zT rfl (zy (Pre := []) Tryz.call75 rfl rfl (zR _) (xa (Tv.pick 0 rfl (qh t)) hW q cq p ((zy5 1 rfl hV)) hl)) rfl ?_))); rintro _ H' ⟨_, ⟨rfl, rfl⟩, hH⟩; simp only [zy7] at hH; subst hH; rw [hb]; dsimp only [ptrO, Option.map]; refine zH rfl (zO rfl) rfl (zN (zI (zM (qA ?_)))); refine zM (zK (zH rfl (zL rfl) rfl (zH rfl (zw Tryz.underlying47 rfl) rfl (zH rfl (qQ rfl rfl rfl) rfl (zH rfl (zO rfl) rfl ?_))))); refine zN (zI (zq rfl (fun hc11 => ?_) (fun hc11 => ?_)))
  ·replace hc11 := zy2 hc11
   refine zM (zK (zH rfl (zO rfl) rfl (zN (zI (zi ?_))))); refine zn ?_; refine zh ?_; refine' zX (qk rfl rfl) ?_ ?_
   rotate_left 1
   exact ⟨by rw [remE_nil (by omega)], rfl⟩
   exact zj _
  ·replace hc11 := zy3 hc11
   have hp : ¬ p.length = 0 := by omega
   refine zM (zK (zH rfl (zL rfl) rfl (zH rfl (qI Tryz.underlying92 rfl rfl rfl) rfl (zH rfl (zO rfl) rfl (zN ?_))))); refine zI (qG rfl ?_); refine zM (zK (zH rfl (zO rfl) rfl (zN (zI (zi ?_))))); refine zn ?_; refine zh ?_; refine' zX (qk rfl rfl) ?_ ?_
   rotate_left 1
   exact ⟨by rw [remE_none hp hb], rfl⟩
   exact zj _
 | some x =>
  have hx := yu hW.root hb
  refine zt Tryz.func33 rfl Tryz.ntmps33 (by simp) ?_; refine zM (zK (zH rfl (zO rfl) rfl (zN (zI (zM ?_))))); refine zK (zH rfl (zL rfl) rfl (zH rfl (zL rfl) rfl (zT rfl (zy (Pre := []) Tryz.call75 rfl rfl (zR _) (xa (Tv.pick 0 rfl (qh t)) hW q cq p ((zy5 1 rfl hV)) hl)) rfl ?_))); rintro _ H' ⟨_, ⟨rfl, rfl⟩, hH⟩; simp only [zy7] at hH; subst hH; rw [hb]; dsimp only [ptrO, Option.map]; refine zH rfl (zO rfl) rfl (zN (zI (zM (qA ?_)))); refine zM (zK (zH rfl (zL rfl) rfl (zH rfl (zw Tryz.underlying47 rfl) rfl (zH rfl (qQ rfl rfl rfl) rfl (zH rfl (zO rfl) rfl ?_))))); refine zN (zI (zq rfl (fun hc11 => ?_) (fun hc11 => ?_)))
  ·replace hc11 := zy2 hc11
   refine zM (zK (zH rfl (zO rfl) rfl (zN (zI (zi ?_))))); refine zn ?_; refine zh ?_; refine' zX (qk rfl rfl) ?_ ?_
   rotate_left 1
   exact ⟨by rw [remE_nil (by omega)], rfl⟩
   exact zj _
  ·replace hc11 := zy3 hc11
   have hp : ¬ p.length = 0 := by omega
   refine zM (zK (zH rfl (zL rfl) rfl (zH rfl (qI Tryz.underlying92 rfl rfl rfl) rfl (zH rfl (zO rfl) rfl (zN ?_))))); refine zI (qC rfl ?_); refine zM (zK (zH rfl (zL rfl) rfl (zH rfl (zU rfl) rfl (zH rfl (zP fa98_1 rfl) rfl (zH rfl (zW sc4 rfl (zy4 0 rfl (((qh t).nd x hx 1 _ rfl)))) rfl ?_))))); refine zH rfl (zL rfl) rfl (zH rfl (ro_neq_bool Tryz.underlying4 rfl rfl (c := decide (x.dir ≠ dir)) (by cases x.dir <;> cases dir <;> rfl)) rfl (zH rfl (zO rfl) rfl (zN (zI (zq rfl (fun hc18 => ?_) (fun hc18 => ?_))))))
   ·replace hc18 := zy2 hc18
    refine zM (zK (zH rfl (zO rfl) rfl (zN (zI (zi ?_))))); refine zn ?_; refine zh ?_; refine' zX (qk rfl rfl) ?_ ?_
    rotate_left 1
    exact ⟨by rw [remE_kind hp hb (by simpa using hc18)], rfl⟩
    exact zj _
   ·replace hc18 := zy3 hc18
    have hdd : x.dir = dir := by simpa using hc18
    refine zM (zK (zH rfl (zL rfl) rfl (zH rfl (zU rfl) rfl (zH rfl (zP xP rfl) rfl (zH rfl (zW sc96 rfl (zy4 0 rfl (((qh t).nd x hx 3 _ rfl)))) rfl ?_))))); refine zH rfl (zw Tryz.underlying96 rfl) rfl (zH rfl (yd rfl rfl rfl) rfl (zH rfl (zO rfl) rfl (zN (zI (zq rfl (fun hc25 => ?_) (fun hc25 => ?_))))))
    ·replace hc25 := zy2 hc25
     refine zM (zK (zH rfl (zO rfl) rfl (zN (zI (zi ?_))))); refine zn ?_; refine zh ?_; refine' zX (qk rfl rfl) ?_ ?_
     rotate_left 1
     exact ⟨by rw [remE_used hp hb hdd (by omega)], rfl⟩
     exact zj _
    ·replace hc25 := zy3 hc25
     exact absurd (remE_ok hp hb hdd (by omega)) he
theorem kid_cons (y : Nd) (r : List Nd) (i : Int) (s : List UInt8) : kid (y :: r) i s = if y.par = i ∧ y.name = s then some y else kid r i s := by
 unfold kid; rw [List.find?_cons]
 by_cases h : y.par = i ∧ y.name = s
 ·rw [if_pos h, decide_eq_true h.1, decide_eq_true h.2]; rfl
 ·rw [if_neg h]
  have e : (decide (y.par = i) && decide (y.name = s)) = false := by
   cases hh : (decide (y.par = i) && decide (y.name = s)) with
   | false => rfl
   | true => simp only [Bool.and_eq_true, decide_eq_true_eq] at hh; exact absurd hh h
  rw [e]
theorem kid_nil (i : Int) (s : List UInt8) : kid [] i s = none := rfl
theorem byId_cons (y : Nd) (r : List Nd) (k : Int) : byId (y :: r) k = if (y.id : Int) = k then some y else byId r k := by
 unfold byId; rw [List.find?_cons]
 by_cases h : (y.id : Int) = k
 ·rw [if_pos h, decide_eq_true h]
 ·rw [if_neg h, decide_eq_false h]
/-- the first thing that is made -/
theorem mk_first {t : Tr} {r : Nd} {nm : List UInt8} {dir : Bool} {t' : Tr} {r' : Nd} {i e : Int} (hW : Wf t r) (hns : t.ns = [r]) (hok : ptOk nm = true) (h : MakeR t r [nm] dir t' r' i e) :
 i = t.next ∧ e = 0 ∧ t'.next = t.next + 1 ∧ t'.bytes = t.bytes ∧ t'.tb = t.tb ∧ ∃ b, r'.par = -1 ∧ r'.id = 0 ∧ r'.blk = r.blk ∧ t'.ns = [r', newNd b t.ck t.next 0 dir nm] := by
 have hk : kid t.ns r.id nm = none := by
  rw [hns, kid_cons, if_neg (fun h => by have := h.1; rw [hW.rpar] at this; omega), kid_nil]
 have hh : holdO t.ns r [nm] = ((some r, kpl t.ns r nm), 0) := by
  unfold holdO; rw [if_pos (show ptOk (lastN [nm]) = true from hok)]; rw [show fnd t.ns r (List.take ([nm].length - 1) [nm]) = some r from rfl]; simp only
  rw [if_pos hW.rdir, if_neg (by rw [show lastN [nm] = nm from rfl, hk]; decide)]; rfl
 rcases h with ⟨_, _, _, h | h | h⟩ | ⟨_, x, h1, _, h2, h3, b, kp, kc, hb, h4, h5⟩
 ·exact absurd h.1 (by simp)
 ·have := h.2.2.1; rw [hns] at this; simp at this
 ·rw [hh] at h; have := congrArg (fun z => z.1.1) h.2.1; simp at this
 ·rw [hh] at h1; have e1 : x = r := by have := congrArg (fun z => z.1.1) h1; simpa using this.symm
  subst e1; refine ⟨h2, h3, by rw [h4]; rfl, by rw [h4]; rfl, by rw [h4]; rfl, b, ?_⟩; rw [if_pos rfl] at h5; have h5' := h5
  rw [hns] at h5'; have e2 : (x.id : Int) = 0 := by rw [hW.rid]; rfl
  refine ⟨by rw [h5]; exact hW.rpar, by rw [h5]; exact hW.rid, by rw [h5]; rfl, ?_⟩; rw [h4]
  show turnB x.blk _ t.ns ++ [newNd b t.ck t.next x.id dir (lastN [nm])] = _
  rw [hns, e2]
  show (if x.blk = x.blk then _ else _) :: ([] ++ [_]) = _
  rw [if_pos rfl, h5']; rfl
end Go.Proofs.YtlefpllcgcicpaaGreatDoor
