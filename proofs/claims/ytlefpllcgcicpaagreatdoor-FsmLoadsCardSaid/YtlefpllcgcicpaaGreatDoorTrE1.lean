/-
  Package strongroomref15: Rename.
  A thing is taken out of what holds it: cut.
  A thing is gone: Remove.
  slices.Equal at lists of texts; Rename.
-/
import Derived.Test.YtlefpllcgcicpaaGreatDoorRfG
import Derived.Test.YtlefpllcgcicpaaGreatDoorTrTb
import Derived.Test.YtlefpllcgcicpaaGreatDoorSxSub
set_option linter.unusedVariables false
set_option linter.unusedSimpArgs false
namespace Go.Proofs.YtlefpllcgcicpaaGreatDoor
open Go.Sx
set_option maxRecDepth 100000
set_option maxHeartbeats 4000000
def Th.put (x : Th) (k : Int) (s : List UInt8) : Th := { x with par := k, name := s }
/-- so many things stand one behind the other, up tq the root's outside -/
inductive Up (l : List Th) : Int → Nat → Prop
 | out {k : Int} : k < 0 → Up l k 0
 | up {k : Int} {x : Th} {n : Nat} : 0 ≤ k → tAt l k = some x → Up l x.par n → Up l k (n + 1)
theorem Up.more {l : List Th} {k : Int} {m : Nat} (h : Up l k m) (hk : k ≥ 0) : ∃ n x, m = n + 1 ∧ tAt l k = some x ∧ Up l x.par n := by
 cases h with
 | out h1 => omega
 | up h1 h2 h3 => exact ⟨_, _, rfl, h2, h3⟩
/-- does the thing a stand at k or above it? -/
def belR (l : List Th) (a : Int) : Nat → Int → Bool
 | 0, _ => false
 | n + 1, k => if k < 0 then false else if k = a then true else match tAt l k with
  | some x => belR l a n x.par
  | none => false
theorem Up.same {l : List Th} {k : Int} {m n : Nat} (h : Up l k m) (h2 : Up l k n) : m = n := by
 induction h generalizing n with
 | out h1 => cases h2 with
  | out _ => rfl
  | up h3 _ _ => omega
 | up h1 h3 _ ih => cases h2 with
  | out h4 => omega
  | up h4 h5 h6 =>
   rw [h3] at h5; injection h5 with h5; subst h5
   rw [ih h6]
open Classical in
noncomputable def upN (l : List Th) (k : Int) : Nat := if h : ∃ n, Up l k n then h.choose else 0
/-- why a thing isn't moved -/
noncomputable def rnE (l : List Th) (fr tq : List (List UInt8)) : Int :=
 if fr = [] ∨ tq = [] then 1 else if (lookR l 0 fr).2 ≠ 0 then 22 else if (holdR l tq).2 ≠ 0 then (holdR l tq).2 else if belR l (lookR l 0 fr).1 (upN l (holdR l tq).1 + 1) (holdR l tq).1 = true then 1 else 0
section
variable {l : List Th} {fr tq : List (List UInt8)} {k kin e : Int} (h1 : fr ≠ []) (h2 : tq ≠ [])
include h1 h2
end
/-- what Rename does -/
def RenW (w : Rt) (fr tq : List (List UInt8)) (w' : Rt) (e : Int) : Prop :=
 (e ≠ 0 ∧ w' = w ∧ e = rnE w.L fr tq) ∨ (e = 0 ∧ rnE w.L fr tq = 0 ∧ w'.tb = w.tb ∧ w'.next = w.next ∧ ∃ i x, w.L[i]? = some x ∧ tAt w.L (lookR w.L 0 fr).1 = some x ∧ w'.L = w.L.set i (x.put (holdR w.L tq).1 (lastN tq)))
theorem nds_out {b : Nat} {s : List UInt8} {ns : List Nd} (h : ∀ u ∈ ns, u.blk = b → u.name = s) : nds (turnB b (outF s) ns) = nds ns := by
 unfold nds turnB; rw [List.map_map]
 congr 1
 refine List.map_congr_left fun u hu => ?_
 show nd (if u.blk = b then outF s u else u) = nd u
 split
 ·rename_i e
  rw [← h u hu e]; rfl
 ·rfl
/-- x is taken out of y -/
def cutT (t : Tr) (x y : Nd) (kp : Option Addr) (kc k : Nat) (s : List UInt8) : Tr := { t with ns := t.ns.map (cutG x y kp kc k s) }
theorem cutG_me (x y : Nd) (kp : Option Addr) (kc k : Nat) (s : List UInt8) (ns : List Nd) : (ns.map (cutG x y kp kc k s)).map Nd.me = ns.map Nd.me := by
 rw [List.map_map]; refine List.map_congr_left fun u _ => ?_
 show (cutG x y kp kc k s u).me = u.me
 unfold cutG; split
 ·rfl
 ·split <;> rfl
theorem putG_me (x y : Nd) (kp : Option Addr) (kc k : Nat) (ns : List Nd) : (ns.map (putG x y kp kc k)).map Nd.me = ns.map Nd.me := by
 rw [List.map_map]; refine List.map_congr_left fun u _ => ?_
 show (putG x y kp kc k u).me = u.me
 unfold putG; split
 ·rfl
 ·split <;> rfl
theorem cut_close {t : Tr} {x y : Nd} {k iy : Nat} {kp : Option Addr} {kc : Nat} {L : List HProp} (hb : (t.ns.map Nd.blk).Nodup) (h : t.ns[iy]? = some y) (hxy : x.blk ≠ y.blk) (hn : ∀ u ∈ t.ns, u.blk = x.blk → u.name = x.name) {w : World} {F : HProp}
 (s : sat w (star (St (own y.blk (.cells (Nd.cs (cutF kp kc k y)).toArray 98 (0, 0)) :: rowP kp kc (y.kids.eraseIdx k) :: rowD y.dp y.dc y.data :: nds (t.ns.eraseIdx iy) :: own t.tb (.cells ([.pointer (some ⟨t.rb, 0, none⟩), .map (some t.mb), .int .i64 ((t.next : Nat) : Int), .int .i64 ((t.bytes : Nat) : Int)] : List Value).toArray 95 (0, 0)) :: own t.mb (mapO ((t.ns).map Nd.me) t.ck) :: L)) F)) : sat w (star (St (tree (cutT t x y kp kc k x.name) :: L)) F) := by
 have s1 := nds_cl (y := cutF kp kc k y) h s
 rw [set_turn hb h] at s1
 have e0 : nds (turnB y.blk (cutF kp kc k) t.ns) = nds (t.ns.map (cutG x y kp kc k x.name)) := by
  rw [← cutG_ns x y hxy kp kc k x.name t.ns]; refine (nds_out fun u hu e => ?_).symm; obtain ⟨v, hv, rfl⟩ := yj hu
  by_cases e2 : v.blk = y.blk
  ·rw [if_pos e2] at e; exact absurd (e2.symm.trans e).symm hxy
  ·rw [if_neg e2] at e ⊢; exact hn v hv e
 rw [e0] at s1; have e1 : own t.mb (mapO ((t.ns).map Nd.me) t.ck) = own t.mb (mapO ((t.ns.map (cutG x y kp kc k x.name)).map Nd.me) t.ck) := by rw [cutG_me]
 rw [e1] at s1; refine xO (t := cutT t x y kp kc k x.name) ?_; have hs : SubH (nds (t.ns.map (cutG x y kp kc k x.name)) :: own t.tb (.cells ([.pointer (some ⟨t.rb, 0, none⟩), .map (some t.mb), .int .i64 ((t.next : Nat) : Int), .int .i64 ((t.bytes : Nat) : Int)] : List Value).toArray 95 (0, 0)) :: own t.mb (mapO ((t.ns.map (cutG x y kp kc k x.name)).map Nd.me) t.ck) :: L) (trL (cutT t x y kp kc k x.name) ++ L) := zJ 1 rfl (zJ 1 rfl (zJ 0 rfl (zj _)))
 exact hs w F s1
theorem cut_spec {V : HProp} {t : Tr} {r x y : Nd} (hW : Wf t r) (q : Option Addr) (cq : Nat) (p : List (List UInt8)) (hV : Vw V (.slice q p.length cq) p.length (txs p)) (hcq : p.length ≤ cq) (hl : p.length ≤ 100000) (hp : p ≠ []) (hfy : fnd t.ns r (p.take (p.length - 1)) = some y) (hkd : kid t.ns y.id (lastN p) = some x) (hxy : x.blk ≠ y.blk) (k : Nat) (hkk : plc (y.kids.map (nmB t.ns)) (lastN p) = k) :
 Tri Tryz.prog 76 [t.v, .slice q p.length cq] [tree t, V] (fun v H' => ∃ kp kc, v = .pointer (some ⟨x.blk, 0, none⟩) ∧ H' = [tree (cutT t x y kp kc k x.name), V]) := by
 have hp1 := List.length_pos_iff.2 hp
 have hlast := lastN_at hp
 have hy := yu hW.root hfy
 have hx := (xM hkd).1
 have hkx := (kid_hit hW.kd hy hkd).2
 rw [show kpl t.ns y (lastN p) = k from hkk] at hkx; obtain ⟨hklt, hke⟩ := List.getElem?_eq_some_iff.1 hkx
 obtain ⟨iy, hiy⟩ := List.mem_iff_getElem?.1 hy
 have hfew := hW.kd.few y hy
 refine tri_know (fun w F s => vw_ptr (zy5 (H := [tree t, V]) 1 rfl hV) s (by omega)) ?_; rintro ⟨b0, o0, rfl⟩; refine zt Tryz.func76 rfl Tryz.ntmps76 (by simp) ?_; refine zM (zK (zH rfl (zO rfl) rfl (zN (zI (zM ?_))))); refine zK (zH rfl (zL rfl) rfl (zH rfl (zL rfl) rfl (zH rfl (zL rfl) rfl (zH rfl (zw Tryz.underlying47 rfl) rfl (zH rfl (yi rfl rfl (xV (by omega) (by omega))) rfl ?_))))); refine zT rfl (eff_sliceF 1 rfl Tx.len sl47 rfl (hV) rfl (yZ rfl rfl) (by omega) (by omega) hcq) rfl ?_; rintro _ _ ⟨p14, rfl, hv14, hn14, rfl⟩; rw [show List.take (p.length - 1 - 0) (List.drop 0 p) = p.take (p.length - 1) from by simp] at hv14 ⊢; refine zT rfl (zy (Pre := []) Tryz.call75 rfl rfl (zR _) (xa (Tv.pick 0 rfl (qh t)) hW p14 _ (p.take (p.length - 1)) ((zy5 1 rfl hv14)) (by rw [List.length_take]; omega))) rfl ?_; rintro _ H' ⟨_, ⟨rfl, rfl⟩, hH⟩; simp only [zy7] at hH; subst hH; rw [hfy]; dsimp only [ptrO, Option.map]; refine zH rfl (zO rfl) rfl (zN (zI (zM (zK (zH rfl (zL rfl) rfl ?_))))); refine zH rfl (zL rfl) rfl (zH rfl (zL rfl) rfl (zH rfl (zw Tryz.underlying47 rfl) rfl (zH rfl (yi rfl rfl (xV (by omega) (by omega))) rfl (zH rfl (qO sl47 rfl rfl rfl (by omega)) rfl (zH rfl (zW sc9 rfl (zy4 1 rfl (Rd.elem (j := 0) (ym hV) Tx.len hlast rfl))) rfl ?_))))); refine zT rfl (zy (Pre := []) Tryz.call131 rfl rfl (zR _) (place_spec y.blk y.kp y.kc y.kids ((Tv.pick 0 rfl (qh t)).nd y hy 3 _ rfl) ((Tv.pick 0 rfl (qh t)).kids y hy) (hW.kd.few y hy) (nmB t.ns) (kids_names (Tv.pick 0 rfl (qh t)) hW.kd hy) (hW.kd.rise y hy) (lastN p))) rfl ?_; rintro _ H' ⟨_, ⟨rfl, rfl⟩, hH⟩; simp only [zy7] at hH; subst hH; rw [hkk]; refine zH rfl (zL rfl) rfl (zH rfl (zu rfl rfl) rfl (zH rfl (zu rfl rfl) rfl (zH rfl (zO rfl) rfl (zH rfl (zO rfl) rfl (zN ?_))))); refine zI (zM ?_); have hyk := (qh t).kids y hy
 have hyk2 := hyk
 refine yN (fun w F s => vw_ptr (zy5 (H := [tree t, V]) 0 rfl hyk2) s (by omega)) ?_; rintro ⟨b1, o1, hkp⟩; rw [hkp] at hyk; refine zK (zH rfl (zL rfl) rfl (zH rfl (zU rfl) rfl (zH rfl (zP xP rfl) rfl (zH rfl (zW sc96 rfl (zy4 0 rfl (((qh t).nd y hy 3 _ rfl)))) rfl ?_)))); rw [hkp]; refine zH rfl (zL rfl) rfl (zH rfl (qO sl96 rfl rfl rfl (by omega)) rfl (zH rfl (zW sc92 rfl (zy4 0 rfl (Rd.elem (j := 0) (ym hyk) Pq.len hkx rfl))) rfl (zH rfl (zO rfl) rfl (zN (zI ?_))))); refine zM (qD (H' := trL t ++ [V]) (fun w F s => tree_open s) ?_); simp only [trL, zA, zB]; refine q8 (L := [nds t.ns, own t.tb (.cells ([.pointer (some ⟨t.rb, 0, none⟩), .map (some t.mb), .int .i64 ((t.next : Nat) : Int), .int .i64 ((t.bytes : Nat) : Int)] : List Value).toArray 95 (0, 0)), own t.mb (mapO ((t.ns).map Nd.me) t.ck), V]) (by repeat (first | exact zY _ | refine zJ 0 rfl ?_ | refine zJ 1 rfl ?_ | refine zJ 2 rfl ?_ | refine zJ 3 rfl ?_ | refine zJ 4 rfl ?_ | refine zJ 5 rfl ?_ | refine zJ 6 rfl ?_ | refine zJ 7 rfl ?_ | refine SubH.rown ?_)) ?_; refine qD (fun w F s => nds_op hiy s) ?_; refine zK (zH rfl (zL rfl) rfl (zH rfl (zL rfl) rfl (zH rfl (zU rfl) rfl (zH rfl (zP xP rfl) rfl (zH rfl (zW sc96 rfl (zy4 0 rfl (Rd.own rfl))) rfl ?_))))); refine zH rfl (zL rfl) rfl (zH rfl (zL rfl) rfl (zH rfl (ql rfl rfl (qo (by omega))) rfl (zT rfl (zb Tryz.call132 rfl rfl (by repeat (first | exact zR _ | apply zG 0 rfl | apply zG 1 rfl | apply zG 2 rfl | apply zG 3 rfl | apply zG 4 rfl | apply zG 5 rfl | apply zG 6 rfl | apply zG 7 rfl)) (del_spec y.kp y.kc y.kids (hW.kd.few y hy) k hklt)) rfl ?_))); rintro _ H' ⟨_, ⟨p42, c42, rfl, rfl⟩, hH⟩; simp only [zy7] at hH; subst hH; refine zH rfl (zU rfl) rfl (zH rfl (zP xP rfl) rfl (zo rfl (qP 1 sc96 rfl rfl rfl rfl (zy1 rfl) (zg _)) rfl ?_)); rintro _ _ rfl; refine zN (zI (zM (q8 (L := [own y.blk (.cells (Nd.cs (cutF p42 c42 k y)).toArray 98 (0, 0)), rowP p42 c42 (y.kids.eraseIdx k), rowD y.dp y.dc y.data, nds (t.ns.eraseIdx iy), own t.tb (.cells ([.pointer (some ⟨t.rb, 0, none⟩), .map (some t.mb), .int .i64 ((t.next : Nat) : Int), .int .i64 ((t.bytes : Nat) : Int)] : List Value).toArray 95 (0, 0)), own t.mb (mapO ((t.ns).map Nd.me) t.ck), V]) (by repeat (first | exact zY _ | refine zJ 0 rfl ?_ | refine zJ 1 rfl ?_ | refine zJ 2 rfl ?_ | refine zJ 3 rfl ?_ | refine zJ 4 rfl ?_ | refine zJ 5 rfl ?_ | refine zJ 6 rfl ?_ | refine zJ 7 rfl ?_ | refine SubH.rown ?_)) ?_))); refine qD (fun w F s => cut_close hW.kd.blks hiy hxy (fun u hu e => by rw [xA hW.kd.blks hu hx e]) s) ?_; refine zK (zH rfl (zL rfl) rfl (zH rfl (zO rfl) rfl (zN (zI (zi ?_))))); refine' zX (qk rfl rfl) ?_ ?_
 rotate_left 1
 exact ⟨p42, c42, rfl, rfl⟩
 exact zj _
theorem nds_part (p : Nd → Bool) : ∀ (ns : List Nd) {w : World} {F : HProp}, sat w (star (nds ns) F) → sat w (star (nds (ns.filter p)) F)
 | [], _, _, s => s
 | x :: l, w, F, s => by
  have e : nds (x :: l) = star (nd x) (nds l) := rfl
  rw [e, zv] at s; rw [List.filter_cons]
  split
  ·rw [qH] at s; have s1 := nds_part p l s
   rw [qH, ← zv] at s1; exact s1
  ·exact nds_part p l (yw s)
theorem mdel_ns : ∀ {ns : List Nd} {x : Nd}, (ns.map Nd.id).Nodup → (ns.map Nd.blk).Nodup → x ∈ ns → mdel (ns.map Nd.me) (x.id : Int) = (ns.filter fun u => decide (u.blk ≠ x.blk)).map Nd.me
 | u :: l, x, hi, hb, hx => by
  rw [List.map_cons, List.nodup_cons] at hi hb
  show (if (u.id : Int) = x.id then l.map Nd.me else u.me :: mdel (l.map Nd.me) x.id) = _
  have all : ∀ z ∈ l, x = u → (decide (z.blk ≠ x.blk)) = true := fun z hz e => decide_eq_true fun e2 => hb.1 (by rw [e] at e2; rw [← e2]; exact List.mem_map.2 ⟨z, hz, rfl⟩)
  rcases List.mem_cons.1 hx with h | h
  ·rw [if_pos (by rw [h]), List.filter_cons, if_neg (by rw [h]; simp), List.filter_eq_self.2 fun z hz => all z hz h]
  ·have h1 : u.id ≠ x.id := fun e => hi.1 (by rw [e]; exact List.mem_map.2 ⟨x, h, rfl⟩)
   have h2 : u.blk ≠ x.blk := fun e => hb.1 (by rw [e]; exact List.mem_map.2 ⟨x, h, rfl⟩)
   rw [if_neg (by omega), List.filter_cons, if_pos (by simpa using h2), List.map_cons, mdel_ns hi.2 hb.2 h]
/-- x is gone -/
def remT (t : Tr) (x y : Nd) (kp : Option Addr) (kc k : Nat) : Tr := { t with bytes := t.bytes - x.data.length, ns := (t.ns.map (cutG x y kp kc k x.name)).filter fun u => decide (u.blk ≠ x.blk) }
theorem cutG_ids (x y : Nd) (kp : Option Addr) (kc k : Nat) (s : List UInt8) (ns : List Nd) : (ns.map (cutG x y kp kc k s)).map Nd.id = ns.map Nd.id := by rw [List.map_map]; exact List.map_congr_left fun u _ => (yl x y kp kc k s u).2.1
theorem cutG_blks (x y : Nd) (kp : Option Addr) (kc k : Nat) (s : List UInt8) (ns : List Nd) : (ns.map (cutG x y kp kc k s)).map Nd.blk = ns.map Nd.blk := by rw [List.map_map]; exact List.map_congr_left fun u _ => (yl x y kp kc k s u).1
theorem rem_close {t : Tr} {r x y : Nd} {k : Nat} {kp : Option Addr} {kc : Nat} {L : List HProp} (hW : Wf t r) (hx : x ∈ t.ns) {w : World} {F : HProp}
 (s : sat w (star (St (own t.tb (.cells ([.pointer (some ⟨t.rb, 0, none⟩), .map (some t.mb), .int .i64 ((t.next : Nat) : Int), .int .i64 ((t.bytes - x.data.length : Nat) : Int)] : List Value).toArray 95 (0, 0)) :: own t.mb (mapO (mdel ((t.ns.map (cutG x y kp kc k x.name)).map Nd.me) (x.id : Int)) t.ck) :: nds (t.ns.map (cutG x y kp kc k x.name)) :: L)) F)) : sat w (star (St (tree (remT t x y kp kc k) :: L)) F) := by
 have hxA : outF x.name x ∈ t.ns.map (cutG x y kp kc k x.name) := List.mem_map.2 ⟨x, hx, cutG_x⟩
 have e1 := mdel_ns (x := outF x.name x) (by rw [cutG_ids]; exact hW.ids) (by rw [cutG_blks]; exact hW.kd.blks) hxA
 rw [show mdel ((t.ns.map (cutG x y kp kc k x.name)).map Nd.me) (x.id : Int) = _ from e1] at s; refine xO (t := remT t x y kp kc k) ?_; have hs : SubH (own t.tb (.cells ([.pointer (some ⟨t.rb, 0, none⟩), .map (some t.mb), .int .i64 ((t.next : Nat) : Int), .int .i64 ((t.bytes - x.data.length : Nat) : Int)] : List Value).toArray 95 (0, 0)) :: own t.mb (mapO (((t.ns.map (cutG x y kp kc k x.name)).filter fun u => decide (u.blk ≠ (outF x.name x).blk)).map Nd.me) t.ck) :: nds (t.ns.map (cutG x y kp kc k x.name)) :: L) (nds (t.ns.map (cutG x y kp kc k x.name)) :: own t.tb (.cells ([.pointer (some ⟨t.rb, 0, none⟩), .map (some t.mb), .int .i64 ((t.next : Nat) : Int), .int .i64 ((t.bytes - x.data.length : Nat) : Int)] : List Value).toArray 95 (0, 0)) :: own t.mb (mapO ((remT t x y kp kc k).ns.map Nd.me) t.ck) :: L) := zJ 2 rfl (zj _)
 have s1 := hs w F s
 rw [qJ, zv] at s1; have s2 := nds_part (fun u => decide (u.blk ≠ x.blk)) _ s1
 rw [← zv, ← qJ] at s2; have h2 : SubH (nds (remT t x y kp kc k).ns :: own t.tb (.cells ([.pointer (some ⟨t.rb, 0, none⟩), .map (some t.mb), .int .i64 ((t.next : Nat) : Int), .int .i64 ((t.bytes - x.data.length : Nat) : Int)] : List Value).toArray 95 (0, 0)) :: own t.mb (mapO ((remT t x y kp kc k).ns.map Nd.me) t.ck) :: L) (trL (remT t x y kp kc k) ++ L) := zJ 1 rfl (zJ 1 rfl (zJ 0 rfl (zj _)))
 exact h2 w F s2
theorem kd_drop {ns : List Nd} (hK : Kd ns) {x : Nd} (hx : x ∈ ns) (ho : ∀ u ∈ ns, x.par ≠ u.id) : Kd (ns.filter fun u => decide (u.blk ≠ x.blk)) := by
 have inn : ∀ u, u ∈ (ns.filter fun u => decide (u.blk ≠ x.blk)) ↔ u ∈ ns ∧ u.blk ≠ x.blk := fun u => by rw [List.mem_filter]; simp
 have hb : ((ns.filter fun u => decide (u.blk ≠ x.blk)).map Nd.blk).Nodup := List.Nodup.sublist (List.Sublist.map _ List.filter_sublist) hK.blks
 have kids : ∀ u ∈ ns, ∀ k ∈ u.kids, ∃ v ∈ (ns.filter fun u => decide (u.blk ≠ x.blk)), v.blk = k ∧ v.par = u.id := fun u hu k hk => by
  obtain ⟨v, v1, v2, v3⟩ := hK.sub u hu k hk
  refine ⟨v, (inn v).2 ⟨v1, fun e => ?_⟩, v2, v3⟩; rw [xA hK.blks v1 hx e] at v3; exact ho u hu v3
 refine ⟨hb, fun u hu k hk => kids u ((inn u).1 hu).1 k hk, fun u hu v hv hp => hK.all u ((inn u).1 hu).1 v ((inn v).1 hv).1 hp, fun u hu => ?_, fun u hu => hK.few u ((inn u).1 hu).1⟩
 have e0 : u.kids.map (nmB (ns.filter fun u => decide (u.blk ≠ x.blk))) = u.kids.map (nmB ns) := List.map_congr_left fun k hk => by
  obtain ⟨v, v1, v2, _⟩ := kids u ((inn u).1 hu).1 k hk
  rw [← v2, xU hb v1, xU hK.blks ((inn v).1 v1).1]
 rw [e0]; exact hK.rise u ((inn u).1 hu).1
theorem sum_drop {x : Nd} : ∀ {ns : List Nd}, (ns.map Nd.blk).Nodup → x ∈ ns → ((ns.filter fun u => decide (u.blk ≠ x.blk)).map fun y : Nd => y.data.length).sum + x.data.length = (ns.map fun y : Nd => y.data.length).sum
 | u :: l, h, hx => by
  rw [List.map_cons, List.nodup_cons] at h; rw [List.filter_cons]
  rcases List.mem_cons.1 hx with e | e
  ·have all : ∀ z ∈ l, (decide (z.blk ≠ x.blk)) = true := fun z hz => decide_eq_true fun e2 => h.1 (by rw [← e, ← e2]; exact List.mem_map.2 ⟨z, hz, rfl⟩)
   rw [if_neg (by rw [e]; simp), List.filter_eq_self.2 all, List.map_cons, List.sum_cons, e]; omega
  ·have h2 : u.blk ≠ x.blk := fun e2 => h.1 (by rw [e2]; exact List.mem_map.2 ⟨x, e, rfl⟩)
   have := sum_drop h.2 e
   rw [if_pos (by simpa using h2), List.map_cons, List.sum_cons, List.map_cons, List.sum_cons]; omega
/-- what is left when x is gone -/
theorem rem_mem {t : Tr} {r x y : Nd} (hW : Wf t r) (hx : x ∈ t.ns) {kp : Option Addr} {kc k : Nat} {u : Nd} : u ∈ (remT t x y kp kc k).ns ↔ ∃ v ∈ t.ns, v ≠ x ∧ u = cutG x y kp kc k x.name v := by
 show u ∈ (t.ns.map (cutG x y kp kc k x.name)).filter _ ↔ _
 rw [List.mem_filter, List.mem_map]
 constructor
 ·rintro ⟨⟨v, hv, rfl⟩, h⟩; refine ⟨v, hv, fun e => ?_, rfl⟩; rw [e, (yl x y kp kc k x.name x).1] at h; simp at h
 ·rintro ⟨v, hv, hn, rfl⟩; refine ⟨⟨v, hv, rfl⟩, ?_⟩; rw [(yl x y kp kc k x.name v).1]; exact decide_eq_true fun e => hn (xA hW.kd.blks hv hx e)
theorem wf_rem {t : Tr} {r x y : Nd} {k : Nat} {kp : Option Addr} {kc : Nat} (hW : Wf t r) (hx : x ∈ t.ns) (hy : y ∈ t.ns) (hp : x.par = y.id) (hxy : x.blk ≠ y.blk) (hk : y.kids[k]? = some x.blk) (hxk : x.kids = []) : Wf (remT t x y kp kc k) (cutG x y kp kc k x.name r) := by
 have hG := yl x y kp kc k x.name
 have hrx : r ≠ x := fun e => by have := hW.rpar; rw [e, hp] at this; omega
 have no : ∀ v ∈ t.ns, v ≠ x → v.blk ≠ x.blk := fun v hv h e => h (xA hW.kd.blks hv hx e)
 have hxA : outF x.name x ∈ t.ns.map (cutG x y kp kc k x.name) := List.mem_map.2 ⟨x, hx, cutG_x⟩
 have hK : Kd (remT t x y kp kc k).ns := kd_drop (x := outF x.name x) (kd_cut hW.kd hW.ids hx hy hp hxy hk kp kc x.name) hxA fun u hu e => by
  have e : (-2 : Int) = u.id := e
  omega
 have hlen : x.data.length ≤ t.bytes := by rw [hW.sum]; exact sum_in hx
 have hsum := sum_drop (x := outF x.name x) (ns := t.ns.map (cutG x y kp kc k x.name)) (by rw [cutG_blks]; exact hW.kd.blks) hxA
 have hs2 : ((t.ns.map (cutG x y kp kc k x.name)).map fun z : Nd => z.data.length) = t.ns.map fun z : Nd => z.data.length := by
  rw [List.map_map]; exact List.map_congr_left fun u _ => by show (cutG x y kp kc k x.name u).data.length = _; rw [(hG u).2.2.2.1]
 rw [hs2, ← hW.sum] at hsum; have gof : ∀ u ∈ (remT t x y kp kc k).ns, ∃ v ∈ t.ns, v ≠ x ∧ u = cutG x y kp kc k x.name v := fun u hu => (rem_mem hW hx).1 hu
 refine ⟨hK, (rem_mem hW hx).2 ⟨r, hW.root, hrx, rfl⟩, by rw [(hG r).1]; exact hW.rb, by rw [(hG r).2.1]; exact hW.rid, by rw [(cutG_no (no r hW.root hrx)).1]; exact hW.rpar, by rw [(hG r).2.2.1]; exact hW.rdir, ?_, fun u hu => ?_, fun u hu => ?_, fun u hu => ?_, ?_, ?_, fun u hu hd => ?_, ?_, ?_, fun u hu => ?_⟩
 ·refine List.Nodup.sublist (List.Sublist.map _ List.filter_sublist) ?_; rw [cutG_ids]; exact hW.ids
 ·obtain ⟨v, hv, _, rfl⟩ := gof u hu
  rw [(hG v).2.1]; exact hW.lt v hv
 ·obtain ⟨v, hv, hn, rfl⟩ := gof u hu
  rw [(hG v).2.1, (cutG_no (no v hv hn)).1]
  rcases hW.par v hv with h1 | ⟨z, h1, h2, h3⟩
  ·exact .inl h1
  ·refine .inr ⟨cutG x y kp kc k x.name z, (rem_mem hW hx).2 ⟨z, h1, fun e => ?_, rfl⟩, by rw [(hG z).2.1]; exact h2, by rw [(hG z).2.2.1]; exact h3⟩; have := hW.kd.all x hx v hv (by rw [h2, e])
   rw [hxk] at this; cases this
 ·obtain ⟨v, hv, hn, rfl⟩ := gof u hu
  rw [(hG v).2.1, (cutG_no (no v hv hn)).2]; exact hW.nm v hv
 ·obtain ⟨d, hD⟩ := hW.rk
  refine ⟨d, fun u hu v hv hpv => ?_⟩; obtain ⟨a, ha, hna, rfl⟩ := gof u hu
  obtain ⟨b, hb, hnb, rfl⟩ := gof v hv
  rw [(hG a).2.1, (hG b).2.1]; rw [(cutG_no (no b hb hnb)).1, (hG a).2.1] at hpv; exact hD a ha b hb hpv
 ·show ((t.ns.map (cutG x y kp kc k x.name)).filter _).length ≤ 200
  refine Nat.le_trans (List.length_filter_le _ _) ?_; rw [List.length_map]; exact hW.few
 ·obtain ⟨v, hv, _, rfl⟩ := gof u hu
  rw [(hG v).2.2.1] at hd; rw [(hG v).2.2.2.1]; exact hW.dat v hv hd
 ·show t.bytes - x.data.length = (((t.ns.map (cutG x y kp kc k x.name)).filter fun u => decide (u.blk ≠ (outF x.name x).blk)).map fun y : Nd => y.data.length).sum
  have : (outF x.name x).data.length = x.data.length := rfl
  omega
 ·have := hW.max
  show t.bytes - x.data.length ≤ 1048576
  omega
 ·obtain ⟨v, hv, _, rfl⟩ := gof u hu
  rw [(hG v).2.2.2.2]; exact hW.a v hv
theorem par_ne {t : Tr} {r x y : Nd} (hW : Wf t r) (hx : x ∈ t.ns) (hy : y ∈ t.ns) (hp : x.par = y.id) : x.blk ≠ y.blk := fun e => by
 obtain ⟨d, hD⟩ := hW.rk
 have := hD y hy x hx hp
 rw [xA hW.kd.blks hx hy e] at this; omega
def RemR (t : Tr) (r : Nd) (p : List (List UInt8)) (dir : Bool) (t' : Tr) (r' : Nd) (e : Int) : Prop :=
 (e = remE t.ns r p dir ∧ e ≠ 0 ∧ t' = t ∧ r' = r) ∨
 (remE t.ns r p dir = 0 ∧ e = 0 ∧ ∃ x y k kp kc, p ≠ [] ∧ fnd t.ns r p = some x ∧ x.kids = [] ∧ x ∈ t.ns ∧ y ∈ t.ns ∧ x.par = y.id ∧ x.blk ≠ y.blk ∧ y.kids[k]? = some x.blk ∧ t' = remT t x y kp kc k ∧ r' = cutG x y kp kc k x.name r)
theorem remE_inv {ns : List Nd} {r : Nd} {p : List (List UInt8)} {dir : Bool} (h : remE ns r p dir = 0) : p ≠ [] ∧ ∃ x, fnd ns r p = some x ∧ x.dir = dir ∧ x.kids = [] := by
 unfold remE at h
 by_cases h1 : p.length = 0
 ·rw [if_pos h1] at h; cases h
 ·rw [if_neg h1] at h
  cases h2 : fnd ns r p with
  | none => rw [h2] at h; cases h
  | some x =>
   rw [h2] at h; simp only at h
   by_cases h3 : x.dir ≠ dir
   ·rw [if_pos h3] at h; cases h
   ·rw [if_neg h3] at h
    by_cases h4 : 0 < x.kids.length
    ·rw [if_pos h4] at h; cases h
    ·exact ⟨fun e => h1 (by rw [e]; rfl), x, rfl, Classical.byContradiction h3, List.eq_nil_of_length_eq_zero (by omega)⟩
theorem remove_spec {V : HProp} {t : Tr} {r : Nd} (hW : Wf t r) (q : Option Addr) (cq : Nat) (p : List (List UInt8)) (hV : Vw V (.slice q p.length cq) p.length (txs p)) (hcq : p.length ≤ cq) (hl : p.length ≤ 100000) (dir : Bool) :
 Tri Tryz.prog 33 [t.v, .slice q p.length cq, .bool dir] [tree t, V] (fun v H' => ∃ t' r' e, v = .int .i64 e ∧ RemR t r p dir t' r' e ∧ Wf t' r' ∧ t'.tb = t.tb ∧ t'.next = t.next ∧ H' = [tree t', V]) := by
 by_cases he : remE t.ns r p dir = 0
 ·obtain ⟨hp, x, hb, hdd, hxk⟩ := remE_inv he
  obtain ⟨y, hfy, hkd⟩ := fnd_last hp hb
  have hx := yu hW.root hb
  have hy := yu hW.root hfy
  have hpar := (xM hkd).2.1
  have hxy := par_ne hW hx hy hpar
  have hkx := (kid_hit hW.kd hy hkd).2
  obtain ⟨k, hkk⟩ : ∃ k, plc (y.kids.map (nmB t.ns)) (lastN p) = k := ⟨_, rfl⟩
  rw [show kpl t.ns y (lastN p) = k from hkk] at hkx; have hlen : x.data.length ≤ t.bytes := by rw [hW.sum]; exact sum_in hx
  have hmx := hW.max
  refine tri_post (Ψ := fun v H' => ∃ kp1 kc1, v = .int .i64 0 ∧ H' = [tree (remT t x y kp1 kc1 k), V]) ?_ fun v H' h => ?_
  ·skip; refine zt Tryz.func33 rfl Tryz.ntmps33 (by simp) ?_; refine zM (zK (zH rfl (zO rfl) rfl (zN (zI (zM ?_))))); refine zK (zH rfl (zL rfl) rfl (zH rfl (zL rfl) rfl (zT rfl (zy (Pre := []) Tryz.call75 rfl rfl (zR _) (xa (Tv.pick 0 rfl (qh t)) hW q cq p ((zy5 1 rfl hV)) hl)) rfl ?_))); rintro _ H' ⟨_, ⟨rfl, rfl⟩, hH⟩; simp only [zy7] at hH; subst hH; rw [hb]; dsimp only [ptrO, Option.map]; refine zH rfl (zO rfl) rfl (zN (zI (zM (qA ?_)))); refine zM (zK (zH rfl (zL rfl) rfl (zH rfl (zw Tryz.underlying47 rfl) rfl (zH rfl (qQ rfl rfl rfl) rfl (zH rfl (zO rfl) rfl ?_))))); refine zN (zI (zq rfl (fun hc11 => ?_) (fun hc11 => ?_)))
   ·replace hc11 := zy2 hc11
    exact absurd (List.eq_nil_of_length_eq_zero (by omega)) hp
   ·replace hc11 := zy3 hc11
    refine zM (zK (zH rfl (zL rfl) rfl (zH rfl (qI Tryz.underlying92 rfl rfl rfl) rfl (zH rfl (zO rfl) rfl (zN ?_))))); refine zI (qC rfl ?_); refine zM (zK (zH rfl (zL rfl) rfl (zH rfl (zU rfl) rfl (zH rfl (zP fa98_1 rfl) rfl (zH rfl (zW sc4 rfl (zy4 0 rfl (((qh t).nd x hx 1 _ rfl)))) rfl ?_))))); refine zH rfl (zL rfl) rfl (zH rfl (ro_neq_bool Tryz.underlying4 rfl rfl (c := decide (x.dir ≠ dir)) (by cases x.dir <;> cases dir <;> rfl)) rfl (zH rfl (zO rfl) rfl (zN (zI (zq rfl (fun hc18 => ?_) (fun hc18 => ?_))))))
    ·replace hc18 := zy2 hc18
     exact absurd hdd (by simpa using hc18)
    ·replace hc18 := zy3 hc18
     refine zM (zK (zH rfl (zL rfl) rfl (zH rfl (zU rfl) rfl (zH rfl (zP xP rfl) rfl (zH rfl (zW sc96 rfl (zy4 0 rfl (((qh t).nd x hx 3 _ rfl)))) rfl ?_))))); refine zH rfl (zw Tryz.underlying96 rfl) rfl (zH rfl (yd rfl rfl rfl) rfl (zH rfl (zO rfl) rfl (zN (zI (zq rfl (fun hc25 => ?_) (fun hc25 => ?_))))))
     ·replace hc25 := zy2 hc25
      exact absurd hc25 (by rw [hxk]; decide)
     ·replace hc25 := zy3 hc25
      refine zl ?_; refine zQ ?_; refine zI (zM (zK (zH rfl (zL rfl) rfl (zH rfl (zL rfl) rfl (zT rfl (zb Tryz.call76 rfl rfl (by repeat (first | exact zR _ | apply zG 0 rfl | apply zG 1 rfl | apply zG 2 rfl | apply zG 3 rfl | apply zG 4 rfl | apply zG 5 rfl | apply zG 6 rfl | apply zG 7 rfl)) (cut_spec hW q cq p hV hcq hl hp hfy hkd hxy k hkk)) rfl ?_))))); rintro _ H' ⟨_, ⟨kp1, kc1, rfl, rfl⟩, hH⟩; simp only [zy7] at hH; subst hH; refine zN (zI (zM ?_)); have hxA : outF x.name x ∈ (t.ns.map (cutG x y kp1 kc1 k x.name)) := List.mem_map.2 ⟨x, hx, cutG_x⟩
      have hrx : RdN (nds (t.ns.map (cutG x y kp1 kc1 k x.name))) x.blk 0 (Nd.cs (outF x.name x)) := nds_rdn (x := outF x.name x) hxA
      refine qD (H' := trL (cutT t x y kp1 kc1 k x.name) ++ [V]) (fun w F s => tree_open s) ?_; simp only [trL, zA, zB]; refine q8 (L := [own t.tb (.cells ([.pointer (some ⟨t.rb, 0, none⟩), .map (some t.mb), .int .i64 ((t.next : Nat) : Int), .int .i64 ((t.bytes : Nat) : Int)] : List Value).toArray 95 (0, 0)), own t.mb (mapO (((t.ns.map (cutG x y kp1 kc1 k x.name))).map Nd.me) t.ck), nds (t.ns.map (cutG x y kp1 kc1 k x.name)), V]) (by repeat (first | exact zY _ | refine zJ 0 rfl ?_ | refine zJ 1 rfl ?_ | refine zJ 2 rfl ?_ | refine zJ 3 rfl ?_ | refine zJ 4 rfl ?_ | refine zJ 5 rfl ?_ | refine zJ 6 rfl ?_ | refine zJ 7 rfl ?_ | refine SubH.rown ?_)) ?_; refine qZ 8 (by kernel_rfl) (Split.all _) ?_; refine zRO (i := 0) (by kernel_rfl) rfl rfl (zL rfl) rfl (zRO (i := 1) (by kernel_rfl) rfl rfl (zU rfl) rfl (zRO (i := 2) (by kernel_rfl) rfl rfl (zP fa95_1 rfl) rfl (zRO (i := 3) (by kernel_rfl) rfl rfl (zW sc93 rfl (zy4 0 rfl (Rd.own rfl))) rfl (zRO (i := 4) (by kernel_rfl) rfl rfl (zL rfl) rfl (zRO (i := 5) (by kernel_rfl) rfl rfl (zU rfl) rfl ?_))))); refine zRO (i := 6) (by kernel_rfl) rfl rfl (zP fa98_0 rfl) rfl (zRO (i := 7) (by kernel_rfl) rfl rfl (zW sc3 rfl (zy4 2 rfl ((hrx 0 _ rfl)))) rfl (qR (m' := 9) (L' := []) (by kernel_rfl) qx ?_)); simp only [zA, zB, List.append_nil]; refine qq (i := 8) (by kernel_rfl) rfl rfl (eff_delete 1 Tryz.underlying93 Tryz.underlying3 rfl rfl rfl) rfl ?_; rintro _ _ ⟨rfl, rfl⟩
      try simp only [zE, zF]
      refine qT (by kernel_rfl) ?_; refine zI (zM (qZ 10 (by kernel_rfl) (Split.all _) ?_)); refine zRO (i := 0) (by kernel_rfl) rfl rfl (zL rfl) rfl (zRO (i := 1) (by kernel_rfl) rfl rfl (zU rfl) rfl (zRO (i := 2) (by kernel_rfl) rfl rfl (zP fa95_3 rfl) rfl (zRO (i := 3) (by kernel_rfl) rfl rfl (zW sc3 rfl (zy4 0 rfl (Rd.own rfl))) rfl (zRO (i := 4) (by kernel_rfl) rfl rfl (zL rfl) rfl (zRO (i := 5) (by kernel_rfl) rfl rfl (zU rfl) rfl ?_))))); refine zRO (i := 6) (by kernel_rfl) rfl rfl (zP fa98_4 rfl) rfl (zRO (i := 7) (by kernel_rfl) rfl rfl (zW sc25 rfl (zy4 2 rfl ((hrx 4 _ rfl)))) rfl (zRO (i := 8) (by kernel_rfl) rfl rfl (zw Tryz.underlying25 rfl) rfl ?_)); refine xQ (i := 9) (by kernel_rfl) rfl rfl (yi rfl rfl (show IntKind.i64.wrap ((t.bytes : Int) - (x.data.length : Int)) = ((t.bytes - x.data.length : Nat) : Int) by rw [qU (by omega) (by omega)]; omega)) rfl (fun _ _ _ h => h) (qR (m' := 13) (L' := []) (by kernel_rfl) qx ?_); simp only [zA, zB, List.append_nil]; refine zRO (i := 10) (by kernel_rfl) rfl rfl (zU rfl) rfl (zRO (i := 11) (by kernel_rfl) rfl rfl (zP fa95_3 rfl) rfl (qq (i := 12) (by kernel_rfl) rfl rfl (qP 0 sc3 rfl rfl rfl rfl (zy1 rfl) (zg _)) rfl ?_)); rintro _ _ rfl; refine qT (by kernel_rfl) ?_; refine zI (zM (q8 (L := [own t.tb (.cells ([.pointer (some ⟨t.rb, 0, none⟩), .map (some t.mb), .int .i64 ((t.next : Nat) : Int), .int .i64 ((t.bytes - x.data.length : Nat) : Int)] : List Value).toArray 95 (0, 0)), own t.mb (mapO (mdel ((t.ns.map (cutG x y kp1 kc1 k x.name)).map Nd.me) (x.id : Int)) t.ck), nds (t.ns.map (cutG x y kp1 kc1 k x.name)), V]) (by repeat (first | exact zY _ | refine zJ 0 rfl ?_ | refine zJ 1 rfl ?_ | refine zJ 2 rfl ?_ | refine zJ 3 rfl ?_ | refine zJ 4 rfl ?_ | refine zJ 5 rfl ?_ | refine zJ 6 rfl ?_ | refine zJ 7 rfl ?_ | refine SubH.rown ?_)) ?_)); refine qD (fun w F s => rem_close hW hx s) ?_; refine zK (zH rfl (zO rfl) rfl (zN (zI (zi ?_)))); refine' zX (qk rfl rfl) ?_ ?_
      rotate_left 1
      first
       | exact ⟨kp1, kc1, rfl, rfl⟩
       | exact absurd (by assumption) hp
      exact zj _
  ·obtain ⟨kp1, kc1, rfl, rfl⟩ := h
   exact ⟨_, _, 0, rfl, .inr ⟨he, rfl, x, y, k, kp1, kc1, hp, hb, hxk, hx, hy, hpar, hxy, hkx, rfl, rfl⟩, wf_rem hW hx hy hpar hxy hkx hxk, rfl, rfl, rfl⟩
 ·exact tri_post (remBad_spec hW q cq p hV hl dir he) fun v H' h => ⟨t, r, _, h.1, .inl ⟨rfl, he, rfl, rfl⟩, hW, rfl, rfl, h.2⟩
theorem seqs_spec (V : HProp) (a b : List (List UInt8)) (p1 p2 : Option Addr) (c1 c2 : Nat) (h1 : Vw V (.slice p1 a.length c1) a.length (txs a)) (h2 : Vw V (.slice p2 b.length c2) b.length (txs b)) (hl : a.length ≤ 140737488355328) :
 Tri Tryz.prog 81 [.slice p1 a.length c1, .slice p2 b.length c2] [V] (fun v H' => ∃ K, (v = .bool (decide (a = b)) ∧ K = []) ∧ H' = K ++ [V]) := by
 refine zt Tryz.func81 rfl Tryz.ntmps81 (by simp) ?_; refine zM (zK (zH rfl (zO rfl) rfl (zN (zI (zM ?_))))); refine zM (zK (zH rfl (zL rfl) rfl (zH rfl (zw Tryz.underlying47 rfl) rfl (zH rfl (zL rfl) rfl (zH rfl (zw Tryz.underlying47 rfl) rfl ?_))))); refine zH rfl (q9 rfl rfl rfl) rfl (zN (zI (zq rfl (fun hc10 => ?_) (fun hc10 => ?_))))
 ·replace hc10 := zy2 hc10
  refine zM (zK (zH rfl (zO rfl) rfl (zN (zI (zi ?_))))); refine zh ?_; refine' zX (qk rfl rfl) ?_ ?_
  rotate_left 1
  exact ⟨_, ⟨by rw [decide_eq_false (fun h => by rw [h] at hc10; exact hc10 rfl)], rfl⟩, rfl⟩
  exact zj _
 ·replace hc10 := zy3 hc10
  refine zl ?_; refine zI (zM (zM (zK (zH rfl (zL rfl) rfl (zH rfl (zw Tryz.underlying47 rfl) rfl ?_))))); refine zH rfl (zL rfl) rfl (zN (zI (qA ?_))); refine yQ 4 (fun m Δ LL => ∃ (i : Nat), (i + m = a.length ∧ a.length = b.length ∧ a.take i = b.take i) ∧ Δ = [(13, .int .i64 (i : Nat))] ∧ LL = [V]) (m := a.length) (zS (k := 0) rfl (zS (k := 1) rfl (zS (k := 12) rfl (zf _)))) (qn ⟨0, ⟨by omega, by omega, by simp⟩, rfl, rfl⟩ (by repeat (first | exact zf _ | refine zS rfl ?_)) (by repeat (first | exact zf _ | refine zS rfl ?_)) (by repeat (first | exact zY _ | refine zJ 0 rfl ?_ | refine zJ 1 rfl ?_ | refine zJ 2 rfl ?_ | refine zJ 3 rfl ?_ | refine zJ 4 rfl ?_ | refine zJ 5 rfl ?_ | refine zJ 6 rfl ?_ | refine zJ 7 rfl ?_ | refine SubH.rown ?_))) ?_; rintro m Δ LL ⟨i, ⟨hm, hab, ht⟩, rfl, rfl⟩; simp only [zA, zB]; refine zM (zK (zH rfl (yP rfl rfl rfl) rfl (zN (zI (zM ?_))))); refine zq rfl (fun hc14 => ?_) (fun hc14 => ?_)
  ·replace hc14 := zy2 hc14
   have hi : i < a.length := by omega
   have hj : i < b.length := by omega
   refine yN (fun w F s => vw_ptr (zy5 (H := [V]) 0 rfl h1) s (by omega)) ?_; rintro ⟨b1, o1, rfl⟩; refine yN (fun w F s => vw_ptr (zy5 (H := [V]) 0 rfl h2) s (by omega)) ?_; rintro ⟨b2, o2, rfl⟩; refine zl ?_; refine zI (zM (qA ?_)); refine zM (zK (zH rfl (zL rfl) rfl (zH rfl (zO rfl) rfl (zN (zI ?_))))); refine zM (qZ 9 (by kernel_rfl) (Split.all _) ?_); refine zRO (i := 0) (by kernel_rfl) rfl rfl (zL rfl) rfl (zRO (i := 1) (by kernel_rfl) rfl rfl (zL rfl) rfl (zRO (i := 2) (by kernel_rfl) rfl rfl (qO sl47 rfl rfl rfl (by omega)) rfl (zRO (i := 3) (by kernel_rfl) rfl rfl (zW sc9 rfl (zy4 0 rfl (Rd.elem (j := 0) (ym h1) Tx.len (List.getElem?_eq_getElem hi) rfl))) rfl ?_))); refine zRO (i := 4) (by kernel_rfl) rfl rfl (zL rfl) rfl (zRO (i := 5) (by kernel_rfl) rfl rfl (zL rfl) rfl (zRO (i := 6) (by kernel_rfl) rfl rfl (qO sl47 rfl rfl rfl (by omega)) rfl (zRO (i := 7) (by kernel_rfl) rfl rfl (zW sc9 rfl (zy4 0 rfl (Rd.elem (j := 0) (ym h2) Tx.len (List.getElem?_eq_getElem hj) rfl))) rfl ?_))); refine zRO (i := 8) (by kernel_rfl) rfl rfl (ro_neqS rfl rfl rfl) rfl (xW (by kernel_rfl) ?_); refine zI (zq rfl (fun hc24 => ?_) (fun hc24 => ?_))
   ·replace hc24 := zy2 hc24
    refine zM (zK (zH rfl (zO rfl) rfl (zN (zI (zi ?_))))); refine zn ?_; refine zh ?_; refine zh ?_; refine zn ?_; refine zh ?_; refine' zX (qk rfl rfl) ?_ ?_
    rotate_left 1
    exact ⟨_, ⟨by rw [decide_eq_false (fun h => by subst h; exact hc24 rfl)], rfl⟩, rfl⟩
    exact zj _
   ·replace hc24 := zy3 hc24
    replace hc24 : a[i] = b[i] := Classical.byContradiction hc24
    refine zl ?_; refine zQ ?_; refine zI (zK (zH rfl (ql rfl rfl (qo (by omega))) rfl (zH rfl (zL rfl) rfl (zN (zI ?_))))); refine back (m - 1) (by omega) (qn ⟨i + 1, ⟨by omega, hab, by rw [List.take_succ_eq_append_getElem hi, List.take_succ_eq_append_getElem hj, ht, hc24]⟩, rfl, rfl⟩ ?_ ?_ ?_)
    ·exact (by repeat (first | exact zf _ | refine zS rfl ?_))
    ·exact (by repeat (first | exact zf _ | refine zS rfl ?_))
    ·exact zj _
  ·replace hc14 := zy3 hc14
   refine yJ ?_; refine qV ?_; refine qV ?_; refine qe ?_; refine zI (zM (zK (zH rfl (zO rfl) rfl (zN (zI ?_))))); refine zi ?_; refine' zX (qk rfl rfl) ?_ ?_
   rotate_left 1
   exact ⟨_, ⟨by rw [decide_eq_true (by rw [List.take_of_length_le (by omega), List.take_of_length_le (by omega)] at ht; exact ht)], rfl⟩, rfl⟩
   exact zj _
theorem nds_opb {ns : List Nd} {i b : Nat} {x : Nd} {L : List HProp} (hb : x.blk = b) (h : ns[i]? = some x) {w : World} {F : HProp} (s : sat w (star (St (nds ns :: L)) F)) : sat w (star (St (own b (.cells x.cs.toArray 98 (0, 0)) :: rowP x.kp x.kc x.kids :: rowD x.dp x.dc x.data :: nds (ns.eraseIdx i) :: L)) F) := by
 subst hb; exact nds_op h s
theorem qf {f : FuncId} {t : Tr} {tb : Nat} {args : List Value} {H : List HProp} {Ψ : Value → List HProp → Prop} (h : t.tb = tb) (hT : Tri Tryz.prog f (t.v :: args) H Ψ) : Tri Tryz.prog f (.pointer (some ⟨tb, 0, none⟩) :: args) H Ψ := by rw [← h]; exact hT
def renE (ns : List Nd) (r : Nd) (fr tq : List (List UInt8)) : Int :=
 if fr = [] ∨ tq = [] then 1 else match fnd ns r fr with
  | none => 22
  | some _ => match holdO ns r tq with
   | ((none, _), e) => e
   | ((some _, _), _) => if fr.length < tq.length ∧ tq.take fr.length = fr then 1 else 0
theorem renE_nil {ns : List Nd} {r : Nd} {fr tq : List (List UInt8)} (h : fr = [] ∨ tq = []) : renE ns r fr tq = 1 := by unfold renE; rw [if_pos h]
theorem ne_or {fr tq : List (List UInt8)} (h1 : fr ≠ []) (h2 : tq ≠ []) : ¬ (fr = [] ∨ tq = []) := fun h => h.elim h1 h2
theorem renE_none {ns : List Nd} {r : Nd} {fr tq : List (List UInt8)} (h1 : fr ≠ []) (h2 : tq ≠ []) (h : fnd ns r fr = none) : renE ns r fr tq = 22 := by unfold renE; rw [if_neg (ne_or h1 h2), h]
theorem renE_hold {ns : List Nd} {r x : Nd} {fr tq : List (List UInt8)} {e : Int} (h1 : fr ≠ []) (h2 : tq ≠ []) (h : fnd ns r fr = some x) (hh : holdO ns r tq = ((none, 0), e)) : renE ns r fr tq = e := by unfold renE; rw [if_neg (ne_or h1 h2), h, hh]
theorem renE_pre {ns : List Nd} {r x y : Nd} {fr tq : List (List UInt8)} {k : Nat} (h1 : fr ≠ []) (h2 : tq ≠ []) (h : fnd ns r fr = some x) (hh : holdO ns r tq = ((some y, k), 0)) (h3 : fr.length < tq.length) (h4 : tq.take fr.length = fr) : renE ns r fr tq = 1 := by unfold renE; rw [if_neg (ne_or h1 h2), h, hh]; simp only; rw [if_pos ⟨h3, h4⟩]
theorem renE_ok {ns : List Nd} {r x y : Nd} {fr tq : List (List UInt8)} {k : Nat} (h1 : fr ≠ []) (h2 : tq ≠ []) (h : fnd ns r fr = some x) (hh : holdO ns r tq = ((some y, k), 0)) (h3 : ¬ (fr.length < tq.length ∧ tq.take fr.length = fr)) : renE ns r fr tq = 0 := by unfold renE; rw [if_neg (ne_or h1 h2), h, hh]; simp only; rw [if_neg h3]
def RenR (t : Tr) (r : Nd) (fr tq : List (List UInt8)) (t' : Tr) (r' : Nd) (e : Int) : Prop :=
 (e = renE t.ns r fr tq ∧ e ≠ 0 ∧ t' = t ∧ r' = r) ∨
 (renE t.ns r fr tq = 0 ∧ e = 0 ∧ fr ≠ [] ∧ tq ≠ [] ∧ ∃ x y k g, fnd t.ns r fr = some x ∧ x.id ≠ 0 ∧ holdO t.ns r tq = ((some y, k), 0) ∧ ¬ Bel t.ns x y ∧ Mv t.ns t'.ns x y (lastN tq) g ∧ Kd t'.ns ∧ r' = g r ∧ t'.next = t.next ∧ t'.bytes = t.bytes)
theorem cut_at {t : Tr} {x y : Nd} {kp : Option Addr} {kc k ix : Nat} {s : List UInt8} (h : t.ns[ix]? = some x) : (t.ns.map (cutG x y kp kc k s))[ix]? = some (outF s x) := by
 rw [List.getElem?_map, h]
 show some (cutG x y kp kc k s x) = _
 rw [cutG_x]
theorem cut_named {ns : List Nd} {x y : Nd} {kp : Option Addr} {kc k ix : Nat} {s0 s : List UInt8} (hb : (ns.map Nd.blk).Nodup) (h : ns[ix]? = some x) : (ns.map (cutG x y kp kc k s0)).set ix (outF s x) = ns.map (cutG x y kp kc k s) := by
 have hix := (List.getElem?_eq_some_iff.1 h).1
 refine List.ext_getElem? fun i => ?_
 rw [List.getElem?_set, List.getElem?_map, List.getElem?_map, List.length_map]
 by_cases e : ix = i
 ·subst e; rw [if_pos rfl, if_pos hix, h]
  show _ = some (cutG x y kp kc k s x)
  rw [cutG_x]
 ·rw [if_neg e]
  cases hu : ns[i]? with
  | none => rfl
  | some u =>
   have hne : u.blk ≠ x.blk := fun e2 => by
    have e3 : (ns.map Nd.blk)[i]? = (ns.map Nd.blk)[ix]? := by rw [List.getElem?_map, List.getElem?_map, hu, h]; show some u.blk = some x.blk; rw [e2]
    exact e ((List.getElem?_inj (by rw [List.length_map]; exact (List.getElem?_eq_some_iff.1 hu).1) hb).1 e3).symm
   show some (cutG x y kp kc k s0 u) = some (cutG x y kp kc k s u)
   unfold cutG; rw [if_neg hne, if_neg hne]
theorem name_close {t : Tr} {x y : Nd} {kp : Option Addr} {kc k ix : Nat} {s : List UInt8} {L : List HProp} (hb : (t.ns.map Nd.blk).Nodup) (h : t.ns[ix]? = some x) {w : World} {F : HProp}
 (q : sat w (star (St (own x.blk (.cells (Nd.cs (outF s x)).toArray 98 (0, 0)) :: rowP x.kp x.kc x.kids :: rowD x.dp x.dc x.data :: nds ((t.ns.map (cutG x y kp kc k x.name)).eraseIdx ix) :: own t.tb (.cells ([.pointer (some ⟨t.rb, 0, none⟩), .map (some t.mb), .int .i64 ((t.next : Nat) : Int), .int .i64 ((t.bytes : Nat) : Int)] : List Value).toArray 95 (0, 0)) :: own t.mb (mapO ((t.ns.map (cutG x y kp kc k x.name)).map Nd.me) t.ck) :: L)) F)) : sat w (star (St (tree (cutT t x y kp kc k s) :: L)) F) := by
 have s1 := nds_cl (y := outF s x) (cut_at (y := y) (kp := kp) (kc := kc) (k := k) (s := x.name) h) q
 rw [cut_named hb h, cutG_me, ← cutG_me x y kp kc k s] at s1; refine xO (t := cutT t x y kp kc k s) ?_; have hs : SubH (nds (t.ns.map (cutG x y kp kc k s)) :: own t.tb (.cells ([.pointer (some ⟨t.rb, 0, none⟩), .map (some t.mb), .int .i64 ((t.next : Nat) : Int), .int .i64 ((t.bytes : Nat) : Int)] : List Value).toArray 95 (0, 0)) :: own t.mb (mapO ((t.ns.map (cutG x y kp kc k s)).map Nd.me) t.ck) :: L) (trL (cutT t x y kp kc k s) ++ L) := zJ 1 rfl (zJ 1 rfl (zJ 0 rfl (zj _)))
 exact hs w F s1
/-- x stands in y -/
def putT (t : Tr) (x y : Nd) (kp : Option Addr) (kc k : Nat) : Tr := { t with ns := t.ns.map (putG x y kp kc k) }
theorem put_close {t : Tr} {x0 y0 : Nd} {kp0 : Option Addr} {kc0 k0 : Nat} {s : List UInt8} {x y : Nd} {kp : Option Addr} {kc k iy : Nat} {L : List HProp} (hb : ((t.ns.map (cutG x0 y0 kp0 kc0 k0 s)).map Nd.blk).Nodup) (h : (t.ns.map (cutG x0 y0 kp0 kc0 k0 s))[iy]? = some y) (hxy : x.blk ≠ y.blk) {w : World} {F : HProp}
 (q : sat w (star (St (own y.blk (.cells (Nd.cs (heldF kp kc k x.blk y)).toArray 98 (0, 0)) :: rowP kp kc (insAt y.kids k x.blk) :: rowD y.dp y.dc y.data :: nds ((t.ns.map (cutG x0 y0 kp0 kc0 k0 s)).eraseIdx iy) :: own t.tb (.cells ([.pointer (some ⟨t.rb, 0, none⟩), .map (some t.mb), .int .i64 ((t.next : Nat) : Int), .int .i64 ((t.bytes : Nat) : Int)] : List Value).toArray 95 (0, 0)) :: own t.mb (mapO ((t.ns.map (cutG x0 y0 kp0 kc0 k0 s)).map Nd.me) t.ck) :: L)) F)) : sat w (star (St (tree (putT (cutT t x0 y0 kp0 kc0 k0 s) x y kp kc k) :: L)) F) := by
 have s1 := nds_cl (y := heldF kp kc k x.blk y) h q
 rw [set_turn hb h] at s1
 have e0 : nds (turnB y.blk (heldF kp kc k x.blk) (t.ns.map (cutG x0 y0 kp0 kc0 k0 s))) = nds ((t.ns.map (cutG x0 y0 kp0 kc0 k0 s)).map (putG x y kp kc k)) := by
  rw [← putG_ns x y hxy kp kc k]; unfold nds turnB; rw [List.map_map (l := List.map _ (List.map _ _))]
  congr 1
  refine List.map_congr_left fun u _ => ?_
  show nd u = nd (if u.blk = x.blk then { u with par := y.id } else u)
  split <;> rfl
 rw [e0, ← putG_me x y kp kc k] at s1; refine xO (t := putT (cutT t x0 y0 kp0 kc0 k0 s) x y kp kc k) ?_; have hs : SubH (nds ((t.ns.map (cutG x0 y0 kp0 kc0 k0 s)).map (putG x y kp kc k)) :: own t.tb (.cells ([.pointer (some ⟨t.rb, 0, none⟩), .map (some t.mb), .int .i64 ((t.next : Nat) : Int), .int .i64 ((t.bytes : Nat) : Int)] : List Value).toArray 95 (0, 0)) :: own t.mb (mapO (((t.ns.map (cutG x0 y0 kp0 kc0 k0 s)).map (putG x y kp kc k)).map Nd.me) t.ck) :: L) (trL (putT (cutT t x0 y0 kp0 kc0 k0 s) x y kp kc k) ++ L) := zJ 1 rfl (zJ 1 rfl (zJ 0 rfl (zj _)))
 exact hs w F s1
theorem ren_wk {t : Tr} {r x y : Nd} (hW : Wf t r) (hx : x ∈ t.ns) (hy : y ∈ t.ns) (hp : x.par = y.id) (hxy : x.blk ≠ y.blk) {k : Nat} (hk : y.kids[k]? = some x.blk) (kp : Option Addr) (kc : Nat) (s : List UInt8) : Wk (cutT t x y kp kc k s) (cutG x y kp kc k s r) :=
 ⟨kd_cut hW.kd hW.ids hx hy hp hxy hk kp kc s, List.mem_map.2 ⟨r, hW.root, rfl⟩, by rw [(yl x y kp kc k s r).1]; exact hW.rb⟩
theorem ren_hold {t : Tr} {r x y y2 : Nd} {tq : List (List UInt8)} {k2 : Nat} (hW : Wf t r) (hx : x ∈ t.ns) (hy : y ∈ t.ns) (hp : x.par = y.id) (hxy : x.blk ≠ y.blk) {k : Nat} (hk : y.kids[k]? = some x.blk) (hh : holdO t.ns r tq = ((some y2, k2), 0)) (hn : ¬ Bel t.ns x y2) (kp : Option Addr) (kc : Nat) :
 holdO (cutT t x y kp kc k (lastN tq)).ns (cutG x y kp kc k (lastN tq) r) tq = ((some (cutG x y kp kc k (lastN tq) y2), kpl (t.ns.map (cutG x y kp kc k (lastN tq))) (cutG x y kp kc k (lastN tq) y2) (lastN tq)), 0) := by
 obtain ⟨h1, hd, hno, _, hok, _⟩ := x9 hh
 have hWk := ren_wk hW hx hy hp hxy hk kp kc (lastN tq)
 have hG := yl x y kp kc k (lastN tq)
 have no : ∀ v ∈ t.ns, v ≠ x → v.blk ≠ x.blk := fun v hv h e => h (xA hW.kd.blks hv hx e)
 have h2 := fnd_keep (ns' := (cutT t x y kp kc k (lastN tq)).ns) hW.kd hWk.kd (fun u hu => List.mem_map.2 ⟨u, hu, rfl⟩) (fun u => (hG u).2.1) (fun u hu e => cutG_no (no u hu e)) hW.root hn h1
 have h3 : kid (cutT t x y kp kc k (lastN tq)).ns (cutG x y kp kc k (lastN tq) y2).id (lastN tq) = none := by
  cases hk2 : kid (cutT t x y kp kc k (lastN tq)).ns (cutG x y kp kc k (lastN tq) y2).id (lastN tq) with
  | none => rfl
  | some z =>
   exfalso
   obtain ⟨hz, hzp, hzn⟩ := xM hk2
   obtain ⟨u, hu, rfl⟩ := List.mem_map.1 hz
   rw [(hG y2).2.1] at hzp
   by_cases e : u = x
   ·rw [e, cutG_x] at hzp; have hzp : (-2 : Int) = y2.id := hzp
    omega
   ·rw [(cutG_no (no u hu e)).1] at hzp; rw [(cutG_no (no u hu e)).2] at hzn; exact kid_none hno hu hzp hzn
 unfold holdO; rw [if_pos hok, h2]; simp only
 rw [if_pos (by rw [(hG y2).2.2.1]; exact hd), h3]
 rfl
theorem ren_ne {t : Tr} {r x y2 y : Nd} {kp : Option Addr} {kc k : Nat} {s : List UInt8} (hW : Wf t r) (hx : x ∈ t.ns) (hy2 : y2 ∈ t.ns) (hn : ¬ Bel t.ns x y2) : (outF s x).blk ≠ (cutG x y kp kc k s y2).blk := fun e => by
 rw [(yl x y kp kc k s y2).1] at e; exact hn (by rw [← xA hW.kd.blks hx hy2 e]; exact ⟨[], rfl⟩)
theorem ren_mv {t : Tr} {r x y y2 y3 : Nd} {kp kp2 : Option Addr} {kc k kc2 k2 : Nat} {s : List UInt8} (hW : Wf t r) (hx : x ∈ t.ns) (hy3 : y3 = cutG x y kp kc k s y2) (hy2 : y2 ∈ t.ns) (hn : ¬ Bel t.ns x y2) :
 Mv t.ns (putT (cutT t x y kp kc k s) (outF s x) y3 kp2 kc2 k2).ns x y2 s (fun u => putG (outF s x) y3 kp2 kc2 k2 (cutG x y kp kc k s u)) := by
 have hG := yl x y kp kc k s
 have hP := putG_same (outF s x) y3 kp2 kc2 k2
 have no : ∀ v ∈ t.ns, v ≠ x → v.blk ≠ x.blk := fun v hv h e => h (xA hW.kd.blks hv hx e)
 refine ⟨?_, fun u => ?_, fun u => ?_, fun u => ?_, fun u => ?_, fun u => ?_, fun u hu e => ?_, ?_, ?_⟩
 ·show (t.ns.map _).map _ = _
  rw [List.map_map]; rfl
 ·rw [(hP _).1, (hG u).1]
 ·rw [(hP _).2.1, (hG u).2.1]
 ·rw [(hP _).2.2.1, (hG u).2.2.1]
 ·rw [(hP _).2.2.2.1, (hG u).2.2.2.1]
 ·rw [(hP _).2.2.2.2.1, (hG u).2.2.2.2]
 ·have h1 : (cutG x y kp kc k s u).blk ≠ (outF s x).blk := by rw [(hG u).1]; exact no u hu e
  exact ⟨by rw [putG_no h1]; exact (cutG_no (no u hu e)).1, by rw [(hP _).2.2.2.2.2]; exact (cutG_no (no u hu e)).2⟩
 ·rw [cutG_x, putG_x, hy3, (hG y2).2.1]
 ·rw [(hP _).2.2.2.2.2, cutG_x]; rfl
theorem ren_kd {t : Tr} {r x y y2 y3 : Nd} {tq : List (List UInt8)} {kk k2 : Nat} {kp kp2 : Option Addr} {kc k kc2 : Nat} (hW : Wf t r) (hx : x ∈ t.ns) (hy : y ∈ t.ns) (hp : x.par = y.id) (hxy : x.blk ≠ y.blk) (hk : y.kids[k]? = some x.blk) (hh : holdO t.ns r tq = ((some y2, kk), 0)) (hn : ¬ Bel t.ns x y2) (hy3 : y3 = cutG x y kp kc k (lastN tq) y2) (hk2 : kpl (t.ns.map (cutG x y kp kc k (lastN tq))) y3 (lastN tq) = k2) :
 Kd (putT (cutT t x y kp kc k (lastN tq)) (outF (lastN tq) x) y3 kp2 kc2 k2).ns := by
 have hWk := ren_wk hW hx hy hp hxy hk kp kc (lastN tq)
 have hy2 := yu hW.root (x9 hh).1
 have hhB := ren_hold hW hx hy hp hxy hk hh hn kp kc
 rw [← hy3] at hhB; obtain ⟨_, _, hno, _⟩ := x9 hhB
 have hx3 : outF (lastN tq) x ∈ t.ns.map (cutG x y kp kc k (lastN tq)) := List.mem_map.2 ⟨x, hx, cutG_x⟩
 have hy3m : y3 ∈ t.ns.map (cutG x y kp kc k (lastN tq)) := by rw [hy3]; exact List.mem_map.2 ⟨y2, hy2, rfl⟩
 have hkl := kids_le hWk.kd hy3m
 have hfew := hW.few
 have hlen : (cutT t x y kp kc k (lastN tq)).ns.length = t.ns.length := List.length_map _
 rw [← hk2]
 exact kd_into (x := outF (lastN tq) x) hWk.kd (by show ((t.ns.map _).map Nd.id).Nodup; rw [cutG_ids]; exact hW.ids) hx3 hy3m (fun u _ e => by
  have e : (-2 : Int) = u.id := e
  omega) (by rw [hy3]; exact ren_ne hW hx hy2 hn) hno (by omega) kp2 kc2
theorem ren_wf {t : Tr} {r x y y2 y3 : Nd} {tq : List (List UInt8)} {kk k2 : Nat} {kp kp2 : Option Addr} {kc k kc2 : Nat} (hW : Wf t r) (hx : x ∈ t.ns) (hx0 : x.id ≠ 0) (hy : y ∈ t.ns) (hp : x.par = y.id) (hxy : x.blk ≠ y.blk) (hk : y.kids[k]? = some x.blk) (hh : holdO t.ns r tq = ((some y2, kk), 0)) (hn : ¬ Bel t.ns x y2) (hy3 : y3 = cutG x y kp kc k (lastN tq) y2) (hk2 : kpl (t.ns.map (cutG x y kp kc k (lastN tq))) y3 (lastN tq) = k2) :
 Wf (putT (cutT t x y kp kc k (lastN tq)) (outF (lastN tq) x) y3 kp2 kc2 k2) (putG (outF (lastN tq) x) y3 kp2 kc2 k2 (cutG x y kp kc k (lastN tq) r)) := by
 obtain ⟨h1, hd, _, _, hok, _⟩ := x9 hh
 have hy2 := yu hW.root h1
 exact wf_moved (g := fun u => putG (outF (lastN tq) x) y3 kp2 kc2 k2 (cutG x y kp kc k (lastN tq) u)) hW (ren_mv hW hx hy3 hy2 hn) (ren_kd hW hx hy hp hxy hk hh hn hy3 hk2) hx hx0 hy2 hd hn hok rfl rfl rfl
theorem ren_done {t : Tr} {r x y y2 y3 : Nd} {fr tq : List (List UInt8)} {kk k2 : Nat} {kp kp2 : Option Addr} {kc k kc2 : Nat} (hW : Wf t r) (hpf : fr ≠ []) (hpt : tq ≠ []) (hb : fnd t.ns r fr = some x) (hx : x ∈ t.ns) (hx0 : x.id ≠ 0) (hy : y ∈ t.ns) (hp : x.par = y.id) (hxy : x.blk ≠ y.blk) (hk : y.kids[k]? = some x.blk) (hh : holdO t.ns r tq = ((some y2, kk), 0)) (hnp : ¬ (fr.length < tq.length ∧ tq.take fr.length = fr)) (hn : ¬ Bel t.ns x y2) (hy3 : y3 = cutG x y kp kc k (lastN tq) y2) (hk2 : kpl (t.ns.map (cutG x y kp kc k (lastN tq))) y3 (lastN tq) = k2) :
 renE t.ns r fr tq = 0 ∧ (0 : Int) = 0 ∧ fr ≠ [] ∧ tq ≠ [] ∧ ∃ x0 y0 k0 g, fnd t.ns r fr = some x0 ∧ x0.id ≠ 0 ∧ holdO t.ns r tq = ((some y0, k0), 0) ∧ ¬ Bel t.ns x0 y0 ∧ Mv t.ns (putT (cutT t x y kp kc k (lastN tq)) (outF (lastN tq) x) y3 kp2 kc2 k2).ns x0 y0 (lastN tq) g ∧ Kd (putT (cutT t x y kp kc k (lastN tq)) (outF (lastN tq) x) y3 kp2 kc2 k2).ns ∧ putG (outF (lastN tq) x) y3 kp2 kc2 k2 (cutG x y kp kc k (lastN tq) r) = g r ∧ (putT (cutT t x y kp kc k (lastN tq)) (outF (lastN tq) x) y3 kp2 kc2 k2).next = t.next ∧ (putT (cutT t x y kp kc k (lastN tq)) (outF (lastN tq) x) y3 kp2 kc2 k2).bytes = t.bytes :=
 ⟨renE_ok hpf hpt hb hh hnp, rfl, hpf, hpt, x, y2, kk, _, hb, hx0, hh, hn, ren_mv hW hx hy3 (yu hW.root (x9 hh).1) hn, ren_kd hW hx hy hp hxy hk hh hn hy3 hk2, rfl, rfl, rfl⟩
theorem not_bel {t : Tr} {r x y : Nd} {fr tq : List (List UInt8)} {k : Nat} (hW : Wf t r) (hpt : tq ≠ []) (hb : fnd t.ns r fr = some x) (hh : holdO t.ns r tq = ((some y, k), 0)) : Bel t.ns x y ↔ (fr.length < tq.length ∧ tq.take fr.length = fr) := by
 have hl := List.length_pos_iff.2 hpt
 rw [bel_path hW hb (x9 hh).1, List.length_take, List.take_take]
 constructor
 ·rintro ⟨h1, h2⟩; have e : min fr.length (tq.length - 1) = fr.length := by omega
  rw [e] at h2; exact ⟨by omega, h2⟩
 ·rintro ⟨h1, h2⟩; have e : min fr.length (tq.length - 1) = fr.length := by omega
  rw [e]; exact ⟨by omega, h2⟩
theorem rename_spec {V : HProp} {t : Tr} {r : Nd} (hW : Wf t r) (q : Option Addr) (cq : Nat) (fr : List (List UInt8)) (hV1 : Vw V (.slice q fr.length cq) fr.length (txs fr)) (hcq : fr.length ≤ cq) (hlf : fr.length ≤ 100000) (q2 : Option Addr) (cq2 : Nat) (tq : List (List UInt8)) (hV2 : Vw V (.slice q2 tq.length cq2) tq.length (txs tq)) (hcq2 : tq.length ≤ cq2) (hlt : tq.length ≤ 100000) (hln : (lastN tq).length ≤ 9223372036854775807) :
 Tri Tryz.prog 37 [t.v, .slice q fr.length cq, .slice q2 tq.length cq2] [tree t, V] (fun v H' => ∃ t' r' e, v = .int .i64 e ∧ RenR t r fr tq t' r' e ∧ Wf t' r' ∧ t'.tb = t.tb ∧ t'.next = t.next ∧ H' = [tree t', V]) := by
 by_cases h0 : fr = [] ∨ tq = []
 ·skip; refine zt Tryz.func37 rfl Tryz.ntmps37 (by simp) ?_; refine zM (zK (zH rfl (zO rfl) rfl (zN (zI (zM ?_))))); refine qA ?_; refine zM (zK (zH rfl (zL rfl) rfl (zH rfl (zw Tryz.underlying47 rfl) rfl (zH rfl (qQ rfl rfl rfl) rfl (qi rfl rfl rfl (fun hg18 => ?_) (fun hg18 => ?_))))))
  ·replace hg18 := zy2 hg18
   refine zZ rfl rfl (zZ rfl rfl (zZ rfl rfl (zH rfl (zr rfl rfl) rfl (zH rfl (zO rfl) rfl (zN ?_))))); refine zI (qG rfl ?_); refine zM (zK (zH rfl (zO rfl) rfl (zN (zI (zi ?_))))); refine zn ?_; refine zh ?_; refine' zX (qk rfl rfl) ?_ ?_
   rotate_left 1
   exact ⟨t, r, _, rfl, .inl ⟨(renE_nil h0).symm, by decide, rfl, rfl⟩, hW, rfl, rfl, rfl⟩
   exact zj _
  ·replace hg18 := zy3 hg18
   refine zH rfl (zL rfl) rfl (zH rfl (zw Tryz.underlying47 rfl) rfl (zH rfl (qQ rfl rfl rfl) rfl (zH rfl (zr rfl rfl) rfl (zH rfl (zO rfl) rfl (zN ?_))))); refine zI (zq rfl (fun hc14 => ?_) (fun hc14 => ?_))
   ·replace hc14 := zy2 hc14
    refine zM (zK (zH rfl (zO rfl) rfl (zN (zI (zi ?_))))); refine zn ?_; refine zh ?_; refine' zX (qk rfl rfl) ?_ ?_
    rotate_left 1
    exact ⟨t, r, _, rfl, .inl ⟨(renE_nil h0).symm, by decide, rfl, rfl⟩, hW, rfl, rfl, rfl⟩
    exact zj _
   ·replace hc14 := zy3 hc14
    exact absurd h0 (by rintro (h | h) <;> (rw [h] at *; simp_all))
 ·obtain ⟨hpf, hpt⟩ : fr ≠ [] ∧ tq ≠ [] := ⟨fun h => h0 (.inl h), fun h => h0 (.inr h)⟩
  have hlf0 := List.length_pos_iff.2 hpf
  have hlt0 := List.length_pos_iff.2 hpt
  cases hb : fnd t.ns r fr with
  | none =>
   refine zt Tryz.func37 rfl Tryz.ntmps37 (by simp) ?_; refine zM (zK (zH rfl (zO rfl) rfl (zN (zI (zM ?_))))); refine qA ?_; refine zM (zK (zH rfl (zL rfl) rfl (zH rfl (zw Tryz.underlying47 rfl) rfl (zH rfl (qQ rfl rfl (decide_eq_false (by omega))) rfl (zH rfl (zL (v := .bool false) rfl) rfl ?_))))); refine zH rfl (zL rfl) rfl (zH rfl (zw Tryz.underlying47 rfl) rfl (zH rfl (qQ rfl rfl (decide_eq_false (by omega))) rfl (zH rfl (zr rfl rfl) rfl (zH rfl (zO rfl) rfl (zN ?_))))); refine zI (qC rfl ?_); refine zM (zK (zH rfl (zL rfl) rfl (zH rfl (zL rfl) rfl (zT rfl (zy (Pre := []) Tryz.call75 rfl rfl (zR _) (xa (Tv.pick 0 rfl (qh t)) hW q cq fr ((zy5 1 rfl hV1)) hlf)) rfl ?_)))); rintro _ H' ⟨_, ⟨rfl, rfl⟩, hH⟩; simp only [zy7] at hH; subst hH; rw [hb]; dsimp only [ptrO, Option.map]; refine zH rfl (qI Tryz.underlying92 rfl rfl rfl) rfl (zH rfl (zO rfl) rfl (zN (zI (qG rfl ?_)))); refine zM (zK (zH rfl (zO rfl) rfl (zN (zI (zi ?_))))); refine zn ?_; refine zh ?_; refine' zX (qk rfl rfl) ?_ ?_
   rotate_left 1
   exact ⟨t, r, _, rfl, .inl ⟨(renE_none hpf hpt hb).symm, by decide, rfl, rfl⟩, hW, rfl, rfl, rfl⟩
   exact zj _
  | some x =>
   rcases holdO_bad (ns := t.ns) (r := r) (p := tq) with ⟨e, hh, he⟩ | ⟨y2, kk, hh⟩
   ·skip; refine zt Tryz.func37 rfl Tryz.ntmps37 (by simp) ?_; refine zM (zK (zH rfl (zO rfl) rfl (zN (zI (zM ?_))))); refine qA ?_; refine zM (zK (zH rfl (zL rfl) rfl (zH rfl (zw Tryz.underlying47 rfl) rfl (zH rfl (qQ rfl rfl (decide_eq_false (by omega))) rfl (zH rfl (zL (v := .bool false) rfl) rfl ?_))))); refine zH rfl (zL rfl) rfl (zH rfl (zw Tryz.underlying47 rfl) rfl (zH rfl (qQ rfl rfl (decide_eq_false (by omega))) rfl (zH rfl (zr rfl rfl) rfl (zH rfl (zO rfl) rfl (zN ?_))))); refine zI (qC rfl ?_); refine zM (zK (zH rfl (zL rfl) rfl (zH rfl (zL rfl) rfl (zT rfl (zy (Pre := []) Tryz.call75 rfl rfl (zR _) (xa (Tv.pick 0 rfl (qh t)) hW q cq fr ((zy5 1 rfl hV1)) hlf)) rfl ?_)))); rintro _ H' ⟨_, ⟨rfl, rfl⟩, hH⟩; simp only [zy7] at hH; subst hH; rw [hb]; dsimp only [ptrO, Option.map]; refine zH rfl (qI Tryz.underlying92 rfl rfl rfl) rfl (zH rfl (zO rfl) rfl (zN (zI (qC rfl ?_)))); refine zl ?_; refine zQ ?_; refine zI (zM (zM (zK (zH rfl (zL rfl) rfl (zH rfl (zL rfl) rfl ?_))))); refine zT rfl (zy (Pre := []) Tryz.call77 rfl rfl (zR _) (holder_spec (Tv.pick 0 rfl (qh t)) hW _ cq2 tq ((zy5 1 rfl hV2)) hcq2 hlt hpt hln)) rfl ?_; rintro _ H' ⟨_, ⟨rfl, rfl⟩, hH⟩; simp only [zy7] at hH; subst hH; rw [hh]; dsimp only [ptrO, Option.map]; refine zH rfl (zL rfl) rfl (zH rfl (zu rfl rfl) rfl (zH rfl (zu rfl rfl) rfl (zH rfl (zu rfl rfl) rfl (zH rfl (zO rfl) rfl (zH rfl (zO rfl) rfl ?_))))); refine zH rfl (zO rfl) rfl (zN (zI (zM (zK (zH rfl (zL rfl) rfl ?_))))); refine zH rfl (q9 rfl rfl (decide_eq_true (by omega))) rfl (zN (zI (qG rfl ?_))); refine zM (zK (zH rfl (zL rfl) rfl (zH rfl (zO rfl) rfl (zN (zI ?_))))); refine zi ?_; refine zh ?_; refine' zX (qk rfl rfl) ?_ ?_
    rotate_left 1
    exact ⟨t, r, e, rfl, .inl ⟨(renE_hold hpf hpt hb hh).symm, he, rfl, rfl⟩, hW, rfl, rfl, rfl⟩
    exact zj _
   ·obtain ⟨y1, hfy, hkd⟩ := fnd_last hpf hb
    have hx := yu hW.root hb
    have hy1 := yu hW.root hfy
    have hpar := (xM hkd).2.1
    have hxy := par_ne hW hx hy1 hpar
    have hkx := (kid_hit hW.kd hy1 hkd).2
    obtain ⟨k1, hkk⟩ : ∃ k, plc (y1.kids.map (nmB t.ns)) (lastN fr) = k := ⟨_, rfl⟩
    rw [show kpl t.ns y1 (lastN fr) = k1 from hkk] at hkx; have hy2 := yu hW.root (x9 hh).1
    have hx0 : x.id ≠ 0 := fun e => by
     have h1 : x = r := nmId hW.ids hx hW.root (by rw [e, hW.rid])
     have h2 := hW.rpar
     rw [← h1, hpar] at h2; omega
    have hlast := lastN_at hpt
    obtain ⟨ix, hix⟩ := List.mem_iff_getElem?.1 hx
    have hnBel := not_bel hW hpt hb hh
    refine tri_know (fun w F s => vw_ptr (zy5 (H := [tree t, V]) 1 rfl hV2) s (by omega)) ?_; rintro ⟨b2, o2, rfl⟩; refine zt Tryz.func37 rfl Tryz.ntmps37 (by simp) ?_; refine zM (zK (zH rfl (zO rfl) rfl (zN (zI (zM ?_))))); refine qA ?_; refine zM (zK (zH rfl (zL rfl) rfl (zH rfl (zw Tryz.underlying47 rfl) rfl (zH rfl (qQ rfl rfl (decide_eq_false (by omega))) rfl (zH rfl (zL (v := .bool false) rfl) rfl ?_))))); refine zH rfl (zL rfl) rfl (zH rfl (zw Tryz.underlying47 rfl) rfl (zH rfl (qQ rfl rfl (decide_eq_false (by omega))) rfl (zH rfl (zr rfl rfl) rfl (zH rfl (zO rfl) rfl (zN ?_))))); refine zI (qC rfl ?_); refine zM (zK (zH rfl (zL rfl) rfl (zH rfl (zL rfl) rfl (zT rfl (zy (Pre := []) Tryz.call75 rfl rfl (zR _) (xa (Tv.pick 0 rfl (qh t)) hW q cq fr ((zy5 1 rfl hV1)) hlf)) rfl ?_)))); rintro _ H' ⟨_, ⟨rfl, rfl⟩, hH⟩; simp only [zy7] at hH; subst hH; rw [hb]; dsimp only [ptrO, Option.map]; refine zH rfl (qI Tryz.underlying92 rfl rfl rfl) rfl (zH rfl (zO rfl) rfl (zN (zI (qC rfl ?_)))); refine zl ?_; refine zQ ?_; refine zI (zM (zM (zK (zH rfl (zL rfl) rfl (zH rfl (zL rfl) rfl ?_))))); refine zT rfl (zy (Pre := []) Tryz.call77 rfl rfl (zR _) (holder_spec (Tv.pick 0 rfl (qh t)) hW _ cq2 tq ((zy5 1 rfl hV2)) hcq2 hlt hpt hln)) rfl ?_; rintro _ H' ⟨_, ⟨rfl, rfl⟩, hH⟩; simp only [zy7] at hH; subst hH; rw [hh]; dsimp only [ptrO, Option.map]; refine zH rfl (zL rfl) rfl (zH rfl (zu rfl rfl) rfl (zH rfl (zu rfl rfl) rfl (zH rfl (zu rfl rfl) rfl (zH rfl (zO rfl) rfl (zH rfl (zO rfl) rfl ?_))))); refine zH rfl (zO rfl) rfl (zN (zI (zM (zK (zH rfl (zL rfl) rfl ?_))))); refine zH rfl (q9 rfl rfl (decide_eq_false (by omega))) rfl (zN (zI (qC rfl ?_))); refine zl ?_; refine zI ?_; refine yO 1010 (fun Δ LL => (¬ (fr.length < tq.length ∧ tq.take fr.length = fr)) ∧ Δ = [] ∧ LL = [tree t, V]) (zS (k := 0) rfl (zS (k := 1) rfl (zS (k := 2) rfl (zf _)))) ?_ ?_
    ·refine zM (zK (zH rfl (zL rfl) rfl (zH rfl (zw Tryz.underlying47 rfl) rfl (zH rfl (zL rfl) rfl (zH rfl (zw Tryz.underlying47 rfl) rfl ?_))))); refine zH rfl (yd rfl rfl rfl) rfl (qi rfl rfl rfl (fun hg43 => ?_) (fun hg43 => ?_))
     ·replace hg43 := zy2 hg43
      refine zH rfl (zL rfl) rfl (zH rfl (zL rfl) rfl (zH rfl (zw Tryz.underlying47 rfl) rfl (zT rfl (eff_sliceF 1 rfl Tx.len sl47 rfl (hV2) rfl (yZ rfl rfl) (by omega) (by omega) hcq2) rfl ?_))); rintro _ _ ⟨p47, rfl, hv47, hn47, rfl⟩
      try rw [show List.take (fr.length - 0) (List.drop 0 tq) = tq.take fr.length from by simp] at hv47 ⊢
      refine zH rfl (zL rfl) rfl (zT rfl (zy (Pre := []) Tryz.call81 rfl rfl (zR _) (seqs_spec _ _ _ _ _ _ _ ((zy5 1 rfl hv47)) ((zy5 1 rfl hV1)) (by rw [List.length_take]; omega))) rfl ?_); rintro _ H' ⟨_, ⟨rfl, rfl⟩, hH⟩; simp only [zy7] at hH; subst hH; refine zH rfl (zr rfl rfl) rfl (zN (zI (zq rfl (fun hc50 => ?_) (fun hc50 => ?_))))
      ·replace hc50 := zy2 hc50
       refine zM (zK (zH rfl (zO rfl) rfl (zN (zI (zi ?_))))); refine zh ?_; refine' zX (qk rfl rfl) ?_ ?_
       rotate_left 1
       exact ⟨t, r, _, rfl, .inl ⟨(renE_pre hpf hpt hb hh (by first | assumption | omega | (simp_all; done)) (by first | assumption | (simp_all; done))).symm, by decide, rfl, rfl⟩, hW, rfl, rfl, rfl⟩
       exact zj _
      ·replace hc50 := zy3 hc50
       refine zl ?_; refine zI (qc (qn ⟨(fun h => by simp_all), rfl, rfl⟩ ?_ ?_ ?_))
       ·exact (by repeat (first | exact zf _ | refine zS rfl ?_))
       ·exact (by repeat (first | exact zf _ | refine zS rfl ?_))
       ·exact zj _
     ·replace hg43 := zy3 hg43
      refine zZ rfl rfl (zZ rfl rfl (zZ rfl rfl (zZ rfl rfl ?_)))
      try rw [show List.take (fr.length - 0) (List.drop 0 tq) = tq.take fr.length from by simp] at hv47 ⊢
      refine zZ rfl rfl (zZ rfl rfl (zH rfl (zr rfl rfl) rfl (zN (zI (qC rfl ?_))))); refine zl ?_; refine zI (qc (qn ⟨(fun h => absurd h.1 (by omega)), rfl, rfl⟩ ?_ ?_ ?_))
      ·exact (by repeat (first | exact zf _ | refine zS rfl ?_))
      ·exact (by repeat (first | exact zf _ | refine zS rfl ?_))
      ·exact zj _
    ·rintro Δ LL ⟨hnp, rfl, rfl⟩; simp only [zA, zB]; refine zM ?_; have hnB : ¬ Bel t.ns x y2 := fun h => hnp (hnBel.1 h)
     refine zK (zH rfl (zL rfl) rfl (zH rfl (zL rfl) rfl (zT rfl (zb Tryz.call76 rfl rfl (by repeat (first | exact zR _ | apply zG 0 rfl | apply zG 1 rfl | apply zG 2 rfl | apply zG 3 rfl | apply zG 4 rfl | apply zG 5 rfl | apply zG 6 rfl | apply zG 7 rfl)) (cut_spec hW q cq fr hV1 hcq hlf hpf hfy hkd hxy k1 hkk)) rfl ?_))); rintro _ H' ⟨_, ⟨kp1, kc1, rfl, rfl⟩, hH⟩; simp only [zy7] at hH; subst hH; refine zH rfl (zO rfl) rfl (zN (zI (zM (qD (H' := trL (cutT t x y1 kp1 kc1 k1 x.name) ++ [V]) (fun w F s => tree_open s) ?_)))); simp only [trL, zA, zB]; refine q8 (L := [nds (t.ns.map (cutG x y1 kp1 kc1 k1 x.name)), own t.tb (.cells ([.pointer (some ⟨t.rb, 0, none⟩), .map (some t.mb), .int .i64 ((t.next : Nat) : Int), .int .i64 ((t.bytes : Nat) : Int)] : List Value).toArray 95 (0, 0)), own t.mb (mapO (((t.ns.map (cutG x y1 kp1 kc1 k1 x.name))).map Nd.me) t.ck), V]) (by repeat (first | exact zY _ | refine zJ 0 rfl ?_ | refine zJ 1 rfl ?_ | refine zJ 2 rfl ?_ | refine zJ 3 rfl ?_ | refine zJ 4 rfl ?_ | refine zJ 5 rfl ?_ | refine zJ 6 rfl ?_ | refine zJ 7 rfl ?_ | refine SubH.rown ?_)) ?_; refine qD (fun w F s => nds_opb (b := x.blk) (x := outF x.name x) rfl (cut_at hix) s) ?_; refine zK (zH rfl (zL rfl) rfl (zH rfl (zL rfl) rfl (zH rfl (zL rfl) rfl (zH rfl (zw Tryz.underlying47 rfl) rfl (zH rfl (yi rfl rfl (xV (by omega) (by omega))) rfl ?_))))); refine zH rfl (qO sl47 rfl rfl rfl (by omega)) rfl (zH rfl (zW sc9 rfl (zy4 6 rfl (Rd.elem (j := 0) (ym hV2) Tx.len hlast rfl))) rfl (zH rfl (zU rfl) rfl (zH rfl (zP fa98_2 rfl) rfl (zo rfl (qP 0 sc9 rfl rfl rfl rfl (zy1 rfl) (zg _)) rfl ?_)))); rintro _ _ rfl; refine zN (zI (zM ?_)); have hWk := ren_wk hW hx hy1 hpar hxy hkx kp1 kc1 (lastN tq)
     have hhB := ren_hold hW hx hy1 hpar hxy hkx hh hnB kp1 kc1
     refine q8 (L := [own x.blk (.cells (Nd.cs ((outF (lastN tq) x))).toArray 98 (0, 0)), rowP x.kp x.kc x.kids, rowD x.dp x.dc x.data, nds ((t.ns.map (cutG x y1 kp1 kc1 k1 x.name)).eraseIdx ix), own t.tb (.cells ([.pointer (some ⟨t.rb, 0, none⟩), .map (some t.mb), .int .i64 ((t.next : Nat) : Int), .int .i64 ((t.bytes : Nat) : Int)] : List Value).toArray 95 (0, 0)), own t.mb (mapO (((t.ns.map (cutG x y1 kp1 kc1 k1 x.name))).map Nd.me) t.ck), V]) (by repeat (first | exact zY _ | refine zJ 0 rfl ?_ | refine zJ 1 rfl ?_ | refine zJ 2 rfl ?_ | refine zJ 3 rfl ?_ | refine zJ 4 rfl ?_ | refine zJ 5 rfl ?_ | refine zJ 6 rfl ?_ | refine zJ 7 rfl ?_ | refine SubH.rown ?_)) ?_; refine qD (fun w F s => name_close hW.kd.blks hix s) ?_; obtain ⟨y3, hy3⟩ : ∃ y3, y3 = cutG x y1 kp1 kc1 k1 (lastN tq) y2 := ⟨_, rfl⟩
     rw [← hy3] at hhB; refine zK (zH rfl (zL rfl) rfl (zH rfl (zL rfl) rfl (zT rfl (zy (Pre := []) Tryz.call77 rfl rfl (zR _) (qf (t := (cutT t x y1 kp1 kc1 k1 (lastN tq))) rfl (holderK_spec (Tv.pick 0 rfl (qh (cutT t x y1 kp1 kc1 k1 (lastN tq)))) hWk _ cq2 tq ((zy5 1 rfl hV2)) hcq2 hlt hpt hln))) rfl ?_))); rintro _ H' ⟨_, ⟨rfl, rfl⟩, hH⟩; simp only [zy7] at hH; subst hH; rw [hhB]; dsimp only [ptrO, Option.map]; refine zH rfl (zL rfl) rfl (zH rfl (zu rfl rfl) rfl (zH rfl (zu rfl rfl) rfl (zH rfl (zu rfl rfl) rfl (zH rfl (zO rfl) rfl (zH rfl (zO rfl) rfl ?_))))); refine zH rfl (zO rfl) rfl (zN (zI (zM ?_))); have hy3m : y3 ∈ (t.ns.map (cutG x y1 kp1 kc1 k1 (lastN tq))) := by rw [hy3]; exact List.mem_map.2 ⟨y2, hy2, rfl⟩
     obtain ⟨iy, hiy⟩ := List.mem_iff_getElem?.1 hy3m
     have hf3 := hWk.kd.few y3 hy3m
     obtain ⟨k2, hk2⟩ : ∃ k2, kpl (t.ns.map (cutG x y1 kp1 kc1 k1 (lastN tq))) y3 (lastN tq) = k2 := ⟨_, rfl⟩
     have hk2l : k2 ≤ y3.kids.length := by rw [← hk2]; have := plc_le (y3.kids.map (nmB (t.ns.map (cutG x y1 kp1 kc1 k1 (lastN tq))))) (lastN tq); rwa [List.length_map] at this
     refine qD (H' := trL (cutT t x y1 kp1 kc1 k1 (lastN tq)) ++ [V]) (fun w F s => tree_open s) ?_; simp only [trL, zA, zB]; refine q8 (L := [nds (t.ns.map (cutG x y1 kp1 kc1 k1 (lastN tq))), own t.tb (.cells ([.pointer (some ⟨t.rb, 0, none⟩), .map (some t.mb), .int .i64 ((t.next : Nat) : Int), .int .i64 ((t.bytes : Nat) : Int)] : List Value).toArray 95 (0, 0)), own t.mb (mapO (((t.ns.map (cutG x y1 kp1 kc1 k1 (lastN tq)))).map Nd.me) t.ck), V]) (by repeat (first | exact zY _ | refine zJ 0 rfl ?_ | refine zJ 1 rfl ?_ | refine zJ 2 rfl ?_ | refine zJ 3 rfl ?_ | refine zJ 4 rfl ?_ | refine zJ 5 rfl ?_ | refine zJ 6 rfl ?_ | refine zJ 7 rfl ?_ | refine SubH.rown ?_)) ?_; refine qD (fun w F s => nds_op hiy s) ?_; refine zK (zH rfl (zL rfl) rfl (zH rfl (zL rfl) rfl (zH rfl (zU rfl) rfl (zH rfl (zP xP rfl) rfl (zH rfl (zW sc96 rfl (zy4 0 rfl (Rd.own rfl))) rfl ?_))))); refine zH rfl (zL rfl) rfl ?_
     try rw [hk2]
     refine zH rfl (zL rfl) rfl (zT rfl (xL rfl (sbld (cs := [_]) [(.pointer none)] sl96 (by decide) (by kernel_rfl) rfl)) rfl ?_); rintro _ _ ⟨b77, rfl, rfl⟩; refine zT rfl (zb Tryz.call78 rfl rfl (by repeat (first | exact zR _ | apply zG 0 rfl | apply zG 1 rfl | apply zG 2 rfl | apply zG 3 rfl | apply zG 4 rfl | apply zG 5 rfl | apply zG 6 rfl | apply zG 7 rfl)) (ins_spec y3.kp y3.kc y3.kids hf3 k2 hk2l x.blk b77)) rfl ?_; rintro _ H' ⟨_, ⟨kp2, kc2, rfl, rfl⟩, hH⟩; simp only [zy7] at hH; subst hH; refine zH rfl (zU rfl) rfl (zH rfl (zP xP rfl) rfl (zo rfl (qP 1 sc96 rfl rfl rfl rfl (zy1 rfl) (zg _)) rfl ?_)); rintro _ _ rfl; refine zN (zI (zM (q8 (L := [own y3.blk (.cells (Nd.cs (heldF kp2 kc2 k2 x.blk y3)).toArray 98 (0, 0)), rowP kp2 kc2 (insAt y3.kids k2 x.blk), rowD y3.dp y3.dc y3.data, nds ((t.ns.map (cutG x y1 kp1 kc1 k1 (lastN tq))).eraseIdx iy), own t.tb (.cells ([.pointer (some ⟨t.rb, 0, none⟩), .map (some t.mb), .int .i64 ((t.next : Nat) : Int), .int .i64 ((t.bytes : Nat) : Int)] : List Value).toArray 95 (0, 0)), own t.mb (mapO (((t.ns.map (cutG x y1 kp1 kc1 k1 (lastN tq)))).map Nd.me) t.ck), V]) (by repeat (first | exact zY _ | refine zJ 0 rfl ?_ | refine zJ 1 rfl ?_ | refine zJ 2 rfl ?_ | refine zJ 3 rfl ?_ | refine zJ 4 rfl ?_ | refine zJ 5 rfl ?_ | refine zJ 6 rfl ?_ | refine zJ 7 rfl ?_ | refine SubH.rown ?_)) ?_))); refine qD (fun w F s => put_close (x := (outF (lastN tq) x)) (y := y3) hWk.kd.blks hiy (by rw [hy3]; exact ren_ne hW hx hy2 hnB) s) ?_; refine zK (zH rfl (zO rfl) rfl (zN (zI (zi ?_)))); refine' zX (qk rfl rfl) ?_ ?_
     rotate_left 1
     exact ⟨putT (cutT t x y1 kp1 kc1 k1 (lastN tq)) (outF (lastN tq) x) y3 kp2 kc2 k2, putG (outF (lastN tq) x) y3 kp2 kc2 k2 (cutG x y1 kp1 kc1 k1 (lastN tq) r), 0, rfl, .inr (ren_done hW hpf hpt hb hx hx0 hy1 hpar hxy hkx hh hnp hnB hy3 hk2), ren_wf hW hx hx0 hy1 hpar hxy hkx hh hnB hy3 hk2, rfl, rfl, rfl⟩
     exact zj _
end Go.Proofs.YtlefpllcgcicpaaGreatDoor
