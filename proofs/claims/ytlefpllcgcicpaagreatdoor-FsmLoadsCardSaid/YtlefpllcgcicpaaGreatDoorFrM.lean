/-
  A tree and the document's that hold the same things: they do after each call.
  A tree and the document's that hold the same things: they do after Write, Set and Rename.
  What was saved tells all that was there.
  Package fsm: its machine, and how it lies; status, of, named.
  Package fsm: the least free handle; a handle by its name.
  Package fsm: a handle is set.
  Package strongroomref16: its handles; stat, why, free.
-/
import Derived.Test.YtlefpllcgcicpaaGreatDoorTrSt
import Derived.Test.YtlefpllcgcicpaaGreatDoorLib
import Derived.Test.YtlefpllcgcicpaaGreatDoorSxRowA
set_option linter.unusedVariables false
set_option linter.unusedSimpArgs false
namespace Go.Proofs.YtlefpllcgcicpaaGreatDoor
open Go.Sx
set_option maxRecDepth 100000
set_option maxHeartbeats 4000000
theorem newc_spec : Tri Tryz.prog 27 [] [] (fun v H' => ∃ t b, v = Tr.v t ∧ t.ns = [root0 b] ∧ t.next = 1 ∧ Wf t (root0 b) ∧ H' = [tree t]) := by
 refine zt Tryz.func27 rfl Tryz.ntmps27 (by simp) ?_; refine zM (zK (zH rfl (zO rfl) rfl (zN (zI (zM ?_))))); refine zK (zT rfl (eff_makeMap) rfl ?_); rintro _ _ ⟨b2, rfl, rfl⟩; refine zH rfl (qY rfl (qK (cs := [.pointer none, .map (some b2), .int .i64 0, .int .i64 0]) st95 rfl)) rfl (zT rfl (qj rfl) rfl ?_); rintro _ _ ⟨b4, rfl, rfl⟩; refine zH rfl (zO rfl) rfl (zN (zI (zM (qD (fun w F s => nds_nil s) ?_)))); refine zK (zH rfl (zL rfl) rfl (zH rfl (zL rfl) rfl (zT rfl (zb Tryz.call63 rfl rfl (by repeat (first | exact zR _ | apply zG 0 rfl | apply zG 1 rfl | apply zG 2 rfl | apply zG 3 rfl | apply zG 4 rfl | apply zG 5 rfl | apply zG 6 rfl | apply zG 7 rfl)) (made_spec b4 b2 0 0 0 (.pointer none) rfl [] [] true (-1) (by omega) (fun y hy => by cases hy))) rfl ?_))); rintro _ H' ⟨_, ⟨b7, rfl, hb7, rfl⟩, hH⟩; simp only [zy7] at hH; subst hH; refine zH rfl (zU rfl) rfl (zH rfl (zP fa95_0 rfl) rfl (zo rfl (qP 0 sc92 rfl rfl rfl rfl (zy1 rfl) (zg _)) rfl ?_)); rintro _ _ rfl; refine zN (zI (zM (qD (H' := [tree (⟨b4, b2, 1, b7, 1, 0, [newNd b7 0 0 (-1) true []]⟩ : Tr)]) (fun w F s => new_close s) ?_))); refine zK (zH rfl (zL rfl) rfl (zH rfl (zO rfl) rfl (zN (zI (zi ?_))))); refine' zX (qk rfl rfl) ?_ ?_
 rotate_left 1
 exact ⟨(⟨b4, b2, 1, b7, 1, 0, [newNd b7 0 0 (-1) true []]⟩ : Tr), b7, rfl, rfl, rfl, wf_new b4 b2 b7, rfl⟩
 exact zj _
def updC (k : Nat) (f : Co → Co) (c : Co) : Co := if c.id = k then f c else c
section
variable {t : Tr} {w : Rt} {r : Nd} (hW : Wf t r) (h : RelW t w)
include hW h
omit hW h in
end
section
variable {t : Tr} {w : Rt} {r : Nd} (hW : Wf t r) (h : RelW t w)
include hW h
omit hW h in
omit hW h in
omit hW h in
theorem or15 {f : Nat} (hf : f ≤ 15) : 15 ||| f = 15 := by
 have : ∀ g : Fin 16, 15 ||| g.1 = 15 := by decide
 exact this ⟨f, by omega⟩
omit hW h in
theorem merge15 {a b : At} (ha : a.f = 15) (hb : b.right = true) : ({ a.merge b with s := 0 } : At).f = 15 := by
 show (a.merge b).f = 15
 rw [merge_fields]
 show a.f ||| b.f = 15
 rw [ha]; exact or15 ((right_good b).1 hb).f
end
theorem be_inj {a b k : Nat} (ha : a < 256 ^ k) (hb : b < 256 ^ k) (h : be a k = be b k) : a = b := by
 have h1 := congrArg val h
 rw [val_be, val_be, Nat.mod_eq_of_lt ha, Nat.mod_eq_of_lt hb] at h1; exact h1
theorem be_cut {a b k : Nat} {s1 s2 : List UInt8} (ha : a < 256 ^ k) (hb : b < 256 ^ k) (h : be a k ++ s1 = be b k ++ s2) : a = b ∧ s1 = s2 := by
 have h1 := List.append_inj h (by rw [qE, qE])
 exact ⟨be_inj ha hb h1.1, h1.2⟩
theorem five_cut {a b : At} (ha : a.Ok) (hb : b.Ok) (h : enc4 (five a) = enc4 (five b)) : a.u = b.u ∧ a.g = b.g ∧ a.m = b.m ∧ a.a = b.a ∧ a.t = b.t := by
 simp only [enc4, five, List.flatMap_cons, List.flatMap_nil] at h; have p : (4294967296 : Nat) = 256 ^ 4 := by decide
 obtain ⟨h1, h⟩ := be_cut (p ▸ ha.u) (p ▸ hb.u) h
 obtain ⟨h2, h⟩ := be_cut (p ▸ ha.g) (p ▸ hb.g) h
 obtain ⟨h3, h⟩ := be_cut (p ▸ ha.m) (p ▸ hb.m) h
 obtain ⟨h4, h⟩ := be_cut (p ▸ ha.a) (p ▸ hb.a) h
 obtain ⟨h5, h⟩ := be_cut (p ▸ ha.t) (p ▸ hb.t) h
 exact ⟨h1, h2, h3, h4, h5⟩
theorem hdr_inj {x y : Nd} (hx : x.id < 256 ^ 8) (hy : y.id < 256 ^ 8) (ax : x.a.Ok ∧ x.a.s = 0 ∧ x.a.f = 15) (ay : y.a.Ok ∧ y.a.s = 0 ∧ y.a.f = 15) (h : hdr x = hdr y) : x.id = y.id ∧ x.dir = y.dir ∧ x.a = y.a := by
 unfold hdr at h; rw [List.append_assoc, List.append_assoc] at h; obtain ⟨h1, h⟩ := be_cut hx hy h
 have h2 := List.append_inj h rfl
 obtain ⟨e1, e2, e3, e4, e5⟩ := five_cut ax.1 ay.1 h2.2
 refine ⟨h1, ?_, ?_⟩
 ·have h4 := h2.1
  cases hxd : x.dir <;> cases hyd : y.dir <;> first | rfl | (rw [hxd, hyd] at h4; exact absurd h4 (by decide))
 ·have hx2 := ax.2.1; have hx3 := ax.2.2; have hy2 := ay.2.1; have hy3 := ay.2.2
  revert e1 e2 e3 e4 e5 hx2 hx3 hy2 hy3
  cases x.a; cases y.a
  simp only [At.mk.injEq]; intro e1 e2 e3 e4 e5 g1 g2 g3 g4; exact ⟨by omega, by omega, e1, e2, e3, e4, e5⟩
section
variable {A B : Tr} {rA rB : Nd} (hA : Wf A rA) (hB : Wf B rB) (fA : ∀ u ∈ A.ns, u.a.f = 15) (fB : ∀ u ∈ B.ns, u.a.f = 15) (nA : A.next ≤ 9223372036854775807) (nB : B.next ≤ 9223372036854775807)
include hA hB fA fB nA nB
/-- what stands below, of two things with the same bytes -/
theorem enc_inj : ∀ (n m : Nat) {x y : Nd} {s1 s2 : List UInt8}, x ∈ A.ns → y ∈ B.ns → Deep A.ns n x → Deep B.ns m y → encN A.ns n x ++ s1 = encN B.ns m y ++ s2 →
 s1 = s2 ∧ x.id = y.id ∧ x.dir = y.dir ∧ x.data = y.data ∧ x.a = y.a ∧ ((kidsN A.ns x).flatMap (dfs A.ns (n - 1))).map Nd.co = ((kidsN B.ns y).flatMap (dfs B.ns (m - 1))).map Nd.co
 | 0, _, _, _, _, _, _, _, h, _, _ => h.elim
 | _ + 1, 0, _, _, _, _, _, _, _, h, _ => h.elim
 | n + 1, m + 1, x, y, s1, s2, hx, hy, dx, dy, h => by
  rw [encN_body, encN_body, List.append_assoc, List.append_assoc] at h; have h1 := List.append_inj h (by rw [hdr_len, hdr_len])
  have lx := hA.lt x hx
  have ly := hB.lt y hy
  obtain ⟨e1, e2, e3⟩ := hdr_inj (by omega) (by omega) ⟨(hA.a x hx).1, (hA.a x hx).2, fA x hx⟩ ⟨(hB.a y hy).1, (hB.a y hy).2, fB y hy⟩ h1.1
  have h2 := h1.2
  unfold body at h2
  by_cases hd : x.dir = true
  ·have hd2 : y.dir = true := by rw [← e2]; exact hd
   rw [if_pos hd, if_pos hd2, List.append_assoc, List.append_assoc] at h2; have kx := kids_le hA.kd hx
   have ky := kids_le hB.kd hy
   have fx := hA.few
   have fy := hB.few
   obtain ⟨hk, h3⟩ := be_cut (show x.kids.length < 256 ^ 4 by omega) (show y.kids.length < 256 ^ 4 by omega) h2
   have go : ∀ (l1 l2 : List Nd), l1.length = l2.length → (∀ u ∈ l1, u ∈ A.ns ∧ u.par = x.id ∧ Deep A.ns n u) → (∀ v ∈ l2, v ∈ B.ns ∧ v.par = y.id ∧ Deep B.ns m v) → l1.flatMap (kidB A.ns n) ++ s1 = l2.flatMap (kidB B.ns m) ++ s2 →
    s1 = s2 ∧ (l1.flatMap (dfs A.ns n)).map Nd.co = (l2.flatMap (dfs B.ns m)).map Nd.co := fun l1 => by
    induction l1 with
    | nil =>
     intro l2 hl _ _ he; have : l2 = [] := List.eq_nil_of_length_eq_zero hl.symm
     subst this; exact ⟨he, rfl⟩
    | cons u l1 ih =>
     intro l2 hl m1 m2 he
     cases l2 with
     | nil => cases hl
     | cons v l2 =>
      obtain ⟨hu, up, ud⟩ := m1 u (by simp)
      obtain ⟨hv, vp, vd⟩ := m2 v (by simp)
      rw [List.flatMap_cons, List.flatMap_cons] at he; unfold kidB at he; simp only [List.append_assoc] at he
      have un : u.name.length ≤ 30 := by
       rcases hA.nm u hu with h0 | h0
       ·have : u = rA := nmId hA.ids hu hA.root (by rw [h0, hA.rid])
        rw [this, hA.rpar] at up; omega
       ·exact ptOk_len h0
      have vn : v.name.length ≤ 30 := by
       rcases hB.nm v hv with h0 | h0
       ·have : v = rB := nmId hB.ids hv hB.root (by rw [h0, hB.rid])
        rw [this, hB.rpar] at vp; omega
       ·exact ptOk_len h0
      obtain ⟨hnl, he⟩ := be_cut (show u.name.length < 256 ^ 4 by omega) (show v.name.length < 256 ^ 4 by omega) he
      have h4 := List.append_inj he hnl
      obtain ⟨g1, g2, g3, g4, g5, g6⟩ := enc_inj n m hu hv ud vd h4.2
      obtain ⟨q1, q2⟩ := ih l2 (by simpa using hl) (fun w hw => m1 w (List.mem_cons_of_mem _ hw)) (fun w hw => m2 w (List.mem_cons_of_mem _ hw)) g1
      refine ⟨q1, ?_⟩; rw [List.flatMap_cons, List.flatMap_cons, List.map_append, List.map_append, q2]
      congr 1
      have ec : u.co = v.co := by
       show (⟨u.id, u.par, u.dir, u.name, u.data, u.a⟩ : Co) = ⟨v.id, v.par, v.dir, v.name, v.data, v.a⟩
       rw [g2, up, vp, e1, g3, h4.1, g4, g5]
      cases n with
      | zero => exact ud.elim
      | succ n => cases m with
       | zero => exact vd.elim
       | succ m =>
        show (u :: (kidsN A.ns u).flatMap (dfs A.ns n)).map Nd.co = (v :: (kidsN B.ns v).flatMap (dfs B.ns m)).map Nd.co
        rw [List.map_cons, List.map_cons, ec, show ((kidsN A.ns u).flatMap (dfs A.ns n)).map Nd.co = ((kidsN B.ns v).flatMap (dfs B.ns m)).map Nd.co from g6]
   obtain ⟨q1, q2⟩ := go (kidsN A.ns x) (kidsN B.ns y) (by rw [kidsN_len hA.kd hx, kidsN_len hB.kd hy, hk]) (fun u hu => ⟨((yY hA.kd hA.ids hx).1 hu).1, ((yY hA.kd hA.ids hx).1 hu).2, dx u hu⟩) (fun v hv => ⟨((yY hB.kd hB.ids hy).1 hv).1, ((yY hB.kd hB.ids hy).1 hv).2, dy v hv⟩) h3
   exact ⟨q1, e1, e2, by rw [hA.dat x hx hd, hB.dat y hy hd2], e3, q2⟩
  ·have hd2 : ¬ y.dir = true := by rw [← e2]; exact hd
   rw [if_neg hd, if_neg hd2, List.append_assoc, List.append_assoc] at h2; have kx := wf_dl hA x hx
   have ky := wf_dl hB y hy
   obtain ⟨hk, h3⟩ := be_cut (show x.data.length < 256 ^ 4 by omega) (show y.data.length < 256 ^ 4 by omega) h2
   have h4 := List.append_inj h3 hk
   exact ⟨h4.2, e1, e2, h4.1, e3, by rw [kids_dir hA hx hd, kids_dir hB hy hd2]; rfl⟩
end
theorem dfs_self {ns : List Nd} {n : Nat} {x : Nd} (h : Deep ns n x) : x ∈ dfs ns n x := by
 cases n with
 | zero => exact h.elim
 | succ n => exact List.mem_cons_self
theorem dfs_closed {ns : List Nd} : ∀ {n : Nat} {x z u : Nd}, Deep ns n x → z ∈ dfs ns n x → u ∈ kidsN ns z → u ∈ dfs ns n x
 | 0, _, _, _, h, _, _ => h.elim
 | n + 1, x, z, u, h, hz, hu => by
  show u ∈ x :: (kidsN ns x).flatMap (dfs ns n)
  have hz2 : z ∈ x :: (kidsN ns x).flatMap (dfs ns n) := hz
  rcases List.mem_cons.1 hz2 with hz2 | hz2
  ·rw [hz2] at hu; exact List.mem_cons_of_mem _ (List.mem_flatMap.2 ⟨u, hu, dfs_self (h u hu)⟩)
  ·obtain ⟨k, hk, hzk⟩ := List.mem_flatMap.1 hz2
   exact List.mem_cons_of_mem _ (List.mem_flatMap.2 ⟨k, hk, dfs_closed (h k hk) hzk hu⟩)
theorem dfs_all {t : Tr} {r : Nd} (hW : Wf t r) {n : Nat} (hn : Deep t.ns n r) : ∀ (m : Nat) {d : Nat → Nat} (_ : ∀ x ∈ t.ns, ∀ y ∈ t.ns, y.par = (x.id : Int) → d y.id = d x.id + 1) {x : Nd}, x ∈ t.ns → d x.id ≤ m → x ∈ dfs t.ns n r := fun m => by
 induction m with
 | zero =>
  intro d hD x hx hm
  rcases hW.par x hx with h0 | ⟨z, hz, hp, _⟩
  ·rw [nmId hW.ids hx hW.root (by rw [h0, hW.rid])]; exact dfs_self hn
  ·have := hD z hz x hx hp; omega
 | succ m ih =>
  intro d hD x hx hm
  rcases hW.par x hx with h0 | ⟨z, hz, hp, _⟩
  ·rw [nmId hW.ids hx hW.root (by rw [h0, hW.rid])]; exact dfs_self hn
  ·have h1 := hD z hz x hx hp
   exact dfs_closed hn (ih hD hz (by omega)) ((yY hW.kd hW.ids hz).2 ⟨hx, hp⟩)
theorem dfs_perm {t : Tr} {r : Nd} (hW : Wf t r) {n : Nat} (hn : Deep t.ns n r) : (dfs t.ns n r).Perm t.ns := by
 obtain ⟨d, hD⟩ := hW.rk
 obtain ⟨h1, h2⟩ := dfs_nodup hW n hW.root
 exact (List.perm_ext_iff_of_nodup h1 (nodup_from hW.ids)).2 fun x => ⟨h2 x, fun hx => dfs_all hW hn _ hD hx (Nat.le_refl _)⟩
/-- a tree that was saved and loaded holds the same -/
theorem rel_load {t t' : Tr} {r r' : Nd} {w : Rt} {b : List UInt8} (hW : Wf t r) (h : RelW t w) (hn : t.next ≤ 9223372036854775807) (hS : SaveR t r b) (hW' : Wf t' r') (hS' : SaveR t' r' b) (hn' : t'.next ≤ 9223372036854775807) (hf : ∀ u ∈ t'.ns, u.a.f = 15) (hnm : r'.name = []) : RelW t' w := by
 obtain ⟨n, dn, hb⟩ := hS.ex
 obtain ⟨m, dm, hb'⟩ := hS'.ex
 rw [hb] at hb'; obtain ⟨e1, e2⟩ := be_cut (show t.next < 256 ^ 8 by omega) (show t'.next < 256 ^ 8 by omega) hb'
 have f15 : ∀ u ∈ t.ns, u.a.f = 15 := fun u hu => by
  obtain ⟨y, hy, e⟩ := rel_tw h hu
  rw [show u.a = y.a from congrArg Co.a e]; exact h.f15 y hy
 have rn : r.name = [] := by
  obtain ⟨y, hy, e⟩ := rel_tw h hW.root
  rw [show r.name = y.name from congrArg Co.name e]; exact h.rn y hy (by rw [← show r.id = y.id from congrArg Co.id e]; exact hW.rid)
 obtain ⟨_, g2, g3, g4, g5, g6⟩ := enc_inj hW hW' f15 hf hn hn' n m (s1 := []) (s2 := []) hW.root hW'.root dn dm (by rw [e2])
 have ec : r.co = r'.co := by
  show (⟨r.id, r.par, r.dir, r.name, r.data, r.a⟩ : Co) = ⟨r'.id, r'.par, r'.dir, r'.name, r'.data, r'.a⟩
  rw [g2, hW.rpar, hW'.rpar, g3, rn, hnm, g4, g5]
 have eq : (dfs t.ns n r).map Nd.co = (dfs t'.ns m r').map Nd.co := by
  cases n with
  | zero => exact dn.elim
  | succ n => cases m with
   | zero => exact dm.elim
   | succ m =>
    show (r :: (kidsN t.ns r).flatMap (dfs t.ns n)).map Nd.co = (r' :: (kidsN t'.ns r').flatMap (dfs t'.ns m)).map Nd.co
    rw [List.map_cons, List.map_cons, ec, show ((kidsN t.ns r).flatMap (dfs t.ns n)).map Nd.co = ((kidsN t'.ns r').flatMap (dfs t'.ns m)).map Nd.co from g6]
 have p1 := (dfs_perm hW' dm).map Nd.co
 rw [← eq] at p1; exact ⟨p1.symm.trans (((dfs_perm hW dn).map Nd.co).trans h.pm), by rw [← e1, h.nx], h.f15, h.rn⟩
/-- a handle of a session, as it lies -/
structure Hd where
 used : Bool
 id : Int
 dir : Bool
 flags : Nat
 np : Option Addr
 nc : Nat
 names : List Nm
def Hd.cs (h : Hd) : List Value := [.bool h.used, .int .i64 h.id, .bool h.dir, .int .u32 (h.flags : Int), .slice h.np h.names.length h.nc]
theorem Hd.len (h : Hd) : h.cs.length = 5 := rfl
def Hd.zero : Hd := ⟨false, 0, false, 0, none, 0, []⟩
def rowN (h : Hd) : HProp := row 87 8 (.slice h.np h.names.length h.nc) h.names.length (flat Nm.cs h.names)
/-- a machine -/
structure Ma where
 mb : Nat
 t : Tr
 hs : List Hd
def Ma.cs (m : Ma) : List Value := .pointer (some ⟨m.t.tb, 0, none⟩) :: flat Hd.cs m.hs
def maL (m : Ma) : List HProp := [own m.mb (.cells m.cs.toArray 71 (0, 0)), tree m.t, St (m.hs.map rowN)]
def mach (m : Ma) : HProp := St (maL m)
abbrev Ma.v (m : Ma) : Value := .pointer (some ⟨m.mb, 0, none⟩)
/-- a reply, as it lies -/
structure Rep where
 kind : Int
 status : Int
 handle : List UInt8
 dp : Option Addr
 dc : Nat
 data : List UInt8
 np : Option Addr
 nc : Nat
 names : List Nm
 a : At
def Rep.cs (x : Rep) : List Value := [.int .i64 x.kind, .int .i64 x.status, .string (str x.handle), .slice x.dp x.data.length x.dc, .slice x.np x.names.length x.nc] ++ x.a.cs
abbrev Rep.v (x : Rep) : Value := .agg x.cs.toArray
def Rep.stat (k : Int) : Rep := ⟨1, k, [], none, 0, [], none, 0, [], At.zero⟩
theorem qS (k : Int) : Tri Tryz.prog 28 [.int .i64 k] [] (fun v H' => v = (Rep.stat k).v ∧ H' = []) := by
 refine zt Tryz.func28 rfl Tryz.ntmps28 (by simp) ?_; refine zM (zK (zT rfl (qL z32) rfl ?_)); rintro _ _ ⟨b2, rfl, rfl⟩; refine zN (zI (zM (zK (zH rfl (zL rfl) rfl (zH rfl (qY rfl (qK (cs := (Rep.stat k).cs) st32 rfl)) rfl ?_))))); refine zo rfl (zm 0 qW rfl rfl rfl rfl rfl (zy1 rfl) (zg _)) rfl ?_; rintro _ _ rfl; simp only [zE, zF]; refine zN (zI (zi ?_)); refine' zX (qg rfl (qB qW rfl (zy6 0 rfl zx) rfl)) ?_ ?_
 rotate_left 1
 exact ⟨rfl, rfl⟩
 exact (zY _)
/-- a refusal as a reply -/
def ofE (e : Int) : Rep := if e = 0 then Rep.stat 0 else if e = 22 then Rep.stat 2 else Rep.stat 4
theorem yz (e : Int) : Tri Tryz.prog 32 [.int .i64 e] [] (fun v H' => v = (ofE e).v ∧ H' = []) := by
 refine zt Tryz.func32 rfl Tryz.ntmps32 (by simp) ?_; refine zM (zK (zT rfl (qL z32) rfl ?_)); rintro _ _ ⟨b2, rfl, rfl⟩; refine zN (zI (zM (zM (zK (zH rfl (zL rfl) rfl ?_))))); refine zN (zI (qA ?_)); refine zM (zK (zH rfl (qQ rfl rfl rfl) rfl (zH rfl (zO rfl) rfl (zN (zI ?_))))); refine zq rfl (fun hc4 => ?_) (fun hc4 => ?_)
 ·replace hc4 := zy2 hc4
  refine zM (zK (zT rfl (zb Tryz.call28 rfl rfl (by repeat (first | exact zR _ | apply zG 0 rfl | apply zG 1 rfl | apply zG 2 rfl | apply zG 3 rfl | apply zG 4 rfl | apply zG 5 rfl | apply zG 6 rfl | apply zG 7 rfl)) (qS 0)) rfl ?_)); rintro _ H' ⟨_, ⟨rfl, rfl⟩, hH⟩; simp only [zy7] at hH; subst hH; refine zo rfl (zm 0 qW rfl rfl rfl rfl rfl (zy1 rfl) (zg _)) rfl ?_; rintro _ _ rfl; simp only [zE, zF]; refine zN (zI (zi ?_)); refine zn ?_; refine zh ?_; refine' zX (qg rfl (qB qW rfl (zy6 0 rfl zx) rfl)) ?_ ?_
  rotate_left 1
  exact ⟨(by rw [ofE, if_pos (by omega)]; rfl), rfl⟩
  exact (zY _)
 ·replace hc4 := zy3 hc4
  refine zM (zK (zH rfl (qQ rfl rfl rfl) rfl (zH rfl (zO rfl) rfl (zN (zI ?_))))); refine zq rfl (fun hc7 => ?_) (fun hc7 => ?_)
  ·replace hc7 := zy2 hc7
   refine zM (zK (zT rfl (zb Tryz.call28 rfl rfl (by repeat (first | exact zR _ | apply zG 0 rfl | apply zG 1 rfl | apply zG 2 rfl | apply zG 3 rfl | apply zG 4 rfl | apply zG 5 rfl | apply zG 6 rfl | apply zG 7 rfl)) (qS 2)) rfl ?_)); rintro _ H' ⟨_, ⟨rfl, rfl⟩, hH⟩; simp only [zy7] at hH; subst hH; refine zo rfl (zm 0 qW rfl rfl rfl rfl rfl (zy1 rfl) (zg _)) rfl ?_; rintro _ _ rfl; simp only [zE, zF]; refine zN (zI (zi ?_)); refine zn ?_; refine zh ?_; refine' zX (qg rfl (qB qW rfl (zy6 0 rfl zx) rfl)) ?_ ?_
   rotate_left 1
   exact ⟨(by rw [ofE, if_neg (by omega), if_pos (by omega)]; rfl), rfl⟩
   exact (zY _)
  ·replace hc7 := zy3 hc7
   refine zl ?_; refine zQ ?_; refine zI (zM (zK (zT rfl (zb Tryz.call28 rfl rfl (by repeat (first | exact zR _ | apply zG 0 rfl | apply zG 1 rfl | apply zG 2 rfl | apply zG 3 rfl | apply zG 4 rfl | apply zG 5 rfl | apply zG 6 rfl | apply zG 7 rfl)) (qS 4)) rfl ?_))); rintro _ H' ⟨_, ⟨rfl, rfl⟩, hH⟩; simp only [zy7] at hH; subst hH; refine zo rfl (zm 0 qW rfl rfl rfl rfl rfl (zy1 rfl) (zg _)) rfl ?_; rintro _ _ rfl; simp only [zE, zF]; refine zN (zI (zi ?_)); refine' zX (qg rfl (qB qW rfl (zy6 0 rfl zx) rfl)) ?_ ?_
   rotate_left 1
   exact ⟨(by rw [ofE, if_neg (by omega), if_neg (by omega)]; rfl), rfl⟩
   exact (zY _)
theorem dec_len {i : Nat} (hi : i < 100) : (Go.Lib.decDigits i).length ≤ 2 := by
 by_cases h : i < 10
 ·rw [Go.Lib.decDigits_one h]; simp
 ·rw [Go.Lib.decDigits_two h hi]; simp
theorem itoa_spec (i : Nat) (hi : i < 100) : Tri Tryz.prog 85 [.int .i64 (i : Int)] [] (fun v H' => v = .string (str (Go.Lib.decDigits i)) ∧ H' = []) := fun w F s =>
 (Tryz.strconv_Itoa_small i hi w).mono fun e w' ⟨he, hw⟩ => ⟨_, [], he, ⟨rfl, rfl⟩, hw ▸ s⟩
/-- a handle's name -/
def hname (i : Nat) : List UInt8 := 104 :: Go.Lib.decDigits i
theorem named_spec (i : Nat) (hi : i < 100) : Tri Tryz.prog 42 [.int .i64 (i : Int)] [] (fun v H' => v = .string (str (hname i)) ∧ H' = []) := by
 refine zt Tryz.func42 rfl Tryz.ntmps42 (by simp) ?_; refine zM (zK (zH rfl (zO rfl) rfl (zN (zI (zM ?_))))); refine zK (zH rfl (zL rfl) rfl (zT rfl (zb Tryz.call85 rfl rfl (by repeat (first | exact zR _ | apply zG 0 rfl | apply zG 1 rfl | apply zG 2 rfl | apply zG 3 rfl | apply zG 4 rfl | apply zG 5 rfl | apply zG 6 rfl | apply zG 7 rfl)) (itoa_spec i hi)) rfl ?_)); rintro _ H' ⟨_, ⟨rfl, rfl⟩, hH⟩; simp only [zy7] at hH; subst hH; refine zH rfl (ro_addS (a := [104]) rfl rfl (by have := dec_len hi; simp only [List.length_cons, List.length_nil]; omega)) rfl (zH rfl (zO rfl) rfl (zN (zI (zi ?_)))); refine' zX (qk rfl rfl) ?_ ?_
 rotate_left 1
 exact ⟨rfl, rfl⟩
 exact zj _
/-- a session's handle -/
def hdA (hs : List Hd) (s i : Nat) : Hd := hs.getD (s * 16 + i) Hd.zero
/-- V lets a machine's handles be read -/
def Hv (V : HProp) (mb : Nat) (hs : List Hd) : Prop := RdN V mb 1 (flat Hd.cs hs)
theorem seat_at {V : HProp} {mb s : Nat} {hs : List Hd} (h : Hv V mb hs) (hl : hs.length = 256) (h16 : s < 16) : RdN V mb (0 + 1 + s * 80) (flat Hd.cs ((hs.drop (s * 16)).take 16)) := fun j v hj => by
 have e : flat Hd.cs ((hs.drop (s * 16)).take 16) = ((flat Hd.cs hs).drop (s * 16 * 5)).take (16 * 5) := by rw [flat_drop Hd.len, flat_take Hd.len]
 rw [e, List.getElem?_take] at hj
 split at hj
 ·rw [List.getElem?_drop] at hj; have := h (s * 16 * 5 + j) v hj
  rw [show 0 + 1 + s * 80 + j = 1 + (s * 16 * 5 + j) by omega]; exact this
 ·cases hj
theorem seat_get {s i : Nat} {hs : List Hd} (hl : hs.length = 256) (h16 : s < 16) (hi : i < 16) : ((hs.drop (s * 16)).take 16)[i]? = some (hdA hs s i) := by
 rw [List.getElem?_take, if_pos hi, List.getElem?_drop]; unfold hdA; rw [List.getD_eq_getElem?_getD, List.getElem?_eq_getElem (by omega)]
 rfl
/-- the least that is free -/
def freeH (hs : List Hd) (s : Nat) : Option Nat := (List.range 16).find? fun i => !(hdA hs s i).used
def freeV : Option Nat → Value
 | some i => .tuple #[.int .i64 (i : Int), .bool true]
 | none => .tuple #[.int .i64 0, .bool false]
theorem free_step {hs : List Hd} {s i : Nat} (h : ∀ j, j < i → (hdA hs s j).used = true) (hi : (hdA hs s i).used = true) : ∀ j, j < i + 1 → (hdA hs s j).used = true := fun j hj => by
 by_cases e : j = i
 ·subst e; exact hi
 ·exact h j (by omega)
theorem free_hit {hs : List Hd} {s i : Nat} (h : ∀ j, j < i → (hdA hs s j).used = true) (hi : i < 16) (hu : (hdA hs s i).used = false) : freeH hs s = some i := by
 unfold freeH; rw [List.find?_eq_some_iff_getElem]; refine ⟨by rw [hu]; rfl, i, by simpa using hi, by simp, fun j hj => ?_⟩; have := h j hj
 simp [this]
theorem free_miss {hs : List Hd} {s : Nat} (h : ∀ j, j < 16 → (hdA hs s j).used = true) : freeH hs s = none := by
 unfold freeH; rw [List.find?_eq_none]; intro j hj; have := h j (by simpa using hj)
 simp [this]
theorem free_spec {V : HProp} {mb : Nat} {hs : List Hd} (hM : Hv V mb hs) (hl : hs.length = 256) (s : Nat) (hs16 : s < 16) : Tri Tryz.prog 124 [.pointer (some ⟨mb, 0, none⟩), .int .i64 (s : Int)] [V] (fun v H' => ∃ K, (v = freeV (freeH hs s) ∧ K = []) ∧ H' = K ++ [V]) := by
 refine zt Tryz.func124 rfl Tryz.ntmps124 (by simp) ?_; refine zM (zK (zH rfl (zO rfl) rfl (zH rfl (zO rfl) rfl (zN (zI ?_))))); refine zM (zM (zK (zH rfl (zL rfl) rfl (zH rfl (zL rfl) rfl (zH rfl (zU rfl) rfl ?_))))); refine zH rfl (zP fa71_1 rfl) rfl (zH rfl (xD Tryz.underlying69 (fun w => Tryz.sizeOf68 w) rfl rfl rfl (by omega)) rfl (zH rfl (qX ag68 rfl (zy6 0 rfl (seat_at hM hl hs16)) (by rw [yh Hd.len, List.length_take, List.length_drop]; omega)) rfl (zH rfl (zL rfl) rfl (zN (zI ?_))))); refine qA ?_; refine yQ 2 (fun m Δ LL => ∃ (i : Nat), (i + m = 16 ∧ (∀ j, j < i → (hdA hs s j).used = true)) ∧ Δ = [(14, .int .i64 (i : Nat))] ∧ LL = [V]) (m := 16) (zS (k := 13) rfl (zf _)) (qn ⟨0, ⟨by omega, fun j h => by omega⟩, rfl, rfl⟩ (by repeat (first | exact zf _ | refine zS rfl ?_)) (by repeat (first | exact zf _ | refine zS rfl ?_)) (by repeat (first | exact zY _ | refine zJ 0 rfl ?_ | refine zJ 1 rfl ?_ | refine zJ 2 rfl ?_ | refine zJ 3 rfl ?_ | refine zJ 4 rfl ?_ | refine zJ 5 rfl ?_ | refine zJ 6 rfl ?_ | refine zJ 7 rfl ?_ | refine SubH.rown ?_))) ?_; rintro m Δ LL ⟨i, ⟨hm, hno⟩, rfl, rfl⟩; simp only [zA, zB]; refine zM (zK (zH rfl (yP rfl rfl rfl) rfl (zN (zI (zM ?_))))); refine zq rfl (fun hc15 => ?_) (fun hc15 => ?_)
 ·replace hc15 := zy2 hc15
  have hi : i < 16 := by omega
  refine zl ?_; refine zI (zM (qA ?_)); refine zM (zK (zH rfl (zL rfl) rfl (zH rfl (ro_indexF Hd.len Tryz.underlying68 ag67 rfl rfl rfl hi (seat_get hl hs16 hi)) rfl (zT rfl (qL z67) rfl ?_)))); rintro _ _ ⟨b7, rfl, rfl⟩; refine zH rfl (zO rfl) rfl (zo rfl (zm 0 ag67 rfl rfl rfl rfl rfl (zy1 rfl) (zg _)) rfl ?_); rintro _ _ rfl; simp only [zE, zF]; refine zN (zI (zM (zK (zH rfl (zP fa67_0 rfl) rfl (zH rfl (zW sc4 rfl (zy4 0 rfl (Rd.own rfl))) rfl ?_))))); refine zH rfl (qy rfl rfl) rfl (zN (zI (zq rfl (fun hc20 => ?_) (fun hc20 => ?_))))
  ·simp only [Bool.and_eq_true, decide_eq_true_eq, Bool.not_eq_true', decide_eq_false_iff_not, bne_iff_ne, ne_eq] at hc20; refine zM (zK (zH rfl (zL rfl) rfl (zH rfl (zO rfl) rfl (zH rfl (zO rfl) rfl (zN ?_))))); refine zI (zi ?_); refine zn ?_; refine zh ?_; refine zh ?_; refine zn ?_; refine zh ?_; refine' zX (res2 rfl rfl rfl) ?_ ?_
   rotate_left 1
   exact ⟨[], ⟨(by rw [free_hit hno hi (by simpa using hc20)]; rfl), rfl⟩, rfl⟩
   exact (zJ 1 rfl (zY _))
  ·simp only [Bool.and_eq_false_iff, decide_eq_false_iff_not, Bool.not_eq_false', decide_eq_true_eq] at hc20; refine zl ?_; refine zQ ?_; refine zI (zK (zH rfl (ql rfl rfl (qo (by omega))) rfl (zH rfl (zL rfl) rfl (zN (zI ?_))))); refine back (m - 1) (by omega) (qn ⟨i + 1, ⟨by omega, free_step hno hc20⟩, rfl, rfl⟩ ?_ ?_ ?_)
   ·exact (by repeat (first | exact zf _ | refine zS rfl ?_))
   ·exact (by repeat (first | exact zf _ | refine zS rfl ?_))
   ·exact (zJ 1 rfl (zY _))
 ·replace hc15 := zy3 hc15
  refine yJ ?_; refine qV ?_; refine qV ?_; refine qe ?_; refine zI (zM (zK (zH rfl (zO rfl) rfl (zH rfl (zO rfl) rfl (zN ?_))))); refine zI (zi ?_); refine' zX (res2 rfl rfl rfl) ?_ ?_
  rotate_left 1
  exact ⟨[], ⟨(by rw [free_miss (fun j hj => hno j (by omega))]; rfl), rfl⟩, rfl⟩
  exact zj _
theorem hd_rd {V : HProp} {mb s i : Nat} {hs : List Hd} (h : Hv V mb hs) (hl : hs.length = 256) (h16 : s < 16) (hi : i < 16) : RdN V mb (0 + 1 + s * 80 + i * 5) (hdA hs s i).cs := fun j v hj => by
 have e : hs[s * 16 + i]? = some (hdA hs s i) := by
  unfold hdA; rw [List.getD_eq_getElem?_getD, List.getElem?_eq_getElem (by omega)]
  rfl
 have h1 := flat_get Hd.len e hj
 have h2 := h ((s * 16 + i) * 5 + j) v h1
 rw [show 0 + 1 + s * 80 + i * 5 + j = 1 + ((s * 16 + i) * 5 + j) by omega]; exact h2
/-- a session's handle of a name -/
def findH (hs : List Hd) (s : Nat) (nm : List UInt8) : Option Nat := (List.range 16).find? fun i => (hdA hs s i).used && decide (hname i = nm)
def findV (mb s : Nat) : Option Nat → Value
 | some i => .pointer (some ⟨mb, 0 + 1 + s * 80 + i * 5, none⟩)
 | none => .pointer none
theorem find_step {hs : List Hd} {s i : Nat} {nm : List UInt8} (h : ∀ j, j < i → ¬ ((hdA hs s j).used = true ∧ hname j = nm)) (hi : ¬ ((hdA hs s i).used = true ∧ hname i = nm)) : ∀ j, j < i + 1 → ¬ ((hdA hs s j).used = true ∧ hname j = nm) := fun j hj => by
 by_cases e : j = i
 ·subst e; exact hi
 ·exact h j (by omega)
theorem find_hit {hs : List Hd} {s i : Nat} {nm : List UInt8} (h : ∀ j, j < i → ¬ ((hdA hs s j).used = true ∧ hname j = nm)) (hi : i < 16) (hu : (hdA hs s i).used = true ∧ hname i = nm) : findH hs s nm = some i := by
 unfold findH; rw [List.find?_eq_some_iff_getElem]; refine ⟨by rw [hu.1, decide_eq_true hu.2]; rfl, i, by simpa using hi, by simp, fun j hj => ?_⟩; have := h j hj
 simp only [List.getElem_range, Bool.not_eq_true', Bool.and_eq_false_iff, decide_eq_false_iff_not]
 by_cases e : (hdA hs s j).used = true
 ·exact .inr fun e2 => this ⟨e, e2⟩
 ·exact .inl (by simpa using e)
theorem find_miss {hs : List Hd} {s : Nat} {nm : List UInt8} (h : ∀ j, j < 16 → ¬ ((hdA hs s j).used = true ∧ hname j = nm)) : findH hs s nm = none := by
 unfold findH; rw [List.find?_eq_none]; intro j hj; have := h j (by simpa using hj)
 simpa using this
theorem xJ {V : HProp} {mb : Nat} {hs : List Hd} (hM : Hv V mb hs) (hl : hs.length = 256) (s : Nat) (hs16 : s < 16) (nm : List UInt8) : Tri Tryz.prog 68 [.pointer (some ⟨mb, 0, none⟩), .int .i64 (s : Int), .string (str nm)] [V] (fun v H' => ∃ K, (v = findV mb s (findH hs s nm) ∧ K = []) ∧ H' = K ++ [V]) := by
 refine zt Tryz.func68 rfl Tryz.ntmps68 (by simp) ?_; refine zM (zK (zH rfl (zO rfl) rfl (zN (zI (zM ?_))))); refine zM (zK (zH rfl (zL rfl) rfl (zN (zI (qA ?_))))); refine yQ 2 (fun m Δ LL => ∃ (i : Nat), (i + m = 16 ∧ (∀ j, j < i → ¬ ((hdA hs s j).used = true ∧ hname j = nm))) ∧ Δ = [(9, .int .i64 (i : Nat))] ∧ LL = [V]) (m := 16) (zS (k := 0) rfl (zS (k := 1) rfl (zS (k := 2) rfl (zf _)))) (qn ⟨0, ⟨by omega, fun j h => by omega⟩, rfl, rfl⟩ (by repeat (first | exact zf _ | refine zS rfl ?_)) (by repeat (first | exact zf _ | refine zS rfl ?_)) (by repeat (first | exact zY _ | refine zJ 0 rfl ?_ | refine zJ 1 rfl ?_ | refine zJ 2 rfl ?_ | refine zJ 3 rfl ?_ | refine zJ 4 rfl ?_ | refine zJ 5 rfl ?_ | refine zJ 6 rfl ?_ | refine zJ 7 rfl ?_ | refine SubH.rown ?_))) ?_; rintro m Δ LL ⟨i, ⟨hm, hno⟩, rfl, rfl⟩; simp only [zA, zB]; refine zM (zK (zH rfl (yP rfl rfl rfl) rfl (zN (zI (zM ?_))))); refine zq rfl (fun hc10 => ?_) (fun hc10 => ?_)
 ·replace hc10 := zy2 hc10
  have hi : i < 16 := by omega
  refine zl ?_; refine zI (zM (qA ?_)); refine zM (zK (zH rfl (zL rfl) rfl (zH rfl (zO rfl) rfl (zN (zI ?_))))); refine zM (zK (zH rfl (zL rfl) rfl (zH rfl (zL rfl) rfl (zH rfl (zL rfl) rfl (zH rfl (zU rfl) rfl ?_))))); refine zH rfl (zP fa71_1 rfl) rfl (zH rfl (xD Tryz.underlying69 (fun w => Tryz.sizeOf68 w) rfl rfl rfl (by omega)) rfl (zH rfl (xD Tryz.underlying68 (fun w => Tryz.sizeOf67 w) rfl rfl rfl (by omega)) rfl (zH rfl (zO rfl) rfl (zN (zI ?_))))); refine zM (zK (zH rfl (zL rfl) rfl (zH rfl (zU rfl) rfl (zH rfl (zP fa67_0 rfl) rfl (zH rfl (zW sc4 rfl (zy4 0 rfl ((hd_rd hM hl hs16 hi 0 _ rfl)))) rfl ?_))))); refine qi rfl rfl rfl (fun hg23 => ?_) (fun hg23 => ?_)
  ·skip; refine zH rfl (zL rfl) rfl (zT rfl (zb Tryz.call42 rfl rfl (by repeat (first | exact zR _ | apply zG 0 rfl | apply zG 1 rfl | apply zG 2 rfl | apply zG 3 rfl | apply zG 4 rfl | apply zG 5 rfl | apply zG 6 rfl | apply zG 7 rfl)) (named_spec i (by omega))) rfl ?_); rintro _ H' ⟨_, ⟨rfl, rfl⟩, hH⟩; simp only [zy7] at hH; subst hH; refine zH rfl (zL rfl) rfl (zH rfl (ro_eqlS rfl rfl rfl) rfl (zH rfl (zr rfl rfl) rfl (zN (zI (zq rfl (fun hc28 => ?_) (fun hc28 => ?_))))))
   ·replace hc28 := zy2 hc28
    refine zM (zK (zH rfl (zL rfl) rfl (zH rfl (zO rfl) rfl (zN (zI ?_))))); refine zi ?_; refine zn ?_; refine zh ?_; refine zh ?_; refine zn ?_; refine zh ?_; refine' zX (qk rfl rfl) ?_ ?_
    rotate_left 1
    exact ⟨[], ⟨(by rw [find_hit hno hi (by simp_all)]; rfl), rfl⟩, rfl⟩
    exact zj _
   ·replace hc28 := zy3 hc28
    refine zl ?_; refine zQ ?_; refine zI (zK (zH rfl (ql rfl rfl (qo (by omega))) rfl (zH rfl (zL rfl) rfl (zN (zI ?_))))); refine back (m - 1) (by omega) (qn ⟨i + 1, ⟨by omega, find_step hno (by intro h; simp_all)⟩, rfl, rfl⟩ ?_ ?_ ?_)
    ·exact (by repeat (first | exact zf _ | refine zS rfl ?_))
    ·exact (by repeat (first | exact zf _ | refine zS rfl ?_))
    ·exact zj _
  ·skip; refine zZ rfl rfl (zZ rfl rfl (zZ rfl rfl (zZ rfl rfl (zH rfl (zr rfl rfl) rfl (zN ?_))))); refine zI (qC rfl ?_); refine zl ?_; refine zQ ?_; refine zI (zK (zH rfl (ql rfl rfl (qo (by omega))) rfl (zH rfl (zL rfl) rfl (zN (zI ?_))))); refine back (m - 1) (by omega) (qn ⟨i + 1, ⟨by omega, find_step hno (by intro h; simp_all)⟩, rfl, rfl⟩ ?_ ?_ ?_)
   ·exact (by repeat (first | exact zf _ | refine zS rfl ?_))
   ·exact (by repeat (first | exact zf _ | refine zS rfl ?_))
   ·exact zj _
 ·replace hc10 := zy3 hc10
  refine yJ ?_; refine qV ?_; refine qV ?_; refine qe ?_; refine zI (zM (zK (zH rfl (zO rfl) rfl (zN (zI ?_))))); refine zi ?_; refine' zX (qk rfl rfl) ?_ ?_
  rotate_left 1
  exact ⟨[], ⟨(by rw [find_miss (fun j hj => hno j (by omega))]; rfl), rfl⟩, rfl⟩
  exact zj _
/-- a handle is set, as it lies -/
theorem ma_set {p : Value} {hs : List Hd} {s i : Nat} {y : Hd} (hl : hs.length = 256) (h16 : s < 16) (hi : i < 16) : yE (p :: flat Hd.cs hs) (0 + 1 + s * 80 + i * 5) y.cs = p :: flat Hd.cs (hs.set (s * 16 + i) y) := by
 have e : hs[s * 16 + i]? = some (hdA hs s i) := by
  unfold hdA; rw [List.getD_eq_getElem?_getD, List.getElem?_eq_getElem (by omega)]
  rfl
 rw [show p :: flat Hd.cs hs = [p] ++ flat Hd.cs hs from rfl, show 0 + 1 + s * 80 + i * 5 = [p].length + ((s * 16 + i) * 5 + 0) by simp only [List.length_cons, List.length_nil]; omega, over_app_right]; rw [flat_part Hd.len e (by rw [Hd.len]; omega) (y := y) ?_]
 ·rfl
 ·unfold yE; rw [List.take_zero, List.nil_append, Nat.zero_add, Hd.len, List.drop_of_length_le (by rw [Hd.len]; omega), List.append_nil]
/-- the names of a handle that is set are another row -/
theorem rows_set : ∀ {l : List Hd} {i : Nat} {x y : Hd} (_ : l[i]? = some x) {u : World} {F : HProp} (_ : sat u (star (St (l.map rowN)) (star (rowN y) F))), sat u (star (St ((l.set i y).map rowN)) F)
 | z :: l, 0, x, y, h, u, F, s => by
  have e : St ((z :: l).map rowN) = star (rowN z) (St (l.map rowN)) := by rw [List.map_cons, qJ]
  have e2 : St (((z :: l).set 0 y).map rowN) = star (rowN y) (St (l.map rowN)) := by show St (rowN y :: l.map rowN) = _; rw [qJ]
  rw [e, zv] at s; have s := yw s
  rw [qH, ← zv] at s; rw [e2]; exact s
 | z :: l, i + 1, x, y, h, u, F, s => by
  have e : St ((z :: l).map rowN) = star (rowN z) (St (l.map rowN)) := by rw [List.map_cons, qJ]
  have e2 : St (((z :: l).set (i + 1) y).map rowN) = star (rowN z) (St ((l.set i y).map rowN)) := by show St (rowN z :: (l.set i y).map rowN) = _; rw [qJ]
  rw [e, zv, qH, qH (rowN z)] at s; have s := rows_set (l := l) (i := i) (x := x) (y := y) (by simpa using h) s
  rw [qH, ← zv] at s; rw [e2]; exact s
/-- a request, as it lies -/
structure Qr where
 kind : Int
 path : List UInt8
 dest : List UInt8
 handle : List UInt8
 off : Nat
 len : Nat
 dp : Option Addr
 dc : Nat
 data : List UInt8
 flags : Nat
 a : At
def Qr.cs (q : Qr) : List Value := [.int .i64 q.kind, .string (str q.path), .string (str q.dest), .string (str q.handle), .int .u64 (q.off : Int), .int .u32 (q.len : Int), .slice q.dp q.data.length q.dc, .int .u32 (q.flags : Int)] ++ q.a.cs
abbrev Qr.v (q : Qr) : Value := .agg q.cs.toArray
theorem yL {mb : Nat} {p0 : Value} {hs : List Hd} : Hv (own mb (.cells (p0 :: flat Hd.cs hs).toArray 71 (0, 0))) mb hs := fun j v hj => by
 refine Rd.own ?_; rw [Nat.add_comm, List.getElem?_cons_succ]; exact hj
theorem xX {H : List HProp} {A : HProp} {mb : Nat} {hs : List Hd} (i : Nat) (hi : H[i]? = some A) (h : Hv A mb hs) : Hv (St H) mb hs := zy6 i hi h
theorem find_lt {hs : List Hd} {s i : Nat} {nm : List UInt8} (h : findH hs s nm = some i) : i < 16 := by
 have := List.mem_of_find?_eq_some h
 simpa using this
theorem close_spec {V : HProp} {mb : Nat} {p0 : Value} {hs : List Hd} (hl : hs.length = 256) (s : Nat) (hs16 : s < 16) (q : Qr) : Tri Tryz.prog 65 [.pointer (some ⟨mb, 0, none⟩), .int .i64 (s : Int), q.v] [own mb (.cells (p0 :: flat Hd.cs hs).toArray 71 (0, 0)), V]
 (fun v H' => ∃ k hs', v = (Rep.stat k).v ∧ ((findH hs s q.handle = none ∧ k = 4 ∧ hs' = hs) ∨ ∃ i, findH hs s q.handle = some i ∧ k = 0 ∧ hs' = hs.set (s * 16 + i) Hd.zero) ∧ H' = [own mb (.cells (p0 :: flat Hd.cs hs').toArray 71 (0, 0)), V]) := by
 cases hf : findH hs s q.handle with
 | none =>
  refine zt Tryz.func65 rfl Tryz.ntmps65 (by simp) ?_; refine zM (zK (zT rfl (qj rfl) rfl ?_)); rintro _ _ ⟨b5, rfl, rfl⟩; refine zT rfl (qL z32) rfl ?_; rintro _ _ ⟨b6, rfl, rfl⟩; refine zN (zI (zM (zK (zH rfl (zL rfl) rfl (zH rfl (zL rfl) rfl ?_))))); refine zH rfl (zP fa35_3 rfl) rfl (zH rfl (zW sc9 rfl (zy4 1 rfl (Rd.own rfl))) rfl (zT rfl (zy (Pre := []) Tryz.call68 rfl rfl (zR _) (xJ (xX 2 rfl yL) hl s hs16 q.handle)) rfl ?_)); rintro _ H' ⟨_, ⟨rfl, rfl⟩, hH⟩; simp only [zy7] at hH; subst hH; rw [hf]; dsimp only [findV]; refine zH rfl (zO rfl) rfl (zN (zI (zM (zM (zK ?_))))); refine zH rfl (zL rfl) rfl (zH rfl (qI Tryz.underlying116 rfl rfl rfl) rfl (zN (zI (qG rfl ?_)))); refine zM (zK (zT rfl (zb Tryz.call28 rfl rfl (by repeat (first | exact zR _ | apply zG 0 rfl | apply zG 1 rfl | apply zG 2 rfl | apply zG 3 rfl | apply zG 4 rfl | apply zG 5 rfl | apply zG 6 rfl | apply zG 7 rfl)) (qS 4)) rfl ?_)); rintro _ H' ⟨_, ⟨rfl, rfl⟩, hH⟩; simp only [zy7] at hH; subst hH; refine zo rfl (zm 0 qW rfl rfl rfl rfl rfl (zy1 rfl) (zg _)) rfl ?_; rintro _ _ rfl; simp only [zE, zF]; refine zN (zI (zi ?_)); refine zh ?_; refine' zX (qg rfl (qB qW rfl (zy6 0 rfl zx) rfl)) ?_ ?_
  rotate_left 1
  exact ⟨4, hs, rfl, .inl ⟨(by first | exact hf | trivial), rfl, rfl⟩, rfl⟩
  exact (zJ 2 rfl (zJ 2 rfl (zY _)))
 | some i =>
  have hi := find_lt hf
  refine zt Tryz.func65 rfl Tryz.ntmps65 (by simp) ?_; refine zM (zK (zT rfl (qj rfl) rfl ?_)); rintro _ _ ⟨b5, rfl, rfl⟩; refine zT rfl (qL z32) rfl ?_; rintro _ _ ⟨b6, rfl, rfl⟩; refine zN (zI (zM (zK (zH rfl (zL rfl) rfl (zH rfl (zL rfl) rfl ?_))))); refine zH rfl (zP fa35_3 rfl) rfl (zH rfl (zW sc9 rfl (zy4 1 rfl (Rd.own rfl))) rfl (zT rfl (zy (Pre := []) Tryz.call68 rfl rfl (zR _) (xJ (xX 2 rfl yL) hl s hs16 q.handle)) rfl ?_)); rintro _ H' ⟨_, ⟨rfl, rfl⟩, hH⟩; simp only [zy7] at hH; subst hH; rw [hf]; dsimp only [findV]; refine zH rfl (zO rfl) rfl (zN (zI (zM (zM (zK ?_))))); refine zH rfl (zL rfl) rfl (zH rfl (qI Tryz.underlying116 rfl rfl rfl) rfl (zN (zI (qC rfl ?_)))); refine zl ?_; refine zI (zM (zK (zH rfl (zL rfl) rfl (zH rfl (qY rfl (qK (cs := Hd.zero.cs) st67 rfl)) rfl (zH rfl (zU rfl) rfl ?_))))); refine zo rfl (zm 2 ag67 rfl rfl rfl rfl rfl (by simp only [List.length_cons, yh Hd.len, Hd.len, hl]; omega) (zg _)) rfl ?_; rintro _ _ rfl; simp only [zE, zF]; rw [ma_set (y := Hd.zero) hl hs16 hi]; refine zN (zI (zM (zK (zT rfl (zb Tryz.call28 rfl rfl (by repeat (first | exact zR _ | apply zG 0 rfl | apply zG 1 rfl | apply zG 2 rfl | apply zG 3 rfl | apply zG 4 rfl | apply zG 5 rfl | apply zG 6 rfl | apply zG 7 rfl)) (qS 0)) rfl ?_)))); rintro _ H' ⟨_, ⟨rfl, rfl⟩, hH⟩; simp only [zy7] at hH; subst hH; refine zo rfl (zm 0 qW rfl rfl rfl rfl rfl (zy1 rfl) (zg _)) rfl ?_; rintro _ _ rfl; simp only [zE, zF]; refine zN (zI (zi ?_)); refine' zX (qg rfl (qB qW rfl (zy6 0 rfl zx) rfl)) ?_ ?_
  rotate_left 1
  exact ⟨0, _, rfl, .inr ⟨i, (by first | exact hf | rfl), rfl, rfl⟩, rfl⟩
  exact (zJ 2 rfl (zJ 2 rfl (zY _)))
/-- a handle of the document's machine, as it lies -/
structure Hr where
 used : Bool
 id : Int
 dir : Bool
 may : Nat
 np : Option Addr
 nc : Nat
 l : List Nm
 at' : Nat
def Hr.cs (h : Hr) : List Value := [.bool h.used, .int .i64 h.id, .bool h.dir, .int .u32 (h.may : Int), .slice h.np h.l.length h.nc, .int .i64 (h.at' : Int)]
theorem Hr.len (h : Hr) : h.cs.length = 6 := rfl
def Hr.zero : Hr := ⟨false, 0, false, 0, none, 0, [], 0⟩
def hrA (hs : List Hr) (s i : Nat) : Hr := hs.getD (s * 16 + i) Hr.zero
def Hw (V : HProp) (mb : Nat) (hs : List Hr) : Prop := RdN V mb 1 (flat Hr.cs hs)
def rfreeH (hs : List Hr) (s : Nat) : Option Nat := (List.range 16).find? fun i => !(hrA hs s i).used
def rfreeI : Option Nat → Int
 | some i => i
 | none => -1
end Go.Proofs.YtlefpllcgcicpaaGreatDoor
