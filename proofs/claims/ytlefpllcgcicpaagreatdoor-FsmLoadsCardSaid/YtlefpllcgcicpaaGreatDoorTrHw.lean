/-
  A tree is loaded: get.
-/
import Derived.Test.YtlefpllcgcicpaaGreatDoorTrH
import Derived.Test.YtlefpllcgcicpaaGreatDoorTrK
import Derived.Test.YtlefpllcgcicpaaGreatDoorSxSub
import Derived.Test.YtlefpllcgcicpaaGreatDoorSxFork
set_option linter.unusedVariables false
set_option linter.unusedSimpArgs false
namespace Go.Proofs.YtlefpllcgcicpaaGreatDoor
open Go.Sx
set_option maxRecDepth 100000
set_option maxHeartbeats 4000000
theorem rBool_spec (pr : Nat) (p : Option Addr) (c : Nat) (r : R) (hg : r.Good) : Tri Tryz.prog 139 [.pointer (some ⟨pr, 0, none⟩)] (rd pr p c r) (fun v H' => v = .bool (decide ((r.get 1).2 ≠ 0)) ∧ H' = rd pr p c (r.get 1).1) := by
 refine zt Tryz.func139 rfl Tryz.ntmps139 (by simp) ?_; refine zM (zK (zH rfl (zO rfl) rfl (zN (zI (zM ?_))))); refine zK (zH rfl (zL rfl) rfl (zT rfl (zb Tryz.call94 rfl rfl (by repeat (first | exact zR _ | apply zG 0 rfl | apply zG 1 rfl | apply zG 2 rfl | apply zG 3 rfl | apply zG 4 rfl | apply zG 5 rfl | apply zG 6 rfl | apply zG 7 rfl)) (get_spec pr p c r 1 (by omega) hg.len hg.pos)) rfl ?_)); rintro _ H' ⟨_, ⟨rfl, rfl⟩, hH⟩; simp only [zy7] at hH; subst hH; refine zH rfl (q9 rfl rfl rfl) rfl (zH rfl (zO rfl) rfl (zN (zI (zi ?_)))); refine' zX (qk rfl rfl) ?_ ?_
 rotate_left 1
 exact ⟨by first | rfl | (congr 1; exact decide_eq_decide.2 (by omega)), rfl⟩
 exact zj _
theorem wrap64 {n : Nat} (h : n < 18446744073709551616) : IntKind.i64.wrap (n : Int) = if n < 9223372036854775808 then (n : Int) else (n : Int) - 18446744073709551616 := by
 unfold IntKind.wrap; simp only [IntKind.bits, IntKind.signed]; simp; split <;> omega
theorem take_le2 (r : R) (hg : r.Good) (n : Int) : (r.take n).2.length ≤ 140737488355328 := by
 have h := hg.len
 unfold R.take
 repeat' split
 all_goals (try exact Nat.zero_le _)
 simp only [List.length_take, List.length_drop]; omega
theorem text_le {r : R} (hg : r.Good) (n : Int) : (r.text n).2.length ≤ 140737488355328 := by
 unfold R.text; exact take_le2 _ (R.good_ite (R.good_refuse (R.good_get hg 4) _ _) (R.good_get hg 4)) _
structure GetS where
 x : Nd
 A : List Nd
 bs : Nat
 ck : Nat
 r : R
abbrev gptr (g : Option GetS) : Value := .pointer (g.map fun s => ⟨s.x.blk, 0, none⟩)
def GetA (ns : List Nd) (mb pr : Nat) (p : Option Addr) (c : Nat) : Option GetS → HProp
 | none => emp
 | some s => St ([own mb (mapO ((ns ++ s.A).map Nd.me) s.ck), nds (ns ++ s.A)] ++ rd pr p c s.r)
structure GetF (ns : List Nd) (par : Int) (nm : List UInt8) (nx : Int) (bs : Nat) (s : GetS) : Prop where
 sb : Sb ns s.A s.x par nm nx
 len : (ns ++ s.A).length ≤ 200
 bs : s.bs = bs + szs s.A
 max : s.bs ≤ 1048576
 good : s.r.Good
theorem xY {ns : List Nd} {mb pr : Nat} {p : Option Addr} {c : Nat} {X : HProp} {w : World} {F : HProp} (s : sat w (star (St [X]) F)) : sat w (star (St [X, GetA ns mb pr p c none]) F) := by
 rw [qJ, qJ, yV, show GetA ns mb pr p c none = emp from rfl, qt, qt]
 rwa [qJ, yV, qt] at s
theorem get_some {ns : List Nd} {mb pr : Nat} {p : Option Addr} {c : Nat} {X : HProp} {k : GetS} {w : World} {F : HProp} (s : sat w (star (St [X, own mb (mapO ((ns ++ k.A).map Nd.me) k.ck), nds (ns ++ k.A), own pr (.cells [Value.slice p k.r.b.length c, .int .i64 k.r.pos, .int .i64 k.r.why, .int .i64 k.r.place].toArray 140 (0, 0)), row 5 1 (.slice p k.r.b.length c) k.r.b.length (cel k.r.b)]) F)) : sat w (star (St [X, GetA ns mb pr p c (some k)]) F) := by
 rw [qJ, qJ, yV, qt]; rw [qJ] at s; exact s
theorem get_open {ns : List Nd} {mb pr : Nat} {p : Option Addr} {c : Nat} {X : HProp} {k : GetS} {L : List HProp} {w : World} {F : HProp} (s : sat w (star (St (X :: GetA ns mb pr p c (some k) :: L)) F)) : sat w (star (St ([X, own mb (mapO ((ns ++ k.A).map Nd.me) k.ck), nds (ns ++ k.A), own pr (.cells [Value.slice p k.r.b.length c, .int .i64 k.r.pos, .int .i64 k.r.why, .int .i64 k.r.place].toArray 140 (0, 0)), row 5 1 (.slice p k.r.b.length c) k.r.b.length (cel k.r.b)] ++ L)) F) := by
 rw [yC, qJ]; rw [qJ, qJ, show GetA ns mb pr p c (some k) = St ([own mb (mapO ((ns ++ k.A).map Nd.me) k.ck), nds (ns ++ k.A)] ++ rd pr p c k.r) from rfl] at s; simp only [zv] at s ⊢; exact s
theorem nds_opg {ns : List Nd} {i b : Nat} {x : Nd} {L : List HProp} (hb : x.blk = b) (h : ns[i]? = some x) {w : World} {F : HProp} (s : sat w (star (St (nds ns :: L)) F)) : sat w (star (St (own b (.cells x.cs.toArray 98 (0, 0)) :: rowP x.kp x.kc x.kids :: rowD x.dp x.dc x.data :: nds (ns.eraseIdx i) :: L)) F) := by
 subst hb; exact nds_op h s
theorem nds_clb {ns : List Nd} {i b : Nat} {x y : Nd} {L : List HProp} (hb : y.blk = b) (h : ns[i]? = some x) {w : World} {F : HProp} (s : sat w (star (St (own b (.cells y.cs.toArray 98 (0, 0)) :: rowP y.kp y.kc y.kids :: rowD y.dp y.dc y.data :: nds (ns.eraseIdx i) :: L)) F)) : sat w (star (St (nds (ns.set i y) :: L)) F) := by
 subst hb; exact nds_cl h s
theorem new_ne {b : Nat} {o : Obj} {L : List HProp} (i : Nat) {ns : List Nd} (hi : L[i]? = some (nds ns)) {w : World} {F : HProp} (s : sat w (star (St (own b o :: L)) F)) : ∀ x ∈ ns, x.blk ≠ b := fun x hx => by
 obtain ⟨j, hj⟩ := nds_pick hx
 rw [qJ, yS hi, zv, zv, nds, yS hj, zv, nd, ndL, qJ, zv] at s; exact (own_ne s).symm
theorem pack_new {x : Nd} (hk : x.kp = none ∧ x.kc = 0 ∧ x.kids = []) (hd : x.dp = none ∧ x.dc = 0 ∧ x.data = []) {ns : List Nd} {L : List HProp} {w : World} {F : HProp} (s : sat w (star (St (own x.blk (.cells x.cs.toArray 98 (0, 0)) :: nds ns :: L)) F)) : sat w (star (St (nds (ns ++ [x]) :: L)) F) := by
 rw [qJ, nds_snoc, star_comm (nds ns)]; simp only [zv]; rw [qJ, zv] at s; have s1 := ndL_nil x hk hd s
 rw [qJ, zv] at s1; exact s1
theorem byId_none {ns : List Nd} {k : Nat} (h : byId ns (k : Int) = none) : ∀ u ∈ ns, u.id ≠ k := fun u hu e => by
 have := List.find?_eq_none.1 h u hu
 simp only [decide_eq_true_eq] at this; exact this (by omega)
theorem me_fresh {ns : List Nd} {k : Nat} (h : ∀ u ∈ ns, u.id ≠ k) : ∀ y ∈ ns.map Nd.me, y.k ≠ (k : Int) := fun y hy => by
 obtain ⟨z, hz, rfl⟩ := List.mem_map.1 hy
 have := h z hz
 show (z.id : Int) ≠ _; omega
theorem nodup_snoc {f : Nd → Nat} {ns : List Nd} {z : Nd} (h : (ns.map f).Nodup) (hz : ∀ u ∈ ns, f u ≠ f z) : ((ns ++ [z]).map f).Nodup := by
 rw [List.map_append, List.nodup_append]; refine ⟨h, by simp, fun a ha b hb e => ?_⟩; obtain ⟨u, hu, rfl⟩ := List.mem_map.1 ha
 rw [List.map_cons, List.map_nil, List.mem_singleton] at hb; exact hz u hu (by rw [e, hb])
theorem set_snoc (ns : List Nd) (z y : Nd) : (ns ++ [z]).set ns.length y = ns ++ [y] := by
 rw [List.set_append_right _ _ (Nat.le_refl _), Nat.sub_self]; rfl
theorem me_snoc {ns : List Nd} {z y : Nd} (h : z.me = y.me) : (ns ++ [z]).map Nd.me = (ns ++ [y]).map Nd.me := by
 rw [List.map_append, List.map_append, List.map_cons, List.map_cons, h]
theorem szs_turn {kp : Option Addr} {kc b b2 : Nat} (ns : List Nd) : szs (turnB b2 (addF kp kc b) ns) = szs ns := by unfold szs; rw [turn_dat (f := addF kp kc b) (fun _ => rfl)]
theorem add_me {kp : Option Addr} {kc b : Nat} (b2 : Nat) {ns : List Nd} : ns.map Nd.me = (turnB b2 (addF kp kc b) ns).map Nd.me := (turn_me (f := addF kp kc b) (fun _ => rfl) b2 ns).symm
theorem add_ns {ns A B : List Nd} {x : Nd} {f : Nd → Nd} (h : ((ns ++ A ++ B).map Nd.blk).Nodup) (hx : x ∈ A) : turnB x.blk f (ns ++ A ++ B) = ns ++ (turnB x.blk f A ++ B) := by
 have h1 : turnB x.blk f ns = ns := turn_out fun y hy e => by
  rw [List.append_assoc] at h; exact app_ne h hy (List.mem_append_left _ hx) e
 have h2 : turnB x.blk f B = B := turn_out fun y hy e => app_ne h (List.mem_append_right _ hx) hy e.symm
 have h3 : turnB x.blk f (ns ++ A ++ B) = turnB x.blk f ns ++ turnB x.blk f A ++ turnB x.blk f B := by unfold turnB; rw [List.map_append, List.map_append]
 rw [h3, h1, h2, List.append_assoc]
theorem sb_file {ns : List Nd} {z : Nd} {nx par : Int} {nm : List UInt8} {dp : Option Addr} {dc : Nat} {da : List UInt8} (ids : ((ns ++ [z]).map Nd.id).Nodup) (blks : ((ns ++ [z]).map Nd.blk).Nodup) (out : z.par = -1 ∨ ∃ w ∈ ns, z.par = w.id) (lt : (z.id : Int) < nx) (hz : z.kids = []) (hd : z.dir = false) (a : z.a.Ok ∧ z.a.s = 0 ∧ z.a.f = 15) (hp : z.par = par) (hn : z.name = nm) :
 Sb ns [{ z with dp := dp, dc := dc, data := da }] { z with dp := dp, dc := dc, data := da } par nm nx := by
 subst hp hn; refine sb_one (z := { z with dp := dp, dc := dc, data := da }) hz ?_ ?_ out lt (fun h => by rw [hd] at h; cases h) a
 ·rw [List.map_append] at ids ⊢; exact ids
 ·rw [List.map_append] at blks ⊢; exact blks
theorem get_next {t0 : Tr} {r0 x0 : Nd} {n0 : Nat} {rest : List UInt8} {ns : List Nd} {bs0 : Nat} {nx : Int} {A : List Nd} {x : Nd} {bs left : Nat} {r : R} {k : GetS} {par : Int} {nm : List UInt8} {y : R × List UInt8} (hLF : ∃ i, Lf t0 r0 x0 n0 rest ns bs0 nx i A x bs left r) (h0 : 0 < left) (e : r.text 30 = y)
 (hgc : ∀ t0 r0 x0 n0 rest, Fit t0 r0 x0 n0 rest (ns ++ A) bs nx y.1 → ∃ s, some k = some s ∧ Here s.r rest ∧ s.A.map Nd.id = (dfs t0.ns (n0 + 1) x0).map Nd.id ∧ s.bs = bs + szs (dfs t0.ns (n0 + 1) x0) ∧ ∃ m, Deep s.A m s.x ∧ encN s.A m s.x = encN t0.ns (n0 + 1) x0) (hA : Sb ns A x par nm nx) (hB : Sb (ns ++ A) k.A k.x x.id y.2 nx) (kp : Option Addr) (kc : Nat) :
 ∃ i, Lf t0 r0 x0 n0 rest ns bs0 nx i (turnB x.blk (addF kp kc k.x.blk) A ++ k.A) (addF kp kc k.x.blk x) k.bs (left - 1) k.r := by
 obtain ⟨i, hL⟩ := hLF
 obtain ⟨k0, k1, k2, k3, k4, k5, m, rfl, hF⟩ := lf_kid hL h0 e
 obtain ⟨s, hs, s1, s2, s3, m2, s4, s5⟩ := hgc t0 r0 k0 m _ hF
 injection hs with hs; subst hs
 obtain ⟨m1, d1, d2⟩ := hL.enc
 obtain ⟨M, q1, q2⟩ := enc_next hA hB kp kc d1 d2 s4
 exact ⟨i + 1, lf_next hL h0 k1 s1 s2 s3 kp kc (by rw [add_names hA hB, k2]) ⟨M, q1, by rw [q2, s5, k2]; rfl⟩⟩
def GetOk (k : Nat) : Prop := ∀ (tb mb ck : Nat) (rv : Value) (nx : Int) (bs : Nat) (ns : List Nd) (pr : Nat) (p : Option Addr) (c : Nat) (r : R) (nm : List UInt8) (par : Int), 201 ≤ ns.length + k → ns.length ≤ 200 → bs ≤ 1048576 → r.Good → (ns.map Nd.id).Nodup → (ns.map Nd.blk).Nodup → (par = -1 ∨ ∃ w ∈ ns, par = (w.id : Int)) →
 Tri Tryz.prog 87 [.pointer (some ⟨tb, 0, none⟩), .pointer (some ⟨pr, 0, none⟩), .string (str nm)] [own tb (.cells ([rv, .map (some mb), .int .i64 nx, .int .i64 ((bs : Nat) : Int)] : List Value).toArray 95 (0, 0)), own mb (mapO ((ns).map Nd.me) ck), nds ns, own pr (.cells [Value.slice p r.b.length c, .int .i64 r.pos, .int .i64 r.why, .int .i64 r.place].toArray 140 (0, 0)), row 5 1 (.slice p r.b.length c) r.b.length (cel r.b)]
  (fun v H' => ∃ g bs', v = gptr g ∧ (∀ s, g = some s → GetF ns par nm nx bs s ∧ bs' = s.bs) ∧ (∀ t0 r0 x0 n0 rest, Fit t0 r0 x0 n0 rest ns bs nx r → ∃ s, g = some s ∧ Here s.r rest ∧ s.A.map Nd.id = (dfs t0.ns (n0 + 1) x0).map Nd.id ∧ s.bs = bs + szs (dfs t0.ns (n0 + 1) x0) ∧ ∃ m, Deep s.A m s.x ∧ encN s.A m s.x = encN t0.ns (n0 + 1) x0) ∧ H' = [own tb (.cells ([rv, .map (some mb), .int .i64 nx, .int .i64 ((bs' : Nat) : Int)] : List Value).toArray 95 (0, 0)), GetA (ns) mb pr p c (g)])
theorem get_step (k : Nat) (IH : GetOk k) : GetOk (k + 1) := fun tb mb ck rv nx bs ns pr p c r nm par hk hns hbs hg hids hblks hout => by
 refine zt Tryz.func87 rfl Tryz.ntmps87 (by simp) ?_; refine zM (zK (zH rfl (zO rfl) rfl (zN (zI (zM ?_))))); refine zK (zH rfl (zL rfl) rfl (zT rfl (zb Tryz.call86 rfl rfl (by repeat (first | exact zR _ | apply zG 0 rfl | apply zG 1 rfl | apply zG 2 rfl | apply zG 3 rfl | apply zG 4 rfl | apply zG 5 rfl | apply zG 6 rfl | apply zG 7 rfl)) (rU64_spec pr p c r hg.len hg.pos)) rfl ?_)); rintro _ H' ⟨_, ⟨rfl, rfl⟩, hH⟩; simp only [zy7] at hH; subst hH; obtain ⟨z1, e1⟩ : ∃ z, r.get 8 = z := ⟨_, rfl⟩
 rw [e1]; have g1 : z1.1.Good := e1 ▸ R.good_get hg 8
 have l1 : z1.2 < 18446744073709551616 := by have h := yt r 8; rw [e1] at h; simpa only [Nat.reducePow] using h
 refine zH rfl (yF Tryz.underlying28 Tryz.underlying3 rfl rfl) rfl ?_; have hw := wrap64 l1
 obtain ⟨zid, hzid⟩ : ∃ z : Int, IntKind.i64.wrap ((z1.2 : Nat) : Int) = z := ⟨_, rfl⟩
 rw [hzid] at hw ⊢; refine zH rfl (zL rfl) rfl (zT rfl (zb Tryz.call139 rfl rfl (by repeat (first | exact zR _ | apply zG 0 rfl | apply zG 1 rfl | apply zG 2 rfl | apply zG 3 rfl | apply zG 4 rfl | apply zG 5 rfl | apply zG 6 rfl | apply zG 7 rfl)) (rBool_spec pr p c z1.1 g1)) rfl ?_); rintro _ H' ⟨_, ⟨rfl, rfl⟩, hH⟩; simp only [zy7] at hH; subst hH; obtain ⟨z2, e2⟩ : ∃ z, z1.1.get 1 = z := ⟨_, rfl⟩
 rw [e2]; have g2 : z2.1.Good := e2 ▸ R.good_get g1 1
 obtain ⟨dir, hdir⟩ : ∃ b, b = decide (z2.2 ≠ 0) := ⟨_, rfl⟩
 rw [← hdir]; refine zH rfl (zL rfl) rfl (zH rfl (qY rfl (qK (cs := [.int .i64 zid, .bool dir, .string (str nm), .slice none 0 0, .slice none 0 0, .int .u32 0, .int .u64 0, .int .u32 0, .int .u32 0, .int .u32 0, .int .u32 0, .int .u32 0]) st98 rfl)) rfl (zT rfl (qj rfl) rfl ?_)); rintro _ _ ⟨b18, rfl, rfl⟩; refine zH rfl (zO rfl) rfl (zN (zI (zM (zK (zH rfl (zL rfl) rfl ?_))))); refine zH rfl (zL rfl) rfl (zT rfl (zb Tryz.call101 rfl rfl (by repeat (first | exact zR _ | apply zG 0 rfl | apply zG 1 rfl | apply zG 2 rfl | apply zG 3 rfl | apply zG 4 rfl | apply zG 5 rfl | apply zG 6 rfl | apply zG 7 rfl)) (yk pr p c z2.1 g2.len g2.pos)) rfl ?_); rintro _ H' ⟨_, ⟨rfl, rfl⟩, hH⟩; simp only [zy7] at hH; subst hH; obtain ⟨z3, e3⟩ : ∃ z, z2.1.get 4 = z := ⟨_, rfl⟩
 rw [e3]; have g3 : z3.1.Good := e3 ▸ R.good_get g2 4
 have l3 : z3.2 < 4294967296 := by have h := yt z2.1 4; rw [e3] at h; simpa only [Nat.reducePow] using h
 refine zH rfl (zL rfl) rfl (zT rfl (zb Tryz.call101 rfl rfl (by repeat (first | exact zR _ | apply zG 0 rfl | apply zG 1 rfl | apply zG 2 rfl | apply zG 3 rfl | apply zG 4 rfl | apply zG 5 rfl | apply zG 6 rfl | apply zG 7 rfl)) (yk pr p c z3.1 g3.len g3.pos)) rfl ?_); rintro _ H' ⟨_, ⟨rfl, rfl⟩, hH⟩; simp only [zy7] at hH; subst hH; obtain ⟨z4, e4⟩ : ∃ z, z3.1.get 4 = z := ⟨_, rfl⟩
 rw [e4]; have g4 : z4.1.Good := e4 ▸ R.good_get g3 4
 have l4 : z4.2 < 4294967296 := by have h := yt z3.1 4; rw [e4] at h; simpa only [Nat.reducePow] using h
 refine zH rfl (zL rfl) rfl (zT rfl (zb Tryz.call101 rfl rfl (by repeat (first | exact zR _ | apply zG 0 rfl | apply zG 1 rfl | apply zG 2 rfl | apply zG 3 rfl | apply zG 4 rfl | apply zG 5 rfl | apply zG 6 rfl | apply zG 7 rfl)) (yk pr p c z4.1 g4.len g4.pos)) rfl ?_); rintro _ H' ⟨_, ⟨rfl, rfl⟩, hH⟩; simp only [zy7] at hH; subst hH; obtain ⟨z5, e5⟩ : ∃ z, z4.1.get 4 = z := ⟨_, rfl⟩
 rw [e5]; have g5 : z5.1.Good := e5 ▸ R.good_get g4 4
 have l5 : z5.2 < 4294967296 := by have h := yt z4.1 4; rw [e5] at h; simpa only [Nat.reducePow] using h
 refine zH rfl (zL rfl) rfl (zT rfl (zb Tryz.call101 rfl rfl (by repeat (first | exact zR _ | apply zG 0 rfl | apply zG 1 rfl | apply zG 2 rfl | apply zG 3 rfl | apply zG 4 rfl | apply zG 5 rfl | apply zG 6 rfl | apply zG 7 rfl)) (yk pr p c z5.1 g5.len g5.pos)) rfl ?_); rintro _ H' ⟨_, ⟨rfl, rfl⟩, hH⟩; simp only [zy7] at hH; subst hH; obtain ⟨z6, e6⟩ : ∃ z, z5.1.get 4 = z := ⟨_, rfl⟩
 rw [e6]; have g6 : z6.1.Good := e6 ▸ R.good_get g5 4
 have l6 : z6.2 < 4294967296 := by have h := yt z5.1 4; rw [e6] at h; simpa only [Nat.reducePow] using h
 refine zH rfl (zL rfl) rfl (zT rfl (zb Tryz.call101 rfl rfl (by repeat (first | exact zR _ | apply zG 0 rfl | apply zG 1 rfl | apply zG 2 rfl | apply zG 3 rfl | apply zG 4 rfl | apply zG 5 rfl | apply zG 6 rfl | apply zG 7 rfl)) (yk pr p c z6.1 g6.len g6.pos)) rfl ?_); rintro _ H' ⟨_, ⟨rfl, rfl⟩, hH⟩; simp only [zy7] at hH; subst hH; obtain ⟨z7, e7⟩ : ∃ z, z6.1.get 4 = z := ⟨_, rfl⟩
 rw [e7]; have g7 : z7.1.Good := e7 ▸ R.good_get g6 4
 have l7 : z7.2 < 4294967296 := by have h := yt z6.1 4; rw [e7] at h; simpa only [Nat.reducePow] using h
 refine zH rfl (qY rfl (qK (cs := At.cs ⟨15, 0, z3.2, z4.2, z5.2, z6.2, z7.2⟩) st30 rfl)) rfl (zH rfl (zU rfl) rfl (zH rfl (zP fa98_5 rfl) rfl (zo rfl (zm 2 ag30 rfl rfl rfl rfl rfl (zy1 rfl) (zg _)) rfl ?_))); rintro _ _ rfl; refine zN (zI (zM (zM (qZ 41 (by kernel_rfl) (zG 2 rfl (zG 2 rfl (zG 2 rfl (zR _)))) ?_)))); refine zRO (i := 0) (by kernel_rfl) rfl rfl (zL rfl) rfl (qM (i := 1) (by kernel_rfl) rfl rfl (zb Tryz.call98 rfl rfl (by repeat (first | exact zR _ | apply zG 0 rfl | apply zG 1 rfl | apply zG 2 rfl | apply zG 3 rfl | apply zG 4 rfl | apply zG 5 rfl | apply zG 6 rfl | apply zG 7 rfl)) (fine_spec pr p c z7.1)) rfl ?_); rintro _ H' ⟨_, ⟨rfl, rfl⟩, hH⟩; simp only [zy7] at hH; subst hH; refine zRO (i := 2) (by kernel_rfl) rfl rfl (qy rfl rfl) rfl (yA (i := 3) (by kernel_rfl) rfl rfl rfl rfl (fun _ _ _ h => h) (fun hg36 => ?_) (fun hg36 => ?_))
 ·simp only [Bool.and_eq_true, decide_eq_true_eq, Bool.not_eq_true', decide_eq_false_iff_not, bne_iff_ne, ne_eq] at hg36; refine zSK (i := 4) (by kernel_rfl) rfl rfl rfl (zSK (i := 5) (by kernel_rfl) rfl rfl rfl (zSK (i := 6) (by kernel_rfl) rfl rfl rfl (zSK (i := 7) (by kernel_rfl) rfl rfl rfl (zSK (i := 8) (by kernel_rfl) rfl rfl rfl (zRO (i := 9) (by kernel_rfl) rfl rfl (zr rfl rfl) rfl ?_))))); refine zRO (i := 10) (by kernel_rfl) rfl rfl (zL (v := .bool true) rfl) rfl (zSK (i := 11) (by kernel_rfl) rfl rfl rfl (zSK (i := 12) (by kernel_rfl) rfl rfl rfl (zSK (i := 13) (by kernel_rfl) rfl rfl rfl (zSK (i := 14) (by kernel_rfl) rfl rfl rfl (zSK (i := 15) (by kernel_rfl) rfl rfl rfl ?_))))); refine zSK (i := 16) (by kernel_rfl) rfl rfl rfl (zSK (i := 17) (by kernel_rfl) rfl rfl rfl (zSK (i := 18) (by kernel_rfl) rfl rfl rfl (zSK (i := 19) (by kernel_rfl) rfl rfl rfl (zRO (i := 20) (by kernel_rfl) rfl rfl (zr rfl rfl) rfl (zRO (i := 21) (by kernel_rfl) rfl rfl (zL (v := .bool true) rfl) rfl ?_))))); refine zSK (i := 22) (by kernel_rfl) rfl rfl rfl (zSK (i := 23) (by kernel_rfl) rfl rfl rfl (zSK (i := 24) (by kernel_rfl) rfl rfl rfl (zSK (i := 25) (by kernel_rfl) rfl rfl rfl (zSK (i := 26) (by kernel_rfl) rfl rfl rfl (zSK (i := 27) (by kernel_rfl) rfl rfl rfl ?_))))); refine zSK (i := 28) (by kernel_rfl) rfl rfl rfl (zSK (i := 29) (by kernel_rfl) rfl rfl rfl (zSK (i := 30) (by kernel_rfl) rfl rfl rfl ?_))
  first
   | (rw [xT]
      obtain ⟨o, ho⟩ : ∃ o, byId ns zid = o := ⟨_, rfl⟩
      rw [ho]
      dsimp only [ptrO])
   | skip
  refine zSK (i := 31) (by kernel_rfl) rfl rfl rfl (zRO (i := 32) (by kernel_rfl) rfl rfl (zr rfl rfl) rfl (zRO (i := 33) (by kernel_rfl) rfl rfl (zL (v := .bool true) rfl) rfl (zSK (i := 34) (by kernel_rfl) rfl rfl rfl (zSK (i := 35) (by kernel_rfl) rfl rfl rfl (zSK (i := 36) (by kernel_rfl) rfl rfl rfl ?_))))); refine zSK (i := 37) (by kernel_rfl) rfl rfl rfl (zSK (i := 38) (by kernel_rfl) rfl rfl rfl ?_)
  try rw [List.length_map]
  refine zSK (i := 39) (by kernel_rfl) rfl rfl rfl (zRO (i := 40) (by kernel_rfl) rfl rfl (zr rfl rfl) rfl (qm (by kernel_rfl) ?_)); refine zI (qG rfl ?_); refine zM (q8 (L := [own tb (.cells ([rv, .map (some mb), .int .i64 nx, .int .i64 ((bs : Nat) : Int)] : List Value).toArray 95 (0, 0))]) (by repeat (first | exact zY _ | refine zJ 0 rfl ?_ | refine zJ 1 rfl ?_ | refine zJ 2 rfl ?_ | refine zJ 3 rfl ?_ | refine zJ 4 rfl ?_ | refine zJ 5 rfl ?_ | refine zJ 6 rfl ?_ | refine zJ 7 rfl ?_ | refine SubH.rown ?_)) ?_); refine qD (H' := [own tb (.cells ([rv, .map (some mb), .int .i64 nx, .int .i64 ((bs : Nat) : Int)] : List Value).toArray 95 (0, 0)), GetA (ns) mb pr p c (none)]) (fun w F s => xY s) ?_; refine zK (zH rfl (zO rfl) rfl (zN (zI (zi ?_)))); refine zh ?_; refine' zX (qk rfl rfl) ?_ ?_
  rotate_left 1
  refine ⟨none, bs, rfl, fun s h => (by cases h), fun t0 r0 x0 n0 rest hF => ?_, rfl⟩; obtain ⟨f1, f2, f3, f4, f5⟩ := fit_ok (fit_hd e1 e2 e3 e4 e5 e6 e7 hF)
  exfalso
  first
   | (exact absurd f1 (by simpa using hg36))
   | (rw [if_pos (by omega)] at hw; omega)
   | (obtain ⟨u, hu⟩ : ∃ u, o = some u := (by cases o with | none => exact absurd hg66 (by simp) | some u => exact ⟨u, rfl⟩)
      rw [hu] at ho; obtain ⟨h1, h2⟩ := yD ho
      rw [if_pos (by omega)] at hw; exact f4 u h1 (by omega))
  exact zj _
 ·simp only [Bool.and_eq_false_iff, decide_eq_false_iff_not, Bool.not_eq_false', decide_eq_true_eq] at hg36; refine zRO (i := 4) (by kernel_rfl) rfl rfl (zL rfl) rfl (zRO (i := 5) (by kernel_rfl) rfl rfl (zU rfl) rfl (zRO (i := 6) (by kernel_rfl) rfl rfl (zP fa98_0 rfl) rfl (zRO (i := 7) (by kernel_rfl) rfl rfl (zW sc3 rfl (zy4 0 rfl (Rd.own rfl))) rfl (zRO (i := 8) (by kernel_rfl) rfl rfl (yP rfl rfl rfl) rfl (zRO (i := 9) (by kernel_rfl) rfl rfl (zr rfl rfl) rfl ?_))))); refine yA (i := 10) (by kernel_rfl) rfl rfl rfl rfl (fun _ _ _ h => h) (fun hg43 => ?_) (fun hg43 => ?_)
  ·replace hg43 := zy2 hg43
   refine zSK (i := 11) (by kernel_rfl) rfl rfl rfl (zSK (i := 12) (by kernel_rfl) rfl rfl rfl (zSK (i := 13) (by kernel_rfl) rfl rfl rfl (zSK (i := 14) (by kernel_rfl) rfl rfl rfl (zSK (i := 15) (by kernel_rfl) rfl rfl rfl (zSK (i := 16) (by kernel_rfl) rfl rfl rfl ?_))))); refine zSK (i := 17) (by kernel_rfl) rfl rfl rfl (zSK (i := 18) (by kernel_rfl) rfl rfl rfl (zSK (i := 19) (by kernel_rfl) rfl rfl rfl (zRO (i := 20) (by kernel_rfl) rfl rfl (zr rfl rfl) rfl (zRO (i := 21) (by kernel_rfl) rfl rfl (zL (v := .bool true) rfl) rfl (zSK (i := 22) (by kernel_rfl) rfl rfl rfl ?_))))); refine zSK (i := 23) (by kernel_rfl) rfl rfl rfl (zSK (i := 24) (by kernel_rfl) rfl rfl rfl (zSK (i := 25) (by kernel_rfl) rfl rfl rfl (zSK (i := 26) (by kernel_rfl) rfl rfl rfl (zSK (i := 27) (by kernel_rfl) rfl rfl rfl (zSK (i := 28) (by kernel_rfl) rfl rfl rfl ?_))))); refine zSK (i := 29) (by kernel_rfl) rfl rfl rfl (zSK (i := 30) (by kernel_rfl) rfl rfl rfl ?_)
   first
    | (rw [xT]
       obtain ⟨o, ho⟩ : ∃ o, byId ns zid = o := ⟨_, rfl⟩
       rw [ho]
       dsimp only [ptrO])
    | skip
   refine zSK (i := 31) (by kernel_rfl) rfl rfl rfl (zRO (i := 32) (by kernel_rfl) rfl rfl (zr rfl rfl) rfl (zRO (i := 33) (by kernel_rfl) rfl rfl (zL (v := .bool true) rfl) rfl (zSK (i := 34) (by kernel_rfl) rfl rfl rfl (zSK (i := 35) (by kernel_rfl) rfl rfl rfl (zSK (i := 36) (by kernel_rfl) rfl rfl rfl ?_))))); refine zSK (i := 37) (by kernel_rfl) rfl rfl rfl (zSK (i := 38) (by kernel_rfl) rfl rfl rfl ?_)
   try rw [List.length_map]
   refine zSK (i := 39) (by kernel_rfl) rfl rfl rfl (zRO (i := 40) (by kernel_rfl) rfl rfl (zr rfl rfl) rfl (qm (by kernel_rfl) ?_)); refine zI (qG rfl ?_); refine zM (q8 (L := [own tb (.cells ([rv, .map (some mb), .int .i64 nx, .int .i64 ((bs : Nat) : Int)] : List Value).toArray 95 (0, 0))]) (by repeat (first | exact zY _ | refine zJ 0 rfl ?_ | refine zJ 1 rfl ?_ | refine zJ 2 rfl ?_ | refine zJ 3 rfl ?_ | refine zJ 4 rfl ?_ | refine zJ 5 rfl ?_ | refine zJ 6 rfl ?_ | refine zJ 7 rfl ?_ | refine SubH.rown ?_)) ?_); refine qD (H' := [own tb (.cells ([rv, .map (some mb), .int .i64 nx, .int .i64 ((bs : Nat) : Int)] : List Value).toArray 95 (0, 0)), GetA (ns) mb pr p c (none)]) (fun w F s => xY s) ?_; refine zK (zH rfl (zO rfl) rfl (zN (zI (zi ?_)))); refine zh ?_; refine' zX (qk rfl rfl) ?_ ?_
   rotate_left 1
   refine ⟨none, bs, rfl, fun s h => (by cases h), fun t0 r0 x0 n0 rest hF => ?_, rfl⟩; obtain ⟨f1, f2, f3, f4, f5⟩ := fit_ok (fit_hd e1 e2 e3 e4 e5 e6 e7 hF)
   exfalso
   first
    | (exact absurd f1 (by simpa using hg36))
    | (rw [if_pos (by omega)] at hw; omega)
    | (obtain ⟨u, hu⟩ : ∃ u, o = some u := (by cases o with | none => exact absurd hg66 (by simp) | some u => exact ⟨u, rfl⟩)
       rw [hu] at ho; obtain ⟨h1, h2⟩ := yD ho
       rw [if_pos (by omega)] at hw; exact f4 u h1 (by omega))
   exact zj _
  ·replace hg43 := zy3 hg43
   refine zRO (i := 11) (by kernel_rfl) rfl rfl (zL rfl) rfl (zRO (i := 12) (by kernel_rfl) rfl rfl (zU rfl) rfl (zRO (i := 13) (by kernel_rfl) rfl rfl (zP fa98_0 rfl) rfl (zRO (i := 14) (by kernel_rfl) rfl rfl (zW sc3 rfl (zy4 0 rfl (Rd.own rfl))) rfl (zRO (i := 15) (by kernel_rfl) rfl rfl (zL rfl) rfl (zRO (i := 16) (by kernel_rfl) rfl rfl (zU rfl) rfl ?_))))); refine zRO (i := 17) (by kernel_rfl) rfl rfl (zP fa95_2 rfl) rfl (zRO (i := 18) (by kernel_rfl) rfl rfl (zW sc3 rfl (zy4 1 rfl (Rd.own rfl))) rfl (zRO (i := 19) (by kernel_rfl) rfl rfl (ro_geq rfl rfl rfl) rfl (zRO (i := 20) (by kernel_rfl) rfl rfl (zr rfl rfl) rfl (yA (i := 21) (by kernel_rfl) rfl rfl rfl rfl (fun _ _ _ h => h) (fun hg54 => ?_) (fun hg54 => ?_)))))
   ·replace hg54 := zy2 hg54
    refine zSK (i := 22) (by kernel_rfl) rfl rfl rfl (zSK (i := 23) (by kernel_rfl) rfl rfl rfl (zSK (i := 24) (by kernel_rfl) rfl rfl rfl (zSK (i := 25) (by kernel_rfl) rfl rfl rfl (zSK (i := 26) (by kernel_rfl) rfl rfl rfl (zSK (i := 27) (by kernel_rfl) rfl rfl rfl ?_))))); refine zSK (i := 28) (by kernel_rfl) rfl rfl rfl (zSK (i := 29) (by kernel_rfl) rfl rfl rfl (zSK (i := 30) (by kernel_rfl) rfl rfl rfl ?_))
    first
     | (rw [xT]
        obtain ⟨o, ho⟩ : ∃ o, byId ns zid = o := ⟨_, rfl⟩
        rw [ho]
        dsimp only [ptrO])
     | skip
    refine zSK (i := 31) (by kernel_rfl) rfl rfl rfl (zRO (i := 32) (by kernel_rfl) rfl rfl (zr rfl rfl) rfl (zRO (i := 33) (by kernel_rfl) rfl rfl (zL (v := .bool true) rfl) rfl (zSK (i := 34) (by kernel_rfl) rfl rfl rfl (zSK (i := 35) (by kernel_rfl) rfl rfl rfl (zSK (i := 36) (by kernel_rfl) rfl rfl rfl ?_))))); refine zSK (i := 37) (by kernel_rfl) rfl rfl rfl (zSK (i := 38) (by kernel_rfl) rfl rfl rfl ?_)
    try rw [List.length_map]
    refine zSK (i := 39) (by kernel_rfl) rfl rfl rfl (zRO (i := 40) (by kernel_rfl) rfl rfl (zr rfl rfl) rfl (qm (by kernel_rfl) ?_)); refine zI (qG rfl ?_); refine zM (q8 (L := [own tb (.cells ([rv, .map (some mb), .int .i64 nx, .int .i64 ((bs : Nat) : Int)] : List Value).toArray 95 (0, 0))]) (by repeat (first | exact zY _ | refine zJ 0 rfl ?_ | refine zJ 1 rfl ?_ | refine zJ 2 rfl ?_ | refine zJ 3 rfl ?_ | refine zJ 4 rfl ?_ | refine zJ 5 rfl ?_ | refine zJ 6 rfl ?_ | refine zJ 7 rfl ?_ | refine SubH.rown ?_)) ?_); refine qD (H' := [own tb (.cells ([rv, .map (some mb), .int .i64 nx, .int .i64 ((bs : Nat) : Int)] : List Value).toArray 95 (0, 0)), GetA (ns) mb pr p c (none)]) (fun w F s => xY s) ?_; refine zK (zH rfl (zO rfl) rfl (zN (zI (zi ?_)))); refine zh ?_; refine' zX (qk rfl rfl) ?_ ?_
    rotate_left 1
    refine ⟨none, bs, rfl, fun s h => (by cases h), fun t0 r0 x0 n0 rest hF => ?_, rfl⟩; obtain ⟨f1, f2, f3, f4, f5⟩ := fit_ok (fit_hd e1 e2 e3 e4 e5 e6 e7 hF)
    exfalso
    first
     | (exact absurd f1 (by simpa using hg36))
     | (rw [if_pos (by omega)] at hw; omega)
     | (obtain ⟨u, hu⟩ : ∃ u, o = some u := (by cases o with | none => exact absurd hg66 (by simp) | some u => exact ⟨u, rfl⟩)
        rw [hu] at ho; obtain ⟨h1, h2⟩ := yD ho
        rw [if_pos (by omega)] at hw; exact f4 u h1 (by omega))
    exact zj _
   ·replace hg54 := zy3 hg54
    refine zRO (i := 22) (by kernel_rfl) rfl rfl (zL rfl) rfl (zRO (i := 23) (by kernel_rfl) rfl rfl (zU rfl) rfl (zRO (i := 24) (by kernel_rfl) rfl rfl (zP fa95_1 rfl) rfl (zRO (i := 25) (by kernel_rfl) rfl rfl (zW sc93 rfl (zy4 1 rfl (Rd.own rfl))) rfl (zRO (i := 26) (by kernel_rfl) rfl rfl (zL rfl) rfl (zRO (i := 27) (by kernel_rfl) rfl rfl (zU rfl) rfl ?_))))); refine zRO (i := 28) (by kernel_rfl) rfl rfl (zP fa98_0 rfl) rfl (zRO (i := 29) (by kernel_rfl) rfl rfl (zW sc3 rfl (zy4 0 rfl (Rd.own rfl))) rfl (zRO (i := 30) (by kernel_rfl) rfl rfl (xB Tryz.underlying93 Tryz.underlying3 z92 rfl rfl (Mp.pick 2 rfl Mp.own)) rfl ?_))
    first
     | (rw [xT]
        obtain ⟨o, ho⟩ : ∃ o, byId ns zid = o := ⟨_, rfl⟩
        rw [ho]
        dsimp only [ptrO])
     | skip
    refine zRO (i := 31) (by kernel_rfl) rfl rfl (xR Tryz.underlying92 rfl rfl rfl) rfl (zRO (i := 32) (by kernel_rfl) rfl rfl (zr rfl rfl) rfl (yA (i := 33) (by kernel_rfl) rfl rfl rfl rfl (fun _ _ _ h => h) (fun hg66 => ?_) (fun hg66 => ?_)))
    ·skip; refine zSK (i := 34) (by kernel_rfl) rfl rfl rfl (zSK (i := 35) (by kernel_rfl) rfl rfl rfl (zSK (i := 36) (by kernel_rfl) rfl rfl rfl (zSK (i := 37) (by kernel_rfl) rfl rfl rfl (zSK (i := 38) (by kernel_rfl) rfl rfl rfl ?_))))
     try rw [List.length_map]
     refine zSK (i := 39) (by kernel_rfl) rfl rfl rfl (zRO (i := 40) (by kernel_rfl) rfl rfl (zr rfl rfl) rfl (qm (by kernel_rfl) ?_)); refine zI (qG rfl ?_); refine zM (q8 (L := [own tb (.cells ([rv, .map (some mb), .int .i64 nx, .int .i64 ((bs : Nat) : Int)] : List Value).toArray 95 (0, 0))]) (by repeat (first | exact zY _ | refine zJ 0 rfl ?_ | refine zJ 1 rfl ?_ | refine zJ 2 rfl ?_ | refine zJ 3 rfl ?_ | refine zJ 4 rfl ?_ | refine zJ 5 rfl ?_ | refine zJ 6 rfl ?_ | refine zJ 7 rfl ?_ | refine SubH.rown ?_)) ?_); refine qD (H' := [own tb (.cells ([rv, .map (some mb), .int .i64 nx, .int .i64 ((bs : Nat) : Int)] : List Value).toArray 95 (0, 0)), GetA (ns) mb pr p c (none)]) (fun w F s => xY s) ?_; refine zK (zH rfl (zO rfl) rfl (zN (zI (zi ?_)))); refine zh ?_; refine' zX (qk rfl rfl) ?_ ?_
     rotate_left 1
     refine ⟨none, bs, rfl, fun s h => (by cases h), fun t0 r0 x0 n0 rest hF => ?_, rfl⟩; obtain ⟨f1, f2, f3, f4, f5⟩ := fit_ok (fit_hd e1 e2 e3 e4 e5 e6 e7 hF)
     exfalso
     first
      | (exact absurd f1 (by simpa using hg36))
      | (rw [if_pos (by omega)] at hw; omega)
      | (obtain ⟨u, hu⟩ : ∃ u, o = some u := (by cases o with | none => exact absurd hg66 (by simp) | some u => exact ⟨u, rfl⟩)
         rw [hu] at ho; obtain ⟨h1, h2⟩ := yD ho
         rw [if_pos (by omega)] at hw; exact f4 u h1 (by omega))
     exact zj _
    ·skip; refine zRO (i := 34) (by kernel_rfl) rfl rfl (zL rfl) rfl (zRO (i := 35) (by kernel_rfl) rfl rfl (zU rfl) rfl (zRO (i := 36) (by kernel_rfl) rfl rfl (zP fa95_1 rfl) rfl (zRO (i := 37) (by kernel_rfl) rfl rfl (zW sc93 rfl (zy4 1 rfl (Rd.own rfl))) rfl (zRO (i := 38) (by kernel_rfl) rfl rfl (ro_mapLen Tryz.underlying93 rfl (Mp.pick 2 rfl Mp.own)) rfl ?_))))
     try rw [List.length_map]
     refine zRO (i := 39) (by kernel_rfl) rfl rfl (ro_geq rfl rfl rfl) rfl (zRO (i := 40) (by kernel_rfl) rfl rfl (zr rfl rfl) rfl (qm (by kernel_rfl) ?_)); refine zI (zq rfl (fun hc73 => ?_) (fun hc73 => ?_))
     ·replace hc73 := zy2 hc73
      refine zM (q8 (L := [own tb (.cells ([rv, .map (some mb), .int .i64 nx, .int .i64 ((bs : Nat) : Int)] : List Value).toArray 95 (0, 0))]) (by repeat (first | exact zY _ | refine zJ 0 rfl ?_ | refine zJ 1 rfl ?_ | refine zJ 2 rfl ?_ | refine zJ 3 rfl ?_ | refine zJ 4 rfl ?_ | refine zJ 5 rfl ?_ | refine zJ 6 rfl ?_ | refine zJ 7 rfl ?_ | refine SubH.rown ?_)) ?_); refine qD (H' := [own tb (.cells ([rv, .map (some mb), .int .i64 nx, .int .i64 ((bs : Nat) : Int)] : List Value).toArray 95 (0, 0)), GetA (ns) mb pr p c (none)]) (fun w F s => xY s) ?_; refine zK (zH rfl (zO rfl) rfl (zN (zI (zi ?_)))); refine zh ?_; refine' zX (qk rfl rfl) ?_ ?_
      rotate_left 1
      refine ⟨none, bs, rfl, fun s h => (by cases h), fun t0 r0 x0 n0 rest hF => ?_, rfl⟩; obtain ⟨f1, f2, f3, f4, f5⟩ := fit_ok (fit_hd e1 e2 e3 e4 e5 e6 e7 hF)
      exfalso
      first
       | (exact absurd f1 (by simpa using hg36))
       | (rw [if_pos (by omega)] at hw; omega)
       | (obtain ⟨u, hu⟩ : ∃ u, o = some u := (by cases o with | none => exact absurd hg66 (by simp) | some u => exact ⟨u, rfl⟩)
          rw [hu] at ho; obtain ⟨h1, h2⟩ := yD ho
          rw [if_pos (by omega)] at hw; exact f4 u h1 (by omega))
      exact zj _
     ·replace hc73 := zy3 hc73
      refine zl ?_; refine zI (zM ?_); obtain rfl : zid = ((z1.2 : Nat) : Int) := by split at hw <;> omega
      have ho2 : byId ns ((z1.2 : Nat) : Int) = none := by cases o with
       | none => exact ho
       | some u => exact absurd hg66 (by simp)
      have hfr := byId_none ho2
      refine q8 (L := [own b18 (.cells (Nd.cs (⟨b18, ck, z1.2, par, dir, nm, none, 0, [], none, 0, [], ⟨15, 0, z3.2, z4.2, z5.2, z6.2, z7.2⟩⟩ : Nd)).toArray 98 (0, 0)), own tb (.cells ([rv, .map (some mb), .int .i64 nx, .int .i64 ((bs : Nat) : Int)] : List Value).toArray 95 (0, 0)), own mb (mapO ((ns).map Nd.me) ck), nds ns, own pr (.cells [Value.slice p z7.1.b.length c, .int .i64 z7.1.pos, .int .i64 z7.1.why, .int .i64 z7.1.place].toArray 140 (0, 0)), row 5 1 (.slice p z7.1.b.length c) z7.1.b.length (cel z7.1.b)]) (by repeat (first | exact zY _ | refine zJ 0 rfl ?_ | refine zJ 1 rfl ?_ | refine zJ 2 rfl ?_ | refine zJ 3 rfl ?_ | refine zJ 4 rfl ?_ | refine zJ 5 rfl ?_ | refine zJ 6 rfl ?_ | refine zJ 7 rfl ?_ | refine SubH.rown ?_)) ?_; refine qZ 9 (by kernel_rfl) (Split.all _) ?_; refine zRO (i := 0) (by kernel_rfl) rfl rfl (zL rfl) rfl (zRO (i := 1) (by kernel_rfl) rfl rfl (zU rfl) rfl (zRO (i := 2) (by kernel_rfl) rfl rfl (zP fa95_1 rfl) rfl (zRO (i := 3) (by kernel_rfl) rfl rfl (zW sc93 rfl (zy4 1 rfl (Rd.own rfl))) rfl (zRO (i := 4) (by kernel_rfl) rfl rfl (zL rfl) rfl (zRO (i := 5) (by kernel_rfl) rfl rfl (zU rfl) rfl ?_))))); refine zRO (i := 6) (by kernel_rfl) rfl rfl (zP fa98_0 rfl) rfl (zRO (i := 7) (by kernel_rfl) rfl rfl (zW sc3 rfl (zy4 0 rfl (Rd.own rfl))) rfl (zRO (i := 8) (by kernel_rfl) rfl rfl (zL rfl) rfl (qR (m' := 10) (L' := []) (by kernel_rfl) qx ?_))); simp only [zA, zB, List.append_nil]; refine qq (i := 9) (by kernel_rfl) rfl rfl (eff_mapUpdate 2 Tryz.underlying93 Tryz.underlying3 rfl rfl rfl rfl (me_fresh hfr)) rfl ?_; rintro _ _ rfl; simp only [zE, zF]; refine qT (by kernel_rfl) ?_; refine zI (zM (zM (yN (fun w F s => new_ne 2 rfl s) ?_))); intro hnew; refine q8 (L := [own b18 (.cells (Nd.cs (⟨b18, ck, z1.2, par, dir, nm, none, 0, [], none, 0, [], ⟨15, 0, z3.2, z4.2, z5.2, z6.2, z7.2⟩⟩ : Nd)).toArray 98 (0, 0)), nds ns, own tb (.cells ([rv, .map (some mb), .int .i64 nx, .int .i64 ((bs : Nat) : Int)] : List Value).toArray 95 (0, 0)), own mb (mapO (ns.map Nd.me ++ [⟨((z1.2 : Nat) : Int), .pointer (some ⟨b18, 0, none⟩), ck⟩]) (ck + 1)), own pr (.cells [Value.slice p z7.1.b.length c, .int .i64 z7.1.pos, .int .i64 z7.1.why, .int .i64 z7.1.place].toArray 140 (0, 0)), row 5 1 (.slice p z7.1.b.length c) z7.1.b.length (cel z7.1.b)]) (by repeat (first | exact zY _ | refine zJ 0 rfl ?_ | refine zJ 1 rfl ?_ | refine zJ 2 rfl ?_ | refine zJ 3 rfl ?_ | refine zJ 4 rfl ?_ | refine zJ 5 rfl ?_ | refine zJ 6 rfl ?_ | refine zJ 7 rfl ?_ | refine SubH.rown ?_)) ?_; refine qD (fun w F s => pack_new (x := (⟨b18, ck, z1.2, par, dir, nm, none, 0, [], none, 0, [], ⟨15, 0, z3.2, z4.2, z5.2, z6.2, z7.2⟩⟩ : Nd)) ⟨rfl, rfl, rfl⟩ ⟨rfl, rfl, rfl⟩ s) ?_; have hme : ns.map Nd.me ++ [⟨((z1.2 : Nat) : Int), .pointer (some ⟨b18, 0, none⟩), ck⟩] = (ns ++ [(⟨b18, ck, z1.2, par, dir, nm, none, 0, [], none, 0, [], ⟨15, 0, z3.2, z4.2, z5.2, z6.2, z7.2⟩⟩ : Nd)]).map Nd.me := by rw [List.map_append]; rfl
      rw [hme]; obtain ⟨z, hz⟩ : ∃ z : Nd, z = (⟨b18, ck, z1.2, par, dir, nm, none, 0, [], none, 0, [], ⟨15, 0, z3.2, z4.2, z5.2, z6.2, z7.2⟩⟩ : Nd) := ⟨_, rfl⟩
      rw [← hz]; have zid : z.id = z1.2 := by rw [hz]
      have zpar : z.par = par := by rw [hz]
      have zdir : z.dir = dir := by rw [hz]
      have znm : z.name = nm := by rw [hz]
      have zk : z.kids = [] := by rw [hz]
      have zdd : z.data = [] := by rw [hz]
      have za : z.a.Ok ∧ z.a.s = 0 ∧ z.a.f = 15 := by rw [hz]; exact ⟨⟨(show 15 < 4294967296 by decide), (show 0 < 18446744073709551616 by decide), l3, l4, l5, l6, l7⟩, rfl, rfl⟩
      have za2 : z.a = ⟨15, 0, z3.2, z4.2, z5.2, z6.2, z7.2⟩ := by rw [hz]
      obtain rfl : b18 = z.blk := by rw [hz]
      have hids2 : ((ns ++ [z]).map Nd.id).Nodup := nodup_snoc hids fun u hu => by rw [zid]; exact hfr u hu
      have hblk2 : ((ns ++ [z]).map Nd.blk).Nodup := nodup_snoc hblks hnew
      have hzx : (ns ++ [z])[ns.length]? = some z := by rw [List.getElem?_append_right (Nat.le_refl _), Nat.sub_self]; rfl
      have hzin : z ∈ ns ++ [z] := List.mem_append_right _ (List.mem_singleton_self z)
      clear hz hme; refine zK (zH rfl (zL rfl) rfl (zH rfl (zU rfl) rfl (zH rfl (zP fa98_1 rfl) rfl (zH rfl (zW sc4 rfl (zy4 0 rfl ((nds_rdn hzin 1 _ rfl)))) rfl (zH rfl (qy rfl rfl) rfl ?_))))); refine zN (zI (zq rfl (fun hc87 => ?_) (fun hc87 => ?_)))
      ·simp only [Bool.and_eq_true, decide_eq_true_eq, Bool.not_eq_true', decide_eq_false_iff_not, bne_iff_ne, ne_eq] at hc87; have hd : z.dir = false := by simpa using hc87
       refine zM (qD (fun w F s => nds_op hzx s) ?_); refine zK (zH rfl (zL rfl) rfl (zH rfl (zL rfl) rfl (zT rfl (zb Tryz.call51 rfl rfl (by repeat (first | exact zR _ | apply zG 0 rfl | apply zG 1 rfl | apply zG 2 rfl | apply zG 3 rfl | apply zG 4 rfl | apply zG 5 rfl | apply zG 6 rfl | apply zG 7 rfl)) (rText_spec pr p c z7.1 g7 1048576 (by omega))) rfl ?_))); rintro _ H' ⟨_, ⟨rfl, rfl⟩, hH⟩; simp only [zy7] at hH; subst hH; obtain ⟨y8, e8⟩ : ∃ y, z7.1.text 1048576 = y := ⟨_, rfl⟩
       rw [e8]; have g8 : y8.1.Good := e8 ▸ R.good_text g7 1048576
       have ly8 : y8.2.length ≤ 140737488355328 := e8 ▸ text_le g7 1048576
       refine zT rfl (eff_toBytesS Tryz.underlying9 Tryz.underlying25 Tryz.underlying5 rfl (by simp only [maxLen]; omega)) rfl ?_; rintro _ _ ⟨b91, c91, rfl, rfl⟩; refine zH rfl (zU rfl) rfl (zH rfl (zP fa98_4 rfl) rfl (zo rfl (qP 3 sc25 rfl rfl rfl rfl (zy1 rfl) (zg _)) rfl ?_)); rintro _ _ rfl; refine zN (zI (zM (q8 (L := [own z.blk (.cells (Nd.cs { z with dp := some ⟨b91, 0, none⟩, dc := c91, data := y8.2 }).toArray 98 (0, 0)), rowP z.kp z.kc z.kids, rowD (some ⟨b91, 0, none⟩) c91 y8.2, nds ((ns ++ [z]).eraseIdx ns.length), own tb (.cells ([rv, .map (some mb), .int .i64 nx, .int .i64 ((bs : Nat) : Int)] : List Value).toArray 95 (0, 0)), own mb (mapO ((ns ++ [z]).map Nd.me) (ck + 1)), own pr (.cells [Value.slice p y8.1.b.length c, .int .i64 y8.1.pos, .int .i64 y8.1.why, .int .i64 y8.1.place].toArray 140 (0, 0)), row 5 1 (.slice p y8.1.b.length c) y8.1.b.length (cel y8.1.b)]) (by repeat (first | exact zY _ | refine zJ 0 rfl ?_ | refine zJ 1 rfl ?_ | refine zJ 2 rfl ?_ | refine zJ 3 rfl ?_ | refine zJ 4 rfl ?_ | refine zJ 5 rfl ?_ | refine zJ 6 rfl ?_ | refine zJ 7 rfl ?_ | refine SubH.rown ?_)) ?_))); refine qD (fun w F s => nds_cl (y := { z with dp := some ⟨b91, 0, none⟩, dc := c91, data := y8.2 }) hzx s) ?_; rw [set_snoc, me_snoc (z := z) (y := { z with dp := some ⟨b91, 0, none⟩, dc := c91, data := y8.2 }) rfl]
       have hyin : { z with dp := some ⟨b91, 0, none⟩, dc := c91, data := y8.2 } ∈ ns ++ [{ z with dp := some ⟨b91, 0, none⟩, dc := c91, data := y8.2 }] := List.mem_append_right _ (List.mem_singleton_self _)
       refine qZ 10 (by kernel_rfl) (Split.all _) ?_; refine zRO (i := 0) (by kernel_rfl) rfl rfl (zL rfl) rfl (zRO (i := 1) (by kernel_rfl) rfl rfl (zU rfl) rfl (zRO (i := 2) (by kernel_rfl) rfl rfl (zP fa95_3 rfl) rfl (zRO (i := 3) (by kernel_rfl) rfl rfl (zW sc3 rfl (zy4 1 rfl (Rd.own rfl))) rfl (zRO (i := 4) (by kernel_rfl) rfl rfl (zL rfl) rfl (zRO (i := 5) (by kernel_rfl) rfl rfl (zU rfl) rfl ?_))))); refine zRO (i := 6) (by kernel_rfl) rfl rfl (zP fa98_4 rfl) rfl (zRO (i := 7) (by kernel_rfl) rfl rfl (zW sc25 rfl (zy4 0 rfl ((nds_rdn hyin 4 _ rfl)))) rfl (zRO (i := 8) (by kernel_rfl) rfl rfl (zw Tryz.underlying25 rfl) rfl ?_)); refine xQ (i := 9) (by kernel_rfl) rfl rfl (ql rfl rfl (show IntKind.i64.wrap ((bs : Int) + ((y8.2.length : Nat) : Int)) = ((bs + y8.2.length : Nat) : Int) by rw [qU (by omega) (by omega)]; omega)) rfl (fun _ _ _ h => h) (qR (m' := 13) (L' := []) (by kernel_rfl) qx ?_); simp only [zA, zB, List.append_nil]; refine zRO (i := 10) (by kernel_rfl) rfl rfl (zU rfl) rfl (zRO (i := 11) (by kernel_rfl) rfl rfl (zP fa95_3 rfl) rfl (qq (i := 12) (by kernel_rfl) rfl rfl (qP 1 sc3 rfl rfl rfl rfl (zy1 rfl) (zg _)) rfl ?_)); rintro _ _ rfl; refine qT (by kernel_rfl) ?_; refine zI (zM (zM (zK (zH rfl (zL rfl) rfl (zT rfl (zb Tryz.call98 rfl rfl (by repeat (first | exact zR _ | apply zG 0 rfl | apply zG 1 rfl | apply zG 2 rfl | apply zG 3 rfl | apply zG 4 rfl | apply zG 5 rfl | apply zG 6 rfl | apply zG 7 rfl)) (fine_spec pr p c y8.1)) rfl ?_))))); rintro _ H' ⟨_, ⟨rfl, rfl⟩, hH⟩; simp only [zy7] at hH; subst hH; refine zH rfl (qy rfl rfl) rfl (qi rfl rfl rfl (fun hg109 => ?_) (fun hg109 => ?_))
       ·simp only [Bool.and_eq_true, decide_eq_true_eq, Bool.not_eq_true', decide_eq_false_iff_not, bne_iff_ne, ne_eq] at hg109; refine zZ rfl rfl (zZ rfl rfl (zZ rfl rfl (zZ rfl rfl (zZ rfl rfl (zH rfl (zr rfl rfl) rfl ?_))))); refine zN (zI (qG rfl ?_)); refine zM (q8 (L := [own tb (.cells ([rv, .map (some mb), .int .i64 nx, .int .i64 (((bs + y8.2.length) : Nat) : Int)] : List Value).toArray 95 (0, 0))]) (by repeat (first | exact zY _ | refine zJ 0 rfl ?_ | refine zJ 1 rfl ?_ | refine zJ 2 rfl ?_ | refine zJ 3 rfl ?_ | refine zJ 4 rfl ?_ | refine zJ 5 rfl ?_ | refine zJ 6 rfl ?_ | refine zJ 7 rfl ?_ | refine SubH.rown ?_)) ?_); refine qD (H' := [own tb (.cells ([rv, .map (some mb), .int .i64 nx, .int .i64 (((bs + y8.2.length) : Nat) : Int)] : List Value).toArray 95 (0, 0)), GetA (ns) mb pr p c (none)]) (fun w F s => xY s) ?_; refine zK (zH rfl (zO rfl) rfl (zN (zI (zi ?_)))); refine zh ?_; refine zh ?_; refine' zX (qk rfl rfl) ?_ ?_
        rotate_left 1
        refine ⟨none, bs + y8.2.length, rfl, fun s h => (by cases h), fun t0 r0 x0 n0 rest hF => ?_, rfl⟩; obtain ⟨f1, f2, f3, f4, f5⟩ := fit_ok (fit_hd e1 e2 e3 e4 e5 e6 e7 hF)
        exfalso
        first
         | (obtain ⟨k1, k2, k3, k4, k5⟩ := fit_file (fit_hd e1 e2 e3 e4 e5 e6 e7 hF) (by rw [hd] at zdir; simpa using zdir.trans hdir |>.symm) e8
            first | exact absurd k1.why (by simpa using hg109) | omega)
        exact zj _
       ·simp only [Bool.and_eq_false_iff, decide_eq_false_iff_not, Bool.not_eq_false', decide_eq_true_eq] at hg109; refine zH rfl (zL rfl) rfl (zH rfl (zU rfl) rfl (zH rfl (zP fa95_3 rfl) rfl (zH rfl (zW sc3 rfl (zy4 3 rfl (Rd.own rfl))) rfl (zH rfl (yd rfl rfl rfl) rfl (zH rfl (zr rfl rfl) rfl ?_))))); refine zN (zI (zq rfl (fun hc115 => ?_) (fun hc115 => ?_)))
        ·replace hc115 := zy2 hc115
         refine zM (q8 (L := [own tb (.cells ([rv, .map (some mb), .int .i64 nx, .int .i64 (((bs + y8.2.length) : Nat) : Int)] : List Value).toArray 95 (0, 0))]) (by repeat (first | exact zY _ | refine zJ 0 rfl ?_ | refine zJ 1 rfl ?_ | refine zJ 2 rfl ?_ | refine zJ 3 rfl ?_ | refine zJ 4 rfl ?_ | refine zJ 5 rfl ?_ | refine zJ 6 rfl ?_ | refine zJ 7 rfl ?_ | refine SubH.rown ?_)) ?_); refine qD (H' := [own tb (.cells ([rv, .map (some mb), .int .i64 nx, .int .i64 (((bs + y8.2.length) : Nat) : Int)] : List Value).toArray 95 (0, 0)), GetA (ns) mb pr p c (none)]) (fun w F s => xY s) ?_; refine zK (zH rfl (zO rfl) rfl (zN (zI (zi ?_)))); refine zh ?_; refine zh ?_; refine' zX (qk rfl rfl) ?_ ?_
         rotate_left 1
         refine ⟨none, bs + y8.2.length, rfl, fun s h => (by cases h), fun t0 r0 x0 n0 rest hF => ?_, rfl⟩; obtain ⟨f1, f2, f3, f4, f5⟩ := fit_ok (fit_hd e1 e2 e3 e4 e5 e6 e7 hF)
         exfalso
         first
          | (obtain ⟨k1, k2, k3, k4, k5⟩ := fit_file (fit_hd e1 e2 e3 e4 e5 e6 e7 hF) (by rw [hd] at zdir; simpa using zdir.trans hdir |>.symm) e8
             first | exact absurd k1.why (by simpa using hg109) | omega)
         exact zj _
        ·replace hc115 := zy3 hc115
         refine zl ?_; refine zI (zM (q8 (L := [own tb (.cells ([rv, .map (some mb), .int .i64 nx, .int .i64 (((bs + y8.2.length) : Nat) : Int)] : List Value).toArray 95 (0, 0)), own mb (mapO ((ns ++ [{ z with dp := some ⟨b91, 0, none⟩, dc := c91, data := y8.2 }]).map Nd.me) (ck + 1)), nds (ns ++ [{ z with dp := some ⟨b91, 0, none⟩, dc := c91, data := y8.2 }]), own pr (.cells [Value.slice p y8.1.b.length c, .int .i64 y8.1.pos, .int .i64 y8.1.why, .int .i64 y8.1.place].toArray 140 (0, 0)), row 5 1 (.slice p y8.1.b.length c) y8.1.b.length (cel y8.1.b)]) (by repeat (first | exact zY _ | refine zJ 0 rfl ?_ | refine zJ 1 rfl ?_ | refine zJ 2 rfl ?_ | refine zJ 3 rfl ?_ | refine zJ 4 rfl ?_ | refine zJ 5 rfl ?_ | refine zJ 6 rfl ?_ | refine zJ 7 rfl ?_ | refine SubH.rown ?_)) ?_)); refine qD (H' := [own tb (.cells ([rv, .map (some mb), .int .i64 nx, .int .i64 (((bs + y8.2.length) : Nat) : Int)] : List Value).toArray 95 (0, 0)), GetA (ns) mb pr p c (some ⟨{ z with dp := some ⟨b91, 0, none⟩, dc := c91, data := y8.2 }, [{ z with dp := some ⟨b91, 0, none⟩, dc := c91, data := y8.2 }], bs + y8.2.length, ck + 1, y8.1⟩)]) (fun w F s => get_some s) ?_; refine zK (zH rfl (zL rfl) rfl (zH rfl (zO rfl) rfl (zN (zI (zi ?_))))); refine zh ?_; refine' zX (qk rfl rfl) ?_ ?_
         rotate_left 1
         refine ⟨some ⟨{ z with dp := some ⟨b91, 0, none⟩, dc := c91, data := y8.2 }, [{ z with dp := some ⟨b91, 0, none⟩, dc := c91, data := y8.2 }], bs + y8.2.length, ck + 1, y8.1⟩, bs + y8.2.length, rfl, fun s h => ?_, fun t0 r0 x0 n0 rest hF => ?_, rfl⟩
         ·injection h with h
          subst h
          exact ⟨⟨sb_file hids2 hblk2 (by rw [zpar]; exact hout) (by rw [zid]; omega) zk hd za zpar znm, by show (ns ++ [{ z with dp := some ⟨b91, 0, none⟩, dc := c91, data := y8.2 }]).length ≤ 200; rw [List.length_append]; simp only [List.length_cons, List.length_nil]; omega, by show _ = bs + szs [{ z with dp := some ⟨b91, 0, none⟩, dc := c91, data := y8.2 }]; rw [szs_cons]; rfl, by show bs + y8.2.length ≤ 1048576; omega, g8⟩, rfl⟩
         ·obtain ⟨k1, k2, k3, k4, k5⟩ := fit_file (fit_hd e1 e2 e3 e4 e5 e6 e7 hF) (by rw [hd] at zdir; simpa using zdir.trans hdir |>.symm) e8
          exact ⟨_, rfl, k1, by rw [← k4, ← zid]; rfl, by rw [k5], enc_file (fit_hd e1 e2 e3 e4 e5 e6 e7 hF) (by rw [hd] at zdir; simpa using zdir.trans hdir |>.symm) zid zk hd za2 k2⟩
         exact zj _
      ·simp only [Bool.and_eq_false_iff, decide_eq_false_iff_not, Bool.not_eq_false', decide_eq_true_eq] at hc87; have hd : z.dir = true := by simpa using hc87
       refine zl ?_; refine zI (zM (zM (zK (zH rfl (zL rfl) rfl (zT rfl (zb Tryz.call101 rfl rfl (by repeat (first | exact zR _ | apply zG 0 rfl | apply zG 1 rfl | apply zG 2 rfl | apply zG 3 rfl | apply zG 4 rfl | apply zG 5 rfl | apply zG 6 rfl | apply zG 7 rfl)) (yk pr p c z7.1 g7.len g7.pos)) rfl ?_))))); rintro _ H' ⟨_, ⟨rfl, rfl⟩, hH⟩; simp only [zy7] at hH; subst hH; obtain ⟨z8, e8⟩ : ∃ z, z7.1.get 4 = z := ⟨_, rfl⟩
       rw [e8]; have g8 : z8.1.Good := e8 ▸ R.good_get g7 4
       have l8 : z8.2 < 4294967296 := by have h := yt z7.1 4; rw [e8] at h; simpa only [Nat.reducePow] using h
       have hsb : Sb ns [z] z par nm nx := by have h := sb_one zk hids2 hblk2 (by rw [zpar]; exact hout) (show (z.id : Int) < nx by rw [zid]; omega) (fun _ => zdd) za; rw [zpar, znm] at h; exact h
       refine zH rfl (zO rfl) rfl (zN (zI (qA ?_))); refine yQ 13 (fun m Δ LL => ∃ (n : Nat) (A : List Nd) (x : Nd) (bs1 ck1 : Nat) (r1 : R), (n = m ∧ n < 4294967296 ∧ x.blk = z.blk ∧ Sb ns A x par nm nx ∧ x.dir = true ∧ (ns ++ A).length ≤ 200 ∧ ns.length + 1 ≤ (ns ++ A).length ∧ bs1 = bs + szs A ∧ bs1 ≤ 1048576 ∧ r1.Good ∧ (∀ t0 r0 x0 n0 rest, Fit t0 r0 x0 n0 rest ns bs nx r → ∃ i, Lf t0 r0 x0 n0 rest ns bs nx i A x bs1 n r1)) ∧ Δ = [(8, .int .u32 (n : Nat))] ∧ LL = [nds (ns ++ A), own tb (.cells ([rv, .map (some mb), .int .i64 nx, .int .i64 ((bs1 : Nat) : Int)] : List Value).toArray 95 (0, 0)), own mb (mapO ((ns ++ A).map Nd.me) ck1), own pr (.cells [Value.slice p r1.b.length c, .int .i64 r1.pos, .int .i64 r1.why, .int .i64 r1.place].toArray 140 (0, 0)), row 5 1 (.slice p r1.b.length c) r1.b.length (cel r1.b)]) (m := z8.2) (zS (k := 0) rfl (zS (k := 1) rfl (zS (k := 7) rfl (zf _)))) (qn ⟨z8.2, [z], z, bs, ck + 1, z8.1, ⟨rfl, l8, rfl, hsb, hd, by rw [List.length_append]; simp only [List.length_cons, List.length_nil]; omega, by rw [List.length_append]; simp only [List.length_cons, List.length_nil]; omega, by rw [szs_cons, zdd]; rfl, hbs, g8, fun t0 r0 x0 n0 rest hF => ⟨0, fit_dir (fit_hd e1 e2 e3 e4 e5 e6 e7 hF) (by rw [hd] at zdir; simpa using zdir.trans hdir |>.symm) e8 zid zk hd za2⟩⟩, rfl, rfl⟩ (by repeat (first | exact zf _ | refine zS rfl ?_)) (by repeat (first | exact zf _ | refine zS rfl ?_)) (by repeat (first | exact zY _ | refine zJ 0 rfl ?_ | refine zJ 1 rfl ?_ | refine zJ 2 rfl ?_ | refine zJ 3 rfl ?_ | refine zJ 4 rfl ?_ | refine zJ 5 rfl ?_ | refine zJ 6 rfl ?_ | refine zJ 7 rfl ?_ | refine SubH.rown ?_))) ?_; rintro m Δ LL ⟨n, A, x, bs1, ck1, r1, ⟨hnm, hn32, hxz, hA, hxd, hln, hln1, hbs1, hbm1, hg1, hLF⟩, rfl, rfl⟩; simp only [zA, zB]; refine zM (zM (zK (zH rfl (zL rfl) rfl (zH rfl (yd rfl rfl rfl) rfl (zN ?_))))); refine zI (zq rfl (fun hc120 => ?_) (fun hc120 => ?_))
       ·replace hc120 := zy2 hc120
        have hxin : x ∈ ns ++ A := List.mem_append_right _ hA.root
        have hrx : RdN (nds (ns ++ A)) z.blk 0 x.cs := by rw [← hxz]; exact nds_rdn hxin
        have hxk := nds_kids hxin
        have hkl := kids_le hA.kd hA.root
        have hAl : A.length ≤ 200 := by rw [List.length_append] at hln; omega
        refine zl ?_; refine zI (zM (qA ?_)); refine zM (zK (zH rfl (zL rfl) rfl (zT rfl (zb Tryz.call51 rfl rfl (by repeat (first | exact zR _ | apply zG 0 rfl | apply zG 1 rfl | apply zG 2 rfl | apply zG 3 rfl | apply zG 4 rfl | apply zG 5 rfl | apply zG 6 rfl | apply zG 7 rfl)) (rText_spec pr p c r1 hg1 30 (by omega))) rfl ?_))); rintro _ H' ⟨_, ⟨rfl, rfl⟩, hH⟩; simp only [zy7] at hH; subst hH; obtain ⟨y9, e9⟩ : ∃ y, r1.text 30 = y := ⟨_, rfl⟩
        rw [e9]; have g9 : y9.1.Good := e9 ▸ R.good_text hg1 30
        have ly9 : y9.2.length ≤ 140737488355328 := e9 ▸ text_le hg1 30
        refine zH rfl (zO rfl) rfl (zN (zI ?_)); refine yO 1018 (fun Δ LL => (ptOk y9.2 = true ∧ (∀ l ∈ x.kids.map (nmB A), cmp l y9.2 < 0)) ∧ Δ = [] ∧ LL = [nds (ns ++ A), own tb (.cells ([rv, .map (some mb), .int .i64 nx, .int .i64 ((bs1 : Nat) : Int)] : List Value).toArray 95 (0, 0)), own mb (mapO ((ns ++ A).map Nd.me) ck1), own pr (.cells [Value.slice p y9.1.b.length c, .int .i64 y9.1.pos, .int .i64 y9.1.why, .int .i64 y9.1.place].toArray 140 (0, 0)), row 5 1 (.slice p y9.1.b.length c) y9.1.b.length (cel y9.1.b)]) (zS (k := 0) rfl (zS (k := 1) rfl (zS (k := 7) rfl (zS (k := 8) rfl (zS (k := 9) rfl (zf _)))))) ?_ ?_
        ·refine zM ?_; refine yN (p := x.kids.length ≠ 0 → ∃ b o, x.kp = some ⟨b, o, none⟩) (fun w F s h0 => vw_ptr (zy5 (H := [_, _, nds (ns ++ A), _, _]) 2 rfl hxk) s h0) ?_; intro hkp0; refine qZ 35 (by kernel_rfl) (zG 2 rfl (zR _)) ?_; refine zRO (i := 0) (by kernel_rfl) rfl rfl (zL rfl) rfl (qM (i := 1) (by kernel_rfl) rfl rfl (zb Tryz.call98 rfl rfl (by repeat (first | exact zR _ | apply zG 0 rfl | apply zG 1 rfl | apply zG 2 rfl | apply zG 3 rfl | apply zG 4 rfl | apply zG 5 rfl | apply zG 6 rfl | apply zG 7 rfl)) (fine_spec pr p c y9.1)) rfl ?_); rintro _ H' ⟨_, ⟨rfl, rfl⟩, hH⟩; simp only [zy7] at hH; subst hH; refine zRO (i := 2) (by kernel_rfl) rfl rfl (qy rfl rfl) rfl (yA (i := 3) (by kernel_rfl) rfl rfl rfl rfl (fun _ _ _ h => h) (fun hg128 => ?_) (fun hg128 => ?_))
         ·simp only [Bool.and_eq_true, decide_eq_true_eq, Bool.not_eq_true', decide_eq_false_iff_not, bne_iff_ne, ne_eq] at hg128; refine zSK (i := 4) (by kernel_rfl) rfl rfl rfl (zSK (i := 5) (by kernel_rfl) rfl rfl rfl (zSK (i := 6) (by kernel_rfl) rfl rfl rfl (zRO (i := 7) (by kernel_rfl) rfl rfl (zr rfl rfl) rfl (zRO (i := 8) (by kernel_rfl) rfl rfl (zL (v := .bool true) rfl) rfl (zSK (i := 9) (by kernel_rfl) rfl rfl rfl ?_))))); refine zSK (i := 10) (by kernel_rfl) rfl rfl rfl (zSK (i := 11) (by kernel_rfl) rfl rfl rfl (zSK (i := 12) (by kernel_rfl) rfl rfl rfl (zSK (i := 13) (by kernel_rfl) rfl rfl rfl (zSK (i := 14) (by kernel_rfl) rfl rfl rfl (zSK (i := 15) (by kernel_rfl) rfl rfl rfl ?_))))); refine zSK (i := 16) (by kernel_rfl) rfl rfl rfl (zSK (i := 17) (by kernel_rfl) rfl rfl rfl (zSK (i := 18) (by kernel_rfl) rfl rfl rfl (zSK (i := 19) (by kernel_rfl) rfl rfl rfl ?_)))
          try rw [hkp]
          refine zSK (i := 20) (by kernel_rfl) rfl rfl rfl (zSK (i := 21) (by kernel_rfl) rfl rfl rfl (zSK (i := 22) (by kernel_rfl) rfl rfl rfl (zSK (i := 23) (by kernel_rfl) rfl rfl rfl (zSK (i := 24) (by kernel_rfl) rfl rfl rfl (zSK (i := 25) (by kernel_rfl) rfl rfl rfl ?_))))); refine zSK (i := 26) (by kernel_rfl) rfl rfl rfl (zSK (i := 27) (by kernel_rfl) rfl rfl rfl ?_)
          try rw [← hvb]
          refine zSK (i := 28) (by kernel_rfl) rfl rfl rfl (zSK (i := 29) (by kernel_rfl) rfl rfl rfl (zSK (i := 30) (by kernel_rfl) rfl rfl rfl (zSK (i := 31) (by kernel_rfl) rfl rfl rfl (zSK (i := 32) (by kernel_rfl) rfl rfl rfl (zSK (i := 33) (by kernel_rfl) rfl rfl rfl ?_))))); refine zRO (i := 34) (by kernel_rfl) rfl rfl (zr rfl rfl) rfl (qm (by kernel_rfl) ?_); refine zI (qG rfl ?_); refine zM (q8 (L := [own tb (.cells ([rv, .map (some mb), .int .i64 nx, .int .i64 ((bs1 : Nat) : Int)] : List Value).toArray 95 (0, 0))]) (by repeat (first | exact zY _ | refine zJ 0 rfl ?_ | refine zJ 1 rfl ?_ | refine zJ 2 rfl ?_ | refine zJ 3 rfl ?_ | refine zJ 4 rfl ?_ | refine zJ 5 rfl ?_ | refine zJ 6 rfl ?_ | refine zJ 7 rfl ?_ | refine SubH.rown ?_)) ?_); refine qD (H' := [own tb (.cells ([rv, .map (some mb), .int .i64 nx, .int .i64 ((bs1 : Nat) : Int)] : List Value).toArray 95 (0, 0)), GetA (ns) mb pr p c (none)]) (fun w F s => xY s) ?_; refine zK (zH rfl (zO rfl) rfl (zN (zI (zi ?_)))); refine zh ?_; refine zn ?_; refine zh ?_; refine zh ?_; refine zn ?_; refine zh ?_; refine' zX (qk rfl rfl) ?_ ?_
          rotate_left 1
          refine ⟨none, bs1, rfl, fun s h => (by cases h), fun t0 r0 x0 n0 rest hF => ?_, rfl⟩; obtain ⟨i, hL⟩ := hLF t0 r0 x0 n0 rest hF
          obtain ⟨k0, k1, k2, k3, k4, k5, _⟩ := lf_kid hL (by omega) e9
          exfalso
          first
           | (exact absurd k3 (by simpa using hg128))
           | (rw [k4] at hg133; exact absurd hg133 (by decide))
           | (exact absurd (k5 v.name (List.mem_of_getElem? hvn)) (by simpa using hc159))
          exact zj _
         ·simp only [Bool.and_eq_false_iff, decide_eq_false_iff_not, Bool.not_eq_false', decide_eq_true_eq] at hg128; refine zRO (i := 4) (by kernel_rfl) rfl rfl (zL rfl) rfl (qM (i := 5) (by kernel_rfl) rfl rfl (zb Tryz.call74 rfl rfl (by repeat (first | exact zR _ | apply zG 0 rfl | apply zG 1 rfl | apply zG 2 rfl | apply zG 3 rfl | apply zG 4 rfl | apply zG 5 rfl | apply zG 6 rfl | apply zG 7 rfl)) (ptRight_spec y9.2 (by omega))) rfl ?_); rintro _ H' ⟨_, ⟨rfl, rfl⟩, hH⟩; simp only [zy7] at hH; subst hH; refine zRO (i := 6) (by kernel_rfl) rfl rfl (qy rfl rfl) rfl (zRO (i := 7) (by kernel_rfl) rfl rfl (zr rfl rfl) rfl (yA (i := 8) (by kernel_rfl) rfl rfl rfl rfl (fun _ _ _ h => h) (fun hg133 => ?_) (fun hg133 => ?_)))
          ·simp only [Bool.and_eq_true, decide_eq_true_eq, Bool.not_eq_true', decide_eq_false_iff_not, bne_iff_ne, ne_eq] at hg133; refine zSK (i := 9) (by kernel_rfl) rfl rfl rfl (zSK (i := 10) (by kernel_rfl) rfl rfl rfl (zSK (i := 11) (by kernel_rfl) rfl rfl rfl (zSK (i := 12) (by kernel_rfl) rfl rfl rfl (zSK (i := 13) (by kernel_rfl) rfl rfl rfl (zSK (i := 14) (by kernel_rfl) rfl rfl rfl ?_))))); refine zSK (i := 15) (by kernel_rfl) rfl rfl rfl (zSK (i := 16) (by kernel_rfl) rfl rfl rfl (zSK (i := 17) (by kernel_rfl) rfl rfl rfl (zSK (i := 18) (by kernel_rfl) rfl rfl rfl (zSK (i := 19) (by kernel_rfl) rfl rfl rfl ?_))))
           try rw [hkp]
           refine zSK (i := 20) (by kernel_rfl) rfl rfl rfl (zSK (i := 21) (by kernel_rfl) rfl rfl rfl (zSK (i := 22) (by kernel_rfl) rfl rfl rfl (zSK (i := 23) (by kernel_rfl) rfl rfl rfl (zSK (i := 24) (by kernel_rfl) rfl rfl rfl (zSK (i := 25) (by kernel_rfl) rfl rfl rfl ?_))))); refine zSK (i := 26) (by kernel_rfl) rfl rfl rfl (zSK (i := 27) (by kernel_rfl) rfl rfl rfl ?_)
           try rw [← hvb]
           refine zSK (i := 28) (by kernel_rfl) rfl rfl rfl (zSK (i := 29) (by kernel_rfl) rfl rfl rfl (zSK (i := 30) (by kernel_rfl) rfl rfl rfl (zSK (i := 31) (by kernel_rfl) rfl rfl rfl (zSK (i := 32) (by kernel_rfl) rfl rfl rfl (zSK (i := 33) (by kernel_rfl) rfl rfl rfl ?_))))); refine zRO (i := 34) (by kernel_rfl) rfl rfl (zr rfl rfl) rfl (qm (by kernel_rfl) ?_); refine zI (qG rfl ?_); refine zM (q8 (L := [own tb (.cells ([rv, .map (some mb), .int .i64 nx, .int .i64 ((bs1 : Nat) : Int)] : List Value).toArray 95 (0, 0))]) (by repeat (first | exact zY _ | refine zJ 0 rfl ?_ | refine zJ 1 rfl ?_ | refine zJ 2 rfl ?_ | refine zJ 3 rfl ?_ | refine zJ 4 rfl ?_ | refine zJ 5 rfl ?_ | refine zJ 6 rfl ?_ | refine zJ 7 rfl ?_ | refine SubH.rown ?_)) ?_); refine qD (H' := [own tb (.cells ([rv, .map (some mb), .int .i64 nx, .int .i64 ((bs1 : Nat) : Int)] : List Value).toArray 95 (0, 0)), GetA (ns) mb pr p c (none)]) (fun w F s => xY s) ?_; refine zK (zH rfl (zO rfl) rfl (zN (zI (zi ?_)))); refine zh ?_; refine zn ?_; refine zh ?_; refine zh ?_; refine zn ?_; refine zh ?_; refine' zX (qk rfl rfl) ?_ ?_
           rotate_left 1
           refine ⟨none, bs1, rfl, fun s h => (by cases h), fun t0 r0 x0 n0 rest hF => ?_, rfl⟩; obtain ⟨i, hL⟩ := hLF t0 r0 x0 n0 rest hF
           obtain ⟨k0, k1, k2, k3, k4, k5, _⟩ := lf_kid hL (by omega) e9
           exfalso
           first
            | (exact absurd k3 (by simpa using hg128))
            | (rw [k4] at hg133; exact absurd hg133 (by decide))
            | (exact absurd (k5 v.name (List.mem_of_getElem? hvn)) (by simpa using hc159))
           exact zj _
          ·simp only [Bool.and_eq_false_iff, decide_eq_false_iff_not, Bool.not_eq_false', decide_eq_true_eq] at hg133; refine zRO (i := 9) (by kernel_rfl) rfl rfl (zL rfl) rfl (zRO (i := 10) (by kernel_rfl) rfl rfl (zU rfl) rfl (zRO (i := 11) (by kernel_rfl) rfl rfl (zP xP rfl) rfl (zRO (i := 12) (by kernel_rfl) rfl rfl (zW sc96 rfl (zy4 0 rfl ((hrx 3 _ rfl)))) rfl (zRO (i := 13) (by kernel_rfl) rfl rfl (zw Tryz.underlying96 rfl) rfl (zRO (i := 14) (by kernel_rfl) rfl rfl (yd rfl rfl rfl) rfl ?_))))); refine yA (i := 15) (by kernel_rfl) rfl rfl rfl rfl (fun _ _ _ h => h) (fun hg140 => ?_) (fun hg140 => ?_)
           ·replace hg140 := zy2 hg140
            have hl1 : x.kids.length - 1 < x.kids.length := by omega
            obtain ⟨v, hv, hvb, hvp⟩ := hA.kd.sub x hA.root x.kids[x.kids.length - 1] (List.getElem_mem hl1)
            have hvin : v ∈ ns ++ A := List.mem_append_right _ hv
            have hvn : (x.kids.map (nmB A))[(x.kids.map (nmB A)).length - 1]? = some v.name := by rw [List.length_map, List.getElem?_map, List.getElem?_eq_getElem hl1, ← hvb]; show some (nmB A v.blk) = _; rw [xU hA.kd.blks hv]
            obtain ⟨b1, o1, hkp⟩ := hkp0 (by omega)
            rw [hkp] at hxk; refine zRO (i := 16) (by kernel_rfl) rfl rfl (zL rfl) rfl (zRO (i := 17) (by kernel_rfl) rfl rfl (zU rfl) rfl (zRO (i := 18) (by kernel_rfl) rfl rfl (zP xP rfl) rfl (zRO (i := 19) (by kernel_rfl) rfl rfl (zW sc96 rfl (zy4 0 rfl ((hrx 3 _ rfl)))) rfl ?_)))
            try rw [hkp]
            refine zRO (i := 20) (by kernel_rfl) rfl rfl (zL rfl) rfl (zRO (i := 21) (by kernel_rfl) rfl rfl (zU rfl) rfl (zRO (i := 22) (by kernel_rfl) rfl rfl (zP xP rfl) rfl (zRO (i := 23) (by kernel_rfl) rfl rfl (zW sc96 rfl (zy4 0 rfl ((hrx 3 _ rfl)))) rfl (zRO (i := 24) (by kernel_rfl) rfl rfl (zw Tryz.underlying96 rfl) rfl (zRO (i := 25) (by kernel_rfl) rfl rfl (yi rfl rfl (xV (by omega) (by omega))) rfl ?_))))); refine zRO (i := 26) (by kernel_rfl) rfl rfl (qO sl96 rfl rfl rfl (by omega)) rfl (zRO (i := 27) (by kernel_rfl) rfl rfl (zW sc92 rfl (zy4 0 rfl (Rd.elem (j := 0) (ym hxk) Pq.len (List.getElem?_eq_getElem hl1) rfl))) rfl ?_)
            try rw [← hvb]
            refine zRO (i := 28) (by kernel_rfl) rfl rfl (zU rfl) rfl (zRO (i := 29) (by kernel_rfl) rfl rfl (zP fa98_2 rfl) rfl (zRO (i := 30) (by kernel_rfl) rfl rfl (zW sc9 rfl (zy4 0 rfl ((nds_rdn hvin 2 _ rfl)))) rfl (zRO (i := 31) (by kernel_rfl) rfl rfl (zL rfl) rfl (zRO (i := 32) (by kernel_rfl) rfl rfl (ro_geqS rfl rfl rfl) rfl (zRO (i := 33) (by kernel_rfl) rfl rfl (zr rfl rfl) rfl ?_))))); refine zRO (i := 34) (by kernel_rfl) rfl rfl (zr rfl rfl) rfl (qm (by kernel_rfl) ?_); refine zI (zq rfl (fun hc159 => ?_) (fun hc159 => ?_))
            ·simp only [Bool.and_eq_true, decide_eq_true_eq, Bool.not_eq_true', decide_eq_false_iff_not, bne_iff_ne, ne_eq] at hc159; refine zM (q8 (L := [own tb (.cells ([rv, .map (some mb), .int .i64 nx, .int .i64 ((bs1 : Nat) : Int)] : List Value).toArray 95 (0, 0))]) (by repeat (first | exact zY _ | refine zJ 0 rfl ?_ | refine zJ 1 rfl ?_ | refine zJ 2 rfl ?_ | refine zJ 3 rfl ?_ | refine zJ 4 rfl ?_ | refine zJ 5 rfl ?_ | refine zJ 6 rfl ?_ | refine zJ 7 rfl ?_ | refine SubH.rown ?_)) ?_); refine qD (H' := [own tb (.cells ([rv, .map (some mb), .int .i64 nx, .int .i64 ((bs1 : Nat) : Int)] : List Value).toArray 95 (0, 0)), GetA (ns) mb pr p c (none)]) (fun w F s => xY s) ?_; refine zK (zH rfl (zO rfl) rfl (zN (zI (zi ?_)))); refine zh ?_; refine zn ?_; refine zh ?_; refine zh ?_; refine zn ?_; refine zh ?_; refine' zX (qk rfl rfl) ?_ ?_
             rotate_left 1
             refine ⟨none, bs1, rfl, fun s h => (by cases h), fun t0 r0 x0 n0 rest hF => ?_, rfl⟩; obtain ⟨i, hL⟩ := hLF t0 r0 x0 n0 rest hF
             obtain ⟨k0, k1, k2, k3, k4, k5, _⟩ := lf_kid hL (by omega) e9
             exfalso
             first
              | (exact absurd k3 (by simpa using hg128))
              | (rw [k4] at hg133; exact absurd hg133 (by decide))
              | (exact absurd (k5 v.name (List.mem_of_getElem? hvn)) (by simpa using hc159))
             exact zj _
            ·simp only [Bool.and_eq_false_iff, decide_eq_false_iff_not, Bool.not_eq_false', decide_eq_true_eq] at hc159; refine zl ?_; refine zI (qc (qn ⟨⟨by simpa using hg133, rise_last (hA.kd.rise x hA.root) hvn (by simpa using hc159)⟩, rfl, rfl⟩ ?_ ?_ ?_))
             ·exact (by repeat (first | exact zf _ | refine zS rfl ?_))
             ·exact (by repeat (first | exact zf _ | refine zS rfl ?_))
             ·exact (zJ 0 rfl (zJ 2 rfl (zJ 2 rfl (zJ 0 rfl (zJ 0 rfl (zY _))))))
           ·replace hg140 := zy3 hg140
            refine zSK (i := 16) (by kernel_rfl) rfl rfl rfl (zSK (i := 17) (by kernel_rfl) rfl rfl rfl (zSK (i := 18) (by kernel_rfl) rfl rfl rfl (zSK (i := 19) (by kernel_rfl) rfl rfl rfl ?_)))
            try rw [hkp]
            refine zSK (i := 20) (by kernel_rfl) rfl rfl rfl (zSK (i := 21) (by kernel_rfl) rfl rfl rfl (zSK (i := 22) (by kernel_rfl) rfl rfl rfl (zSK (i := 23) (by kernel_rfl) rfl rfl rfl (zSK (i := 24) (by kernel_rfl) rfl rfl rfl (zSK (i := 25) (by kernel_rfl) rfl rfl rfl ?_))))); refine zSK (i := 26) (by kernel_rfl) rfl rfl rfl (zSK (i := 27) (by kernel_rfl) rfl rfl rfl ?_)
            try rw [← hvb]
            refine zSK (i := 28) (by kernel_rfl) rfl rfl rfl (zSK (i := 29) (by kernel_rfl) rfl rfl rfl (zSK (i := 30) (by kernel_rfl) rfl rfl rfl (zSK (i := 31) (by kernel_rfl) rfl rfl rfl (zSK (i := 32) (by kernel_rfl) rfl rfl rfl (zRO (i := 33) (by kernel_rfl) rfl rfl (zr rfl rfl) rfl ?_))))); refine zRO (i := 34) (by kernel_rfl) rfl rfl (zr rfl rfl) rfl (qm (by kernel_rfl) ?_); refine zI (qC rfl ?_); refine zl ?_; refine zI ?_; refine qc (qn ⟨⟨by simpa using hg133, fun l hl => (by rw [List.eq_nil_of_length_eq_zero (show x.kids.length = 0 by omega)] at hl; cases hl)⟩, rfl, rfl⟩ ?_ ?_ ?_)
            ·exact (by repeat (first | exact zf _ | refine zS rfl ?_))
            ·exact (by repeat (first | exact zf _ | refine zS rfl ?_))
            ·exact (zJ 0 rfl (zJ 2 rfl (zJ 2 rfl (zJ 0 rfl (zJ 0 rfl (zY _))))))
        ·rintro Δ LL ⟨⟨hok, hlast⟩, rfl, rfl⟩; simp only [zA, zB]; refine zM (zK (zH rfl (zL rfl) rfl (zH rfl (zL rfl) rfl (zH rfl (zL rfl) rfl (zT rfl (zb Tryz.call87 rfl rfl (by repeat (first | exact zR _ | apply zG 0 rfl | apply zG 1 rfl | apply zG 2 rfl | apply zG 3 rfl | apply zG 4 rfl | apply zG 5 rfl | apply zG 6 rfl | apply zG 7 rfl)) (IH tb mb ck1 rv nx bs1 (ns ++ A) pr p c y9.1 y9.2 (x.id : Int) (by omega) hln hbm1 g9 hA.ids hA.blks (.inr ⟨x, List.mem_append_right _ hA.root, rfl⟩))) rfl ?_))))); rintro _ H' ⟨_, ⟨g, bs2, rfl, hgs, hgc, rfl⟩, hH⟩; simp only [zy7] at hH; subst hH; refine zH rfl (zO rfl) rfl (zN (zI (zM (zM (zK ?_))))); refine zH rfl (zL rfl) rfl (zH rfl (qI Tryz.underlying92 rfl rfl rfl) rfl (zN (zI (zq rfl (fun hc165 => ?_) (fun hc165 => ?_)))))
         ·skip; refine zM (q8 (L := [own tb (.cells ([rv, .map (some mb), .int .i64 nx, .int .i64 ((bs2 : Nat) : Int)] : List Value).toArray 95 (0, 0))]) (by repeat (first | exact zY _ | refine zJ 0 rfl ?_ | refine zJ 1 rfl ?_ | refine zJ 2 rfl ?_ | refine zJ 3 rfl ?_ | refine zJ 4 rfl ?_ | refine zJ 5 rfl ?_ | refine zJ 6 rfl ?_ | refine zJ 7 rfl ?_ | refine SubH.rown ?_)) ?_); refine qD (H' := [own tb (.cells ([rv, .map (some mb), .int .i64 nx, .int .i64 ((bs2 : Nat) : Int)] : List Value).toArray 95 (0, 0)), GetA (ns) mb pr p c (none)]) (fun w F s => xY s) ?_; refine zK (zH rfl (zO rfl) rfl (zN (zI (zi ?_)))); refine zh ?_; refine zn ?_; refine zh ?_; refine zh ?_; refine zn ?_; refine zh ?_; refine' zX (qk rfl rfl) ?_ ?_
          rotate_left 1
          refine ⟨none, bs2, rfl, fun s h => (by cases h), fun t0 r0 x0 n0 rest hF => ?_, rfl⟩
          exfalso
          obtain ⟨i, hL⟩ := hLF t0 r0 x0 n0 rest hF
          obtain ⟨k0, k1, k2, k3, k4, k5, m0, rfl, hFk⟩ := lf_kid hL (by omega) e9
          obtain ⟨s, rfl, _⟩ := hgc t0 r0 k0 m0 _ hFk
          exact absurd hc165 (by simp [gptr])
          exact zj _
         ·skip
          obtain ⟨k, rfl⟩ : ∃ k, g = some k := by cases g with
           | none => exact absurd hc165 (by simp)
           | some k => exact ⟨k, rfl⟩
          obtain ⟨hG, rfl⟩ := hgs k rfl
          obtain ⟨ix, hix⟩ := List.mem_iff_getElem?.1 (List.mem_append_left k.A (List.mem_append_right ns hA.root))
          refine qD (fun w F s => get_open s) ?_; simp only [zA, zB]; have hkl := kids_le hA.kd hA.root
          have hAl : A.length ≤ 200 := by rw [List.length_append] at hln; omega
          refine zl ?_; refine zI (q8 (L := [nds (ns ++ A ++ k.A), own tb (.cells ([rv, .map (some mb), .int .i64 nx, .int .i64 ((k.bs : Nat) : Int)] : List Value).toArray 95 (0, 0)), own mb (mapO ((ns ++ A ++ k.A).map Nd.me) k.ck), own pr (.cells [Value.slice p k.r.b.length c, .int .i64 k.r.pos, .int .i64 k.r.why, .int .i64 k.r.place].toArray 140 (0, 0)), row 5 1 (.slice p k.r.b.length c) k.r.b.length (cel k.r.b)]) (by repeat (first | exact zY _ | refine zJ 0 rfl ?_ | refine zJ 1 rfl ?_ | refine zJ 2 rfl ?_ | refine zJ 3 rfl ?_ | refine zJ 4 rfl ?_ | refine zJ 5 rfl ?_ | refine zJ 6 rfl ?_ | refine zJ 7 rfl ?_ | refine SubH.rown ?_)) ?_); refine qD (fun w F s => nds_opg hxz hix s) ?_; dsimp only [gptr, Option.map]; refine zK (zH rfl (zL rfl) rfl (zH rfl (zL rfl) rfl (zH rfl (zU rfl) rfl (zH rfl (zP xP rfl) rfl (zH rfl (zW sc96 rfl (zy4 0 rfl (Rd.own rfl))) rfl ?_))))); refine zH rfl (zL rfl) rfl (zT rfl (eff_lit sl96 rfl (sbld (cs := pts [k.x.blk]) [(.pointer none)] sl96 (by decide) (by kernel_rfl) rfl) rfl (by decide)) rfl ?_); rintro _ _ ⟨b172, rfl, rfl⟩; refine zT rfl (eff_appF (f := Pq.cs) (l2 := [k.x.blk]) 2 sl96 (.inl ⟨92, Tryz.underlying96⟩) rfl rfl rfl (Src.flatv Pq.len Pq.one (zy5 0 rfl Vw.row)) (by simp only [List.length_cons, List.length_nil]; omega) (by simp only [List.length_cons, List.length_nil]; omega)) rfl ?_; rintro _ _ ⟨p173, c173, rfl, hn173, rfl⟩; simp only [zE, zF]; refine zH rfl (zU rfl) rfl (zH rfl (zP xP rfl) rfl (zo rfl (qP 1 sc96 rfl rfl rfl rfl (zy1 rfl) (zg _)) rfl ?_)); rintro _ _ rfl; refine zN (zQ ?_); refine zI (q8 (L := [own z.blk (.cells (Nd.cs (addF p173 c173 k.x.blk x)).toArray 98 (0, 0)), rowP p173 c173 (x.kids ++ [k.x.blk]), rowD x.dp x.dc x.data, nds ((ns ++ A ++ k.A).eraseIdx ix), own tb (.cells ([rv, .map (some mb), .int .i64 nx, .int .i64 ((k.bs : Nat) : Int)] : List Value).toArray 95 (0, 0)), own mb (mapO ((ns ++ A ++ k.A).map Nd.me) k.ck), own pr (.cells [Value.slice p k.r.b.length c, .int .i64 k.r.pos, .int .i64 k.r.why, .int .i64 k.r.place].toArray 140 (0, 0)), row 5 1 (.slice p k.r.b.length c) k.r.b.length (cel k.r.b)]) (by repeat (first | exact zY _ | refine zJ 0 rfl ?_ | refine zJ 1 rfl ?_ | refine zJ 2 rfl ?_ | refine zJ 3 rfl ?_ | refine zJ 4 rfl ?_ | refine zJ 5 rfl ?_ | refine zJ 6 rfl ?_ | refine zJ 7 rfl ?_ | refine SubH.rown ?_)) ?_); refine qD (fun w F s => nds_clb (y := addF p173 c173 k.x.blk x) hxz hix s) ?_; rw [set_turn hG.sb.blks hix, add_me (kp := p173) (kc := c173) (b := k.x.blk) x.blk, add_ns hG.sb.blks hA.root]; refine zK (zH rfl (zL rfl) rfl ?_); refine zH rfl (yi rfl rfl (show IntKind.u32.wrap ((n : Int) - 1) = ((n - 1 : Nat) : Int) by rw [xC (by omega) (by omega)]; omega)) rfl (zH rfl (zO rfl) rfl (zN (zI (back (m - 1) (by omega) (qn ⟨n - 1, turnB x.blk (addF p173 c173 k.x.blk) A ++ k.A, addF p173 c173 k.x.blk x, k.bs, k.ck, k.r, ⟨by omega, by omega, hxz, sb_add hA hxd hG.sb hok hlast (by omega) _ _, hxd, by have h := hG.len; simp only [List.length_append, turn_len] at h ⊢; omega, by have h := List.length_pos_of_mem hG.sb.root; simp only [List.length_append, turn_len] at hln1 ⊢; omega, by rw [hG.bs, hbs1, szs_app, szs_turn]; omega, hG.max, hG.good, fun t0 r0 x0 n0 rest hF => get_next (hLF t0 r0 x0 n0 rest hF) (by omega) e9 hgc hA hG.sb _ _⟩, rfl, rfl⟩ ?_ ?_ ?_)))))
          ·exact (by repeat (first | exact zf _ | refine zS rfl ?_))
          ·exact (by repeat (first | exact zf _ | refine zS rfl ?_))
          ·exact zj _
       ·replace hc120 := zy3 hc120
        refine yJ ?_; refine qV ?_; refine qV ?_; refine qe ?_; refine zI (zM (q8 (L := [own tb (.cells ([rv, .map (some mb), .int .i64 nx, .int .i64 ((bs1 : Nat) : Int)] : List Value).toArray 95 (0, 0)), own mb (mapO ((ns ++ A).map Nd.me) ck1), nds (ns ++ A), own pr (.cells [Value.slice p r1.b.length c, .int .i64 r1.pos, .int .i64 r1.why, .int .i64 r1.place].toArray 140 (0, 0)), row 5 1 (.slice p r1.b.length c) r1.b.length (cel r1.b)]) (by repeat (first | exact zY _ | refine zJ 0 rfl ?_ | refine zJ 1 rfl ?_ | refine zJ 2 rfl ?_ | refine zJ 3 rfl ?_ | refine zJ 4 rfl ?_ | refine zJ 5 rfl ?_ | refine zJ 6 rfl ?_ | refine zJ 7 rfl ?_ | refine SubH.rown ?_)) ?_)); refine qD (H' := [own tb (.cells ([rv, .map (some mb), .int .i64 nx, .int .i64 ((bs1 : Nat) : Int)] : List Value).toArray 95 (0, 0)), GetA (ns) mb pr p c (some ⟨x, A, bs1, ck1, r1⟩)]) (fun w F s => get_some s) ?_; refine zK (zH rfl (zL rfl) rfl (zH rfl (zO rfl) rfl (zN (zI (zi ?_))))); refine' zX (qk rfl rfl) ?_ ?_
        rotate_left 1
        refine ⟨some ⟨x, A, bs1, ck1, r1⟩, bs1, (by show _ = Value.pointer (some ⟨x.blk, 0, none⟩); rw [hxz]), fun s h => ?_, fun t0 r0 x0 n0 rest hF => ?_, rfl⟩
        ·injection h with h
         subst h; exact ⟨⟨hA, hln, hbs1, hbm1, hg1⟩, rfl⟩
        ·obtain ⟨i, hL⟩ := hLF t0 r0 x0 n0 rest hF
         obtain ⟨k1, k2, k3, k4⟩ := lf_end hL (by omega)
         exact ⟨_, rfl, k1, k2, k3, k4⟩
        exact zj _
theorem get_ok : ∀ k, GetOk k
 | 0 => fun tb mb ck rv nx bs ns pr p c r nm par hk hns => by omega
 | k + 1 => get_step k (get_ok k)
end Go.Proofs.YtlefpllcgcicpaaGreatDoor
