/-
  What was saved is read again: plain laws.
-/
import Derived.Test.YtbbmhppkhcodfaaTrG
import Derived.Test.YtbbmhppkhcodfaaRPure
import Derived.Test.YtbbmhppkhcodfaaBook
namespace Go.Proofs.Ytbbmhppkhcodfaa
open Go.Sx
set_option linter.unusedVariables false
set_option linter.unusedSimpArgs false
set_option maxRecDepth 100000
set_option maxHeartbeats 4000000

/-- a thing and what is below it, in the order in which they are saved -/
def dfs (ns : List Nd) : Nat → Nd → List Nd
  | 0, _ => []
  | n + 1, x => x :: (kidsN ns x).flatMap (dfs ns n)
theorem perm_flat (f : Nd → List Nd) : ∀ l : List Nd, (l.flatMap fun x => x :: f x).Perm (l ++ l.flatMap f)
  | [] => List.Perm.refl _
  | x :: l => by
    rw [List.flatMap_cons, List.flatMap_cons, List.cons_append, List.cons_append]
    refine List.Perm.cons x ?_
    have h := perm_flat f l
    refine (List.Perm.append_left (f x) h).trans ?_
    rw [← List.append_assoc, ← List.append_assoc]
    exact List.Perm.append_right _ List.perm_append_comm
theorem flat_flat (f g : Nd → List Nd) : ∀ l : List Nd, (l.flatMap fun x => (f x).flatMap g) = (l.flatMap f).flatMap g
  | [] => rfl
  | x :: l => by rw [List.flatMap_cons, List.flatMap_cons, List.flatMap_append, flat_flat f g l]
theorem dfs_levs (ns : List Nd) : ∀ (n : Nat) (l : List Nd), (l.flatMap (dfs ns (n + 1))).Perm (levs ns n l)
  | 0, l => by
    show (l.flatMap fun x => x :: (kidsN ns x).flatMap fun _ => []).Perm l
    have e : (l.flatMap fun x => x :: (kidsN ns x).flatMap fun _ => ([] : List Nd)) = l := by
      induction l with
      | nil => rfl
      | cons x l ih => rw [List.flatMap_cons, ih]; simp
    rw [e]
  | n + 1, l => by
    show (l.flatMap fun x => x :: (kidsN ns x).flatMap (dfs ns (n + 1))).Perm (l ++ levs ns n (l.flatMap (kidsN ns)))
    refine (perm_flat _ l).trans (List.Perm.append_left l ?_)
    rw [flat_flat]
    exact dfs_levs ns n _
theorem dfs_one (ns : List Nd) (n : Nat) (x : Nd) : (dfs ns (n + 1) x).Perm (levs ns n [x]) := by
  have h := dfs_levs ns n [x]
  rw [List.flatMap_cons, List.flatMap_nil, List.append_nil] at h
  exact h
theorem dfs_nodup {t : Tr} {r : Nd} (hW : Wf t r) (n : Nat) {x : Nd} (hx : x ∈ t.ns) : (dfs t.ns n x).Nodup ∧ ∀ y ∈ dfs t.ns n x, y ∈ t.ns := by
  cases n with
  | zero => exact ⟨List.nodup_nil, fun y hy => by cases hy⟩
  | succ n =>
    obtain ⟨d, hD⟩ := hW.rk
    have h2 := levs_nodup hW hD n (d x.id) (l := [x]) (by simp) fun y hy => by rw [List.mem_singleton.1 hy]; exact ⟨hx, rfl⟩
    have hp := dfs_one t.ns n x
    exact ⟨hp.nodup_iff.2 h2.1, fun y hy => (h2.2 y (hp.mem_iff.1 hy)).1⟩
theorem map_nodup {t : Tr} {r : Nd} (hW : Wf t r) : ∀ {l : List Nd}, l.Nodup → (∀ y ∈ l, y ∈ t.ns) → (l.map Nd.id).Nodup
  | [], _, _ => by simp
  | x :: l, h, hl => by
    rw [List.nodup_cons] at h
    rw [List.map_cons, List.nodup_cons]
    refine ⟨fun hm => ?_, map_nodup hW h.2 fun y hy => hl y (by simp [hy])⟩
    obtain ⟨y, hy, e⟩ := List.mem_map.1 hm
    have := nmId hW.ids (hl y (by simp [hy])) (hl x (by simp)) e
    rw [this] at hy; exact h.1 hy
theorem dfs_ids {t : Tr} {r : Nd} (hW : Wf t r) (n : Nat) {x : Nd} (hx : x ∈ t.ns) : ((dfs t.ns n x).map Nd.id).Nodup := map_nodup hW (dfs_nodup hW n hx).1 (dfs_nodup hW n hx).2
theorem dfs_sum {t : Tr} {r : Nd} (hW : Wf t r) (w : Nd → Nat) (n : Nat) {x : Nd} (hx : x ∈ t.ns) : ((dfs t.ns n x).map w).sum ≤ (t.ns.map w).sum := sum_sub w (dfs_nodup hW n hx).1 (dfs_nodup hW n hx).2
theorem flat_snoc (f : Nd → List Nd) {l : List Nd} {i : Nat} {y : Nd} (h : l[i]? = some y) : (l.take (i + 1)).flatMap f = (l.take i).flatMap f ++ f y := by
  obtain ⟨hi, he⟩ := List.getElem?_eq_some_iff.1 h
  rw [List.take_succ_eq_append_getElem hi, List.flatMap_append, List.flatMap_cons, List.flatMap_nil, List.append_nil, he]
theorem flat_split (f : Nd → List Nd) {l : List Nd} {i : Nat} {y : Nd} (h : l[i]? = some y) : l.flatMap f = (l.take i).flatMap f ++ f y ++ (l.drop (i + 1)).flatMap f := by
  rw [← flat_snoc f h, ← List.flatMap_append, List.take_append_drop]
def szs (l : List Nd) : Nat := (l.map fun y : Nd => y.data.length).sum
theorem szs_app (l m : List Nd) : szs (l ++ m) = szs l + szs m := by unfold szs; rw [List.map_append, List.sum_append]
theorem szs_cons (x : Nd) (l : List Nd) : szs (x :: l) = x.data.length + szs l := by unfold szs; rw [List.map_cons, List.sum_cons]
/-- what a saved thing has behind its header -/
def body (ns : List Nd) (n : Nat) (x : Nd) : List UInt8 := if x.dir = true then be x.kids.length 4 ++ (kidsN ns x).flatMap (kidB ns n) else be x.data.length 4 ++ x.data
theorem encN_body (ns : List Nd) (n : Nat) (x : Nd) : encN ns (n + 1) x = hdr x ++ body ns n x := rfl
/-- a saved thing comes, and there is room for it -/
structure Fit (t0 : Tr) (r0 x0 : Nd) (n : Nat) (rest : List UInt8) (ns : List Nd) (bs : Nat) (nx : Int) (r : R) : Prop where
  wf : Wf t0 r0
  x : x0 ∈ t0.ns
  deep : Deep t0.ns (n + 1) x0
  here : Here r (encN t0.ns (n + 1) x0 ++ rest)
  nx : (t0.next : Int) ≤ nx
  nx8 : t0.next ≤ 9223372036854775807
  ids : ∀ u ∈ ns, u.id ∉ (dfs t0.ns (n + 1) x0).map Nd.id
  cnt : ns.length + (dfs t0.ns (n + 1) x0).length ≤ 200
  bs : bs + szs (dfs t0.ns (n + 1) x0) ≤ 1048576
/-- its header was read -/
structure Fit7 (t0 : Tr) (r0 x0 : Nd) (n : Nat) (rest : List UInt8) (ns : List Nd) (bs : Nat) (nx : Int) (zid : Nat) (zd : Nat) (z : At) (r : R) : Prop where
  wf : Wf t0 r0
  x : x0 ∈ t0.ns
  deep : Deep t0.ns (n + 1) x0
  here : Here r (body t0.ns n x0 ++ rest)
  nx : (t0.next : Int) ≤ nx
  nx8 : t0.next ≤ 9223372036854775807
  ids : ∀ u ∈ ns, u.id ∉ (dfs t0.ns (n + 1) x0).map Nd.id
  cnt : ns.length + (dfs t0.ns (n + 1) x0).length ≤ 200
  bs : bs + szs (dfs t0.ns (n + 1) x0) ≤ 1048576
  id : zid = x0.id
  dir : (zd ≠ 0) ↔ x0.dir = true
  a : z = { x0.a with f := 15, s := 0 }
theorem fit_hd {t0 : Tr} {r0 x0 : Nd} {n : Nat} {rest : List UInt8} {ns : List Nd} {bs : Nat} {nx : Int} {r : R} {z1 z2 z3 z4 z5 z6 z7 : R × Nat}
    (e1 : r.get 8 = z1) (e2 : z1.1.get 1 = z2) (e3 : z2.1.get 4 = z3) (e4 : z3.1.get 4 = z4) (e5 : z4.1.get 4 = z5) (e6 : z5.1.get 4 = z6) (e7 : z6.1.get 4 = z7) (h : Fit t0 r0 x0 n rest ns bs nx r) : Fit7 t0 r0 x0 n rest ns bs nx z1.2 z2.2 ⟨15, 0, z3.2, z4.2, z5.2, z6.2, z7.2⟩ z7.1 := by
  have ha := (h.wf.a x0 h.x).1
  have hlt := h.wf.lt x0 h.x
  have hn := h.nx8
  have H := h.here
  rw [encN_body] at H
  have hb : [b8 (if x0.dir then 1 else 0)] = be (if x0.dir then 1 else 0) 1 := by cases x0.dir <;> rfl
  have hh : hdr x0 = be x0.id 8 ++ (be (if x0.dir then 1 else 0) 1 ++ (be x0.a.u 4 ++ (be x0.a.g 4 ++ (be x0.a.m 4 ++ (be x0.a.a 4 ++ be x0.a.t 4))))) := by
    unfold hdr; rw [hb]; simp only [enc4, five, List.flatMap_cons, List.flatMap_nil, List.append_nil, List.append_assoc]
  rw [hh] at H
  simp only [List.append_assoc] at H
  have g1 := get_here H (show x0.id < 256 ^ 8 by omega)
  rw [e1] at g1
  have H1 := H.adv (n := 8) (by rw [be_length])
  have g2 := get_here H1 (show (if x0.dir then 1 else 0) < 256 ^ 1 by split <;> omega)
  rw [← (show z1.1 = r.adv 8 from by rw [g1]), e2] at g2
  have H2 := H1.adv (n := 1) (by rw [be_length])
  have g3 := get_here H2 (show x0.a.u < 256 ^ 4 from ha.u)
  rw [← (show z1.1 = r.adv 8 from by rw [g1]), ← (show z2.1 = z1.1.adv 1 from by rw [g2]), e3] at g3
  have H3 := H2.adv (n := 4) (by rw [be_length])
  have g4 := get_here H3 (show x0.a.g < 256 ^ 4 from ha.g)
  rw [← (show z1.1 = r.adv 8 from by rw [g1]), ← (show z2.1 = z1.1.adv 1 from by rw [g2]), ← (show z3.1 = z2.1.adv 4 from by rw [g3]), e4] at g4
  have H4 := H3.adv (n := 4) (by rw [be_length])
  have g5 := get_here H4 (show x0.a.m < 256 ^ 4 from ha.m)
  rw [← (show z1.1 = r.adv 8 from by rw [g1]), ← (show z2.1 = z1.1.adv 1 from by rw [g2]), ← (show z3.1 = z2.1.adv 4 from by rw [g3]), ← (show z4.1 = z3.1.adv 4 from by rw [g4]), e5] at g5
  have H5 := H4.adv (n := 4) (by rw [be_length])
  have g6 := get_here H5 (show x0.a.a < 256 ^ 4 from ha.a)
  rw [← (show z1.1 = r.adv 8 from by rw [g1]), ← (show z2.1 = z1.1.adv 1 from by rw [g2]), ← (show z3.1 = z2.1.adv 4 from by rw [g3]), ← (show z4.1 = z3.1.adv 4 from by rw [g4]), ← (show z5.1 = z4.1.adv 4 from by rw [g5]), e6] at g6
  have H6 := H5.adv (n := 4) (by rw [be_length])
  have g7 := get_here H6 (show x0.a.t < 256 ^ 4 from ha.t)
  rw [← (show z1.1 = r.adv 8 from by rw [g1]), ← (show z2.1 = z1.1.adv 1 from by rw [g2]), ← (show z3.1 = z2.1.adv 4 from by rw [g3]), ← (show z4.1 = z3.1.adv 4 from by rw [g4]), ← (show z5.1 = z4.1.adv 4 from by rw [g5]), ← (show z6.1 = z5.1.adv 4 from by rw [g6]), e7] at g7
  have H7 := H6.adv (n := 4) (by rw [be_length])
  rw [← (show z1.1 = r.adv 8 from by rw [g1]), ← (show z2.1 = z1.1.adv 1 from by rw [g2]), ← (show z3.1 = z2.1.adv 4 from by rw [g3]), ← (show z4.1 = z3.1.adv 4 from by rw [g4]), ← (show z5.1 = z4.1.adv 4 from by rw [g5]), ← (show z6.1 = z5.1.adv 4 from by rw [g6]), ← (show z7.1 = z6.1.adv 4 from by rw [g7])] at H7
  refine ⟨h.wf, h.x, h.deep, H7, h.nx, h.nx8, h.ids, h.cnt, h.bs, by rw [g1], ?_, ?_⟩
  · rw [g2]; cases x0.dir <;> simp
  · rw [g3, g4, g5, g6, g7]
/-- what the guards of get ask of a header -/
theorem fit_ok {t0 : Tr} {r0 x0 : Nd} {n : Nat} {rest : List UInt8} {ns : List Nd} {bs : Nat} {nx : Int} {zid zd : Nat} {z : At} {r : R} (h : Fit7 t0 r0 x0 n rest ns bs nx zid zd z r) : r.why = 0 ∧ (zid : Int) < nx ∧ zid ≤ 9223372036854775807 ∧ (∀ u ∈ ns, u.id ≠ zid) ∧ ns.length < 200 := by
  have hlt := h.wf.lt x0 h.x
  have hn := h.nx
  have h8 := h.nx8
  have hi := h.id
  have hc := h.cnt
  have hx : (dfs t0.ns (n + 1) x0).map Nd.id = x0.id :: ((kidsN t0.ns x0).flatMap (dfs t0.ns n)).map Nd.id := rfl
  refine ⟨h.here.why, by omega, by omega, fun u hu e => h.ids u hu ?_, ?_⟩
  · rw [hx, e, hi]; exact List.mem_cons_self
  · have : (dfs t0.ns (n + 1) x0).length = ((kidsN t0.ns x0).flatMap (dfs t0.ns n)).length + 1 := rfl
    omega
theorem deep_nil {t : Tr} {r : Nd} (hW : Wf t r) {n : Nat} {x : Nd} (hx : x ∈ t.ns) (h : ¬ x.dir = true) : dfs t.ns (n + 1) x = [x] := by
  show x :: (kidsN t.ns x).flatMap _ = _
  rw [kids_dir hW hx h]; rfl
theorem fit_file {t0 : Tr} {r0 x0 : Nd} {n : Nat} {rest : List UInt8} {ns : List Nd} {bs : Nat} {nx : Int} {zid zd : Nat} {z : At} {r : R} {y : R × List UInt8} (h : Fit7 t0 r0 x0 n rest ns bs nx zid zd z r) (hd : ¬ zd ≠ 0) (e : r.text 1048576 = y) :
    Here y.1 rest ∧ y.2 = x0.data ∧ bs + y.2.length ≤ 1048576 ∧ [zid] = (dfs t0.ns (n + 1) x0).map Nd.id ∧ szs (dfs t0.ns (n + 1) x0) = y.2.length := by
  have hx0 : ¬ x0.dir = true := fun hx => hd (h.dir.2 hx)
  have H := h.here
  unfold body at H
  rw [if_neg hx0] at H
  have hl := wf_dl h.wf x0 h.x
  have ht := text_here (s := x0.data) (l := rest) (by rw [List.append_assoc]; rw [List.append_assoc] at H; exact H) 1048576 (by omega) (by omega)
  rw [e] at ht
  have hdf := deep_nil h.wf (n := n) h.x hx0
  have hb := h.bs
  rw [hdf, szs_cons, show szs [] = 0 from rfl] at hb
  have e1 : y.1 = r.adv (4 + x0.data.length) := by rw [ht]
  have e2 : y.2 = x0.data := by rw [ht]
  refine ⟨?_, e2, by rw [e2]; omega, by rw [hdf, h.id]; rfl, by rw [hdf, szs_cons, e2]; rfl⟩
  rw [e1]
  exact H.adv (by rw [List.length_append, be_length])
theorem deep_up {ns : List Nd} : ∀ {n : Nat} {x : Nd}, Deep ns n x → Deep ns (n + 1) x
  | 0, _, h => h.elim
  | _ + 1, _, h => fun y hy => deep_up (h y hy)
theorem deep_le {ns : List Nd} {n m : Nat} {x : Nd} (h : Deep ns n x) (hm : n ≤ m) : Deep ns m x := by
  induction hm with
  | refl => exact h
  | step _ ih => exact deep_up ih
theorem kidB_same {ns : List Nd} {n m : Nat} : ∀ {l : List Nd}, (∀ y ∈ l, Deep ns n y ∧ Deep ns m y) → l.flatMap (kidB ns n) = l.flatMap (kidB ns m)
  | [], _ => rfl
  | y :: l, h => by
    obtain ⟨h1, h2⟩ := h y (by simp)
    rw [List.flatMap_cons, List.flatMap_cons, kidB_same (l := l) fun z hz => h z (by simp [hz])]
    unfold kidB; rw [encN_same h1 h2]
theorem enc_cong {A A' : List Nd} {S : Nd → Prop} (h : ∀ u, S u → kidsN A' u = kidsN A u) (hs : ∀ u, S u → ∀ v ∈ kidsN A u, S v) : ∀ (m : Nat) {u : Nd}, S u → encN A' m u = encN A m u ∧ (Deep A m u → Deep A' m u)
  | 0, _, _ => ⟨rfl, fun h => h⟩
  | m + 1, u, hu => by
    have e : ∀ l : List Nd, (∀ y ∈ l, S y) → l.flatMap (fun y => be y.name.length 4 ++ y.name ++ encN A' m y) = l.flatMap (fun y => be y.name.length 4 ++ y.name ++ encN A m y) := fun l => by
      induction l with
      | nil => intro _; rfl
      | cons y l ih =>
        intro hl
        rw [List.flatMap_cons, List.flatMap_cons, ih fun z hz => hl z (by simp [hz]), (enc_cong h hs m (hl y (by simp))).1]
    refine ⟨?_, fun hd y hy => ?_⟩
    · show hdr u ++ (if u.dir = true then _ else _) = hdr u ++ (if u.dir = true then _ else _)
      rw [h u hu, e _ fun y hy => hs u hu y hy]
    · rw [h u hu] at hy
      exact (enc_cong h hs m (hs u hu y hy)).2 (hd y hy)
theorem fm_congr {f g : Nat → Option Nd} : ∀ {l : List Nat}, (∀ k ∈ l, f k = g k) → l.filterMap f = l.filterMap g
  | [], _ => rfl
  | k :: l, h => by rw [List.filterMap_cons, List.filterMap_cons, h k (by simp), fm_congr (l := l) fun j hj => h j (by simp [hj])]
/-- what is below, once k stands in x -/
theorem enc_next {ns A B : List Nd} {x k : Nd} {par : Int} {nm s : List UInt8} {nx : Int} (hA : Sb ns A x par nm nx) (hB : Sb (ns ++ A) B k x.id s nx) (kp : Option Addr) (kc : Nat) {m m2 : Nat} {X : List UInt8} (hdA : Deep A (m + 1) x) (hE : (kidsN A x).flatMap (kidB A m) = X) (hdB : Deep B m2 k) :
    ∃ M, Deep (turnB x.blk (addF kp kc k.blk) A ++ B) (M + 1) (addF kp kc k.blk x) ∧ (kidsN (turnB x.blk (addF kp kc k.blk) A ++ B) (addF kp kc k.blk x)).flatMap (kidB (turnB x.blk (addF kp kc k.blk) A ++ B) M) = X ++ (be s.length 4 ++ s ++ encN B m2 k) := by
  have hF := addF_keeps kp kc k.blk
  have blk1 : ((turnB x.blk (addF kp kc k.blk) A ++ B).map Nd.blk).Nodup := by
    have := hB.blks
    rw [List.map_append, List.map_append, List.append_assoc, List.nodup_append] at this
    rw [List.map_append, turn_blk hF]; exact this.2.1
  have idsA : (A.map Nd.id).Nodup := by
    have := hA.ids
    rw [List.map_append, List.nodup_append] at this; exact this.2.1
  have idsB : (B.map Nd.id).Nodup := by
    have := hB.ids
    rw [List.map_append, List.nodup_append] at this; exact this.2.1
  obtain ⟨A', hA'⟩ : ∃ A', A' = turnB x.blk (addF kp kc k.blk) A ++ B := ⟨_, rfl⟩
  rw [← hA'] at blk1 ⊢
  have inA : ∀ v ∈ A, v.blk ≠ x.blk → v ∈ A' := fun v hv e => by
    have := turn_in (f := addF kp kc k.blk) (b := x.blk) hv
    rw [if_neg e] at this
    rw [hA']; exact List.mem_append_left _ this
  have inB : ∀ v ∈ B, v ∈ A' := fun v hv => by rw [hA']; exact List.mem_append_right _ hv
  have notx : ∀ u ∈ A, ∀ v ∈ kidsN A u, v ∈ A ∧ v.blk ≠ x.blk := fun u hu v hv => by
    obtain ⟨h1, h2⟩ := (kidsN_mem hA.kd idsA hu).1 hv
    refine ⟨h1, fun e => ?_⟩
    have e2 := nmB_mem hA.kd.blks h1 hA.root e
    rw [e2, hA.xpar] at h2
    exact out_ne hA.out hA.ids hu h2
  have kA : ∀ u ∈ A, kidsN A' u = kidsN A u := fun u hu => fm_congr fun j hj => by
    obtain ⟨v, h1, h2, h3⟩ := hA.kd.sub u hu j hj
    have h4 := (notx u hu v ((kidsN_mem hA.kd idsA hu).2 ⟨h1, h3⟩)).2
    rw [← h2, find_nodup blk1 (inA v h1 h4), find_nodup hA.kd.blks h1]
  have kB : ∀ u ∈ B, kidsN A' u = kidsN B u := fun u hu => fm_congr fun j hj => by
    obtain ⟨v, h1, h2, _⟩ := hB.kd.sub u hu j hj
    rw [← h2, find_nodup blk1 (inB v h1), find_nodup hB.kd.blks h1]
  have kX : kidsN A' (addF kp kc k.blk x) = kidsN A x ++ [k] := by
    have h1 : kidsN A' (addF kp kc k.blk x) = kidsN A' x ++ [k] := by
      show (x.kids ++ [k.blk]).filterMap _ = x.kids.filterMap _ ++ [k]
      rw [List.filterMap_append]
      congr 1
      rw [List.filterMap_cons, find_nodup blk1 (inB k hB.root)]; rfl
    rw [h1, kA x hA.root]
  have cA : ∀ (n : Nat) {u : Nd}, (u ∈ A ∧ u.blk ≠ x.blk) → encN A' n u = encN A n u ∧ (Deep A n u → Deep A' n u) := fun n u hu => enc_cong (S := fun u => u ∈ A ∧ u.blk ≠ x.blk) (fun u hu => kA u hu.1) (fun u hu v hv => notx u hu.1 v hv) n hu
  have cB : ∀ (n : Nat) {u : Nd}, u ∈ B → encN A' n u = encN B n u ∧ (Deep B n u → Deep A' n u) := fun n u hu => enc_cong (S := fun u => u ∈ B) (fun u hu => kB u hu) (fun u hu v hv => ((kidsN_mem hB.kd idsB hu).1 hv).1) n hu
  have hdk : ∀ y ∈ kidsN A x, Deep A m y := hdA
  have hAll : ∀ y ∈ kidsN A x, Deep A' (max m m2) y := fun y hy => (cA _ (notx x hA.root y hy)).2 (deep_le (hdk y hy) (Nat.le_max_left _ _))
  have hK : Deep A' (max m m2) k := (cB _ hB.root).2 (deep_le hdB (Nat.le_max_right _ _))
  refine ⟨max m m2, fun y hy => ?_, ?_⟩
  · rw [kX] at hy
    rcases List.mem_append.1 hy with hy | hy
    · exact hAll y hy
    · rw [List.mem_singleton.1 hy]; exact hK
  · rw [kX, List.flatMap_append, List.flatMap_cons, List.flatMap_nil, List.append_nil]
    congr 1
    · rw [← hE, kidB_same (n := m) (m := max m m2) fun y hy => ⟨hdk y hy, deep_le (hdk y hy) (Nat.le_max_left _ _)⟩]
      have e : ∀ l : List Nd, (∀ y ∈ l, y ∈ kidsN A x) → l.flatMap (kidB A' (max m m2)) = l.flatMap (kidB A (max m m2)) := fun l => by
        induction l with
        | nil => intro _; rfl
        | cons y l ih =>
          intro hl
          rw [List.flatMap_cons, List.flatMap_cons, ih fun z hz => hl z (by simp [hz])]
          unfold kidB; rw [(cA _ (notx x hA.root y (hl y (by simp)))).1]
      exact e _ fun y hy => hy
    · unfold kidB
      rw [hB.xname, (cB _ hB.root).1, encN_same (deep_le hdB (Nat.le_max_right m m2)) hdB]
theorem enc_file {t0 : Tr} {r0 x0 : Nd} {n : Nat} {rest : List UInt8} {ns : List Nd} {bs : Nat} {nx : Int} {zid zd : Nat} {z : At} {r : R} {x : Nd} (h : Fit7 t0 r0 x0 n rest ns bs nx zid zd z r) (hd : ¬ zd ≠ 0) (hi : x.id = zid) (hk : x.kids = []) (hxd : x.dir = false) (ha : x.a = z) (hda : x.data = x0.data) : ∃ m, Deep [x] m x ∧ encN [x] m x = encN t0.ns (n + 1) x0 := by
  have hx0 : x0.dir = false := by
    cases hh : x0.dir with
    | false => rfl
    | true => exact absurd (h.dir.2 hh) hd
  have hkn : kidsN [x] x = [] := by unfold kidsN; rw [hk]; rfl
  refine ⟨1, fun y hy => (by rw [hkn] at hy; cases hy), ?_⟩
  have hh : hdr x = hdr x0 := by unfold hdr; rw [hi, h.id, hxd, hx0, ha, h.a]; rfl
  rw [encN_file hxd, encN_file hx0, hh, hda]
/-- i kids were read -/
structure Lf (t0 : Tr) (r0 x0 : Nd) (n : Nat) (rest : List UInt8) (ns : List Nd) (bs0 : Nat) (nx : Int) (i : Nat) (A : List Nd) (x : Nd) (bs : Nat) (left : Nat) (r : R) : Prop where
  wf : Wf t0 r0
  xm : x0 ∈ t0.ns
  deep : Deep t0.ns (n + 1) x0
  nx : (t0.next : Int) ≤ nx
  nx8 : t0.next ≤ 9223372036854775807
  idn : ∀ u ∈ ns, u.id ∉ (dfs t0.ns (n + 1) x0).map Nd.id
  cnt : ns.length + (dfs t0.ns (n + 1) x0).length ≤ 200
  bsm : bs0 + szs (dfs t0.ns (n + 1) x0) ≤ 1048576
  left : left + i = (kidsN t0.ns x0).length
  here : Here r (((kidsN t0.ns x0).drop i).flatMap (kidB t0.ns n) ++ rest)
  ids : A.map Nd.id = (x0 :: ((kidsN t0.ns x0).take i).flatMap (dfs t0.ns n)).map Nd.id
  bs : bs = bs0 + szs (((kidsN t0.ns x0).take i).flatMap (dfs t0.ns n))
  nms : x.kids.map (nmB A) = ((kidsN t0.ns x0).take i).map Nd.name
  data : x0.data = []
  hd : hdr x = hdr x0
  dirs : x.dir = true ∧ x0.dir = true
  kl : x.kids.length = i
  enc : ∃ m, Deep A (m + 1) x ∧ (kidsN A x).flatMap (kidB A m) = ((kidsN t0.ns x0).take i).flatMap (kidB t0.ns n)
theorem fit_dir {t0 : Tr} {r0 x0 : Nd} {n : Nat} {rest : List UInt8} {ns : List Nd} {bs : Nat} {nx : Int} {zid zd : Nat} {z : At} {r : R} {y : R × Nat} {x : Nd} (h : Fit7 t0 r0 x0 n rest ns bs nx zid zd z r) (hd : zd ≠ 0) (e : r.get 4 = y) (hi : x.id = zid) (hk : x.kids = []) (hxd : x.dir = true) (ha : x.a = z) :
    Lf t0 r0 x0 n rest ns bs nx 0 [x] x bs y.2 y.1 := by
  have hkn : kidsN [x] x = [] := by unfold kidsN; rw [hk]; rfl
  have hx0 : x0.dir = true := h.dir.1 hd
  have H := h.here
  unfold body at H
  rw [if_pos hx0, List.append_assoc] at H
  have hkl := kids_le h.wf.kd h.x
  have hfew := h.wf.few
  have g := get_here H (show x0.kids.length < 256 ^ 4 by omega)
  rw [e] at g
  have H1 := H.adv (n := 4) (by rw [be_length])
  refine ⟨h.wf, h.x, h.deep, h.nx, h.nx8, h.ids, h.cnt, h.bs, ?_, ?_, ?_, ?_, ?_, h.wf.dat x0 h.x hx0, ?_, ⟨hxd, hx0⟩, by rw [hk]; rfl, 0, fun y hy => (by rw [hkn] at hy; cases hy), by rw [hkn, List.take_zero]; rfl⟩
  · rw [g, kidsN_len h.wf.kd h.x]; rfl
  · rw [g, List.drop_zero]; exact H1
  · rw [List.take_zero, List.flatMap_nil, List.map_cons, List.map_cons, hi, h.id]
  · rw [List.take_zero, List.flatMap_nil]; rfl
  · rw [hk, List.take_zero]; rfl
  · unfold hdr; rw [hi, h.id, hxd, hx0, ha, h.a]; rfl
theorem lf_end {t0 : Tr} {r0 x0 : Nd} {n : Nat} {rest : List UInt8} {ns : List Nd} {bs0 : Nat} {nx : Int} {i : Nat} {A : List Nd} {x : Nd} {bs : Nat} {left : Nat} {r : R} (h : Lf t0 r0 x0 n rest ns bs0 nx i A x bs left r) (h0 : left = 0) :
    Here r rest ∧ A.map Nd.id = (dfs t0.ns (n + 1) x0).map Nd.id ∧ bs = bs0 + szs (dfs t0.ns (n + 1) x0) ∧ ∃ m, Deep A m x ∧ encN A m x = encN t0.ns (n + 1) x0 := by
  have hl := h.left
  obtain ⟨m, he1, he2⟩ := h.enc
  rw [List.take_of_length_le (by omega)] at he2
  have H := h.here
  have hi := h.ids
  have hb := h.bs
  rw [List.take_of_length_le (by omega)] at hi hb
  rw [List.drop_of_length_le (by omega)] at H
  refine ⟨H, hi, ?_, m + 1, he1, by rw [encN_dir h.dirs.1, encN_dir h.dirs.2, h.hd, he2, h.kl, ← kidsN_len h.wf.kd h.xm, show i = (kidsN t0.ns x0).length by omega]⟩
  rw [hb]
  show _ = bs0 + szs (x0 :: (kidsN t0.ns x0).flatMap (dfs t0.ns n))
  rw [szs_cons, h.data]
  show _ = bs0 + (0 + _)
  omega
/-- the next kid comes -/
theorem lf_kid {t0 : Tr} {r0 x0 : Nd} {n : Nat} {rest : List UInt8} {ns : List Nd} {bs0 : Nat} {nx : Int} {i : Nat} {A : List Nd} {x : Nd} {bs : Nat} {left : Nat} {r : R} (h : Lf t0 r0 x0 n rest ns bs0 nx i A x bs left r) (h0 : 0 < left) {y : R × List UInt8} (e : r.text 30 = y) :
    ∃ k, (kidsN t0.ns x0)[i]? = some k ∧ y.2 = k.name ∧ y.1.why = 0 ∧ ptOk y.2 = true ∧ (∀ l ∈ x.kids.map (nmB A), cmp l y.2 < 0) ∧ ∃ m, n = m + 1 ∧ Fit t0 r0 k m (((kidsN t0.ns x0).drop (i + 1)).flatMap (kidB t0.ns n) ++ rest) (ns ++ A) bs nx y.1 := by
  have hl := h.left
  have hi : i < (kidsN t0.ns x0).length := by omega
  obtain ⟨k, hk⟩ : ∃ k, (kidsN t0.ns x0)[i]? = some k := ⟨_, List.getElem?_eq_getElem hi⟩
  have hkm := List.mem_of_getElem? hk
  obtain ⟨hkn, hkp⟩ := (kidsN_mem h.wf.kd h.wf.ids h.xm).1 hkm
  have hok : ptOk k.name = true := by
    rcases h.wf.nm k hkn with h1 | h1
    · exact absurd h1 (kid_not_root h.wf h.xm hkm)
    · exact h1
  have hnl := ptOk_len hok
  have H := h.here
  have e0 : (kidsN t0.ns x0).drop i = k :: (kidsN t0.ns x0).drop (i + 1) := by
    obtain ⟨h1, h2⟩ := List.getElem?_eq_some_iff.1 hk
    rw [List.drop_eq_getElem_cons h1, h2]
  rw [e0, List.flatMap_cons] at H
  have H2 : Here r (be k.name.length 4 ++ k.name ++ (encN t0.ns n k ++ (((kidsN t0.ns x0).drop (i + 1)).flatMap (kidB t0.ns n) ++ rest))) := by
    have e2 : be k.name.length 4 ++ k.name ++ (encN t0.ns n k ++ (((kidsN t0.ns x0).drop (i + 1)).flatMap (kidB t0.ns n) ++ rest)) = kidB t0.ns n k ++ ((kidsN t0.ns x0).drop (i + 1)).flatMap (kidB t0.ns n) ++ rest := by
      simp only [kidB, List.append_assoc]
    rw [e2]; exact H
  have ht := text_here H2 30 (by omega) (by omega)
  rw [e] at ht
  have ey1 : y.1 = r.adv (4 + k.name.length) := by rw [ht]
  have ey2 : y.2 = k.name := by rw [ht]
  have H3 : Here y.1 (encN t0.ns n k ++ (((kidsN t0.ns x0).drop (i + 1)).flatMap (kidB t0.ns n) ++ rest)) := by
    rw [ey1]; exact H2.adv (by rw [List.length_append, be_length])
  have hdk := h.deep k hkm
  have hsp : dfs t0.ns (n + 1) x0 = x0 :: (((kidsN t0.ns x0).take i).flatMap (dfs t0.ns n) ++ dfs t0.ns n k ++ ((kidsN t0.ns x0).drop (i + 1)).flatMap (dfs t0.ns n)) := by
    show x0 :: _ = _
    rw [flat_split (dfs t0.ns n) hk]
  refine ⟨k, hk, ey2, H3.why, by rw [ey2]; exact hok, fun l hl2 => ?_, ?_⟩
  · rw [h.nms] at hl2
    rw [ey2]
    obtain ⟨j, hj⟩ := List.mem_iff_getElem?.1 hl2
    have hjl := (List.getElem?_eq_some_iff.1 hj).1
    rw [List.length_map, List.length_take] at hjl
    rw [List.getElem?_map, List.getElem?_take_of_lt (by omega)] at hj
    have hr := h.wf.kd.rise x0 h.xm
    rw [← kidsN_blk h.wf.kd h.xm, List.map_map] at hr
    have e3 : (kidsN t0.ns x0).map (nmB t0.ns ∘ Nd.blk) = (kidsN t0.ns x0).map Nd.name := List.map_congr_left fun u hu => by
      show nmB t0.ns u.blk = _
      exact nmB_of h.wf.kd.blks ((kidsN_mem h.wf.kd h.wf.ids h.xm).1 hu).1
    rw [e3] at hr
    have h4 := rise_lt hr (i := j) (j := i) (by omega) (by rw [List.length_map]; exact hi)
    rw [List.getElem_map, List.getElem_map] at h4
    obtain ⟨h5, h6⟩ := List.getElem?_eq_some_iff.1 hk
    rw [h6] at h4
    rw [List.getElem?_eq_getElem (by omega)] at hj
    injection hj with hj
    rw [← hj]; exact h4
  · cases n with
    | zero => exact hdk.elim
    | succ m =>
      refine ⟨m, rfl, h.wf, hkn, hdk, H3, h.nx, h.nx8, fun u hu hm => ?_, ?_, ?_⟩
      · have hnd := dfs_ids h.wf (m + 1 + 1) h.xm
        rcases List.mem_append.1 hu with hu | hu
        · refine h.idn u hu ?_
          rw [hsp, List.map_cons, List.map_append, List.map_append]
          exact List.mem_cons_of_mem _ (List.mem_append_left _ (List.mem_append_right _ hm))
        · have h5 : u.id ∈ A.map Nd.id := List.mem_map.2 ⟨u, hu, rfl⟩
          rw [h.ids, List.map_cons] at h5
          rw [hsp, List.map_cons, List.map_append, List.map_append, List.nodup_cons, List.nodup_append, List.nodup_append] at hnd
          rcases List.mem_cons.1 h5 with h5 | h5
          · exact hnd.1 (by rw [← h5]; exact List.mem_append_left _ (List.mem_append_right _ hm))
          · exact hnd.2.1.2.2 _ h5 _ hm rfl
      · have h6 := h.cnt
        have h7 : A.length = (A.map Nd.id).length := by rw [List.length_map]
        rw [h.ids, List.length_map, List.length_cons] at h7
        rw [hsp, List.length_cons, List.length_append, List.length_append] at h6
        rw [List.length_append]; omega
      · have h6 := h.bsm
        have h7 := h.bs
        rw [hsp, szs_cons, szs_app, szs_app] at h6
        omega
theorem lf_next {t0 : Tr} {r0 x0 k0 : Nd} {m : Nat} {rest : List UInt8} {ns : List Nd} {bs0 : Nat} {nx : Int} {i : Nat} {A B : List Nd} {x k : Nd} {bs bs2 : Nat} {left : Nat} {r r2 : R} (h : Lf t0 r0 x0 (m + 1) rest ns bs0 nx i A x bs left r) (h0 : 0 < left) (hk : (kidsN t0.ns x0)[i]? = some k0)
    (H : Here r2 (((kidsN t0.ns x0).drop (i + 1)).flatMap (kidB t0.ns (m + 1)) ++ rest)) (hid : B.map Nd.id = (dfs t0.ns (m + 1) k0).map Nd.id) (hbs : bs2 = bs + szs (dfs t0.ns (m + 1) k0)) (kp : Option Addr) (kc : Nat)
    (hnm : (addF kp kc k.blk x).kids.map (nmB (turnB x.blk (addF kp kc k.blk) A ++ B)) = x.kids.map (nmB A) ++ [k0.name])
    (hen : ∃ M, Deep (turnB x.blk (addF kp kc k.blk) A ++ B) (M + 1) (addF kp kc k.blk x) ∧ (kidsN (turnB x.blk (addF kp kc k.blk) A ++ B) (addF kp kc k.blk x)).flatMap (kidB (turnB x.blk (addF kp kc k.blk) A ++ B) M) = ((kidsN t0.ns x0).take i).flatMap (kidB t0.ns (m + 1)) ++ kidB t0.ns (m + 1) k0) : Lf t0 r0 x0 (m + 1) rest ns bs0 nx (i + 1) (turnB x.blk (addF kp kc k.blk) A ++ B) (addF kp kc k.blk x) bs2 (left - 1) r2 := by
  have hl := h.left
  refine ⟨h.wf, h.xm, h.deep, h.nx, h.nx8, h.idn, h.cnt, h.bsm, by omega, H, ?_, ?_, ?_, h.data, h.hd, h.dirs, by show (x.kids ++ [_]).length = _; rw [List.length_append, h.kl]; rfl, by rw [kidB_snoc hk]; exact hen⟩
  · rw [List.map_append, turn_ids (addF_keeps _ _ _), h.ids, hid, flat_snoc (dfs t0.ns (m + 1)) hk, List.map_cons, List.map_cons, List.map_append]; rfl
  · rw [hbs, h.bs, flat_snoc (dfs t0.ns (m + 1)) hk, szs_app]; omega
  · rw [hnm, h.nms]
    obtain ⟨h1, h2⟩ := List.getElem?_eq_some_iff.1 hk
    rw [List.take_succ_eq_append_getElem h1, List.map_append, h2]; rfl
/-- the names of x's kids, once k is one of them -/
theorem add_names {ns A B : List Nd} {x k : Nd} {par : Int} {nm s : List UInt8} {nx : Int} (hA : Sb ns A x par nm nx) (hB : Sb (ns ++ A) B k x.id s nx) (kp : Option Addr) (kc : Nat) :
    (addF kp kc k.blk x).kids.map (nmB (turnB x.blk (addF kp kc k.blk) A ++ B)) = x.kids.map (nmB A) ++ [s] := by
  have hF := addF_keeps kp kc k.blk
  have blk1 : ((turnB x.blk (addF kp kc k.blk) A ++ B).map Nd.blk).Nodup := by
    have := hB.blks
    rw [List.map_append, List.map_append, List.append_assoc, List.nodup_append] at this
    rw [List.map_append, turn_blk hF]; exact this.2.1
  show (x.kids ++ [k.blk]).map _ = _
  rw [List.map_append, List.map_cons, List.map_nil]
  congr 1
  · refine List.map_congr_left fun j hj => ?_
    obtain ⟨v, h1, h2, _⟩ := hA.kd.sub x hA.root j hj
    have h3 := nmB_of blk1 (List.mem_append_left B (turn_in (f := addF kp kc k.blk) (b := x.blk) h1))
    rw [(turn_eq hF v).1, (turn_eq hF v).2.2.2, h2] at h3
    rw [h3, ← h2, nmB_of hA.kd.blks h1]
  · have h3 := nmB_of blk1 (List.mem_append_right (turnB x.blk (addF kp kc k.blk) A) hB.root)
    rw [h3, hB.xname]

end Go.Proofs.Ytbbmhppkhcodfaa
