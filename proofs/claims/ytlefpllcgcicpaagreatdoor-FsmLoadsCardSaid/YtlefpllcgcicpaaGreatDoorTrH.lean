/-
  What a thing is that was renamed: plain laws.
  Things that stand by themselves: plain laws.
  The reader of package wire: states that are all right; texts.
  Numbers as bytes: plain laws.
  Plain laws of readers: what stands there is read; what was read stood there.
  Within, Roomy, Intact, Same.
  What was saved is read again: plain laws.
-/
import Derived.Test.YtlefpllcgcicpaaGreatDoorTrE1
import Derived.Test.YtlefpllcgcicpaaGreatDoorTrTb
import Derived.Test.YtlefpllcgcicpaaGreatDoorSxSub
import Derived.Test.YtlefpllcgcicpaaGreatDoorRead
import Derived.Test.YtlefpllcgcicpaaGreatDoorTrJ
set_option linter.unusedVariables false
set_option linter.unusedSimpArgs false
namespace Go.Proofs.YtlefpllcgcicpaaGreatDoor
open Go.Sx
set_option maxRecDepth 100000
set_option maxHeartbeats 4000000
theorem make_nx {t : Tr} {r : Nd} {p : List (List UInt8)} {dir : Bool} {t' : Tr} {r' : Nd} {i e : Int} (hR : MakeR t r p dir t' r' i e) : t'.next ≤ t.next + 1 ∧ t'.tb = t.tb := by
 rcases hR with ⟨rfl, _⟩ | ⟨_, x, hh, _, _, _, b, kp, kc, _, rfl, _⟩
 ·exact ⟨by omega, rfl⟩
 ·exact ⟨Nat.le_refl _, rfl⟩
def Co.nm (c : Co) : Nm := ⟨c.name, { c.a with s := c.data.length }⟩
/-- what is so when a thing was renamed -/
structure RenF (t : Tr) (r : Nd) (fr tq : List (List UInt8)) (t' : Tr) (r' : Nd) (x : Nd) : Prop where
 l1 : lookO (fnd t.ns r fr) = ((x.id : Int), 0)
 l2 : lookO (fnd t.ns r tq) = (0, 22)
 l3 : lookO (fnd t'.ns r' tq) = ((x.id : Int), 0)
 l4 : lookO (fnd t'.ns r' fr) = (0, 22)
 att : attO (byId t'.ns x.id) = attO (byId t.ns x.id)
 lst : listO t'.ns (byId t'.ns x.id) = listO t.ns (byId t.ns x.id)
 back : renE t'.ns r' tq fr = 0
 same : ∀ t2 r2 e, RenR t' r' tq fr t2 r2 e → e = 0 → SameC t2.ns t.ns ∧ t2.next = t.next
/-- A stands by itself, next to ns: x and what is below it -/
structure Sb (ns A : List Nd) (x : Nd) (par : Int) (nm : List UInt8) (nx : Int) : Prop where
 kd : Kd A
 root : x ∈ A
 xpar : x.par = par
 xname : x.name = nm
 ids : ((ns ++ A).map Nd.id).Nodup
 blks : ((ns ++ A).map Nd.blk).Nodup
 out : par = -1 ∨ ∃ w ∈ ns, par = w.id
 lt : ∀ u ∈ A, (u.id : Int) < nx
 par : ∀ u ∈ A, u = x ∨ ∃ v ∈ A, u.par = v.id ∧ v.dir = true
 nm : ∀ u ∈ A, u = x ∨ ptOk u.name = true
 rk : ∃ d : Nat → Nat, d x.id = 0 ∧ ∀ u ∈ A, ∀ v ∈ A, v.par = (u.id : Int) → d v.id = d u.id + 1
 dat : ∀ u ∈ A, u.dir = true → u.data = []
 a : ∀ u ∈ A, u.a.Ok ∧ u.a.s = 0 ∧ u.a.f = 15
theorem app_ne {f : Nd → Nat} {l m : List Nd} (h : ((l ++ m).map f).Nodup) {u v : Nd} (hu : u ∈ l) (hv : v ∈ m) : f u ≠ f v := fun e => by
 rw [List.map_append, List.nodup_append] at h; exact h.2.2 _ (List.mem_map.2 ⟨u, hu, rfl⟩) _ (List.mem_map.2 ⟨v, hv, rfl⟩) e
theorem out_ne {ns : List Nd} {par : Int} (h : par = -1 ∨ ∃ w ∈ ns, par = (w.id : Int)) {m : List Nd} (hid : ((ns ++ m).map Nd.id).Nodup) {u : Nd} (hu : u ∈ m) : par ≠ u.id := fun e => by
 rcases h with h | ⟨w, hw, h⟩
 ·omega
 ·exact app_ne hid hw hu (by omega)
theorem sb_one {ns : List Nd} {z : Nd} {nx : Int} (hz : z.kids = []) (ids : ((ns ++ [z]).map Nd.id).Nodup) (blks : ((ns ++ [z]).map Nd.blk).Nodup) (out : z.par = -1 ∨ ∃ w ∈ ns, z.par = w.id) (lt : (z.id : Int) < nx) (dat : z.dir = true → z.data = []) (a : z.a.Ok ∧ z.a.s = 0 ∧ z.a.f = 15) : Sb ns [z] z z.par z.name nx := by
 have one : ∀ x ∈ [z], x = z := fun x hx => List.mem_singleton.1 hx
 have no : z.par ≠ z.id := out_ne out ids (List.mem_singleton_self z)
 refine ⟨⟨by simp, fun x hx k hk => ?_, fun x hx y hy hp => ?_, fun x hx => ?_, fun x hx => ?_⟩, List.mem_singleton_self _, rfl, rfl, ids, blks, out, fun u hu => ?_, fun u hu => .inl (one u hu), fun u hu => .inl (one u hu), ⟨fun _ => 0, rfl, fun u hu v hv hp => ?_⟩, fun u hu => ?_, fun u hu => ?_⟩
 ·rw [one x hx, hz] at hk; cases hk
 ·rw [one x hx, one y hy] at hp; exact absurd hp no
 ·rw [one x hx, hz]; exact List.Pairwise.nil
 ·rw [one x hx, hz]; exact Nat.zero_le _
 ·rw [one u hu]; exact lt
 ·rw [one u hu, one v hv] at hp; exact absurd hp no
 ·rw [one u hu]; exact dat
 ·rw [one u hu]; exact a
def addF (kp : Option Addr) (kc : Nat) (b : Nat) (y : Nd) : Nd := { y with kp := kp, kc := kc, kids := y.kids ++ [b] }
theorem addF_keeps (kp : Option Addr) (kc b : Nat) : Keeps (addF kp kc b) := ⟨fun _ => rfl, fun _ => rfl, fun _ => rfl, fun _ => rfl⟩
theorem turn_ids {f : Nd → Nd} (h : Keeps f) (b : Nat) (ns : List Nd) : (turnB b f ns).map Nd.id = ns.map Nd.id := by
 unfold turnB; rw [List.map_map]; exact List.map_congr_left fun y _ => (qN h y).2.1
theorem turn_len (f : Nd → Nd) (b : Nat) (ns : List Nd) : (turnB b f ns).length = ns.length := by unfold turnB; rw [List.length_map]
theorem turn_dat {f : Nd → Nd} (h : ∀ y, (f y).data = y.data) (b : Nat) (ns : List Nd) : (turnB b f ns).map (fun y : Nd => y.data.length) = ns.map fun y : Nd => y.data.length := by
 unfold turnB; rw [List.map_map]; exact List.map_congr_left fun y _ => by show (if y.blk = b then f y else y).data.length = _; split; rw [h]; rfl
theorem turn_out {f : Nd → Nd} {b : Nat} {ns : List Nd} (h : ∀ y ∈ ns, y.blk ≠ b) : turnB b f ns = ns := by
 unfold turnB
 conv => rhs; rw [← List.map_id ns]
 exact List.map_congr_left fun y hy => by rw [if_neg (h y hy)]; rfl
theorem sb_add {ns A B : List Nd} {x k : Nd} {par : Int} {nm s : List UInt8} {nx : Int} (hA : Sb ns A x par nm nx) (hd : x.dir = true) (hB : Sb (ns ++ A) B k x.id s nx) (hok : ptOk s = true) (hlast : ∀ l ∈ x.kids.map (nmB A), cmp l s < 0) (hfew : x.kids.length < 100000) (kp : Option Addr) (kc : Nat) :
 Sb ns (turnB x.blk (addF kp kc k.blk) A ++ B) (addF kp kc k.blk x) par nm nx := by
 have hF := addF_keeps kp kc k.blk
 have xof : ∀ u ∈ A, u.blk = x.blk → u = x := fun u hu e => xA hA.kd.blks hu hA.root e
 have kdd : ∀ u : Nd, (if u.blk = x.blk then addF kp kc k.blk u else u).kids = if u.blk = x.blk then u.kids ++ [k.blk] else u.kids := fun u => by split <;> rfl
 have same : ∀ u : Nd, (if u.blk = x.blk then addF kp kc k.blk u else u).dir = u.dir ∧ (if u.blk = x.blk then addF kp kc k.blk u else u).data = u.data ∧ (if u.blk = x.blk then addF kp kc k.blk u else u).a = u.a := fun u => by split <;> exact ⟨rfl, rfl, rfl⟩
 have gof : ∀ u ∈ turnB x.blk (addF kp kc k.blk) A, ∃ y ∈ A, u = (if y.blk = x.blk then addF kp kc k.blk y else y) := fun u hu => yj hu
 have gin : ∀ y ∈ A, (if y.blk = x.blk then addF kp kc k.blk y else y) ∈ turnB x.blk (addF kp kc k.blk) A ++ B := fun y hy => List.mem_append_left _ (turn_in hy)
 have xin : addF kp kc k.blk x ∈ turnB x.blk (addF kp kc k.blk) A ++ B := by
  have := gin x hA.root
  rw [if_pos rfl] at this; exact this
 have idAB : ∀ u ∈ A, ∀ v ∈ B, u.id ≠ v.id := fun u hu v hv => app_ne hB.ids (List.mem_append_right _ hu) hv
 have idnB : ∀ u ∈ ns, ∀ v ∈ B, u.id ≠ v.id := fun u hu v hv => app_ne hB.ids (List.mem_append_left _ hu) hv
 have noB : ∀ v ∈ B, par ≠ v.id := fun v hv e => by
  rcases hA.out with h | ⟨w, hw, h⟩
  ·omega
  ·exact idnB w hw v hv (by omega)
 have idsA : (A.map Nd.id).Nodup := by
  have := hA.ids
  rw [List.map_append, List.nodup_append] at this; exact this.2.1
 have idsB : (B.map Nd.id).Nodup := by
  have := hB.ids
  rw [List.map_append, List.nodup_append] at this; exact this.2.1
 have idAll : ((ns ++ (turnB x.blk (addF kp kc k.blk) A ++ B)).map Nd.id).Nodup := by
  have := hB.ids
  rw [List.map_append, List.map_append, turn_ids hF]; rw [List.map_append, List.map_append, List.append_assoc] at this; exact this
 have blkAll : ((ns ++ (turnB x.blk (addF kp kc k.blk) A ++ B)).map Nd.blk).Nodup := by
  have := hB.blks
  rw [List.map_append, List.map_append, turn_blk hF]; rw [List.map_append, List.map_append, List.append_assoc] at this; exact this
 have blk1 : ((turnB x.blk (addF kp kc k.blk) A ++ B).map Nd.blk).Nodup := by
  rw [List.map_append, List.nodup_append] at blkAll; exact blkAll.2.1
 have nmA : ∀ v ∈ A, nmB (turnB x.blk (addF kp kc k.blk) A ++ B) v.blk = v.name := fun v hv => by
  have h1 := xU blk1 (gin v hv)
  rw [(qN hF v).1, (qN hF v).2.2.2] at h1; exact h1
 have nmBB : ∀ v ∈ B, nmB (turnB x.blk (addF kp kc k.blk) A ++ B) v.blk = v.name := fun v hv => xU blk1 (List.mem_append_right _ hv)
 refine ⟨⟨blk1, fun u hu j hj => ?_, fun u hu v hv hp => ?_, fun u hu => ?_, fun u hu => ?_⟩, xin, hA.xpar, hA.xname, idAll, blkAll, hA.out, fun u hu => ?_, fun u hu => ?_, fun u hu => ?_, ?_, fun u hu hdu => ?_, fun u hu => ?_⟩
 ·rcases List.mem_append.1 hu with hu | hu
  ·obtain ⟨w, hw, rfl⟩ := gof u hu
   rw [kdd] at hj; rw [(qN hF w).2.1]
   have old : j ∈ w.kids → ∃ y ∈ turnB x.blk (addF kp kc k.blk) A ++ B, y.blk = j ∧ y.par = w.id := fun hj => by
    obtain ⟨v, h1, h2, h3⟩ := hA.kd.sub w hw j hj
    exact ⟨_, gin v h1, by rw [(qN hF v).1]; exact h2, by rw [(qN hF v).2.2.1]; exact h3⟩
   by_cases e : w.blk = x.blk
   ·rw [if_pos e] at hj
    rcases List.mem_append.1 hj with hj | hj
    ·exact old hj
    ·rw [List.mem_singleton] at hj; exact ⟨k, List.mem_append_right _ hB.root, hj.symm, by rw [hB.xpar, xof w hw e]⟩
   ·rw [if_neg e] at hj; exact old hj
  ·obtain ⟨v, h1, h2, h3⟩ := hB.kd.sub u hu j hj
   exact ⟨v, List.mem_append_right _ h1, h2, h3⟩
 ·rcases List.mem_append.1 hu with hu | hu
  ·obtain ⟨w, hw, rfl⟩ := gof u hu
   rw [(qN hF w).2.1] at hp; rw [kdd]
   rcases List.mem_append.1 hv with hv | hv
   ·obtain ⟨y, hy, rfl⟩ := gof v hv
    rw [(qN hF y).2.2.1] at hp; rw [(qN hF y).1]; have h1 := hA.kd.all w hw y hy hp
    split
    ·exact List.mem_append_left _ h1
    ·exact h1
   ·rcases hB.par v hv with h1 | ⟨z, hz, h1, _⟩
    ·subst h1; rw [hB.xpar] at hp; have e : w = x := nmId idsA hw hA.root (by omega)
     rw [e, if_pos rfl]; exact List.mem_append_right _ (List.mem_singleton_self _)
    ·exact absurd (show w.id = z.id by omega) (idAB w hw z hz)
  ·rcases List.mem_append.1 hv with hv | hv
   ·obtain ⟨y, hy, rfl⟩ := gof v hv
    rw [(qN hF y).2.2.1] at hp
    rcases hA.par y hy with h1 | ⟨z, hz, h1, _⟩
    ·rw [h1, hA.xpar] at hp; exact absurd hp (noB u hu)
    ·exact absurd (show z.id = u.id by omega) (idAB z hz u hu)
   ·exact hB.kd.all u hu v hv hp
 ·rcases List.mem_append.1 hu with hu | hu
  ·obtain ⟨w, hw, rfl⟩ := gof u hu
   rw [kdd]
   have e0 : ∀ l : List Nat, (∀ j ∈ l, ∃ v ∈ A, v.blk = j) → l.map (nmB (turnB x.blk (addF kp kc k.blk) A ++ B)) = l.map (nmB A) := fun l hl => List.map_congr_left fun j hj => by
    obtain ⟨v, h1, h2⟩ := hl j hj
    rw [← h2, nmA v h1, xU hA.kd.blks h1]
   have e1 : ∀ j ∈ w.kids, ∃ v ∈ A, v.blk = j := fun j hj => by
    obtain ⟨v, h1, h2, _⟩ := hA.kd.sub w hw j hj; exact ⟨v, h1, h2⟩
   by_cases e : w.blk = x.blk
   ·rw [if_pos e, List.map_append, e0 _ e1, List.map_cons, List.map_nil, nmBB k hB.root, hB.xname]; obtain rfl := xof w hw e
    refine List.pairwise_append.2 ⟨hA.kd.rise w hw, List.pairwise_singleton _ _, fun a ha b hb => ?_⟩; rw [List.mem_singleton] at hb; rw [hb]; exact hlast a ha
   ·rw [if_neg e, e0 _ e1]; exact hA.kd.rise w hw
  ·have e0 : u.kids.map (nmB (turnB x.blk (addF kp kc k.blk) A ++ B)) = u.kids.map (nmB B) := List.map_congr_left fun j hj => by
    obtain ⟨v, h1, h2, _⟩ := hB.kd.sub u hu j hj
    rw [← h2, nmBB v h1, xU hB.kd.blks h1]
   rw [e0]; exact hB.kd.rise u hu
 ·rcases List.mem_append.1 hu with hu | hu
  ·obtain ⟨w, hw, rfl⟩ := gof u hu
   rw [kdd]
   split
   ·rename_i e
    rw [List.length_append, xof w hw e]; simp only [List.length_cons, List.length_nil]; omega
   ·exact hA.kd.few w hw
  ·exact hB.kd.few u hu
 ·rcases List.mem_append.1 hu with hu | hu
  ·obtain ⟨w, hw, rfl⟩ := gof u hu
   rw [(qN hF w).2.1]; exact hA.lt w hw
  ·exact hB.lt u hu
 ·rcases List.mem_append.1 hu with hu | hu
  ·obtain ⟨w, hw, rfl⟩ := gof u hu
   rcases hA.par w hw with h1 | ⟨z, hz, h1, h2⟩
   ·left; rw [h1, if_pos rfl]
   ·right; exact ⟨_, gin z hz, by rw [(qN hF w).2.2.1, (qN hF z).2.1]; exact h1, by rw [(same z).1]; exact h2⟩
  ·right
   rcases hB.par u hu with h1 | ⟨z, hz, h1, h2⟩
   ·exact ⟨_, xin, by rw [h1, hB.xpar]; rfl, hd⟩
   ·exact ⟨z, List.mem_append_right _ hz, h1, h2⟩
 ·rcases List.mem_append.1 hu with hu | hu
  ·obtain ⟨w, hw, rfl⟩ := gof u hu
   rcases hA.nm w hw with h1 | h1
   ·left; rw [h1, if_pos rfl]
   ·right; rw [(qN hF w).2.2.2]; exact h1
  ·right
   rcases hB.nm u hu with h1 | h1
   ·rw [h1, hB.xname]; exact hok
   ·exact h1
 ·obtain ⟨dA, hA0, hA1⟩ := hA.rk
  obtain ⟨dB, hB0, hB1⟩ := hB.rk
  have inB : ∀ v ∈ B, v.id ∈ B.map Nd.id := fun v hv => List.mem_map.2 ⟨v, hv, rfl⟩
  have notB : ∀ v ∈ A, v.id ∉ B.map Nd.id := fun v hv h => by
   obtain ⟨u, hu, e⟩ := List.mem_map.1 h
   exact idAB v hv u hu e.symm
  refine ⟨fun i => if i ∈ B.map Nd.id then dB i + 1 else dA i, ?_, fun u hu v hv hp => ?_⟩
  ·show (if x.id ∈ B.map Nd.id then _ else _) = 0
   rw [if_neg (notB x hA.root)]; exact hA0
  ·rcases List.mem_append.1 hu with hu | hu
   ·obtain ⟨w, hw, rfl⟩ := gof u hu
    rw [(qN hF w).2.1] at hp ⊢
    rcases List.mem_append.1 hv with hv | hv
    ·obtain ⟨y, hy, rfl⟩ := gof v hv
     rw [(qN hF y).2.2.1] at hp; rw [(qN hF y).2.1]; dsimp only; rw [if_neg (notB y hy), if_neg (notB w hw)]; exact hA1 w hw y hy hp
    ·rcases hB.par v hv with h1 | ⟨z, hz, h1, _⟩
     ·subst h1; rw [hB.xpar] at hp; have e : w = x := nmId idsA hw hA.root (by omega)
      dsimp only; rw [if_pos (inB _ hB.root), e, if_neg (notB x hA.root), hA0, hB0]
     ·exact absurd (show w.id = z.id by omega) (idAB w hw z hz)
   ·rcases List.mem_append.1 hv with hv | hv
    ·obtain ⟨y, hy, rfl⟩ := gof v hv
     rw [(qN hF y).2.2.1] at hp
     rcases hA.par y hy with h1 | ⟨z, hz, h1, _⟩
     ·rw [h1, hA.xpar] at hp; exact absurd hp (noB u hu)
     ·exact absurd (show z.id = u.id by omega) (idAB z hz u hu)
    ·dsimp only; rw [if_pos (inB v hv), if_pos (inB u hu), hB1 u hu v hv hp]
 ·rcases List.mem_append.1 hu with hu | hu
  ·obtain ⟨w, hw, rfl⟩ := gof u hu
   rw [(same w).1] at hdu; rw [(same w).2.1]; exact hA.dat w hw hdu
  ·exact hB.dat u hu hdu
 ·rcases List.mem_append.1 hu with hu | hu
  ·obtain ⟨w, hw, rfl⟩ := gof u hu
   rw [(same w).2.2]; exact hA.a w hw
  ·exact hB.a u hu
theorem rise_last {l : List (List UInt8)} (h : Rise l) {s a : List UInt8} (ha : l[l.length - 1]? = some a) (hs : cmp a s < 0) : ∀ x ∈ l, cmp x s < 0 := fun x hx => by
 obtain ⟨j, hj⟩ := List.mem_iff_getElem?.1 hx
 obtain ⟨h1, h2⟩ := List.getElem?_eq_some_iff.1 hj
 obtain ⟨h3, h4⟩ := List.getElem?_eq_some_iff.1 ha
 by_cases e : j = l.length - 1
 ·subst e; rw [← h2, h4]; exact hs
 ·have h5 := rise_lt h (i := j) (j := l.length - 1) (by omega) h3
  rw [h2, h4] at h5; exact cmp_trans h5 hs
theorem wf_load {A : List Nd} {x : Nd} {nm : List UInt8} {nx : Int} {tb mb ck bs : Nat} (h : Sb [] A x (-1) nm nx) (hid : x.id = 0) (hd : x.dir = true) (hl : A.length ≤ 200) (hb : bs = (A.map fun y => y.data.length).sum) (hm : bs ≤ 1048576) : Wf ⟨tb, mb, ck, x.blk, nx.toNat, bs, A⟩ x := by
 have hids : (A.map Nd.id).Nodup := h.ids
 refine ⟨h.kd, h.root, rfl, hid, h.xpar, hd, hids, fun u hu => ?_, fun u hu => ?_, fun u hu => ?_, ?_, hl, h.dat, hb, hm, fun u hu => ⟨(h.a u hu).1, (h.a u hu).2.1⟩⟩
 ·have := h.lt u hu
  show u.id < nx.toNat
  omega
 ·rcases h.par u hu with h1 | h1
  ·left; rw [h1, hid]
  ·exact .inr h1
 ·rcases h.nm u hu with h1 | h1
  ·left; rw [h1, hid]
  ·exact .inr h1
 ·obtain ⟨d, _, hd1⟩ := h.rk
  exact ⟨d, hd1⟩
structure R.Good (r : R) : Prop where
 len : r.b.length ≤ 140737488355328
 pos : r.pos ≤ r.b.length
theorem R.good_take {r : R} (h : r.Good) (n : Int) : (r.take n).1.Good := ⟨by rw [take_b]; exact h.len, take_pos r n h.pos⟩
theorem R.good_get {r : R} (h : r.Good) (n : Nat) : (r.get n).1.Good := R.good_take h n
theorem R.good_refuse {r : R} (h : r.Good) (w k : Int) : (r.refuse w k).Good := by unfold R.refuse; split; exact ⟨h.len, h.pos⟩; exact h
theorem R.good_fail {r : R} (h : r.Good) (w : Int) : (r.fail w).Good := by unfold R.fail; split; exact h; exact R.good_refuse h _ _
theorem R.good_new (l : List UInt8) (h : l.length ≤ 140737488355328) : (R.new l).Good := ⟨h, Nat.zero_le _⟩
theorem R.good_ite {p : Prop} [Decidable p] {a b : R} (h1 : a.Good) (h2 : b.Good) : (if p then a else b).Good := by split; exact h1; exact h2
/-- a text that is not longer than most -/
def R.text (r : R) (most : Int) : R × List UInt8 :=
 (if (if 0 > most then 0 else most) < ((r.get 4).2 : Int) then (r.get 4).1.refuse 3 r.pos else (r.get 4).1).take ((r.get 4).2 : Nat)
theorem R.good_text {r : R} (h : r.Good) (n : Int) : (r.text n).1.Good := by
 unfold R.text; exact R.good_take (R.good_ite (R.good_refuse (R.good_get h 4) _ _) (R.good_get h 4)) _
theorem rText_spec (pr : Nat) (p : Option Addr) (c : Nat) (r : R) (hg : r.Good) (most : Int) (hm : -9223372036854775808 ≤ most ∧ most ≤ 9223372036854775807) :
 Tri Tryz.prog 51 [.pointer (some ⟨pr, 0, none⟩), .int .i64 most] (rd pr p c r) (fun v H' => v = .string (str (r.text most).2) ∧ H' = rd pr p c (r.text most).1) := by
 refine zt Tryz.func51 rfl Tryz.ntmps51 (by simp) ?_; refine zM (zK (zH rfl (zO rfl) rfl (zN (zI (zM ?_))))); refine zK (zH rfl (zL rfl) rfl (zH rfl (zU rfl) rfl (zH rfl (zP fa140_1 rfl) rfl (zH rfl (zW sc3 rfl (zy4 0 rfl (Rd.own rfl))) rfl (zH rfl (zO rfl) rfl ?_))))); refine zN (zI (zM (zK (zH rfl (zL rfl) rfl (zT rfl (zb Tryz.call94 rfl rfl (by repeat (first | exact zR _ | apply zG 0 rfl | apply zG 1 rfl | apply zG 2 rfl | apply zG 3 rfl | apply zG 4 rfl | apply zG 5 rfl | apply zG 6 rfl | apply zG 7 rfl)) (get_spec pr p c r 4 (by omega) hg.len hg.pos)) rfl ?_))))); rintro _ H' ⟨_, ⟨rfl, rfl⟩, hH⟩; simp only [zy7] at hH; subst hH; have hlt := yt r 4
 simp only [Nat.reducePow] at hlt; have hg1 := R.good_get hg 4
 refine zH rfl (zO rfl) rfl (zN (zI ?_)); refine yO 1005 (fun Δ LL => ∃ (q : R), (q.Good ∧ q = (if (if 0 > most then 0 else most) < ((r.get 4).2 : Int) then (r.get 4).1.refuse 3 r.pos else (r.get 4).1)) ∧ Δ = [] ∧ LL = rd pr p c q) (zS (k := 0) rfl (zS (k := 6) rfl (zf _))) ?_ ?_
 ·refine zM (zK (zH rfl (zL rfl) rfl (zH rfl (zL rfl) rfl (zH rfl (ro_max rfl rfl rfl) rfl (zH rfl (yF Tryz.underlying3 Tryz.underlying28 rfl (yI (by split <;> omega) (by split <;> omega))) rfl ?_))))); refine zH rfl (yd rfl rfl rfl) rfl (zN (zI (zq rfl (fun hc17 => ?_) (fun hc17 => ?_))))
  ·replace hc17 := zy2 hc17
   refine zK (zH rfl (zL rfl) rfl (zH rfl (zL rfl) rfl (zT rfl (zb Tryz.call95 rfl rfl (by repeat (first | exact zR _ | apply zG 0 rfl | apply zG 1 rfl | apply zG 2 rfl | apply zG 3 rfl | apply zG 4 rfl | apply zG 5 rfl | apply zG 6 rfl | apply zG 7 rfl)) (refuse_spec pr p c (r.get 4).1 3 r.pos)) rfl ?_))); rintro _ H' ⟨_, ⟨rfl, rfl⟩, hH⟩; simp only [zy7] at hH; subst hH; refine zN (zI (qc (qn ⟨_, ⟨R.good_refuse hg1 _ _, (if_pos hc17).symm⟩, rfl, rfl⟩ ?_ ?_ ?_)))
   ·exact (by repeat (first | exact zf _ | refine zS rfl ?_))
   ·exact (by repeat (first | exact zf _ | refine zS rfl ?_))
   ·exact zj _
  ·replace hc17 := zy3 hc17
   refine zl ?_; refine zI (qc (qn ⟨_, ⟨hg1, (if_neg hc17).symm⟩, rfl, rfl⟩ ?_ ?_ ?_))
   ·exact (by repeat (first | exact zf _ | refine zS rfl ?_))
   ·exact (by repeat (first | exact zf _ | refine zS rfl ?_))
   ·exact zj _
 ·rintro Δ LL ⟨q, ⟨hq, hqe⟩, rfl, rfl⟩; simp only [zA, zB]; refine zM (zK (zH rfl (zL rfl) rfl (zH rfl (zL rfl) rfl (zH rfl (yF Tryz.underlying28 Tryz.underlying3 rfl (wrap_natN (by omega))) rfl (zT rfl (zb Tryz.call96 rfl rfl (by repeat (first | exact zR _ | apply zG 0 rfl | apply zG 1 rfl | apply zG 2 rfl | apply zG 3 rfl | apply zG 4 rfl | apply zG 5 rfl | apply zG 6 rfl | apply zG 7 rfl)) (take_spec pr p c q ((r.get 4).2 : Nat) hq.len hq.pos)) rfl ?_))))); rintro _ H' ⟨_, ⟨A, ⟨p', c', rfl, hs, rfl⟩, rfl⟩, hH⟩; simp only [zy7] at hH; subst hH; refine zH rfl (yp Tryz.underlying25 Tryz.underlying5 Tryz.underlying9 rfl (zy5 0 rfl Vw.row) rfl) rfl (zH rfl (zO rfl) rfl (zN (zI (zi ?_)))); refine' zX (qk rfl rfl) ?_ ?_
  rotate_left 1
  exact ⟨by unfold R.text; rw [← hqe], by unfold R.text; rw [← hqe]⟩
  exact (zJ 1 rfl (zJ 1 rfl (zY _)))
theorem b8_toNat (n : Nat) : (UInt8.ofNat n).toNat = n % 256 := UInt8.toNat_ofNat'
theorem val_cons (c : UInt8) (l : List UInt8) : val (c :: l) = c.toNat * 256 ^ l.length + val l := by
 have key : ∀ (l : List UInt8) (a : Nat), l.foldl (fun n c => n * 256 + c.toNat) a = a * 256 ^ l.length + l.foldl (fun n c => n * 256 + c.toNat) 0 := by
  intro l
  induction l with
  | nil => intro a; simp
  | cons d l ih =>
   intro a; simp only [List.foldl_cons, List.length_cons]; rw [ih (a * 256 + d.toNat), ih (0 * 256 + d.toNat)]; simp only [Nat.zero_mul, Nat.zero_add, Nat.pow_succ, Nat.add_mul, Nat.mul_assoc, Nat.add_assoc, Nat.mul_comm 256]
 unfold val; simp only [List.foldl_cons]; rw [key]; simp
theorem val_be (n : Nat) : ∀ k, val (be n k) = n % 256 ^ k
 | 0 => by simp [be, val, Nat.mod_one]
 | k + 1 => by
  rw [be, val_cons, val_be n k, qE, b8_toNat, Nat.pow_succ, Nat.mod_mul]; rw [Nat.mul_comm, Nat.add_comm]
def R.adv (q : R) (n : Nat) : R := { q with pos := q.pos + n }
/-- nothing was refused, and this is left -/
structure Here (q : R) (l : List UInt8) : Prop where
 why : q.why = 0
 pos : q.pos ≤ q.b.length
 at' : q.b.drop q.pos = l
theorem Here.new (l : List UInt8) : Here (R.new l) l := ⟨rfl, Nat.zero_le _, rfl⟩
theorem Here.len {q : R} {l : List UInt8} (h : Here q l) : q.pos + l.length = q.b.length := by rw [← h.at', List.length_drop]; have := h.pos; omega
theorem Here.adv {q : R} {x l : List UInt8} (h : Here q (x ++ l)) {n : Nat} (hn : n = x.length) : Here (q.adv n) l := ⟨h.why, by
 have := h.len; rw [List.length_append] at this
 show q.pos + n ≤ q.b.length; omega, by
 show q.b.drop (q.pos + n) = l
 rw [← List.drop_drop, h.at', hn, List.drop_left]⟩
theorem adv_adv (q : R) (a b : Nat) : (q.adv a).adv b = q.adv (a + b) := by unfold R.adv; simp only [Nat.add_assoc]
theorem take_here {q : R} {x l : List UInt8} (h : Here q (x ++ l)) (n : Int) (hn : n = (x.length : Nat)) : q.take n = (q.adv x.length, x) := by
 subst hn; have hl := h.len
 rw [List.length_append] at hl; unfold R.take; rw [if_neg (by simpa using h.why), if_neg (by omega)]
 by_cases h0 : x.length = 0
 ·have : x = [] := List.eq_nil_of_length_eq_zero h0
  subst this; rw [if_pos (by simp)]; rfl
 ·rw [if_neg (by omega), h.at', Int.toNat_natCast, List.take_left]; rfl
theorem yM {q : R} {n k : Nat} {l : List UInt8} (h : Here q (be n k ++ l)) (hn : n < 256 ^ k) : q.get k = (q.adv k, n) := by
 have h1 := take_here h (k : Nat) (by rw [qE])
 unfold R.get; rw [h1, qE]; simp only [val_be, Nat.mod_eq_of_lt hn]
theorem text_here {q : R} {s l : List UInt8} (h : Here q (be s.length 4 ++ s ++ l)) (most : Int) (hs : (s.length : Int) ≤ most) (h4 : s.length < 4294967296) : q.text most = (q.adv (4 + s.length), s) := by
 rw [List.append_assoc] at h; have h1 := yM h (by simpa using h4)
 have h2 := h.adv (n := 4) (by rw [qE])
 unfold R.text; rw [h1]; simp only
 rw [if_neg (by split <;> omega), take_here h2 _ rfl, adv_adv]
/-- x was read between r and q -/
structure Reads (r q : R) (x : List UInt8) : Prop where
 why : r.why = 0
 b : q.b = r.b
 pos : q.pos ≤ r.b.length
 x : r.b.take q.pos = r.b.take r.pos ++ x
theorem Reads.refl {r : R} (h : r.why = 0) (hp : r.pos ≤ r.b.length) : Reads r r [] := ⟨h, rfl, hp, by simp⟩
theorem Reads.trans {r q s : R} {x y : List UInt8} (h1 : Reads r q x) (h2 : Reads q s y) : Reads r s (x ++ y) := ⟨h1.why, h2.b.trans h1.b, by have := h2.pos; rwa [h1.b] at this, by
 have h := h2.x
 rw [h1.b, h1.x, List.append_assoc] at h; exact h⟩
theorem tmod_pos (a k : Int) (hk : 0 < k) (h : 0 ≤ a.tmod k) : a.tmod k = a % k := by
 rw [Int.tmod_eq_emod] at h ⊢
 split at h <;> rename_i hc
 ·rw [if_pos hc]; omega
 ·rw [if_neg hc]; have hb := Int.emod_lt_of_pos a hk
  omega
theorem tmod_neg (a k : Int) (hk : 0 < k) (h : a.tmod k < 0) : a.tmod k + k = a % k := by
 rw [Int.tmod_eq_emod] at h ⊢; have hb := Int.emod_nonneg a (show k ≠ 0 by omega)
 split at h <;> rename_i hc
 ·omega
 ·rw [if_neg hc]; omega
theorem xor8 (a b : UInt8) : bits .xor .u8 (a.toNat : Int) (b.toNat : Int) = ((a ^^^ b).toNat : Int) := by
 show IntKind.u8.wrap ((BitVec.ofInt 8 (a.toNat : Int) ^^^ BitVec.ofInt 8 (b.toNat : Int)).toNat : Int) = _
 have e1 : BitVec.ofInt 8 (a.toNat : Int) = BitVec.ofNat 8 a.toNat := by simp
 have e2 : BitVec.ofInt 8 (b.toNat : Int) = BitVec.ofNat 8 b.toNat := by simp
 have h1 := UInt8.toNat_lt a
 have h2 := UInt8.toNat_lt b
 have h3 : a.toNat ^^^ b.toNat < 256 := Nat.xor_lt_two_pow (n := 8) h1 h2
 rw [e1, e2, BitVec.toNat_xor, BitVec.toNat_ofNat, BitVec.toNat_ofNat, Nat.mod_eq_of_lt h1, Nat.mod_eq_of_lt h2, UInt8.toNat_xor]; exact wrap_u8_in (by omega) (by omega)
theorem within_spec (a lo hi : Int) (h0 : 0 ≤ lo) (h1 : lo ≤ hi) (h2 : hi ≤ 4611686018427387904) : Tri Tryz.prog 13 [.int .i64 a, .int .i64 lo, .int .i64 hi] [] (fun v H' => v = .int .i64 (lo + a % (hi - lo + 1)) ∧ H' = []) := by
 have hb0 := Int.emod_nonneg a (show hi - lo + 1 ≠ 0 by omega)
 have hb1 := Int.emod_lt_of_pos a (show 0 < hi - lo + 1 by omega)
 have hb2 : (a.tmod (hi - lo + 1)).natAbs < (hi - lo + 1).natAbs := by
  have h := Int.tmod_eq_emod (a := a) (b := hi - lo + 1)
  split at h <;> omega
 refine zt Tryz.func13 rfl Tryz.ntmps13 (by simp) ?_; refine zM (zK (zH rfl (zO rfl) rfl (zN (zI (zM ?_))))); refine zK (zH rfl (zL rfl) rfl (zH rfl (zL rfl) rfl (zH rfl (zL rfl) rfl (zH rfl (yi rfl rfl (qU (by omega) (by omega))) rfl (zH rfl (ql rfl rfl (qU (by omega) (by omega))) rfl ?_))))); refine zH rfl (ro_rem rfl rfl (by omega) rfl) rfl (zH rfl (zO rfl) rfl (zN (zI (zM (zM ?_))))); refine zK (zH rfl (zL rfl) rfl (zH rfl (yP rfl rfl rfl) rfl (zN (zI (zq rfl (fun hc14 => ?_) (fun hc14 => ?_))))))
 ·replace hc14 := zy2 hc14
  have ht := tmod_neg a (hi - lo + 1) (by omega) hc14
  refine zK (zH rfl (zL rfl) rfl (zH rfl (zL rfl) rfl (zH rfl (ql rfl rfl (qU (by omega) (by omega))) rfl (zH rfl (zL rfl) rfl (zH rfl (yi rfl rfl (qU (by omega) (by omega))) rfl ?_))))); refine zH rfl (ql rfl rfl (qU (by omega) (by omega))) rfl (zH rfl (zO rfl) rfl (zN (zI (zM (zK ?_))))); refine zH rfl (zL rfl) rfl (zH rfl (zL rfl) rfl (zH rfl (ql rfl rfl (qU (by omega) (by omega))) rfl (zH rfl (zO rfl) rfl (zN (zI ?_))))); refine zi ?_; refine' zX (qk rfl rfl) ?_ ?_
  rotate_left 1
  exact ⟨by congr 1; omega, rfl⟩
  exact zj _
 ·replace hc14 := zy3 hc14
  have ht := tmod_pos a (hi - lo + 1) (by omega) (by omega)
  refine zl ?_; refine zI (zM (zK (zH rfl (zL rfl) rfl (zH rfl (zL rfl) rfl (zH rfl (ql rfl rfl (qU (by omega) (by omega))) rfl ?_))))); refine zH rfl (zO rfl) rfl (zN (zI (zi ?_))); refine' zX (qk rfl rfl) ?_ ?_
  rotate_left 1
  exact ⟨by congr 1; omega, rfl⟩
  exact zj _
/-- a thing and what is below it, in the order in which they are saved -/
def dfs (ns : List Nd) : Nat → Nd → List Nd
 | 0, _ => []
 | n + 1, x => x :: (kidsN ns x).flatMap (dfs ns n)
theorem perm_flat (f : Nd → List Nd) : ∀ l : List Nd, (l.flatMap fun x => x :: f x).Perm (l ++ l.flatMap f)
 | [] => List.Perm.refl _
 | x :: l => by
  rw [List.flatMap_cons, List.flatMap_cons, List.cons_append, List.cons_append]; refine List.Perm.cons x ?_; have h := perm_flat f l
  refine (List.Perm.append_left (f x) h).trans ?_; rw [← List.append_assoc, ← List.append_assoc]; exact List.Perm.append_right _ List.perm_append_comm
theorem flat_flat (f g : Nd → List Nd) : ∀ l : List Nd, (l.flatMap fun x => (f x).flatMap g) = (l.flatMap f).flatMap g
 | [] => rfl
 | x :: l => by rw [List.flatMap_cons, List.flatMap_cons, List.flatMap_append, flat_flat f g l]
theorem dfs_levs (ns : List Nd) : ∀ (n : Nat) (l : List Nd), (l.flatMap (dfs ns (n + 1))).Perm (levs ns n l)
 | 0, l => by
  show (l.flatMap fun x => x :: (kidsN ns x).flatMap fun _ => []).Perm l
  have e : (l.flatMap fun x => x :: (kidsN ns x).flatMap fun _ => ([] : List Nd)) = l := by
   induction l with
   | nil => rfl
   | cons x l ih => rw [List.flatMap_cons, ih]; simp
  rw [e]
 | n + 1, l => by
  show (l.flatMap fun x => x :: (kidsN ns x).flatMap (dfs ns (n + 1))).Perm (l ++ levs ns n (l.flatMap (kidsN ns)))
  refine (perm_flat _ l).trans (List.Perm.append_left l ?_); rw [flat_flat]; exact dfs_levs ns n _
theorem dfs_one (ns : List Nd) (n : Nat) (x : Nd) : (dfs ns (n + 1) x).Perm (levs ns n [x]) := by
 have h := dfs_levs ns n [x]
 rw [List.flatMap_cons, List.flatMap_nil, List.append_nil] at h; exact h
theorem dfs_nodup {t : Tr} {r : Nd} (hW : Wf t r) (n : Nat) {x : Nd} (hx : x ∈ t.ns) : (dfs t.ns n x).Nodup ∧ ∀ y ∈ dfs t.ns n x, y ∈ t.ns := by
 cases n with
 | zero => exact ⟨List.nodup_nil, fun y hy => by cases hy⟩
 | succ n =>
  obtain ⟨d, hD⟩ := hW.rk
  have h2 := levs_nodup hW hD n (d x.id) (l := [x]) (by simp) fun y hy => by rw [List.mem_singleton.1 hy]; exact ⟨hx, rfl⟩
  have hp := dfs_one t.ns n x
  exact ⟨hp.nodup_iff.2 h2.1, fun y hy => (h2.2 y (hp.mem_iff.1 hy)).1⟩
theorem map_nodup {t : Tr} {r : Nd} (hW : Wf t r) : ∀ {l : List Nd}, l.Nodup → (∀ y ∈ l, y ∈ t.ns) → (l.map Nd.id).Nodup
 | [], _, _ => by simp
 | x :: l, h, hl => by
  rw [List.nodup_cons] at h; rw [List.map_cons, List.nodup_cons]; refine ⟨fun hm => ?_, map_nodup hW h.2 fun y hy => hl y (by simp [hy])⟩; obtain ⟨y, hy, e⟩ := List.mem_map.1 hm
  have := nmId hW.ids (hl y (by simp [hy])) (hl x (by simp)) e
  rw [this] at hy; exact h.1 hy
theorem dfs_ids {t : Tr} {r : Nd} (hW : Wf t r) (n : Nat) {x : Nd} (hx : x ∈ t.ns) : ((dfs t.ns n x).map Nd.id).Nodup := map_nodup hW (dfs_nodup hW n hx).1 (dfs_nodup hW n hx).2
theorem dfs_sum {t : Tr} {r : Nd} (hW : Wf t r) (w : Nd → Nat) (n : Nat) {x : Nd} (hx : x ∈ t.ns) : ((dfs t.ns n x).map w).sum ≤ (t.ns.map w).sum := sum_sub w (dfs_nodup hW n hx).1 (dfs_nodup hW n hx).2
theorem flat_snoc (f : Nd → List Nd) {l : List Nd} {i : Nat} {y : Nd} (h : l[i]? = some y) : (l.take (i + 1)).flatMap f = (l.take i).flatMap f ++ f y := by
 obtain ⟨hi, he⟩ := List.getElem?_eq_some_iff.1 h
 rw [List.take_succ_eq_append_getElem hi, List.flatMap_append, List.flatMap_cons, List.flatMap_nil, List.append_nil, he]
theorem flat_split (f : Nd → List Nd) {l : List Nd} {i : Nat} {y : Nd} (h : l[i]? = some y) : l.flatMap f = (l.take i).flatMap f ++ f y ++ (l.drop (i + 1)).flatMap f := by
 rw [← flat_snoc f h, ← List.flatMap_append, List.take_append_drop]
def szs (l : List Nd) : Nat := (l.map fun y : Nd => y.data.length).sum
theorem szs_app (l m : List Nd) : szs (l ++ m) = szs l + szs m := by unfold szs; rw [List.map_append, List.sum_append]
theorem szs_cons (x : Nd) (l : List Nd) : szs (x :: l) = x.data.length + szs l := by unfold szs; rw [List.map_cons, List.sum_cons]
/-- what a saved thing has behind its header -/
def body (ns : List Nd) (n : Nat) (x : Nd) : List UInt8 := if x.dir = true then be x.kids.length 4 ++ (kidsN ns x).flatMap (kidB ns n) else be x.data.length 4 ++ x.data
theorem encN_body (ns : List Nd) (n : Nat) (x : Nd) : encN ns (n + 1) x = hdr x ++ body ns n x := rfl
/-- a saved thing comes, and there is room for it -/
structure Fit (t0 : Tr) (r0 x0 : Nd) (n : Nat) (rest : List UInt8) (ns : List Nd) (bs : Nat) (nx : Int) (r : R) : Prop where
 wf : Wf t0 r0
 x : x0 ∈ t0.ns
 deep : Deep t0.ns (n + 1) x0
 here : Here r (encN t0.ns (n + 1) x0 ++ rest)
 nx : (t0.next : Int) ≤ nx
 nx8 : t0.next ≤ 9223372036854775807
 ids : ∀ u ∈ ns, u.id ∉ (dfs t0.ns (n + 1) x0).map Nd.id
 cnt : ns.length + (dfs t0.ns (n + 1) x0).length ≤ 200
 bs : bs + szs (dfs t0.ns (n + 1) x0) ≤ 1048576
/-- its header was read -/
structure Fit7 (t0 : Tr) (r0 x0 : Nd) (n : Nat) (rest : List UInt8) (ns : List Nd) (bs : Nat) (nx : Int) (zid : Nat) (zd : Nat) (z : At) (r : R) : Prop where
 wf : Wf t0 r0
 x : x0 ∈ t0.ns
 deep : Deep t0.ns (n + 1) x0
 here : Here r (body t0.ns n x0 ++ rest)
 nx : (t0.next : Int) ≤ nx
 nx8 : t0.next ≤ 9223372036854775807
 ids : ∀ u ∈ ns, u.id ∉ (dfs t0.ns (n + 1) x0).map Nd.id
 cnt : ns.length + (dfs t0.ns (n + 1) x0).length ≤ 200
 bs : bs + szs (dfs t0.ns (n + 1) x0) ≤ 1048576
 id : zid = x0.id
 dir : (zd ≠ 0) ↔ x0.dir = true
 a : z = { x0.a with f := 15, s := 0 }
theorem fit_hd {t0 : Tr} {r0 x0 : Nd} {n : Nat} {rest : List UInt8} {ns : List Nd} {bs : Nat} {nx : Int} {r : R} {z1 z2 z3 z4 z5 z6 z7 : R × Nat}
 (e1 : r.get 8 = z1) (e2 : z1.1.get 1 = z2) (e3 : z2.1.get 4 = z3) (e4 : z3.1.get 4 = z4) (e5 : z4.1.get 4 = z5) (e6 : z5.1.get 4 = z6) (e7 : z6.1.get 4 = z7) (h : Fit t0 r0 x0 n rest ns bs nx r) : Fit7 t0 r0 x0 n rest ns bs nx z1.2 z2.2 ⟨15, 0, z3.2, z4.2, z5.2, z6.2, z7.2⟩ z7.1 := by
 have ha := (h.wf.a x0 h.x).1
 have hlt := h.wf.lt x0 h.x
 have hn := h.nx8
 have H := h.here
 rw [encN_body] at H; have hb : [b8 (if x0.dir then 1 else 0)] = be (if x0.dir then 1 else 0) 1 := by cases x0.dir <;> rfl
 have hh : hdr x0 = be x0.id 8 ++ (be (if x0.dir then 1 else 0) 1 ++ (be x0.a.u 4 ++ (be x0.a.g 4 ++ (be x0.a.m 4 ++ (be x0.a.a 4 ++ be x0.a.t 4))))) := by
  unfold hdr; rw [hb]; simp only [enc4, five, List.flatMap_cons, List.flatMap_nil, List.append_nil, List.append_assoc]
 rw [hh] at H; simp only [List.append_assoc] at H; have g1 := yM H (show x0.id < 256 ^ 8 by omega)
 rw [e1] at g1; have H1 := H.adv (n := 8) (by rw [qE])
 have g2 := yM H1 (show (if x0.dir then 1 else 0) < 256 ^ 1 by split <;> omega)
 rw [← (show z1.1 = r.adv 8 from by rw [g1]), e2] at g2; have H2 := H1.adv (n := 1) (by rw [qE])
 have g3 := yM H2 (show x0.a.u < 256 ^ 4 from ha.u)
 rw [← (show z1.1 = r.adv 8 from by rw [g1]), ← (show z2.1 = z1.1.adv 1 from by rw [g2]), e3] at g3; have H3 := H2.adv (n := 4) (by rw [qE])
 have g4 := yM H3 (show x0.a.g < 256 ^ 4 from ha.g)
 rw [← (show z1.1 = r.adv 8 from by rw [g1]), ← (show z2.1 = z1.1.adv 1 from by rw [g2]), ← (show z3.1 = z2.1.adv 4 from by rw [g3]), e4] at g4; have H4 := H3.adv (n := 4) (by rw [qE])
 have g5 := yM H4 (show x0.a.m < 256 ^ 4 from ha.m)
 rw [← (show z1.1 = r.adv 8 from by rw [g1]), ← (show z2.1 = z1.1.adv 1 from by rw [g2]), ← (show z3.1 = z2.1.adv 4 from by rw [g3]), ← (show z4.1 = z3.1.adv 4 from by rw [g4]), e5] at g5; have H5 := H4.adv (n := 4) (by rw [qE])
 have g6 := yM H5 (show x0.a.a < 256 ^ 4 from ha.a)
 rw [← (show z1.1 = r.adv 8 from by rw [g1]), ← (show z2.1 = z1.1.adv 1 from by rw [g2]), ← (show z3.1 = z2.1.adv 4 from by rw [g3]), ← (show z4.1 = z3.1.adv 4 from by rw [g4]), ← (show z5.1 = z4.1.adv 4 from by rw [g5]), e6] at g6; have H6 := H5.adv (n := 4) (by rw [qE])
 have g7 := yM H6 (show x0.a.t < 256 ^ 4 from ha.t)
 rw [← (show z1.1 = r.adv 8 from by rw [g1]), ← (show z2.1 = z1.1.adv 1 from by rw [g2]), ← (show z3.1 = z2.1.adv 4 from by rw [g3]), ← (show z4.1 = z3.1.adv 4 from by rw [g4]), ← (show z5.1 = z4.1.adv 4 from by rw [g5]), ← (show z6.1 = z5.1.adv 4 from by rw [g6]), e7] at g7; have H7 := H6.adv (n := 4) (by rw [qE])
 rw [← (show z1.1 = r.adv 8 from by rw [g1]), ← (show z2.1 = z1.1.adv 1 from by rw [g2]), ← (show z3.1 = z2.1.adv 4 from by rw [g3]), ← (show z4.1 = z3.1.adv 4 from by rw [g4]), ← (show z5.1 = z4.1.adv 4 from by rw [g5]), ← (show z6.1 = z5.1.adv 4 from by rw [g6]), ← (show z7.1 = z6.1.adv 4 from by rw [g7])] at H7; refine ⟨h.wf, h.x, h.deep, H7, h.nx, h.nx8, h.ids, h.cnt, h.bs, by rw [g1], ?_, ?_⟩
 ·rw [g2]; cases x0.dir <;> simp
 ·rw [g3, g4, g5, g6, g7]
/-- what the guards of get ask of a header -/
theorem fit_ok {t0 : Tr} {r0 x0 : Nd} {n : Nat} {rest : List UInt8} {ns : List Nd} {bs : Nat} {nx : Int} {zid zd : Nat} {z : At} {r : R} (h : Fit7 t0 r0 x0 n rest ns bs nx zid zd z r) : r.why = 0 ∧ (zid : Int) < nx ∧ zid ≤ 9223372036854775807 ∧ (∀ u ∈ ns, u.id ≠ zid) ∧ ns.length < 200 := by
 have hlt := h.wf.lt x0 h.x
 have hn := h.nx
 have h8 := h.nx8
 have hi := h.id
 have hc := h.cnt
 have hx : (dfs t0.ns (n + 1) x0).map Nd.id = x0.id :: ((kidsN t0.ns x0).flatMap (dfs t0.ns n)).map Nd.id := rfl
 refine ⟨h.here.why, by omega, by omega, fun u hu e => h.ids u hu ?_, ?_⟩
 ·rw [hx, e, hi]; exact List.mem_cons_self
 ·have : (dfs t0.ns (n + 1) x0).length = ((kidsN t0.ns x0).flatMap (dfs t0.ns n)).length + 1 := rfl
  omega
theorem deep_nil {t : Tr} {r : Nd} (hW : Wf t r) {n : Nat} {x : Nd} (hx : x ∈ t.ns) (h : ¬ x.dir = true) : dfs t.ns (n + 1) x = [x] := by
 show x :: (kidsN t.ns x).flatMap _ = _
 rw [kids_dir hW hx h]; rfl
theorem fit_file {t0 : Tr} {r0 x0 : Nd} {n : Nat} {rest : List UInt8} {ns : List Nd} {bs : Nat} {nx : Int} {zid zd : Nat} {z : At} {r : R} {y : R × List UInt8} (h : Fit7 t0 r0 x0 n rest ns bs nx zid zd z r) (hd : ¬ zd ≠ 0) (e : r.text 1048576 = y) :
 Here y.1 rest ∧ y.2 = x0.data ∧ bs + y.2.length ≤ 1048576 ∧ [zid] = (dfs t0.ns (n + 1) x0).map Nd.id ∧ szs (dfs t0.ns (n + 1) x0) = y.2.length := by
 have hx0 : ¬ x0.dir = true := fun hx => hd (h.dir.2 hx)
 have H := h.here
 unfold body at H; rw [if_neg hx0] at H; have hl := wf_dl h.wf x0 h.x
 have ht := text_here (s := x0.data) (l := rest) (by rw [List.append_assoc]; rw [List.append_assoc] at H; exact H) 1048576 (by omega) (by omega)
 rw [e] at ht; have hdf := deep_nil h.wf (n := n) h.x hx0
 have hb := h.bs
 rw [hdf, szs_cons, show szs [] = 0 from rfl] at hb; have e1 : y.1 = r.adv (4 + x0.data.length) := by rw [ht]
 have e2 : y.2 = x0.data := by rw [ht]
 refine ⟨?_, e2, by rw [e2]; omega, by rw [hdf, h.id]; rfl, by rw [hdf, szs_cons, e2]; rfl⟩; rw [e1]; exact H.adv (by rw [List.length_append, qE])
theorem deep_up {ns : List Nd} : ∀ {n : Nat} {x : Nd}, Deep ns n x → Deep ns (n + 1) x
 | 0, _, h => h.elim
 | _ + 1, _, h => fun y hy => deep_up (h y hy)
theorem deep_le {ns : List Nd} {n m : Nat} {x : Nd} (h : Deep ns n x) (hm : n ≤ m) : Deep ns m x := by
 induction hm with
 | refl => exact h
 | step _ ih => exact deep_up ih
theorem kidB_same {ns : List Nd} {n m : Nat} : ∀ {l : List Nd}, (∀ y ∈ l, Deep ns n y ∧ Deep ns m y) → l.flatMap (kidB ns n) = l.flatMap (kidB ns m)
 | [], _ => rfl
 | y :: l, h => by
  obtain ⟨h1, h2⟩ := h y (by simp)
  rw [List.flatMap_cons, List.flatMap_cons, kidB_same (l := l) fun z hz => h z (by simp [hz])]; unfold kidB; rw [encN_same h1 h2]
theorem enc_cong {A A' : List Nd} {S : Nd → Prop} (h : ∀ u, S u → kidsN A' u = kidsN A u) (hs : ∀ u, S u → ∀ v ∈ kidsN A u, S v) : ∀ (m : Nat) {u : Nd}, S u → encN A' m u = encN A m u ∧ (Deep A m u → Deep A' m u)
 | 0, _, _ => ⟨rfl, fun h => h⟩
 | m + 1, u, hu => by
  have e : ∀ l : List Nd, (∀ y ∈ l, S y) → l.flatMap (fun y => be y.name.length 4 ++ y.name ++ encN A' m y) = l.flatMap (fun y => be y.name.length 4 ++ y.name ++ encN A m y) := fun l => by
   induction l with
   | nil => intro _; rfl
   | cons y l ih =>
    intro hl; rw [List.flatMap_cons, List.flatMap_cons, ih fun z hz => hl z (by simp [hz]), (enc_cong h hs m (hl y (by simp))).1]
  refine ⟨?_, fun hd y hy => ?_⟩
  ·show hdr u ++ (if u.dir = true then _ else _) = hdr u ++ (if u.dir = true then _ else _)
   rw [h u hu, e _ fun y hy => hs u hu y hy]
  ·rw [h u hu] at hy; exact (enc_cong h hs m (hs u hu y hy)).2 (hd y hy)
theorem fm_congr {f g : Nat → Option Nd} : ∀ {l : List Nat}, (∀ k ∈ l, f k = g k) → l.filterMap f = l.filterMap g
 | [], _ => rfl
 | k :: l, h => by rw [List.filterMap_cons, List.filterMap_cons, h k (by simp), fm_congr (l := l) fun j hj => h j (by simp [hj])]
/-- what is below, once k stands in x -/
theorem enc_next {ns A B : List Nd} {x k : Nd} {par : Int} {nm s : List UInt8} {nx : Int} (hA : Sb ns A x par nm nx) (hB : Sb (ns ++ A) B k x.id s nx) (kp : Option Addr) (kc : Nat) {m m2 : Nat} {X : List UInt8} (hdA : Deep A (m + 1) x) (hE : (kidsN A x).flatMap (kidB A m) = X) (hdB : Deep B m2 k) :
 ∃ M, Deep (turnB x.blk (addF kp kc k.blk) A ++ B) (M + 1) (addF kp kc k.blk x) ∧ (kidsN (turnB x.blk (addF kp kc k.blk) A ++ B) (addF kp kc k.blk x)).flatMap (kidB (turnB x.blk (addF kp kc k.blk) A ++ B) M) = X ++ (be s.length 4 ++ s ++ encN B m2 k) := by
 have hF := addF_keeps kp kc k.blk
 have blk1 : ((turnB x.blk (addF kp kc k.blk) A ++ B).map Nd.blk).Nodup := by
  have := hB.blks
  rw [List.map_append, List.map_append, List.append_assoc, List.nodup_append] at this; rw [List.map_append, turn_blk hF]; exact this.2.1
 have idsA : (A.map Nd.id).Nodup := by
  have := hA.ids
  rw [List.map_append, List.nodup_append] at this; exact this.2.1
 have idsB : (B.map Nd.id).Nodup := by
  have := hB.ids
  rw [List.map_append, List.nodup_append] at this; exact this.2.1
 obtain ⟨A', hA'⟩ : ∃ A', A' = turnB x.blk (addF kp kc k.blk) A ++ B := ⟨_, rfl⟩
 rw [← hA'] at blk1 ⊢
 have inA : ∀ v ∈ A, v.blk ≠ x.blk → v ∈ A' := fun v hv e => by
  have := turn_in (f := addF kp kc k.blk) (b := x.blk) hv
  rw [if_neg e] at this; rw [hA']; exact List.mem_append_left _ this
 have inB : ∀ v ∈ B, v ∈ A' := fun v hv => by rw [hA']; exact List.mem_append_right _ hv
 have notx : ∀ u ∈ A, ∀ v ∈ kidsN A u, v ∈ A ∧ v.blk ≠ x.blk := fun u hu v hv => by
  obtain ⟨h1, h2⟩ := (yY hA.kd idsA hu).1 hv
  refine ⟨h1, fun e => ?_⟩; have e2 := xA hA.kd.blks h1 hA.root e
  rw [e2, hA.xpar] at h2; exact out_ne hA.out hA.ids hu h2
 have kA : ∀ u ∈ A, kidsN A' u = kidsN A u := fun u hu => fm_congr fun j hj => by
  obtain ⟨v, h1, h2, h3⟩ := hA.kd.sub u hu j hj
  have h4 := (notx u hu v ((yY hA.kd idsA hu).2 ⟨h1, h3⟩)).2
  rw [← h2, yK blk1 (inA v h1 h4), yK hA.kd.blks h1]
 have kB : ∀ u ∈ B, kidsN A' u = kidsN B u := fun u hu => fm_congr fun j hj => by
  obtain ⟨v, h1, h2, _⟩ := hB.kd.sub u hu j hj
  rw [← h2, yK blk1 (inB v h1), yK hB.kd.blks h1]
 have kX : kidsN A' (addF kp kc k.blk x) = kidsN A x ++ [k] := by
  have h1 : kidsN A' (addF kp kc k.blk x) = kidsN A' x ++ [k] := by
   show (x.kids ++ [k.blk]).filterMap _ = x.kids.filterMap _ ++ [k]
   rw [List.filterMap_append]
   congr 1
   rw [List.filterMap_cons, yK blk1 (inB k hB.root)]; rfl
  rw [h1, kA x hA.root]
 have cA : ∀ (n : Nat) {u : Nd}, (u ∈ A ∧ u.blk ≠ x.blk) → encN A' n u = encN A n u ∧ (Deep A n u → Deep A' n u) := fun n u hu => enc_cong (S := fun u => u ∈ A ∧ u.blk ≠ x.blk) (fun u hu => kA u hu.1) (fun u hu v hv => notx u hu.1 v hv) n hu
 have cB : ∀ (n : Nat) {u : Nd}, u ∈ B → encN A' n u = encN B n u ∧ (Deep B n u → Deep A' n u) := fun n u hu => enc_cong (S := fun u => u ∈ B) (fun u hu => kB u hu) (fun u hu v hv => ((yY hB.kd idsB hu).1 hv).1) n hu
 have hdk : ∀ y ∈ kidsN A x, Deep A m y := hdA
 have hAll : ∀ y ∈ kidsN A x, Deep A' (max m m2) y := fun y hy => (cA _ (notx x hA.root y hy)).2 (deep_le (hdk y hy) (Nat.le_max_left _ _))
 have hK : Deep A' (max m m2) k := (cB _ hB.root).2 (deep_le hdB (Nat.le_max_right _ _))
 refine ⟨max m m2, fun y hy => ?_, ?_⟩
 ·rw [kX] at hy
  rcases List.mem_append.1 hy with hy | hy
  ·exact hAll y hy
  ·rw [List.mem_singleton.1 hy]; exact hK
 ·rw [kX, List.flatMap_append, List.flatMap_cons, List.flatMap_nil, List.append_nil]
  congr 1
  ·rw [← hE, kidB_same (n := m) (m := max m m2) fun y hy => ⟨hdk y hy, deep_le (hdk y hy) (Nat.le_max_left _ _)⟩]
   have e : ∀ l : List Nd, (∀ y ∈ l, y ∈ kidsN A x) → l.flatMap (kidB A' (max m m2)) = l.flatMap (kidB A (max m m2)) := fun l => by
    induction l with
    | nil => intro _; rfl
    | cons y l ih =>
     intro hl; rw [List.flatMap_cons, List.flatMap_cons, ih fun z hz => hl z (by simp [hz])]; unfold kidB; rw [(cA _ (notx x hA.root y (hl y (by simp)))).1]
   exact e _ fun y hy => hy
  ·unfold kidB; rw [hB.xname, (cB _ hB.root).1, encN_same (deep_le hdB (Nat.le_max_right m m2)) hdB]
theorem enc_file {t0 : Tr} {r0 x0 : Nd} {n : Nat} {rest : List UInt8} {ns : List Nd} {bs : Nat} {nx : Int} {zid zd : Nat} {z : At} {r : R} {x : Nd} (h : Fit7 t0 r0 x0 n rest ns bs nx zid zd z r) (hd : ¬ zd ≠ 0) (hi : x.id = zid) (hk : x.kids = []) (hxd : x.dir = false) (ha : x.a = z) (hda : x.data = x0.data) : ∃ m, Deep [x] m x ∧ encN [x] m x = encN t0.ns (n + 1) x0 := by
 have hx0 : x0.dir = false := by
  cases hh : x0.dir with
  | false => rfl
  | true => exact absurd (h.dir.2 hh) hd
 have hkn : kidsN [x] x = [] := by unfold kidsN; rw [hk]; rfl
 refine ⟨1, fun y hy => (by rw [hkn] at hy; cases hy), ?_⟩; have hh : hdr x = hdr x0 := by unfold hdr; rw [hi, h.id, hxd, hx0, ha, h.a]; rfl
 rw [encN_file hxd, encN_file hx0, hh, hda]
/-- i kids were read -/
structure Lf (t0 : Tr) (r0 x0 : Nd) (n : Nat) (rest : List UInt8) (ns : List Nd) (bs0 : Nat) (nx : Int) (i : Nat) (A : List Nd) (x : Nd) (bs : Nat) (left : Nat) (r : R) : Prop where
 wf : Wf t0 r0
 xm : x0 ∈ t0.ns
 deep : Deep t0.ns (n + 1) x0
 nx : (t0.next : Int) ≤ nx
 nx8 : t0.next ≤ 9223372036854775807
 idn : ∀ u ∈ ns, u.id ∉ (dfs t0.ns (n + 1) x0).map Nd.id
 cnt : ns.length + (dfs t0.ns (n + 1) x0).length ≤ 200
 bsm : bs0 + szs (dfs t0.ns (n + 1) x0) ≤ 1048576
 left : left + i = (kidsN t0.ns x0).length
 here : Here r (((kidsN t0.ns x0).drop i).flatMap (kidB t0.ns n) ++ rest)
 ids : A.map Nd.id = (x0 :: ((kidsN t0.ns x0).take i).flatMap (dfs t0.ns n)).map Nd.id
 bs : bs = bs0 + szs (((kidsN t0.ns x0).take i).flatMap (dfs t0.ns n))
 nms : x.kids.map (nmB A) = ((kidsN t0.ns x0).take i).map Nd.name
 data : x0.data = []
 hd : hdr x = hdr x0
 dirs : x.dir = true ∧ x0.dir = true
 kl : x.kids.length = i
 enc : ∃ m, Deep A (m + 1) x ∧ (kidsN A x).flatMap (kidB A m) = ((kidsN t0.ns x0).take i).flatMap (kidB t0.ns n)
theorem fit_dir {t0 : Tr} {r0 x0 : Nd} {n : Nat} {rest : List UInt8} {ns : List Nd} {bs : Nat} {nx : Int} {zid zd : Nat} {z : At} {r : R} {y : R × Nat} {x : Nd} (h : Fit7 t0 r0 x0 n rest ns bs nx zid zd z r) (hd : zd ≠ 0) (e : r.get 4 = y) (hi : x.id = zid) (hk : x.kids = []) (hxd : x.dir = true) (ha : x.a = z) :
 Lf t0 r0 x0 n rest ns bs nx 0 [x] x bs y.2 y.1 := by
 have hkn : kidsN [x] x = [] := by unfold kidsN; rw [hk]; rfl
 have hx0 : x0.dir = true := h.dir.1 hd
 have H := h.here
 unfold body at H; rw [if_pos hx0, List.append_assoc] at H; have hkl := kids_le h.wf.kd h.x
 have hfew := h.wf.few
 have g := yM H (show x0.kids.length < 256 ^ 4 by omega)
 rw [e] at g; have H1 := H.adv (n := 4) (by rw [qE])
 refine ⟨h.wf, h.x, h.deep, h.nx, h.nx8, h.ids, h.cnt, h.bs, ?_, ?_, ?_, ?_, ?_, h.wf.dat x0 h.x hx0, ?_, ⟨hxd, hx0⟩, by rw [hk]; rfl, 0, fun y hy => (by rw [hkn] at hy; cases hy), by rw [hkn, List.take_zero]; rfl⟩
 ·rw [g, kidsN_len h.wf.kd h.x]; rfl
 ·rw [g, List.drop_zero]; exact H1
 ·rw [List.take_zero, List.flatMap_nil, List.map_cons, List.map_cons, hi, h.id]
 ·rw [List.take_zero, List.flatMap_nil]; rfl
 ·rw [hk, List.take_zero]; rfl
 ·unfold hdr; rw [hi, h.id, hxd, hx0, ha, h.a]; rfl
theorem lf_end {t0 : Tr} {r0 x0 : Nd} {n : Nat} {rest : List UInt8} {ns : List Nd} {bs0 : Nat} {nx : Int} {i : Nat} {A : List Nd} {x : Nd} {bs : Nat} {left : Nat} {r : R} (h : Lf t0 r0 x0 n rest ns bs0 nx i A x bs left r) (h0 : left = 0) :
 Here r rest ∧ A.map Nd.id = (dfs t0.ns (n + 1) x0).map Nd.id ∧ bs = bs0 + szs (dfs t0.ns (n + 1) x0) ∧ ∃ m, Deep A m x ∧ encN A m x = encN t0.ns (n + 1) x0 := by
 have hl := h.left
 obtain ⟨m, he1, he2⟩ := h.enc
 rw [List.take_of_length_le (by omega)] at he2; have H := h.here
 have hi := h.ids
 have hb := h.bs
 rw [List.take_of_length_le (by omega)] at hi hb; rw [List.drop_of_length_le (by omega)] at H; refine ⟨H, hi, ?_, m + 1, he1, by rw [encN_dir h.dirs.1, encN_dir h.dirs.2, h.hd, he2, h.kl, ← kidsN_len h.wf.kd h.xm, show i = (kidsN t0.ns x0).length by omega]⟩; rw [hb]
 show _ = bs0 + szs (x0 :: (kidsN t0.ns x0).flatMap (dfs t0.ns n))
 rw [szs_cons, h.data]
 show _ = bs0 + (0 + _)
 omega
/-- the next kid comes -/
theorem lf_kid {t0 : Tr} {r0 x0 : Nd} {n : Nat} {rest : List UInt8} {ns : List Nd} {bs0 : Nat} {nx : Int} {i : Nat} {A : List Nd} {x : Nd} {bs : Nat} {left : Nat} {r : R} (h : Lf t0 r0 x0 n rest ns bs0 nx i A x bs left r) (h0 : 0 < left) {y : R × List UInt8} (e : r.text 30 = y) :
 ∃ k, (kidsN t0.ns x0)[i]? = some k ∧ y.2 = k.name ∧ y.1.why = 0 ∧ ptOk y.2 = true ∧ (∀ l ∈ x.kids.map (nmB A), cmp l y.2 < 0) ∧ ∃ m, n = m + 1 ∧ Fit t0 r0 k m (((kidsN t0.ns x0).drop (i + 1)).flatMap (kidB t0.ns n) ++ rest) (ns ++ A) bs nx y.1 := by
 have hl := h.left
 have hi : i < (kidsN t0.ns x0).length := by omega
 obtain ⟨k, hk⟩ : ∃ k, (kidsN t0.ns x0)[i]? = some k := ⟨_, List.getElem?_eq_getElem hi⟩
 have hkm := List.mem_of_getElem? hk
 obtain ⟨hkn, hkp⟩ := (yY h.wf.kd h.wf.ids h.xm).1 hkm
 have hok : ptOk k.name = true := by
  rcases h.wf.nm k hkn with h1 | h1
  ·exact absurd h1 (kid_not_root h.wf h.xm hkm)
  ·exact h1
 have hnl := ptOk_len hok
 have H := h.here
 have e0 : (kidsN t0.ns x0).drop i = k :: (kidsN t0.ns x0).drop (i + 1) := by
  obtain ⟨h1, h2⟩ := List.getElem?_eq_some_iff.1 hk
  rw [List.drop_eq_getElem_cons h1, h2]
 rw [e0, List.flatMap_cons] at H
 have H2 : Here r (be k.name.length 4 ++ k.name ++ (encN t0.ns n k ++ (((kidsN t0.ns x0).drop (i + 1)).flatMap (kidB t0.ns n) ++ rest))) := by
  have e2 : be k.name.length 4 ++ k.name ++ (encN t0.ns n k ++ (((kidsN t0.ns x0).drop (i + 1)).flatMap (kidB t0.ns n) ++ rest)) = kidB t0.ns n k ++ ((kidsN t0.ns x0).drop (i + 1)).flatMap (kidB t0.ns n) ++ rest := by
   simp only [kidB, List.append_assoc]
  rw [e2]; exact H
 have ht := text_here H2 30 (by omega) (by omega)
 rw [e] at ht; have ey1 : y.1 = r.adv (4 + k.name.length) := by rw [ht]
 have ey2 : y.2 = k.name := by rw [ht]
 have H3 : Here y.1 (encN t0.ns n k ++ (((kidsN t0.ns x0).drop (i + 1)).flatMap (kidB t0.ns n) ++ rest)) := by
  rw [ey1]; exact H2.adv (by rw [List.length_append, qE])
 have hdk := h.deep k hkm
 have hsp : dfs t0.ns (n + 1) x0 = x0 :: (((kidsN t0.ns x0).take i).flatMap (dfs t0.ns n) ++ dfs t0.ns n k ++ ((kidsN t0.ns x0).drop (i + 1)).flatMap (dfs t0.ns n)) := by
  show x0 :: _ = _
  rw [flat_split (dfs t0.ns n) hk]
 refine ⟨k, hk, ey2, H3.why, by rw [ey2]; exact hok, fun l hl2 => ?_, ?_⟩
 ·rw [h.nms] at hl2; rw [ey2]; obtain ⟨j, hj⟩ := List.mem_iff_getElem?.1 hl2
  have hjl := (List.getElem?_eq_some_iff.1 hj).1
  rw [List.length_map, List.length_take] at hjl; rw [List.getElem?_map, List.getElem?_take_of_lt (by omega)] at hj; have hr := h.wf.kd.rise x0 h.xm
  rw [← kidsN_blk h.wf.kd h.xm, List.map_map] at hr
  have e3 : (kidsN t0.ns x0).map (nmB t0.ns ∘ Nd.blk) = (kidsN t0.ns x0).map Nd.name := List.map_congr_left fun u hu => by
   show nmB t0.ns u.blk = _
   exact xU h.wf.kd.blks ((yY h.wf.kd h.wf.ids h.xm).1 hu).1
  rw [e3] at hr; have h4 := rise_lt hr (i := j) (j := i) (by omega) (by rw [List.length_map]; exact hi)
  rw [List.getElem_map, List.getElem_map] at h4; obtain ⟨h5, h6⟩ := List.getElem?_eq_some_iff.1 hk
  rw [h6] at h4; rw [List.getElem?_eq_getElem (by omega)] at hj
  injection hj with hj
  rw [← hj]; exact h4
 ·cases n with
  | zero => exact hdk.elim
  | succ m =>
   refine ⟨m, rfl, h.wf, hkn, hdk, H3, h.nx, h.nx8, fun u hu hm => ?_, ?_, ?_⟩
   ·have hnd := dfs_ids h.wf (m + 1 + 1) h.xm
    rcases List.mem_append.1 hu with hu | hu
    ·refine h.idn u hu ?_; rw [hsp, List.map_cons, List.map_append, List.map_append]; exact List.mem_cons_of_mem _ (List.mem_append_left _ (List.mem_append_right _ hm))
    ·have h5 : u.id ∈ A.map Nd.id := List.mem_map.2 ⟨u, hu, rfl⟩
     rw [h.ids, List.map_cons] at h5; rw [hsp, List.map_cons, List.map_append, List.map_append, List.nodup_cons, List.nodup_append, List.nodup_append] at hnd
     rcases List.mem_cons.1 h5 with h5 | h5
     ·exact hnd.1 (by rw [← h5]; exact List.mem_append_left _ (List.mem_append_right _ hm))
     ·exact hnd.2.1.2.2 _ h5 _ hm rfl
   ·have h6 := h.cnt
    have h7 : A.length = (A.map Nd.id).length := by rw [List.length_map]
    rw [h.ids, List.length_map, List.length_cons] at h7; rw [hsp, List.length_cons, List.length_append, List.length_append] at h6; rw [List.length_append]; omega
   ·have h6 := h.bsm
    have h7 := h.bs
    rw [hsp, szs_cons, szs_app, szs_app] at h6; omega
theorem lf_next {t0 : Tr} {r0 x0 k0 : Nd} {m : Nat} {rest : List UInt8} {ns : List Nd} {bs0 : Nat} {nx : Int} {i : Nat} {A B : List Nd} {x k : Nd} {bs bs2 : Nat} {left : Nat} {r r2 : R} (h : Lf t0 r0 x0 (m + 1) rest ns bs0 nx i A x bs left r) (h0 : 0 < left) (hk : (kidsN t0.ns x0)[i]? = some k0)
 (H : Here r2 (((kidsN t0.ns x0).drop (i + 1)).flatMap (kidB t0.ns (m + 1)) ++ rest)) (hid : B.map Nd.id = (dfs t0.ns (m + 1) k0).map Nd.id) (hbs : bs2 = bs + szs (dfs t0.ns (m + 1) k0)) (kp : Option Addr) (kc : Nat)
 (hnm : (addF kp kc k.blk x).kids.map (nmB (turnB x.blk (addF kp kc k.blk) A ++ B)) = x.kids.map (nmB A) ++ [k0.name])
 (hen : ∃ M, Deep (turnB x.blk (addF kp kc k.blk) A ++ B) (M + 1) (addF kp kc k.blk x) ∧ (kidsN (turnB x.blk (addF kp kc k.blk) A ++ B) (addF kp kc k.blk x)).flatMap (kidB (turnB x.blk (addF kp kc k.blk) A ++ B) M) = ((kidsN t0.ns x0).take i).flatMap (kidB t0.ns (m + 1)) ++ kidB t0.ns (m + 1) k0) : Lf t0 r0 x0 (m + 1) rest ns bs0 nx (i + 1) (turnB x.blk (addF kp kc k.blk) A ++ B) (addF kp kc k.blk x) bs2 (left - 1) r2 := by
 have hl := h.left
 refine ⟨h.wf, h.xm, h.deep, h.nx, h.nx8, h.idn, h.cnt, h.bsm, by omega, H, ?_, ?_, ?_, h.data, h.hd, h.dirs, by show (x.kids ++ [_]).length = _; rw [List.length_append, h.kl]; rfl, by rw [kidB_snoc hk]; exact hen⟩
 ·rw [List.map_append, turn_ids (addF_keeps _ _ _), h.ids, hid, flat_snoc (dfs t0.ns (m + 1)) hk, List.map_cons, List.map_cons, List.map_append]; rfl
 ·rw [hbs, h.bs, flat_snoc (dfs t0.ns (m + 1)) hk, szs_app]; omega
 ·rw [hnm, h.nms]; obtain ⟨h1, h2⟩ := List.getElem?_eq_some_iff.1 hk
  rw [List.take_succ_eq_append_getElem h1, List.map_append, h2]; rfl
/-- the names of x's kids, once k is one of them -/
theorem add_names {ns A B : List Nd} {x k : Nd} {par : Int} {nm s : List UInt8} {nx : Int} (hA : Sb ns A x par nm nx) (hB : Sb (ns ++ A) B k x.id s nx) (kp : Option Addr) (kc : Nat) :
 (addF kp kc k.blk x).kids.map (nmB (turnB x.blk (addF kp kc k.blk) A ++ B)) = x.kids.map (nmB A) ++ [s] := by
 have hF := addF_keeps kp kc k.blk
 have blk1 : ((turnB x.blk (addF kp kc k.blk) A ++ B).map Nd.blk).Nodup := by
  have := hB.blks
  rw [List.map_append, List.map_append, List.append_assoc, List.nodup_append] at this; rw [List.map_append, turn_blk hF]; exact this.2.1
 show (x.kids ++ [k.blk]).map _ = _
 rw [List.map_append, List.map_cons, List.map_nil]
 congr 1
 ·refine List.map_congr_left fun j hj => ?_
  obtain ⟨v, h1, h2, _⟩ := hA.kd.sub x hA.root j hj
  have h3 := xU blk1 (List.mem_append_left B (turn_in (f := addF kp kc k.blk) (b := x.blk) h1))
  rw [(qN hF v).1, (qN hF v).2.2.2, h2] at h3; rw [h3, ← h2, xU hA.kd.blks h1]
 ·have h3 := xU blk1 (List.mem_append_right (turnB x.blk (addF kp kc k.blk) A) hB.root)
  rw [h3, hB.xname]
end Go.Proofs.YtlefpllcgcicpaaGreatDoor
