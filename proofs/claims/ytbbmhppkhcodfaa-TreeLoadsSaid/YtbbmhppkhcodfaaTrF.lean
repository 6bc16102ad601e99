/-
  A tree's model, and how it lies.
  A tree's find, Look.
-/
import Derived.Test.YtbbmhppkhcodfaaTrJ
import Derived.Test.YtbbmhppkhcodfaaTrO
import Derived.Test.YtbbmhppkhcodfaaAttr
import Derived.Test.YtbbmhppkhcodfaaPath
namespace Go.Proofs.Ytbbmhppkhcodfaa
open Go.Sx
set_option linter.unusedVariables false
set_option linter.unusedSimpArgs false
set_option maxRecDepth 100000
set_option maxHeartbeats 4000000

/-- a thing, as it lies; par: the number of what holds it -/
structure Nd where
  blk : Nat
  born : Nat
  id : Nat
  par : Int
  dir : Bool
  name : List UInt8
  kp : Option Addr
  kc : Nat
  kids : List Nat
  dp : Option Addr
  dc : Nat
  data : List UInt8
  a : At
def Nd.cs (x : Nd) : List Value := [.int .i64 (x.id : Int), .bool x.dir, .string (str x.name), .slice x.kp x.kids.length x.kc, .slice x.dp x.data.length x.dc] ++ x.a.cs
theorem Nd.cs_len (x : Nd) : x.cs.length = 12 := rfl
def Nd.me (x : Nd) : Me := ⟨x.id, .pointer (some ⟨x.blk, 0, none⟩), x.born⟩
abbrev rowD (p : Option Addr) (c : Nat) (l : List UInt8) : HProp := row 5 1 (.slice p l.length c) l.length (cel l)
def ndL (x : Nd) : List HProp := [own x.blk (.cells x.cs.toArray 85 (0, 0)), rowP x.kp x.kc x.kids, rowD x.dp x.dc x.data]
def nd (x : Nd) : HProp := St (ndL x)
def nds (ns : List Nd) : HProp := St (ns.map nd)
structure Tr where
  tb : Nat
  mb : Nat
  ck : Nat
  rb : Nat
  next : Nat
  bytes : Nat
  ns : List Nd
def Tr.cs (t : Tr) : List Value := [.pointer (some ⟨t.rb, 0, none⟩), .map (some t.mb), .int .i64 (t.next : Int), .int .i64 (t.bytes : Int)]
def trL (t : Tr) : List HProp := [own t.tb (.cells t.cs.toArray 78 (0, 0)), own t.mb (mapO (t.ns.map Nd.me) t.ck), nds t.ns]
def tree (t : Tr) : HProp := St (trL t)
abbrev Tr.v (t : Tr) : Value := .pointer (some ⟨t.tb, 0, none⟩)
theorem nds_pick {ns : List Nd} {x : Nd} (h : x ∈ ns) : ∃ i : Nat, (ns.map nd)[i]? = some (nd x) := by
  obtain ⟨i, hi⟩ := List.mem_iff_getElem?.1 h
  exact ⟨i, by rw [List.getElem?_map, hi]; rfl⟩
/-- V lets a tree be read -/
structure Tv (V : HProp) (t : Tr) : Prop where
  cs : RdN V t.tb 0 t.cs
  mp : Mp V t.mb (t.ns.map Nd.me)
  nd : ∀ x ∈ t.ns, RdN V x.blk 0 x.cs
  kids : ∀ x ∈ t.ns, Vw V (.slice x.kp x.kids.length x.kc) x.kids.length (pts x.kids)
  data : ∀ x ∈ t.ns, Vw V (.slice x.dp x.data.length x.dc) x.data.length (cel x.data)
  caps : ∀ w R, sat w (star V R) → ∀ x ∈ t.ns, x.data.length ≤ x.dc
theorem Tv.pick {H : List HProp} {A : HProp} {t : Tr} (i : Nat) (hi : H[i]? = some A) (h : Tv A t) : Tv (St H) t :=
  ⟨RdN.of_pick i hi h.cs, Mp.pick i hi h.mp, fun x hx => RdN.of_pick i hi (h.nd x hx), fun x hx => Vw.pick i hi (h.kids x hx), fun x hx => Vw.pick i hi (h.data x hx), fun w R s => by rw [St_pick hi, star_assoc] at s; exact h.caps w _ s⟩
theorem nds_rdn {ns : List Nd} {x : Nd} (h : x ∈ ns) : RdN (nds ns) x.blk 0 x.cs := by
  obtain ⟨i, hi⟩ := nds_pick h
  exact RdN.of_pick i hi (RdN.of_pick 0 rfl rdn_all)
theorem nds_kids {ns : List Nd} {x : Nd} (h : x ∈ ns) : Vw (nds ns) (.slice x.kp x.kids.length x.kc) x.kids.length (pts x.kids) := by
  obtain ⟨i, hi⟩ := nds_pick h
  exact Vw.pick i hi (Vw.pick 1 rfl Vw.row)
theorem nds_data {ns : List Nd} {x : Nd} (h : x ∈ ns) : Vw (nds ns) (.slice x.dp x.data.length x.dc) x.data.length (cel x.data) := by
  obtain ⟨i, hi⟩ := nds_pick h
  exact Vw.pick i hi (Vw.pick 2 rfl Vw.row)
theorem nds_caps {ns : List Nd} {x : Nd} (h : x ∈ ns) {w : World} {R : HProp} (s : sat w (star (nds ns) R)) : x.data.length ≤ x.dc := by
  obtain ⟨i, hi⟩ := nds_pick h
  rw [nds, St_pick hi, star_assoc] at s
  exact row_caps (H := ndL x) 2 rfl s
theorem tree_tv (t : Tr) : Tv (tree t) t :=
  ⟨RdN.of_pick 0 rfl rdn_all, Mp.pick 1 rfl Mp.own, fun x hx => RdN.of_pick 2 rfl (nds_rdn hx), fun x hx => Vw.pick 2 rfl (nds_kids hx), fun x hx => Vw.pick 2 rfl (nds_data hx), fun w R s x hx => by
    rw [tree, St_pick (L := trL t) (i := 2) rfl, star_assoc] at s
    exact nds_caps hx s⟩
/-- the name of what lies there -/
def nmB (ns : List Nd) (k : Nat) : List UInt8 := ((ns.find? (fun x => decide (x.blk = k))).map Nd.name).getD []
def kid (ns : List Nd) (i : Int) (s : List UInt8) : Option Nd := ns.find? (fun y => decide (y.par = i) && decide (y.name = s))
/-- what stands at a path, from x on -/
def fnd (ns : List Nd) : Nd → List (List UInt8) → Option Nd
  | x, [] => some x
  | x, s :: r => match kid ns x.id s with
    | some y => fnd ns y r
    | none => none
/-- each thing holds what stands in it, by their names -/
structure Kd (ns : List Nd) : Prop where
  blks : (ns.map Nd.blk).Nodup
  sub : ∀ x ∈ ns, ∀ k ∈ x.kids, ∃ y ∈ ns, y.blk = k ∧ y.par = x.id
  all : ∀ x ∈ ns, ∀ y ∈ ns, y.par = x.id → y.blk ∈ x.kids
  rise : ∀ x ∈ ns, Rise (x.kids.map (nmB ns))
  few : ∀ x ∈ ns, x.kids.length ≤ 100000
theorem find_nodup {α : Type} [DecidableEq α] {f : Nd → α} : ∀ {ns : List Nd} {x : Nd}, (ns.map f).Nodup → x ∈ ns → ns.find? (fun y => decide (f y = f x)) = some x
  | y :: r, x, h, hx => by
    rw [List.map_cons, List.nodup_cons] at h
    rw [List.find?_cons]
    by_cases e : f y = f x
    · rw [decide_eq_true e]
      rcases List.mem_cons.1 hx with hx | hx
      · rw [hx]
      · exact absurd (List.mem_map.2 ⟨x, hx, e.symm⟩) h.1
    · rw [decide_eq_false e]
      rcases List.mem_cons.1 hx with hx | hx
      · rw [hx] at e; exact absurd rfl e
      · exact find_nodup h.2 hx
theorem nmB_of {ns : List Nd} (h : (ns.map Nd.blk).Nodup) {x : Nd} (hx : x ∈ ns) : nmB ns x.blk = x.name := by
  unfold nmB; rw [find_nodup h hx]; rfl
theorem nmB_mem {ns : List Nd} (h : (ns.map Nd.blk).Nodup) {x y : Nd} (hx : x ∈ ns) (hy : y ∈ ns) (e : x.blk = y.blk) : x = y := by
  have h1 := find_nodup h hx
  rw [e, find_nodup h hy] at h1
  injection h1 with h1; exact h1.symm
theorem kid_some {ns : List Nd} {i : Int} {s : List UInt8} {y : Nd} (h : kid ns i s = some y) : y ∈ ns ∧ y.par = i ∧ y.name = s := by
  have h1 := List.find?_some h
  simp only [Bool.and_eq_true, decide_eq_true_eq] at h1
  exact ⟨List.mem_of_find?_eq_some h, h1.1, h1.2⟩
theorem kid_none {ns : List Nd} {i : Int} {s : List UInt8} (h : kid ns i s = none) {y : Nd} (hy : y ∈ ns) (hp : y.par = i) : y.name ≠ s := fun e => by
  have h1 := List.find?_eq_none.1 h y hy
  simp only [Bool.and_eq_true, decide_eq_true_eq, not_and] at h1
  exact h1 hp e
/-- where a name stands -/
abbrev kpl (ns : List Nd) (x : Nd) (s : List UInt8) : Nat := plc (x.kids.map (nmB ns)) s
theorem plc_at {l : List (List UInt8)} (h : Rise l) {j : Nat} (hj : j < l.length) : plc l l[j] = j :=
  plc_eq (by omega) (fun i hi hij => rise_lt h hij hj) (fun hi => by rw [cmp_self]; decide)
theorem kid_hit {ns : List Nd} (h : Kd ns) {x : Nd} (hx : x ∈ ns) {s : List UInt8} {y : Nd} (hk : kid ns x.id s = some y) : (x.kids.map (nmB ns))[kpl ns x s]? = some s ∧ x.kids[kpl ns x s]? = some y.blk := by
  obtain ⟨h1, h2, h3⟩ := kid_some hk
  obtain ⟨j, hj⟩ := List.mem_iff_getElem?.1 (h.all x hx y h1 h2)
  obtain ⟨hlt, he⟩ := List.getElem?_eq_some_iff.1 hj
  have e1 : (x.kids.map (nmB ns))[j]? = some s := by rw [List.getElem?_map, hj]; show some (nmB ns y.blk) = _; rw [nmB_of h.blks h1, h3]
  obtain ⟨hlt2, he2⟩ := List.getElem?_eq_some_iff.1 e1
  have e2 : kpl ns x s = j := by
    have := plc_at (h.rise x hx) hlt2
    rw [he2] at this; exact this
  rw [e2]; exact ⟨e1, hj⟩
theorem kid_miss {ns : List Nd} (h : Kd ns) {x : Nd} (hx : x ∈ ns) {s : List UInt8} (hk : kid ns x.id s = none) : (x.kids.map (nmB ns))[kpl ns x s]? ≠ some s := fun e => by
  rw [List.getElem?_map] at e
  cases hj : x.kids[kpl ns x s]? with
  | none => rw [hj] at e; cases e
  | some k =>
    rw [hj] at e
    injection e with e
    obtain ⟨y, h1, h2, h3⟩ := h.sub x hx k (List.mem_of_getElem? hj)
    rw [← h2, nmB_of h.blks h1] at e
    exact kid_none hk h1 h3 e
theorem kids_names {V : HProp} {t : Tr} (hT : Tv V t) (hK : Kd t.ns) {x : Nd} (hx : x ∈ t.ns) : ∀ k ∈ x.kids, Rd V k (0 + 2) (.string (str (nmB t.ns k))) := fun k hk => by
  obtain ⟨y, h1, h2, _⟩ := hK.sub x hx k hk
  have h3 := hT.nd y h1 2 _ rfl
  rw [← h2, nmB_of hK.blks h1]; exact h3
def ptrO (o : Option Nd) : Value := .pointer (o.map fun x => ⟨x.blk, 0, none⟩)
/-- the tree stands -/
structure Wf (t : Tr) (r : Nd) : Prop where
  kd : Kd t.ns
  root : r ∈ t.ns
  rb : t.rb = r.blk
  rid : r.id = 0
  rpar : r.par = -1
  rdir : r.dir = true
  ids : (t.ns.map Nd.id).Nodup
  lt : ∀ x ∈ t.ns, x.id < t.next
  par : ∀ x ∈ t.ns, x.id = 0 ∨ ∃ y ∈ t.ns, x.par = (y.id : Int) ∧ y.dir = true
  nm : ∀ x ∈ t.ns, x.id = 0 ∨ ptOk x.name = true
  rk : ∃ d : Nat → Nat, ∀ x ∈ t.ns, ∀ y ∈ t.ns, y.par = (x.id : Int) → d y.id = d x.id + 1
  few : t.ns.length ≤ 200
  dat : ∀ x ∈ t.ns, x.dir = true → x.data = []
  sum : t.bytes = (t.ns.map fun x => x.data.length).sum
  max : t.bytes ≤ 1048576
  a : ∀ x ∈ t.ns, x.a.Ok ∧ x.a.s = 0

end Go.Proofs.Ytbbmhppkhcodfaa
namespace Go.Proofs.Ytbbmhppkhcodfaa
open Go.Sx
set_option linter.unusedVariables false
set_option linter.unusedSimpArgs false
set_option maxRecDepth 100000
set_option maxHeartbeats 4000000

theorem find_spec {V : HProp} {t : Tr} {r : Nd} (hT : Tv V t) (hW : Wf t r) (q : Option Addr) (cq : Nat) (p : List (List UInt8)) (hV : Vw V (.slice q p.length cq) p.length (txs p)) (hl : p.length ≤ 100000) : Tri Try.prog 44 [t.v, .slice q p.length cq] [V] (fun v H' => ∃ K, (v = ptrO (fnd t.ns r p) ∧ K = []) ∧ H' = K ++ [V]) := by
  refine tri_of_wpS Try.func44 rfl Try.ntmps44 (by simp) ?_
  refine wp_seq' ?_
  refine wp_region' ?_
  refine ops_ro' rfl (ro_assign rfl) rfl ?_
  refine ops_nil ?_
  refine Then_normal ?_
  refine wp_seq' ?_
  refine wp_region' ?_
  refine ops_ro' rfl (ro_move rfl) rfl ?_
  refine ops_ro' rfl (ro_nilCheck rfl) rfl ?_
  refine ops_ro' rfl (ro_fieldAddr fa78_0 rfl) rfl ?_
  refine ops_ro' rfl (ro_load sc76 rfl (Rd.pick 0 rfl (hT.cs 0 _ rfl))) rfl ?_
  rw [hW.rb]
  refine ops_ro' rfl (ro_assign rfl) rfl ?_
  refine ops_nil ?_
  refine Then_normal ?_
  refine wp_seq' ?_
  refine wp_seq' ?_
  refine wp_region' ?_
  refine ops_ro' rfl (ro_move rfl) rfl ?_
  refine ops_ro' rfl (ro_sliceLen Try.underlying29 rfl) rfl ?_
  refine ops_ro' rfl (ro_move rfl) rfl ?_
  refine ops_nil ?_
  refine Then_normal ?_
  refine wp_block' ?_
  refine wp_loopK 3 (fun m Δ LL => ∃ (i : Nat) (x : Nd), (i + m = p.length ∧ x ∈ t.ns ∧ fnd t.ns r p = fnd t.ns x (p.drop i)) ∧ Δ = [(5, .pointer (some ⟨x.blk, 0, none⟩)), (16, .int .i64 (i : Nat))] ∧ LL = [V]) (m := p.length) (Has.cons (k := 14) rfl (Has.cons (k := 15) rfl (Has.nil _))) (kept ⟨0, r, ⟨by omega, hW.root, rfl⟩, rfl, rfl⟩ (by repeat (first | exact Has.nil _ | refine Has.cons rfl ?_)) (by repeat (first | exact Has.nil _ | refine Has.cons rfl ?_)) (by repeat (first | exact SubH.nil _ | refine SubH.cons 0 rfl ?_ | refine SubH.cons 1 rfl ?_ | refine SubH.cons 2 rfl ?_ | refine SubH.cons 3 rfl ?_ | refine SubH.cons 4 rfl ?_ | refine SubH.cons 5 rfl ?_ | refine SubH.cons 6 rfl ?_ | refine SubH.cons 7 rfl ?_ | refine SubH.cons 8 rfl ?_ | refine SubH.cons 9 rfl ?_ | refine SubH.cons 10 rfl ?_ | refine SubH.cons 11 rfl ?_ | refine SubH.cons 12 rfl ?_ | refine SubH.cons 13 rfl ?_ | refine SubH.rown ?_))) ?_
  rintro m Δ LL ⟨i, x, ⟨hm, hx, hf⟩, rfl, rfl⟩
  simp only [List.cons_append, List.nil_append]
  refine wp_seq' ?_
  refine wp_region' ?_
  refine ops_ro' rfl (ro_lss rfl rfl rfl) rfl ?_
  refine ops_nil ?_
  refine Then_normal ?_
  refine wp_seq' ?_
  refine wp_cond' rfl (fun hc17 => ?_) (fun hc17 => ?_)
  · replace hc17 := of_decide_eq_true hc17
    have hi : i < p.length := by omega
    have hdr : p.drop i = p[i] :: p.drop (i + 1) := List.drop_eq_getElem_cons hi
    refine wp_know (fun w F s => vw_ptr (Vw.pick (H := [V]) 0 rfl hV) s (by omega)) ?_
    rintro ⟨b0, o0, rfl⟩
    refine wp_skip' ?_
    refine Then_normal ?_
    refine wp_seq' ?_
    refine wp_block' ?_
    refine wp_seq' ?_
    refine wp_region' ?_
    refine ops_ro' rfl (ro_indexSlice sl29 rfl rfl rfl (by omega)) rfl ?_
    refine ops_ro' rfl (ro_load sc9 rfl (Rd.pick 0 rfl (Rd.elem (j := 0) (vw_rdn hV) Tx.len (List.getElem?_eq_getElem hi) rfl))) rfl ?_
    refine ops_ro' rfl (ro_assign rfl) rfl ?_
    refine ops_nil ?_
    refine Then_normal ?_
    refine wp_seq' ?_
    refine wp_region' ?_
    refine ops_ro' rfl (ro_move rfl) rfl ?_
    refine ops_ro' rfl (ro_move rfl) rfl ?_
    refine ops_eff' rfl (eff_call Try.call73 rfl rfl (by repeat (first | exact Split.nil _ | apply Split.cons 0 rfl | apply Split.cons 1 rfl | apply Split.cons 2 rfl | apply Split.cons 3 rfl | apply Split.cons 4 rfl | apply Split.cons 5 rfl | apply Split.cons 6 rfl | apply Split.cons 7 rfl | apply Split.cons 8 rfl | apply Split.cons 9 rfl | apply Split.cons 10 rfl | apply Split.cons 11 rfl)) (place_spec x.blk x.kp x.kc x.kids (hT.nd x hx 3 _ rfl) (hT.kids x hx) (hW.kd.few x hx) (nmB t.ns) (kids_names hT hW.kd hx) (hW.kd.rise x hx) p[i])) rfl ?_
    rintro _ H' ⟨_, ⟨_, ⟨rfl, rfl⟩, rfl⟩, hH⟩
    simp only [List.cons_append, List.nil_append, List.eraseIdx_cons_zero, List.eraseIdx_cons_succ, List.set_cons_zero, List.set_cons_succ] at hH
    subst hH
    refine ops_ro' rfl (ro_move rfl) rfl ?_
    refine ops_ro' rfl (ro_extract rfl rfl) rfl ?_
    refine ops_ro' rfl (ro_extract rfl rfl) rfl ?_
    refine ops_ro' rfl (ro_assign rfl) rfl ?_
    refine ops_ro' rfl (ro_assign rfl) rfl ?_
    refine ops_nil ?_
    refine Then_normal ?_
    refine wp_seq' ?_
    refine wp_seq' ?_
    refine wp_region' ?_
    refine ops_ro' rfl (ro_move rfl) rfl ?_
    refine ops_ro' rfl (ro_not rfl rfl) rfl ?_
    refine ops_nil ?_
    refine Then_normal ?_
    refine wp_cond' rfl (fun hc27 => ?_) (fun hc27 => ?_)
    · simp only [Bool.and_eq_true, decide_eq_true_eq, Bool.not_eq_true', decide_eq_false_iff_not, bne_iff_ne, ne_eq] at hc27
      have hk : kid t.ns x.id p[i] = none := by
        cases h : kid t.ns x.id p[i] with
        | none => rfl
        | some y => exact absurd (kid_hit hW.kd hx h).1 hc27
      refine wp_seq' ?_
      refine wp_region' ?_
      refine ops_ro' rfl (ro_assign rfl) rfl ?_
      refine ops_nil ?_
      refine Then_normal ?_
      refine wp_ret' ?_
      refine Then_ret ?_
      refine InBlock_ret ?_
      refine Then_ret ?_
      refine Then_ret ?_
      refine InBlock_ret ?_
      refine Then_ret ?_
      refine' doneS_ret (res1 rfl rfl) ?_ ?_
      rotate_left 1
      exact ⟨_, ⟨by rw [hf, hdr]; simp only [fnd, hk]; rfl, rfl⟩, rfl⟩
      exact SubH.refl _
    · simp only [Bool.and_eq_false_iff, decide_eq_false_iff_not, Bool.not_eq_false', decide_eq_true_eq] at hc27
      obtain ⟨y, hk⟩ : ∃ y, kid t.ns x.id p[i] = some y := by
        cases h : kid t.ns x.id p[i] with
        | none => exact absurd hc27 (kid_miss hW.kd hx h)
        | some y => exact ⟨y, rfl⟩
      have hy1 := (kid_some hk).1
      have hkid := (kid_hit hW.kd hx hk).2
      obtain ⟨hklt, hke⟩ := List.getElem?_eq_some_iff.1 hkid
      have hxk := hT.kids x hx
      have hfew := hW.kd.few x hx
      refine wp_know (fun w F s => vw_ptr (Vw.pick (H := [V]) 0 rfl hxk) s (by omega)) ?_
      rintro ⟨b1, o1, hkp⟩
      rw [hkp] at hxk
      refine wp_skip' ?_
      refine Then_normal ?_
      refine wp_region' ?_
      refine ops_ro' rfl (ro_move rfl) rfl ?_
      refine ops_ro' rfl (ro_nilCheck rfl) rfl ?_
      refine ops_ro' rfl (ro_fieldAddr fa85_3 rfl) rfl ?_
      refine ops_ro' rfl (ro_load sc82 rfl (Rd.pick 0 rfl (hT.nd x hx 3 _ rfl))) rfl ?_
      rw [hkp]
      refine ops_ro' rfl (ro_move rfl) rfl ?_
      refine ops_ro' rfl (ro_indexSlice sl82 rfl rfl rfl (by omega)) rfl ?_
      refine ops_ro' rfl (ro_load sc76 rfl (Rd.pick 0 rfl (Rd.elem (j := 0) (vw_rdn hxk) Pq.len hkid rfl))) rfl ?_
      refine ops_ro' rfl (ro_assign rfl) rfl ?_
      refine ops_nil ?_
      refine InBlock_normal ?_
      refine Then_normal ?_
      refine wp_region' ?_
      refine ops_ro' rfl (ro_add rfl rfl (wrap_inc (by omega))) rfl ?_
      refine ops_ro' rfl (ro_move rfl) rfl ?_
      refine ops_nil ?_
      refine Then_normal ?_
      refine back (m - 1) (by omega) (kept ⟨i + 1, y, ⟨by omega, hy1, by rw [hf, hdr]; simp only [fnd, hk]⟩, rfl, rfl⟩ ?_ ?_ ?_)
      · exact (by repeat (first | exact Has.nil _ | refine Has.cons rfl ?_))
      · exact (by repeat (first | exact Has.nil _ | refine Has.cons rfl ?_))
      · exact SubH.refl _
  · replace hc17 := of_decide_eq_false hc17
    refine wp_exit' ?_
    refine Then_exit ?_
    refine Then_exit ?_
    refine InBlock_here ?_
    refine Then_normal ?_
    refine wp_seq' ?_
    refine wp_region' ?_
    refine ops_ro' rfl (ro_move rfl) rfl ?_
    refine ops_ro' rfl (ro_assign rfl) rfl ?_
    refine ops_nil ?_
    refine Then_normal ?_
    refine wp_ret' ?_
    refine' doneS_ret (res1 rfl rfl) ?_ ?_
    rotate_left 1
    exact ⟨_, ⟨by rw [hf, List.drop_of_length_le (by omega)]; rfl, rfl⟩, rfl⟩
    exact SubH.refl _

end Go.Proofs.Ytbbmhppkhcodfaa
