/-
  A tree is loaded: Load.
-/
import Derived.Test.YtbbmhppkhcodfaaTrHw
import Derived.Test.YtbbmhppkhcodfaaTrPw
import Derived.Test.YtbbmhppkhcodfaaLib
namespace Go.Proofs.Ytbbmhppkhcodfaa
open Go.Sx
set_option linter.unusedVariables false
set_option linter.unusedSimpArgs false
set_option maxRecDepth 100000
set_option maxHeartbeats 4000000

theorem equal_spec (W : HProp) (v1 v2 : Value) (n1 n2 : Nat) (l1 l2 : List UInt8) (h1 : Vw W v1 n1 (cel l1)) (h2 : Vw W v2 n2 (cel l2)) (e1 : l1.length = n1) (e2 : l2.length = n2) :
    Tri Try.prog 55 [v1, v2] [W] (fun v H' => ∃ K, (v = .bool (decide (l1 = l2)) ∧ K = []) ∧ H' = K ++ [W]) := fun w F s => by
  have s' : sat w (star W F) := by rw [St_cons, St_nil, star_emp] at s; exact s
  refine (Try.bytes_Equal_strs v1 v2 (str l1) (str l2) w (vw_toStr Try.underlying30 Try.underlying5 Try.underlying9 h1 e1 w F s') (vw_toStr Try.underlying30 Try.underlying5 Try.underlying9 h2 e2 w F s')).mono fun e w' ⟨he, hw⟩ => ⟨_, [W], he, ⟨[], ⟨?_, rfl⟩, rfl⟩, hw ▸ s⟩
  congr 1
  show ((str l1).toList == (str l2).toList) = _
  rw [beqBytes]; exact decide_eq_decide.2 str_iff
theorem fin_here2 {q : R} (h : Here q []) : q.fin.1 = 0 := by
  have h1 := h.len
  rw [List.length_nil] at h1
  unfold R.fin; rw [if_pos h.why, if_neg (by omega)]
theorem isNone_no {g : Option GetS} {s : GetS} {f : GetS → Addr} (hs : g = some s) (h : (g.map f).isNone = true) : False := by subst hs; cases h
theorem tri_arg0 {f : FuncId} {t : Tr} {tb : Nat} {args : List Value} {H : List HProp} {Ψ : Value → List HProp → Prop} (h : t.tb = tb) (hT : Tri Try.prog f (t.v :: args) H Ψ) : Tri Try.prog f (.pointer (some ⟨tb, 0, none⟩) :: args) H Ψ := by rw [← h]; exact hT
def LoadA : Option (Tr × Nd) → HProp
  | none => emp
  | some s => tree s.1
theorem load_none {L : List HProp} {w : World} {F : HProp} (s : sat w (star (St L) F)) : sat w (star (St (LoadA none :: L)) F) := by
  rw [St_cons, show LoadA none = emp from rfl, emp_star]; exact s
theorem get_open2 {mb pr : Nat} {p : Option Addr} {c : Nat} {X : HProp} {k : GetS} {L : List HProp} {w : World} {F : HProp} (s : sat w (star (St (X :: GetA [] mb pr p c (some k) :: L)) F)) : sat w (star (St ([X, own mb (mapO ((([] : List Nd) ++ k.A).map Nd.me) k.ck), nds ([] ++ k.A), own pr (.cells [Value.slice p k.r.b.length c, .int .i64 k.r.pos, .int .i64 k.r.why, .int .i64 k.r.place].toArray 139 (0, 0)), row 5 1 (.slice p k.r.b.length c) k.r.b.length (cel k.r.b)] ++ L)) F) := get_open s
theorem load_tree {b10 b8 nn : Nat} {k : GetS} {L : List HProp} {w : World} {F : HProp} (s : sat w (star (St (own b10 (.cells ([.pointer (some ⟨k.x.blk, 0, none⟩), .map (some b8), .int .i64 (nn : Int), .int .i64 ((k.bs : Nat) : Int)] : List Value).toArray 78 (0, 0)) :: own b8 (mapO ((([] : List Nd) ++ k.A).map Nd.me) k.ck) :: nds ([] ++ k.A) :: L)) F)) : sat w (star (St (tree (⟨b10, b8, k.ck, k.x.blk, nn, k.bs, k.A⟩ : Tr) :: L)) F) :=
  tree_shut (t := (⟨b10, b8, k.ck, k.x.blk, nn, k.bs, k.A⟩ : Tr)) s
theorem be_inj8 {a b : Nat} (ha : a < 18446744073709551616) (hb : b < 18446744073709551616) (h : be a 8 = be b 8) : a = b := by
  have h1 : val (be a 8) = val (be b 8) := by rw [h]
  rw [val_be, val_be] at h1
  omega
theorem hdr_same {A B : List Nd} {m n : Nat} {x y : Nd} (hd : Deep A m x) (h : encN A m x = encN B (n + 1) y) (hx : x.id < 18446744073709551616) (hy : y.id < 18446744073709551616) : x.id = y.id ∧ x.dir = y.dir := by
  cases m with
  | zero => exact hd.elim
  | succ m =>
    have h1 : hdr x = hdr y := by
      have h2 : (hdr x ++ body A m x).take 29 = (hdr y ++ body B n y).take 29 := congrArg (List.take 29) h
      rw [List.take_append_of_le_length (by rw [hdr_len]; exact Nat.le_refl _), List.take_append_of_le_length (by rw [hdr_len]; exact Nat.le_refl _), List.take_of_length_le (by rw [hdr_len]; exact Nat.le_refl _), List.take_of_length_le (by rw [hdr_len]; exact Nat.le_refl _)] at h2
      exact h2
    unfold hdr at h1
    rw [List.append_assoc, List.append_assoc] at h1
    have h3 := List.append_inj h1 (by rw [be_length, be_length])
    refine ⟨be_inj8 hx hy h3.1, ?_⟩
    have h4 := (List.append_inj h3.2 rfl).1
    cases hxd : x.dir <;> cases hyd : y.dir <;> first | rfl | (rw [hxd, hyd] at h4; exact absurd h4 (by decide))
theorem load_fit {t0 : Tr} {r0 : Nd} {l : List UInt8} {z1 : R × Nat} (e1 : (R.new l).get 8 = z1) (hS : SaveR t0 r0 l) (hW0 : Wf t0 r0) (hn0 : t0.next ≤ 9223372036854775807) : z1.2 = t0.next ∧ ∃ n, ∀ nx : Int, nx = (t0.next : Int) → Fit t0 r0 r0 n [] [] 0 nx z1.1 := by
  obtain ⟨n, hn, hl⟩ := hS.ex
  have H := Here.new l
  rw [hl] at H
  have g := get_here H (show t0.next < 256 ^ 8 by omega)
  rw [← hl, e1] at g
  have H2 := H.adv (n := 8) (by rw [be_length])
  rw [← hl] at H2
  refine ⟨by rw [g], ?_⟩
  cases n with
  | zero => exact hn.elim
  | succ n =>
    refine ⟨n, fun nx hx => ⟨hW0, hW0.root, hn, ?_, by omega, hn0, fun u hu => (by cases hu), ?_, ?_⟩⟩
    · rw [List.append_nil, show z1.1 = (R.new l).adv 8 from by rw [g]]; exact H2
    · have h1 := dfs_sum hW0 (fun _ => 1) (n + 1) hW0.root
      rw [sum_one, sum_one] at h1
      have := hW0.few
      simp only [List.length_nil]; omega
    · have h1 := dfs_sum hW0 (fun y => y.data.length) (n + 1) hW0.root
      rw [← hW0.sum] at h1
      have := hW0.max
      unfold szs; omega
theorem save_same {t t0 : Tr} {r r0 : Nd} {a l : List UInt8} {m n : Nat} (h1 : SaveR t r a) (h2 : SaveR t0 r0 l) (hd : Deep t.ns m r) (he : encN t.ns m r = encN t0.ns (n + 1) r0) (hd2 : Deep t0.ns (n + 1) r0) (hnx : t.next = t0.next) : a = l := by
  obtain ⟨m1, h3, rfl⟩ := h1.ex
  obtain ⟨m2, h4, rfl⟩ := h2.ex
  rw [encN_same h3 hd, he, hnx, encN_same hd2 h4]
theorem load_spec {V : HProp} (q : Option Addr) (cq : Nat) (l : List UInt8) (hV : Vw V (.slice q l.length cq) l.length (cel l)) (hl : l.length ≤ 140737488355328) : Tri Try.prog 28 [.slice q l.length cq] [V]
    (fun v H' => ∃ K, (∃ o : Option (Tr × Nd), v = .tuple #[.pointer (o.map fun s => ⟨s.1.tb, 0, none⟩), .int .i64 (if o.isSome then 0 else 12)] ∧ (∀ s, o = some s → Wf s.1 s.2 ∧ SaveR s.1 s.2 l ∧ s.1.next ≤ 9223372036854775807) ∧ (∀ t0 r0, Wf t0 r0 → t0.next ≤ 9223372036854775807 → SaveR t0 r0 l → ∃ s, o = some s) ∧ K = [LoadA o]) ∧ H' = K ++ [V]) := by
  refine tri_of_wpS Try.func28 rfl Try.ntmps28 (by simp) ?_
  refine wp_seq' ?_
  refine wp_region' ?_
  refine ops_ro' rfl (ro_assign rfl) rfl ?_
  refine ops_ro' rfl (ro_assign rfl) rfl ?_
  refine ops_nil ?_
  refine Then_normal ?_
  refine wp_seq' ?_
  refine wp_region' ?_
  refine ops_ro' rfl (ro_move rfl) rfl ?_
  refine ops_eff' rfl (eff_call Try.call51 rfl rfl (by repeat (first | exact Split.nil _ | apply Split.cons 0 rfl | apply Split.cons 1 rfl | apply Split.cons 2 rfl | apply Split.cons 3 rfl | apply Split.cons 4 rfl | apply Split.cons 5 rfl | apply Split.cons 6 rfl | apply Split.cons 7 rfl | apply Split.cons 8 rfl | apply Split.cons 9 rfl | apply Split.cons 10 rfl | apply Split.cons 11 rfl)) (newReader_spec V q cq l hV hl)) rfl ?_
  rintro _ H' ⟨_, ⟨pr, p, c, rfl, rfl⟩, hH⟩
  simp only [List.cons_append, List.nil_append, List.eraseIdx_cons_zero, List.eraseIdx_cons_succ, List.set_cons_zero, List.set_cons_succ] at hH
  subst hH
  refine ops_ro' rfl (ro_assign rfl) rfl ?_
  refine ops_nil ?_
  refine Then_normal ?_
  refine wp_seq' ?_
  refine wp_region' ?_
  refine ops_eff' rfl (eff_makeMap) rfl ?_
  rintro _ _ ⟨b8, rfl, rfl⟩
  refine ops_ro' rfl (ro_build rfl (bld_struct (cs := [.pointer none, .map (some b8), .int .i64 0, .int .i64 0]) st78 rfl)) rfl ?_
  refine ops_eff' rfl (eff_box rfl) rfl ?_
  rintro _ _ ⟨b10, rfl, rfl⟩
  refine ops_ro' rfl (ro_assign rfl) rfl ?_
  refine ops_nil ?_
  refine Then_normal ?_
  refine wp_seq' ?_
  refine wp_region' ?_
  refine ops_ro' rfl (ro_move rfl) rfl ?_
  refine ops_ro' rfl (ro_move rfl) rfl ?_
  refine ops_eff' rfl (eff_call Try.call52 rfl rfl (by repeat (first | exact Split.nil _ | apply Split.cons 0 rfl | apply Split.cons 1 rfl | apply Split.cons 2 rfl | apply Split.cons 3 rfl | apply Split.cons 4 rfl | apply Split.cons 5 rfl | apply Split.cons 6 rfl | apply Split.cons 7 rfl | apply Split.cons 8 rfl | apply Split.cons 9 rfl | apply Split.cons 10 rfl | apply Split.cons 11 rfl)) (rU64_spec pr p c (R.new l) hl (Nat.zero_le _))) rfl ?_
  rintro _ H' ⟨_, ⟨rfl, rfl⟩, hH⟩
  simp only [List.cons_append, List.nil_append, List.eraseIdx_cons_zero, List.eraseIdx_cons_succ, List.set_cons_zero, List.set_cons_succ] at hH
  subst hH
  obtain ⟨z1, e1⟩ : ∃ z, (R.new l).get 8 = z := ⟨_, rfl⟩
  rw [e1]
  have g1 : z1.1.Good := e1 ▸ R.good_get (R.good_new l hl) 8
  have l1 : z1.2 < 18446744073709551616 := by have h := get_lt (R.new l) 8; rw [e1] at h; simpa only [Nat.reducePow] using h
  refine ops_ro' rfl (ro_conv Try.underlying34 Try.underlying3 rfl rfl) rfl ?_
  have hw := wrap64 l1
  obtain ⟨nx, hnx⟩ : ∃ z : Int, IntKind.i64.wrap ((z1.2 : Nat) : Int) = z := ⟨_, rfl⟩
  rw [hnx] at hw ⊢
  refine ops_ro' rfl (ro_nilCheck rfl) rfl ?_
  refine ops_ro' rfl (ro_fieldAddr fa78_2 rfl) rfl ?_
  refine ops_eff0 rfl (eff_store 2 sc3 rfl rfl rfl rfl (Nat.le_of_ble_eq_true rfl) (warm_zero _)) rfl ?_
  rintro _ _ rfl
  refine ops_nil ?_
  refine Then_normal ?_
  refine wp_seq' ?_
  refine wp_heap (fun w F s => nds_nil s) ?_
  refine wp_region' ?_
  refine ops_ro' rfl (ro_move rfl) rfl ?_
  refine ops_ro' rfl (ro_move rfl) rfl ?_
  refine ops_ro' rfl (ro_move rfl) rfl ?_
  refine ops_eff' rfl (eff_call Try.call53 rfl rfl (by repeat (first | exact Split.nil _ | apply Split.cons 0 rfl | apply Split.cons 1 rfl | apply Split.cons 2 rfl | apply Split.cons 3 rfl | apply Split.cons 4 rfl | apply Split.cons 5 rfl | apply Split.cons 6 rfl | apply Split.cons 7 rfl | apply Split.cons 8 rfl | apply Split.cons 9 rfl | apply Split.cons 10 rfl | apply Split.cons 11 rfl)) (get_ok 201 b10 b8 0 (.pointer none) nx 0 [] pr p c z1.1 [] (-1) (by simp) (by simp) (by omega) g1 (by simp) (by simp) (.inl rfl))) rfl ?_
  rintro _ H' ⟨_, ⟨g, bs2, rfl, hgs, hgc, rfl⟩, hH⟩
  simp only [List.cons_append, List.nil_append, List.eraseIdx_cons_zero, List.eraseIdx_cons_succ, List.set_cons_zero, List.set_cons_succ] at hH
  subst hH
  refine ops_ro' rfl (ro_nilCheck rfl) rfl ?_
  refine ops_ro' rfl (ro_fieldAddr fa78_0 rfl) rfl ?_
  refine ops_eff0 rfl (eff_store 0 sc76 rfl rfl rfl rfl (Nat.le_of_ble_eq_true rfl) (warm_zero _)) rfl ?_
  rintro _ _ rfl
  refine ops_nil ?_
  refine Then_normal ?_
  refine wp_seq' ?_
  refine wp_seq' ?_
  refine wp_region' ?_
  refine ops_ro' rfl (ro_move rfl) rfl ?_
  refine ops_ro' rfl (ro_nilCheck rfl) rfl ?_
  refine ops_ro' rfl (ro_fieldAddr fa78_0 rfl) rfl ?_
  refine ops_ro' rfl (ro_load sc76 rfl (Rd.pick 0 rfl (Rd.own rfl))) rfl ?_
  refine ops_ro' rfl (ro_ptrEqlNil Try.underlying76 rfl rfl rfl) rfl ?_
  refine ops_split rfl rfl rfl (fun hg28 => ?_) (fun hg28 => ?_)
  · skip
    refine ops_skip' rfl rfl ?_
    refine ops_skip' rfl rfl ?_
    refine ops_skip' rfl rfl ?_
    refine ops_skip' rfl rfl ?_
    refine ops_skip' rfl rfl ?_
    refine ops_skip' rfl rfl ?_
    refine ops_skip' rfl rfl ?_
    refine ops_skip' rfl rfl ?_
    refine ops_ro' rfl (ro_pick rfl rfl) rfl ?_
    refine ops_ro' rfl (ro_move (v := .bool true) rfl) rfl ?_
    refine ops_skip' rfl rfl ?_
    refine ops_skip' rfl rfl ?_
    refine ops_skip' rfl rfl ?_
    refine ops_skip' rfl rfl ?_
    refine ops_skip' rfl rfl ?_
    refine ops_skip' rfl rfl ?_
    refine ops_skip' rfl rfl ?_
    refine ops_skip' rfl rfl ?_
    refine ops_ro' rfl (ro_pick rfl rfl) rfl ?_
    refine ops_ro' rfl (ro_move (v := .bool true) rfl) rfl ?_
    refine ops_skip' rfl rfl ?_
    refine ops_skip' rfl rfl ?_
    refine ops_skip' rfl rfl ?_
    refine ops_ro' rfl (ro_pick rfl rfl) rfl ?_
    refine ops_ro' rfl (ro_move (v := .bool true) rfl) rfl ?_
    refine ops_skip' rfl rfl ?_
    refine ops_skip' rfl rfl ?_
    refine ops_skip' rfl rfl ?_
    refine ops_skip' rfl rfl ?_
    refine ops_skip' rfl rfl ?_
    refine ops_ro' rfl (ro_pick rfl rfl) rfl ?_
    refine ops_nil ?_
    refine Then_normal ?_
    refine wp_condT rfl ?_
    refine wp_seq' ?_
    refine wp_sub' (L := [V]) (by repeat (first | exact SubH.nil _ | refine SubH.cons 0 rfl ?_ | refine SubH.cons 1 rfl ?_ | refine SubH.cons 2 rfl ?_ | refine SubH.cons 3 rfl ?_ | refine SubH.cons 4 rfl ?_ | refine SubH.cons 5 rfl ?_ | refine SubH.cons 6 rfl ?_ | refine SubH.cons 7 rfl ?_ | refine SubH.cons 8 rfl ?_ | refine SubH.cons 9 rfl ?_ | refine SubH.cons 10 rfl ?_ | refine SubH.cons 11 rfl ?_ | refine SubH.cons 12 rfl ?_ | refine SubH.cons 13 rfl ?_ | refine SubH.rown ?_)) ?_
    refine wp_heap (H' := [LoadA none, V]) (fun w F s => load_none s) ?_
    refine wp_region' ?_
    refine ops_ro' rfl (ro_assign rfl) rfl ?_
    refine ops_ro' rfl (ro_assign rfl) rfl ?_
    refine ops_nil ?_
    refine Then_normal ?_
    refine wp_ret' ?_
    refine Then_ret ?_
    refine' doneS_ret (res2 rfl rfl rfl) ?_ ?_
    rotate_left 1
    refine ⟨_, ⟨none, rfl, fun s h => (by cases h), fun t0 r0 hW0 hn0 hS => ?_, rfl⟩, rfl⟩
    exfalso
    obtain ⟨hz1, n0, hF⟩ := load_fit e1 hS hW0 hn0
    rw [if_pos (by omega), hz1] at hw
    obtain ⟨s, hs, q1, q2, q3, m2, q4, q5⟩ := hgc t0 r0 r0 n0 [] (hF _ hw)
    first
      | exact isNone_no hs hg28
      | (injection hs with hs
         subst hs
         obtain ⟨q6, q7⟩ := hdr_same q4 q5 (by omega) (by have := hW0.lt r0 hW0.root; omega)
         first
           | exact absurd (q6.trans hW0.rid) (by omega)
           | (rw [q7, hW0.rdir] at hg48; exact absurd hg48 (by decide))
           | exact absurd (fin_here2 q1) (by simpa using hg53)
           | (refine absurd (save_same hsv hS (by rw [hta]; exact q4) (by rw [hta]; exact q5) (hF _ hw).deep (by omega)) (by simpa using hc59)))
    exact SubH.refl _
  · skip
    obtain ⟨k, rfl⟩ : ∃ k, g = some k := by cases g with
      | none => exact absurd hg28 (by simp)
      | some k => exact ⟨k, rfl⟩
    obtain ⟨hG, rfl⟩ := hgs k rfl
    have hkx : k.x ∈ ([] : List Nd) ++ k.A := hG.sb.root
    have hklt := hG.sb.lt k.x hG.sb.root
    obtain ⟨nn, rfl⟩ : ∃ nn : Nat, nx = (nn : Int) := ⟨nx.toNat, by omega⟩
    refine ops_heap (fun w F s => get_open2 s) ?_
    simp only [List.cons_append, List.nil_append]
    dsimp only [gptr, Option.map]
    refine ops_ro' rfl (ro_move rfl) rfl ?_
    refine ops_ro' rfl (ro_nilCheck rfl) rfl ?_
    refine ops_ro' rfl (ro_fieldAddr fa78_0 rfl) rfl ?_
    refine ops_ro' rfl (ro_load sc76 rfl (Rd.pick 0 rfl (Rd.own rfl))) rfl ?_
    refine ops_ro' rfl (ro_nilCheck rfl) rfl ?_
    refine ops_ro' rfl (ro_fieldAddr fa85_0 rfl) rfl ?_
    refine ops_ro' rfl (ro_load sc3 rfl (Rd.pick 2 rfl ((nds_rdn hkx 0 _ rfl)))) rfl ?_
    refine ops_ro' rfl (ro_neq rfl rfl rfl) rfl ?_
    refine ops_ro' rfl (ro_pick rfl rfl) rfl ?_
    refine ops_split rfl rfl rfl (fun hg38 => ?_) (fun hg38 => ?_)
    · replace hg38 := of_decide_eq_true hg38
      refine ops_skip' rfl rfl ?_
      refine ops_skip' rfl rfl ?_
      refine ops_skip' rfl rfl ?_
      refine ops_skip' rfl rfl ?_
      refine ops_skip' rfl rfl ?_
      refine ops_skip' rfl rfl ?_
      refine ops_skip' rfl rfl ?_
      refine ops_skip' rfl rfl ?_
      refine ops_ro' rfl (ro_pick rfl rfl) rfl ?_
      refine ops_ro' rfl (ro_move (v := .bool true) rfl) rfl ?_
      refine ops_skip' rfl rfl ?_
      refine ops_skip' rfl rfl ?_
      refine ops_skip' rfl rfl ?_
      refine ops_ro' rfl (ro_pick rfl rfl) rfl ?_
      refine ops_ro' rfl (ro_move (v := .bool true) rfl) rfl ?_
      refine ops_skip' rfl rfl ?_
      refine ops_skip' rfl rfl ?_
      refine ops_skip' rfl rfl ?_
      refine ops_skip' rfl rfl ?_
      refine ops_skip' rfl rfl ?_
      refine ops_ro' rfl (ro_pick rfl rfl) rfl ?_
      refine ops_nil ?_
      refine Then_normal ?_
      refine wp_condT rfl ?_
      refine wp_seq' ?_
      refine wp_sub' (L := [V]) (by repeat (first | exact SubH.nil _ | refine SubH.cons 0 rfl ?_ | refine SubH.cons 1 rfl ?_ | refine SubH.cons 2 rfl ?_ | refine SubH.cons 3 rfl ?_ | refine SubH.cons 4 rfl ?_ | refine SubH.cons 5 rfl ?_ | refine SubH.cons 6 rfl ?_ | refine SubH.cons 7 rfl ?_ | refine SubH.cons 8 rfl ?_ | refine SubH.cons 9 rfl ?_ | refine SubH.cons 10 rfl ?_ | refine SubH.cons 11 rfl ?_ | refine SubH.cons 12 rfl ?_ | refine SubH.cons 13 rfl ?_ | refine SubH.rown ?_)) ?_
      refine wp_heap (H' := [LoadA none, V]) (fun w F s => load_none s) ?_
      refine wp_region' ?_
      refine ops_ro' rfl (ro_assign rfl) rfl ?_
      refine ops_ro' rfl (ro_assign rfl) rfl ?_
      refine ops_nil ?_
      refine Then_normal ?_
      refine wp_ret' ?_
      refine Then_ret ?_
      refine' doneS_ret (res2 rfl rfl rfl) ?_ ?_
      rotate_left 1
      refine ⟨_, ⟨none, rfl, fun s h => (by cases h), fun t0 r0 hW0 hn0 hS => ?_, rfl⟩, rfl⟩
      exfalso
      obtain ⟨hz1, n0, hF⟩ := load_fit e1 hS hW0 hn0
      rw [if_pos (by omega), hz1] at hw
      obtain ⟨s, hs, q1, q2, q3, m2, q4, q5⟩ := hgc t0 r0 r0 n0 [] (hF _ hw)
      first
        | exact isNone_no hs hg28
        | (injection hs with hs
           subst hs
           obtain ⟨q6, q7⟩ := hdr_same q4 q5 (by omega) (by have := hW0.lt r0 hW0.root; omega)
           first
             | exact absurd (q6.trans hW0.rid) (by omega)
             | (rw [q7, hW0.rdir] at hg48; exact absurd hg48 (by decide))
             | exact absurd (fin_here2 q1) (by simpa using hg53)
             | (refine absurd (save_same hsv hS (by rw [hta]; exact q4) (by rw [hta]; exact q5) (hF _ hw).deep (by omega)) (by simpa using hc59)))
      exact SubH.refl _
    · replace hg38 := of_decide_eq_false hg38
      refine ops_ro' rfl (ro_move rfl) rfl ?_
      refine ops_ro' rfl (ro_nilCheck rfl) rfl ?_
      refine ops_ro' rfl (ro_fieldAddr fa78_0 rfl) rfl ?_
      refine ops_ro' rfl (ro_load sc76 rfl (Rd.pick 0 rfl (Rd.own rfl))) rfl ?_
      refine ops_ro' rfl (ro_nilCheck rfl) rfl ?_
      refine ops_ro' rfl (ro_fieldAddr fa85_1 rfl) rfl ?_
      refine ops_ro' rfl (ro_load sc4 rfl (Rd.pick 2 rfl ((nds_rdn hkx 1 _ rfl)))) rfl ?_
      refine ops_ro' rfl (ro_not rfl rfl) rfl ?_
      refine ops_ro' rfl (ro_pick rfl rfl) rfl ?_
      refine ops_split rfl rfl rfl (fun hg48 => ?_) (fun hg48 => ?_)
      · simp only [Bool.and_eq_true, decide_eq_true_eq, Bool.not_eq_true', decide_eq_false_iff_not, bne_iff_ne, ne_eq] at hg48
        refine ops_skip' rfl rfl ?_
        refine ops_skip' rfl rfl ?_
        refine ops_skip' rfl rfl ?_
        refine ops_ro' rfl (ro_pick rfl rfl) rfl ?_
        refine ops_ro' rfl (ro_move (v := .bool true) rfl) rfl ?_
        refine ops_skip' rfl rfl ?_
        refine ops_skip' rfl rfl ?_
        refine ops_skip' rfl rfl ?_
        refine ops_skip' rfl rfl ?_
        refine ops_skip' rfl rfl ?_
        refine ops_ro' rfl (ro_pick rfl rfl) rfl ?_
        refine ops_nil ?_
        refine Then_normal ?_
        refine wp_condT rfl ?_
        refine wp_seq' ?_
        refine wp_sub' (L := [V]) (by repeat (first | exact SubH.nil _ | refine SubH.cons 0 rfl ?_ | refine SubH.cons 1 rfl ?_ | refine SubH.cons 2 rfl ?_ | refine SubH.cons 3 rfl ?_ | refine SubH.cons 4 rfl ?_ | refine SubH.cons 5 rfl ?_ | refine SubH.cons 6 rfl ?_ | refine SubH.cons 7 rfl ?_ | refine SubH.cons 8 rfl ?_ | refine SubH.cons 9 rfl ?_ | refine SubH.cons 10 rfl ?_ | refine SubH.cons 11 rfl ?_ | refine SubH.cons 12 rfl ?_ | refine SubH.cons 13 rfl ?_ | refine SubH.rown ?_)) ?_
        refine wp_heap (H' := [LoadA none, V]) (fun w F s => load_none s) ?_
        refine wp_region' ?_
        refine ops_ro' rfl (ro_assign rfl) rfl ?_
        refine ops_ro' rfl (ro_assign rfl) rfl ?_
        refine ops_nil ?_
        refine Then_normal ?_
        refine wp_ret' ?_
        refine Then_ret ?_
        refine' doneS_ret (res2 rfl rfl rfl) ?_ ?_
        rotate_left 1
        refine ⟨_, ⟨none, rfl, fun s h => (by cases h), fun t0 r0 hW0 hn0 hS => ?_, rfl⟩, rfl⟩
        exfalso
        obtain ⟨hz1, n0, hF⟩ := load_fit e1 hS hW0 hn0
        rw [if_pos (by omega), hz1] at hw
        obtain ⟨s, hs, q1, q2, q3, m2, q4, q5⟩ := hgc t0 r0 r0 n0 [] (hF _ hw)
        first
          | exact isNone_no hs hg28
          | (injection hs with hs
             subst hs
             obtain ⟨q6, q7⟩ := hdr_same q4 q5 (by omega) (by have := hW0.lt r0 hW0.root; omega)
             first
               | exact absurd (q6.trans hW0.rid) (by omega)
               | (rw [q7, hW0.rdir] at hg48; exact absurd hg48 (by decide))
               | exact absurd (fin_here2 q1) (by simpa using hg53)
               | (refine absurd (save_same hsv hS (by rw [hta]; exact q4) (by rw [hta]; exact q5) (hF _ hw).deep (by omega)) (by simpa using hc59)))
        exact SubH.refl _
      · simp only [Bool.and_eq_false_iff, decide_eq_false_iff_not, Bool.not_eq_false', decide_eq_true_eq] at hg48
        refine ops_ro' rfl (ro_move rfl) rfl ?_
        refine ops_eff' rfl (eff_call Try.call54 rfl rfl (by repeat (first | exact Split.nil _ | apply Split.cons 0 rfl | apply Split.cons 1 rfl | apply Split.cons 2 rfl | apply Split.cons 3 rfl | apply Split.cons 4 rfl | apply Split.cons 5 rfl | apply Split.cons 6 rfl | apply Split.cons 7 rfl | apply Split.cons 8 rfl | apply Split.cons 9 rfl | apply Split.cons 10 rfl | apply Split.cons 11 rfl)) (all_spec pr p c k.r hG.good.len hG.good.pos)) rfl ?_
        rintro _ H' ⟨_, ⟨rfl, rfl⟩, hH⟩
        simp only [List.cons_append, List.nil_append, List.eraseIdx_cons_zero, List.eraseIdx_cons_succ, List.set_cons_zero, List.set_cons_succ] at hH
        subst hH
        refine ops_ro' rfl (ro_not rfl rfl) rfl ?_
        refine ops_ro' rfl (ro_pick rfl rfl) rfl ?_
        refine ops_split rfl rfl rfl (fun hg53 => ?_) (fun hg53 => ?_)
        · simp only [Bool.and_eq_true, decide_eq_true_eq, Bool.not_eq_true', decide_eq_false_iff_not, bne_iff_ne, ne_eq] at hg53
          refine ops_skip' rfl rfl ?_
          refine ops_skip' rfl rfl ?_
          refine ops_skip' rfl rfl ?_
          refine ops_skip' rfl rfl ?_
          refine ops_skip' rfl rfl ?_
          refine ops_ro' rfl (ro_pick rfl rfl) rfl ?_
          refine ops_nil ?_
          refine Then_normal ?_
          refine wp_condT rfl ?_
          refine wp_seq' ?_
          refine wp_sub' (L := [V]) (by repeat (first | exact SubH.nil _ | refine SubH.cons 0 rfl ?_ | refine SubH.cons 1 rfl ?_ | refine SubH.cons 2 rfl ?_ | refine SubH.cons 3 rfl ?_ | refine SubH.cons 4 rfl ?_ | refine SubH.cons 5 rfl ?_ | refine SubH.cons 6 rfl ?_ | refine SubH.cons 7 rfl ?_ | refine SubH.cons 8 rfl ?_ | refine SubH.cons 9 rfl ?_ | refine SubH.cons 10 rfl ?_ | refine SubH.cons 11 rfl ?_ | refine SubH.cons 12 rfl ?_ | refine SubH.cons 13 rfl ?_ | refine SubH.rown ?_)) ?_
          refine wp_heap (H' := [LoadA none, V]) (fun w F s => load_none s) ?_
          refine wp_region' ?_
          refine ops_ro' rfl (ro_assign rfl) rfl ?_
          refine ops_ro' rfl (ro_assign rfl) rfl ?_
          refine ops_nil ?_
          refine Then_normal ?_
          refine wp_ret' ?_
          refine Then_ret ?_
          refine' doneS_ret (res2 rfl rfl rfl) ?_ ?_
          rotate_left 1
          refine ⟨_, ⟨none, rfl, fun s h => (by cases h), fun t0 r0 hW0 hn0 hS => ?_, rfl⟩, rfl⟩
          exfalso
          obtain ⟨hz1, n0, hF⟩ := load_fit e1 hS hW0 hn0
          rw [if_pos (by omega), hz1] at hw
          obtain ⟨s, hs, q1, q2, q3, m2, q4, q5⟩ := hgc t0 r0 r0 n0 [] (hF _ hw)
          first
            | exact isNone_no hs hg28
            | (injection hs with hs
               subst hs
               obtain ⟨q6, q7⟩ := hdr_same q4 q5 (by omega) (by have := hW0.lt r0 hW0.root; omega)
               first
                 | exact absurd (q6.trans hW0.rid) (by omega)
                 | (rw [q7, hW0.rdir] at hg48; exact absurd hg48 (by decide))
                 | exact absurd (fin_here2 q1) (by simpa using hg53)
                 | (refine absurd (save_same hsv hS (by rw [hta]; exact q4) (by rw [hta]; exact q5) (hF _ hw).deep (by omega)) (by simpa using hc59)))
          exact SubH.refl _
        · simp only [Bool.and_eq_false_iff, decide_eq_false_iff_not, Bool.not_eq_false', decide_eq_true_eq] at hg53
          have hid : k.x.id = 0 := by omega
          have hdr1 : k.x.dir = true := by simpa using hg48
          have hW : Wf (⟨b10, b8, k.ck, k.x.blk, nn, k.bs, k.A⟩ : Tr) k.x := wf_load (nx := (nn : Int)) hG.sb hid hdr1 hG.len (by have h := hG.bs; rw [Nat.zero_add] at h; exact h) hG.max
          have hnn : nn ≤ 9223372036854775807 := by split at hw <;> omega
          refine ops_sub' (L := [own b10 (.cells ([.pointer (some ⟨k.x.blk, 0, none⟩), .map (some b8), .int .i64 (nn : Int), .int .i64 ((k.bs : Nat) : Int)] : List Value).toArray 78 (0, 0)), own b8 (mapO ((([] : List Nd) ++ k.A).map Nd.me) k.ck), nds (([] : List Nd) ++ k.A), V]) (by repeat (first | exact SubH.nil _ | refine SubH.cons 0 rfl ?_ | refine SubH.cons 1 rfl ?_ | refine SubH.cons 2 rfl ?_ | refine SubH.cons 3 rfl ?_ | refine SubH.cons 4 rfl ?_ | refine SubH.cons 5 rfl ?_ | refine SubH.cons 6 rfl ?_ | refine SubH.cons 7 rfl ?_ | refine SubH.cons 8 rfl ?_ | refine SubH.cons 9 rfl ?_ | refine SubH.cons 10 rfl ?_ | refine SubH.cons 11 rfl ?_ | refine SubH.cons 12 rfl ?_ | refine SubH.cons 13 rfl ?_ | refine SubH.rown ?_)) ?_
          refine ops_heap (fun w F s => load_tree (nn := nn) (k := k) s) ?_
          obtain ⟨t1, ht1⟩ : ∃ t1 : Tr, t1 = (⟨b10, b8, k.ck, k.x.blk, nn, k.bs, k.A⟩ : Tr) := ⟨_, rfl⟩
          rw [← ht1] at hW ⊢
          have htb : t1.tb = b10 := by rw [ht1]
          have htn : t1.next = nn := by rw [ht1]
          have hta : t1.ns = k.A := by rw [ht1]
          clear ht1
          refine ops_ro' rfl (ro_move rfl) rfl ?_
          refine ops_eff' rfl (eff_callM (Pre := []) Try.call25 rfl rfl (Split.nil _) (tri_arg0 htb (save_spec (Tv.pick 0 rfl (tree_tv t1)) hW (by omega)))) rfl ?_
          rintro _ H' ⟨_, ⟨sb, p55, c55, rfl, hsv, hsl, rfl⟩, hH⟩
          simp only [List.cons_append, List.nil_append, List.eraseIdx_cons_zero, List.eraseIdx_cons_succ, List.set_cons_zero, List.set_cons_succ] at hH
          subst hH
          refine ops_ro' rfl (ro_move rfl) rfl ?_
          refine ops_eff' rfl (eff_callM (Pre := []) Try.call55 rfl rfl (Split.nil _) (equal_spec _ _ _ _ _ sb l (by first | exact (Vw.pick 0 rfl hV) | exact (Vw.pick 1 rfl hV) | exact (Vw.pick 2 rfl hV) | exact (Vw.pick 3 rfl hV) | exact (Vw.pick 4 rfl hV) | exact (Vw.pick 5 rfl hV) | exact (Vw.pick 6 rfl hV) | exact (Vw.pick 7 rfl hV) | exact Vw.pick 0 rfl Vw.row | exact Vw.pick 1 rfl Vw.row | exact Vw.pick 2 rfl Vw.row | exact Vw.pick 3 rfl Vw.row | exact Vw.pick 4 rfl Vw.row | exact Vw.pick 5 rfl Vw.row | exact Vw.pick 6 rfl Vw.row | exact Vw.pick 7 rfl Vw.row | exact Vw.nil _ | exact Vw.empty _ _) (by first | exact (Vw.pick 0 rfl hV) | exact (Vw.pick 1 rfl hV) | exact (Vw.pick 2 rfl hV) | exact (Vw.pick 3 rfl hV) | exact (Vw.pick 4 rfl hV) | exact (Vw.pick 5 rfl hV) | exact (Vw.pick 6 rfl hV) | exact (Vw.pick 7 rfl hV) | exact Vw.pick 0 rfl Vw.row | exact Vw.pick 1 rfl Vw.row | exact Vw.pick 2 rfl Vw.row | exact Vw.pick 3 rfl Vw.row | exact Vw.pick 4 rfl Vw.row | exact Vw.pick 5 rfl Vw.row | exact Vw.pick 6 rfl Vw.row | exact Vw.pick 7 rfl Vw.row | exact Vw.nil _ | exact Vw.empty _ _) rfl rfl)) rfl ?_
          rintro _ H' ⟨_, ⟨rfl, rfl⟩, hH⟩
          simp only [List.cons_append, List.nil_append, List.eraseIdx_cons_zero, List.eraseIdx_cons_succ, List.set_cons_zero, List.set_cons_succ] at hH
          subst hH
          refine ops_ro' rfl (ro_not rfl rfl) rfl ?_
          refine ops_ro' rfl (ro_pick rfl rfl) rfl ?_
          refine ops_nil ?_
          refine Then_normal ?_
          refine wp_cond' rfl (fun hc59 => ?_) (fun hc59 => ?_)
          · simp only [Bool.and_eq_true, decide_eq_true_eq, Bool.not_eq_true', decide_eq_false_iff_not, bne_iff_ne, ne_eq] at hc59
            refine wp_seq' ?_
            refine wp_sub' (L := [V]) (by repeat (first | exact SubH.nil _ | refine SubH.cons 0 rfl ?_ | refine SubH.cons 1 rfl ?_ | refine SubH.cons 2 rfl ?_ | refine SubH.cons 3 rfl ?_ | refine SubH.cons 4 rfl ?_ | refine SubH.cons 5 rfl ?_ | refine SubH.cons 6 rfl ?_ | refine SubH.cons 7 rfl ?_ | refine SubH.cons 8 rfl ?_ | refine SubH.cons 9 rfl ?_ | refine SubH.cons 10 rfl ?_ | refine SubH.cons 11 rfl ?_ | refine SubH.cons 12 rfl ?_ | refine SubH.cons 13 rfl ?_ | refine SubH.rown ?_)) ?_
            refine wp_heap (H' := [LoadA none, V]) (fun w F s => load_none s) ?_
            refine wp_region' ?_
            refine ops_ro' rfl (ro_assign rfl) rfl ?_
            refine ops_ro' rfl (ro_assign rfl) rfl ?_
            refine ops_nil ?_
            refine Then_normal ?_
            refine wp_ret' ?_
            refine Then_ret ?_
            refine' doneS_ret (res2 rfl rfl rfl) ?_ ?_
            rotate_left 1
            refine ⟨_, ⟨none, rfl, fun s h => (by cases h), fun t0 r0 hW0 hn0 hS => ?_, rfl⟩, rfl⟩
            exfalso
            obtain ⟨hz1, n0, hF⟩ := load_fit e1 hS hW0 hn0
            rw [if_pos (by omega), hz1] at hw
            obtain ⟨s, hs, q1, q2, q3, m2, q4, q5⟩ := hgc t0 r0 r0 n0 [] (hF _ hw)
            first
              | exact isNone_no hs hg28
              | (injection hs with hs
                 subst hs
                 obtain ⟨q6, q7⟩ := hdr_same q4 q5 (by omega) (by have := hW0.lt r0 hW0.root; omega)
                 first
                   | exact absurd (q6.trans hW0.rid) (by omega)
                   | (rw [q7, hW0.rdir] at hg48; exact absurd hg48 (by decide))
                   | exact absurd (fin_here2 q1) (by simpa using hg53)
                   | (refine absurd (save_same hsv hS (by rw [hta]; exact q4) (by rw [hta]; exact q5) (hF _ hw).deep (by omega)) (by simpa using hc59)))
            exact SubH.refl _
          · simp only [Bool.and_eq_false_iff, decide_eq_false_iff_not, Bool.not_eq_false', decide_eq_true_eq] at hc59
            refine wp_skip' ?_
            refine Then_normal ?_
            refine wp_seq' ?_
            refine wp_sub' (L := [tree t1, V]) (by repeat (first | exact SubH.nil _ | refine SubH.cons 0 rfl ?_ | refine SubH.cons 1 rfl ?_ | refine SubH.cons 2 rfl ?_ | refine SubH.cons 3 rfl ?_ | refine SubH.cons 4 rfl ?_ | refine SubH.cons 5 rfl ?_ | refine SubH.cons 6 rfl ?_ | refine SubH.cons 7 rfl ?_ | refine SubH.cons 8 rfl ?_ | refine SubH.cons 9 rfl ?_ | refine SubH.cons 10 rfl ?_ | refine SubH.cons 11 rfl ?_ | refine SubH.cons 12 rfl ?_ | refine SubH.cons 13 rfl ?_ | refine SubH.rown ?_)) ?_
            refine wp_heap (H' := [LoadA (some (t1, k.x)), V]) (fun w F s => s) ?_
            refine wp_region' ?_
            refine ops_ro' rfl (ro_move rfl) rfl ?_
            refine ops_ro' rfl (ro_assign rfl) rfl ?_
            refine ops_ro' rfl (ro_assign rfl) rfl ?_
            refine ops_nil ?_
            refine Then_normal ?_
            refine wp_ret' ?_
            refine' doneS_ret (res2 rfl rfl rfl) ?_ ?_
            rotate_left 1
            refine ⟨_, ⟨some (t1, k.x), by rw [← htb]; rfl, fun s h => ?_, fun t0 r0 hW0 hn0 hS => ⟨_, rfl⟩, rfl⟩, rfl⟩
            injection h with h
            subst h
            exact ⟨hW, by have h : sb = l := (by simpa using hc59)
                          rw [← h]; exact hsv, by show t1.next ≤ _; omega⟩
            exact SubH.refl _

end Go.Proofs.Ytbbmhppkhcodfaa
