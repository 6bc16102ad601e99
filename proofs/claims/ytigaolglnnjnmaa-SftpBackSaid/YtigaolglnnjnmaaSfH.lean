/-
  The walk of SftpIds.
-/
import Derived.Test.YtigaolglnnjnmaaSfG
import Derived.Test.YtigaolglnnjnmaaSxOpen
import Derived.Test.YtigaolglnnjnmaaSxSub
import Derived.Test.YtigaolglnnjnmaaQw
namespace Go.Proofs.Ytigaolglnnjnmaa
open Go.Sx
set_option linter.unusedVariables false
set_option linter.unusedSimpArgs false
set_option maxRecDepth 100000
set_option maxHeartbeats 4000000

theorem bld_array {t e : TypeId} {m size : Nat} {zs : List Value} {parts : List (Nat × Value)} {cs : List Value} (hz : Zero Try.prog t (.agg zs.toArray)) (hu : Try.prog.underlying t = some (.array m e)) (hs : ∀ w, (sizeOf e).run Try.prog w = .ok size w)
    (hf : fillL (fun i => some (i * size, size)) zs parts = some cs) : Bld Try.prog t parts (.agg cs.toArray) := fun w => by
  have hf' := fill_eq (fun i => some (i * size, size)) parts zs cs hf
  unfold Instr.build
  simp only [Sem.run_bind, hz w, Result.andThen_ok, run_underlying hu, hs w, Value.cells, hf', Sem.run_pure]
theorem vw_subC {A : HProp} {p : Option Addr} {c a b : Nat} {l : List UInt8} (hV : Vw A (.slice p l.length c) l.length (cel l)) (h1 : a ≤ b) (h2 : b ≤ l.length) (h3 : l.length ≤ c) :
    Vw A (.slice (subp p c 1 a) ((l.drop a).take (b - a)).length (c - a)) ((l.drop a).take (b - a)).length (cel ((l.drop a).take (b - a))) := by
  rw [← flat_cel] at hV ⊢
  exact vw_subF hV (fun _ => rfl) h1 h2 h3
theorem ops_packS {n : Nat} {ops : Array Oper} {l : List Oper} {Γ : Env} {H : List HProp} {Q : Post} (h : ∀ V2, V2 = St H → Ops Try.prog n ops l Γ [V2] Q) : Ops Try.prog n ops l Γ H Q :=
  ops_sub' (fun w F s => by rw [St_cons, St_nil, star_emp]; exact s) (h (St H) rfl)
theorem sub_of {H L : List HProp} (h : SubH H L) : SubH [St H] L := fun w F s => h w F (by rw [St_cons, St_nil, star_emp] at s; exact s)
/-- two writings that differ by the id alone -/
structure Idr (a : Nat) (x y : List UInt8) : Prop where
  len : x.length = y.length
  pos : x.length ≠ 0 → 5 ≤ x.length
  hd : ∀ (h : 0 < x.length) (h' : 0 < y.length), x[0] = y[0]
  tl : x.drop 5 = y.drop 5
  id : x.length ≠ 0 → (x.drop 1).take 4 = be a 4
theorem idr_nil (a : Nat) : Idr a [] [] := ⟨rfl, fun h => absurd rfl h, fun h => absurd h (by simp), rfl, fun h => absurd rfl h⟩
theorem idr_cons (a b : Nat) (k : UInt8) (l : List UInt8) : Idr a (k :: (be a 4 ++ l)) (k :: (be b 4 ++ l)) :=
  ⟨by simp [be_length], fun _ => by simp [be_length], fun _ _ => rfl, by rw [List.drop_succ_cons, List.drop_succ_cons, List.drop_left' (be_length a 4), List.drop_left' (be_length b 4)], fun _ => by rw [List.drop_succ_cons, List.drop_zero, List.take_left' (be_length a 4)]⟩
theorem idr_q (a b : Nat) (A : Ax × Bool) (c : Rc) : Idr a (encB A a c) (encB A b c) := by
  unfold encB
  by_cases h : encE A c = 0
  · rw [if_pos h, if_pos h]
    have e : ∀ id, reqB A.1 id c = b8 c.k :: (be id 4 ++ (opt A.1.pa (txB c.pa) ++ opt A.1.to (txB c.to) ++ opt A.1.ha (txB c.ha) ++ opt A.1.off (be c.off 8) ++ opt A.1.len (be c.len 4) ++ opt A.1.da (txB c.da) ++ opt A.1.fl (be c.fl 4) ++ opt A.1.at' c.at'.enc)) := fun id => by
      unfold reqB; simp only [List.cons_append, List.append_assoc]
    rw [e a, e b]; exact idr_cons a b _ _
  · rw [if_neg h, if_neg h]; exact idr_nil a
theorem idr_p (a b : Nat) (c : Pc) : Idr a (encP a c) (encP b c) := by
  unfold encP
  by_cases h : fineE c = 0
  · rw [if_pos h, if_pos h]; exact idr_cons a b _ _
  · rw [if_neg h, if_neg h]; exact idr_nil a
structure Pr where
  x : Slv UInt8
  y : Slv UInt8
def Pr.cs (p : Pr) : List Value := [p.x.v, p.y.v]
theorem Pr.len (p : Pr) : p.cs.length = 2 := rfl
structure Pr.Ok (U : HProp) (a : Nat) (p : Pr) : Prop where
  x : Vw U p.x.v p.x.l.length (cel p.x.l)
  y : Vw U p.y.v p.y.l.length (cel p.y.l)
  cx : p.x.l.length ≤ p.x.c
  cy : p.y.l.length ≤ p.y.c
  id : Idr a p.x.l p.y.l
theorem pr_all {U : HProp} {a : Nat} {p q : Pr} (h1 : p.Ok U a) (h2 : q.Ok U a) : ∀ r ∈ [p, q], r.Ok U a := fun r hr => by
  simp only [List.mem_cons, List.not_mem_nil, or_false] at hr
  rcases hr with rfl | rfl
  · exact h1
  · exact h2


theorem doneS_pre2 {fn : Func} {n : Nat} {Ψ : Value → List HProp → Prop} {Γ : Env} {H H2 : List HProp} (hs : SubH H H2) (h : DoneS Try.prog fn n Ψ .ret Γ H2) : DoneS Try.prog fn n Ψ .ret Γ H := by
  obtain ⟨v, L, h1, h2, h3⟩ := h
  exact ⟨v, L, fun a w F f s => h1 a w F f (hs w F s), h2, hs.trans h3⟩
theorem sftpids_run (V : HProp) (a b : Nat) (ha : a < 4294967296) (hb : b < 4294967296) (q : Rc) (hqo : q.Ok) (dp : Option Addr) (dn : Nat) (hq : Vw V (.slice dp q.da.length dn) q.da.length (cel q.da)) (hqc : q.da.length ≤ dn) (c : Pc) (ep : Option Addr) (en : Nat) (np : Option Addr) (nn : Nat) (hk : c.Ok V ep en np nn) (hkc : c.d.length ≤ en) :
    Tri Try.prog 11 [.int .u32 (a : Int), .int .u32 (b : Int), q.v dp dn, c.v ep en np nn] [V] (fun v H' => v = .bool true ∧ H' = [V]) := by
  refine tri_of_wpS Try.func11 rfl Try.ntmps11 (by simp) ?_
  refine wp_seq' ?_
  refine wp_region' ?_
  refine ops_eff' rfl (eff_box rfl) rfl ?_
  rintro _ _ ⟨b6, rfl, rfl⟩
  refine ops_eff' rfl (eff_box rfl) rfl ?_
  rintro _ _ ⟨b7, rfl, rfl⟩
  refine ops_ro' rfl (ro_assign rfl) rfl ?_
  refine ops_nil ?_
  refine Then_normal ?_
  refine wp_seq' ?_
  refine wp_region' ?_
  refine ops_ro' rfl (ro_loadA ag56 rfl (RdN.of_pick 1 rfl rdn_all) rfl) rfl ?_
  refine ops_eff' rfl (eff_call Try.call33 rfl rfl (by repeat (first | exact Split.nil _ | apply Split.cons 0 rfl | apply Split.cons 1 rfl | apply Split.cons 2 rfl | apply Split.cons 3 rfl | apply Split.cons 4 rfl | apply Split.cons 5 rfl | apply Split.cons 6 rfl | apply Split.cons 7 rfl | apply Split.cons 8 rfl | apply Split.cons 9 rfl | apply Split.cons 10 rfl | apply Split.cons 11 rfl)) (kShort_spec V q dp dn hq hqc)) rfl ?_
  rintro _ H' ⟨_, ⟨dp2, dn2, rfl, hq2, hqc2, rfl⟩, hH⟩
  simp only [List.cons_append, List.nil_append, List.eraseIdx_cons_zero, List.eraseIdx_cons_succ, List.set_cons_zero, List.set_cons_succ] at hH
  subst hH
  refine ops_eff0 rfl (eff_storeA 2 ag56 rfl rfl rfl rfl rfl (Nat.le_of_ble_eq_true rfl) (warm_zero _)) rfl ?_
  rintro _ _ rfl
  refine ops_nil ?_
  refine Then_normal ?_
  refine wp_seq' ?_
  refine wp_region' ?_
  refine ops_ro' rfl (ro_loadA ag66 rfl (RdN.of_pick 1 rfl rdn_all) rfl) rfl ?_
  refine ops_eff' rfl (eff_call Try.call35 rfl rfl (by repeat (first | exact Split.nil _ | apply Split.cons 0 rfl | apply Split.cons 1 rfl | apply Split.cons 2 rfl | apply Split.cons 3 rfl | apply Split.cons 4 rfl | apply Split.cons 5 rfl | apply Split.cons 6 rfl | apply Split.cons 7 rfl | apply Split.cons 8 rfl | apply Split.cons 9 rfl | apply Split.cons 10 rfl | apply Split.cons 11 rfl)) (short_spec V c ep en np nn hk hkc)) rfl ?_
  rintro _ H' ⟨_, ⟨ep2, en2, np2, nn2, rfl, hc2, rfl⟩, hH⟩
  simp only [List.cons_append, List.nil_append, List.eraseIdx_cons_zero, List.eraseIdx_cons_succ, List.set_cons_zero, List.set_cons_succ] at hH
  subst hH
  refine ops_eff0 rfl (eff_storeA 2 ag66 rfl rfl rfl rfl rfl (Nat.le_of_ble_eq_true rfl) (warm_zero _)) rfl ?_
  rintro _ _ rfl
  refine ops_nil ?_
  refine Then_normal ?_
  refine wp_seq' ?_
  refine wp_region' ?_
  refine ops_ro' rfl (ro_move rfl) rfl ?_
  refine ops_ro' rfl (ro_loadA ag56 rfl (RdN.of_pick 3 rfl rdn_all) rfl) rfl ?_
  refine ops_eff' rfl (eff_callM (Pre := []) Try.call29 rfl rfl (Split.nil _) (sfEnc_spec _ a ha (shortQ q) (shortQ_ok hqo) dp2 dn2 (by first | exact (Vw.pick 0 rfl hq2) | exact (Vw.pick 1 rfl hq2) | exact (Vw.pick 2 rfl hq2) | exact (Vw.pick 3 rfl hq2) | exact (Vw.pick 4 rfl hq2) | exact (Vw.pick 5 rfl hq2) | exact (Vw.pick 6 rfl hq2) | exact (Vw.pick 7 rfl hq2) | exact (Vw.pick 8 rfl hq2) | exact (Vw.pick 0 rfl hc2) | exact (Vw.pick 1 rfl hc2) | exact (Vw.pick 2 rfl hc2) | exact (Vw.pick 3 rfl hc2) | exact (Vw.pick 4 rfl hc2) | exact (Vw.pick 5 rfl hc2) | exact (Vw.pick 6 rfl hc2) | exact (Vw.pick 7 rfl hc2) | exact (Vw.pick 8 rfl hc2) | exact Vw.pick 0 rfl Vw.row | exact Vw.pick 1 rfl Vw.row | exact Vw.pick 2 rfl Vw.row | exact Vw.pick 3 rfl Vw.row | exact Vw.pick 4 rfl Vw.row | exact Vw.pick 5 rfl Vw.row | exact Vw.pick 6 rfl Vw.row | exact Vw.pick 7 rfl Vw.row | exact Vw.pick 8 rfl Vw.row | exact Vw.nil _ | exact Vw.empty _ _))) rfl ?_
  rintro _ H' ⟨_, ⟨p26, n26, rfl, rfl⟩, hH⟩
  simp only [List.cons_append, List.nil_append, List.eraseIdx_cons_zero, List.eraseIdx_cons_succ, List.set_cons_zero, List.set_cons_succ] at hH
  subst hH
  refine ops_ro' rfl (ro_move rfl) rfl ?_
  refine ops_ro' rfl (ro_extract rfl rfl) rfl ?_
  refine ops_ro' rfl (ro_extract rfl rfl) rfl ?_
  refine ops_ro' rfl (ro_assign rfl) rfl ?_
  refine ops_ro' rfl (ro_assign rfl) rfl ?_
  refine ops_nil ?_
  refine Then_normal ?_
  refine wp_seq' ?_
  refine wp_region' ?_
  refine ops_ro' rfl (ro_move rfl) rfl ?_
  refine ops_ro' rfl (ro_loadA ag56 rfl (RdN.of_pick 4 rfl rdn_all) rfl) rfl ?_
  refine ops_eff' rfl (eff_callM (Pre := []) Try.call29 rfl rfl (Split.nil _) (sfEnc_spec _ b hb (shortQ q) (shortQ_ok hqo) dp2 dn2 (by first | exact (Vw.pick 0 rfl hq2) | exact (Vw.pick 1 rfl hq2) | exact (Vw.pick 2 rfl hq2) | exact (Vw.pick 3 rfl hq2) | exact (Vw.pick 4 rfl hq2) | exact (Vw.pick 5 rfl hq2) | exact (Vw.pick 6 rfl hq2) | exact (Vw.pick 7 rfl hq2) | exact (Vw.pick 8 rfl hq2) | exact (Vw.pick 0 rfl hc2) | exact (Vw.pick 1 rfl hc2) | exact (Vw.pick 2 rfl hc2) | exact (Vw.pick 3 rfl hc2) | exact (Vw.pick 4 rfl hc2) | exact (Vw.pick 5 rfl hc2) | exact (Vw.pick 6 rfl hc2) | exact (Vw.pick 7 rfl hc2) | exact (Vw.pick 8 rfl hc2) | exact Vw.pick 0 rfl Vw.row | exact Vw.pick 1 rfl Vw.row | exact Vw.pick 2 rfl Vw.row | exact Vw.pick 3 rfl Vw.row | exact Vw.pick 4 rfl Vw.row | exact Vw.pick 5 rfl Vw.row | exact Vw.pick 6 rfl Vw.row | exact Vw.pick 7 rfl Vw.row | exact Vw.pick 8 rfl Vw.row | exact Vw.nil _ | exact Vw.empty _ _))) rfl ?_
  rintro _ H' ⟨_, ⟨p32, n32, rfl, rfl⟩, hH⟩
  simp only [List.cons_append, List.nil_append, List.eraseIdx_cons_zero, List.eraseIdx_cons_succ, List.set_cons_zero, List.set_cons_succ] at hH
  subst hH
  have hxy := idr_q a b (axOf (shortQ q).k) (shortQ q)
  generalize encB (axOf (shortQ q).k) a (shortQ q) = x at *
  generalize encB (axOf (shortQ q).k) b (shortQ q) = y at *
  generalize encE (axOf (shortQ q).k) (shortQ q) = e1 at *
  refine ops_ro' rfl (ro_move rfl) rfl ?_
  refine ops_ro' rfl (ro_extract rfl rfl) rfl ?_
  refine ops_ro' rfl (ro_extract rfl rfl) rfl ?_
  refine ops_ro' rfl (ro_assign rfl) rfl ?_
  refine ops_ro' rfl (ro_assign rfl) rfl ?_
  refine ops_nil ?_
  refine Then_normal ?_
  refine wp_seq' ?_
  refine wp_region' ?_
  refine ops_ro' rfl (ro_move rfl) rfl ?_
  refine ops_ro' rfl (ro_loadA ag66 rfl (RdN.of_pick 4 rfl rdn_all) rfl) rfl ?_
  refine ops_eff' rfl (eff_callM (Pre := []) Try.call39 rfl rfl (Split.nil _) (sfEncP_spec _ a ha (shortP c) ep2 en2 np2 nn2 (shortP_ok hk (by first | exact (Vw.pick 0 rfl hq2) | exact (Vw.pick 1 rfl hq2) | exact (Vw.pick 2 rfl hq2) | exact (Vw.pick 3 rfl hq2) | exact (Vw.pick 4 rfl hq2) | exact (Vw.pick 5 rfl hq2) | exact (Vw.pick 6 rfl hq2) | exact (Vw.pick 7 rfl hq2) | exact (Vw.pick 8 rfl hq2) | exact (Vw.pick 0 rfl hc2) | exact (Vw.pick 1 rfl hc2) | exact (Vw.pick 2 rfl hc2) | exact (Vw.pick 3 rfl hc2) | exact (Vw.pick 4 rfl hc2) | exact (Vw.pick 5 rfl hc2) | exact (Vw.pick 6 rfl hc2) | exact (Vw.pick 7 rfl hc2) | exact (Vw.pick 8 rfl hc2) | exact Vw.pick 0 rfl Vw.row | exact Vw.pick 1 rfl Vw.row | exact Vw.pick 2 rfl Vw.row | exact Vw.pick 3 rfl Vw.row | exact Vw.pick 4 rfl Vw.row | exact Vw.pick 5 rfl Vw.row | exact Vw.pick 6 rfl Vw.row | exact Vw.pick 7 rfl Vw.row | exact Vw.pick 8 rfl Vw.row | exact Vw.nil _ | exact Vw.empty _ _) (by first | exact (Vw.pick 0 rfl hq2) | exact (Vw.pick 1 rfl hq2) | exact (Vw.pick 2 rfl hq2) | exact (Vw.pick 3 rfl hq2) | exact (Vw.pick 4 rfl hq2) | exact (Vw.pick 5 rfl hq2) | exact (Vw.pick 6 rfl hq2) | exact (Vw.pick 7 rfl hq2) | exact (Vw.pick 8 rfl hq2) | exact (Vw.pick 0 rfl hc2) | exact (Vw.pick 1 rfl hc2) | exact (Vw.pick 2 rfl hc2) | exact (Vw.pick 3 rfl hc2) | exact (Vw.pick 4 rfl hc2) | exact (Vw.pick 5 rfl hc2) | exact (Vw.pick 6 rfl hc2) | exact (Vw.pick 7 rfl hc2) | exact (Vw.pick 8 rfl hc2) | exact Vw.pick 0 rfl Vw.row | exact Vw.pick 1 rfl Vw.row | exact Vw.pick 2 rfl Vw.row | exact Vw.pick 3 rfl Vw.row | exact Vw.pick 4 rfl Vw.row | exact Vw.pick 5 rfl Vw.row | exact Vw.pick 6 rfl Vw.row | exact Vw.pick 7 rfl Vw.row | exact Vw.pick 8 rfl Vw.row | exact Vw.nil _ | exact Vw.empty _ _)))) rfl ?_
  rintro _ H' ⟨_, ⟨p38, n38, rfl, rfl⟩, hH⟩
  simp only [List.cons_append, List.nil_append, List.eraseIdx_cons_zero, List.eraseIdx_cons_succ, List.set_cons_zero, List.set_cons_succ] at hH
  subst hH
  refine ops_ro' rfl (ro_move rfl) rfl ?_
  refine ops_ro' rfl (ro_extract rfl rfl) rfl ?_
  refine ops_ro' rfl (ro_extract rfl rfl) rfl ?_
  refine ops_ro' rfl (ro_assign rfl) rfl ?_
  refine ops_ro' rfl (ro_assign rfl) rfl ?_
  refine ops_nil ?_
  refine Then_normal ?_
  refine wp_seq' ?_
  refine wp_region' ?_
  refine ops_ro' rfl (ro_move rfl) rfl ?_
  refine ops_ro' rfl (ro_loadA ag66 rfl (RdN.of_pick 5 rfl rdn_all) rfl) rfl ?_
  refine ops_eff' rfl (eff_callM (Pre := []) Try.call39 rfl rfl (Split.nil _) (sfEncP_spec _ b hb (shortP c) ep2 en2 np2 nn2 (shortP_ok hk (by first | exact (Vw.pick 0 rfl hq2) | exact (Vw.pick 1 rfl hq2) | exact (Vw.pick 2 rfl hq2) | exact (Vw.pick 3 rfl hq2) | exact (Vw.pick 4 rfl hq2) | exact (Vw.pick 5 rfl hq2) | exact (Vw.pick 6 rfl hq2) | exact (Vw.pick 7 rfl hq2) | exact (Vw.pick 8 rfl hq2) | exact (Vw.pick 0 rfl hc2) | exact (Vw.pick 1 rfl hc2) | exact (Vw.pick 2 rfl hc2) | exact (Vw.pick 3 rfl hc2) | exact (Vw.pick 4 rfl hc2) | exact (Vw.pick 5 rfl hc2) | exact (Vw.pick 6 rfl hc2) | exact (Vw.pick 7 rfl hc2) | exact (Vw.pick 8 rfl hc2) | exact Vw.pick 0 rfl Vw.row | exact Vw.pick 1 rfl Vw.row | exact Vw.pick 2 rfl Vw.row | exact Vw.pick 3 rfl Vw.row | exact Vw.pick 4 rfl Vw.row | exact Vw.pick 5 rfl Vw.row | exact Vw.pick 6 rfl Vw.row | exact Vw.pick 7 rfl Vw.row | exact Vw.pick 8 rfl Vw.row | exact Vw.nil _ | exact Vw.empty _ _) (by first | exact (Vw.pick 0 rfl hq2) | exact (Vw.pick 1 rfl hq2) | exact (Vw.pick 2 rfl hq2) | exact (Vw.pick 3 rfl hq2) | exact (Vw.pick 4 rfl hq2) | exact (Vw.pick 5 rfl hq2) | exact (Vw.pick 6 rfl hq2) | exact (Vw.pick 7 rfl hq2) | exact (Vw.pick 8 rfl hq2) | exact (Vw.pick 0 rfl hc2) | exact (Vw.pick 1 rfl hc2) | exact (Vw.pick 2 rfl hc2) | exact (Vw.pick 3 rfl hc2) | exact (Vw.pick 4 rfl hc2) | exact (Vw.pick 5 rfl hc2) | exact (Vw.pick 6 rfl hc2) | exact (Vw.pick 7 rfl hc2) | exact (Vw.pick 8 rfl hc2) | exact Vw.pick 0 rfl Vw.row | exact Vw.pick 1 rfl Vw.row | exact Vw.pick 2 rfl Vw.row | exact Vw.pick 3 rfl Vw.row | exact Vw.pick 4 rfl Vw.row | exact Vw.pick 5 rfl Vw.row | exact Vw.pick 6 rfl Vw.row | exact Vw.pick 7 rfl Vw.row | exact Vw.pick 8 rfl Vw.row | exact Vw.nil _ | exact Vw.empty _ _)))) rfl ?_
  rintro _ H' ⟨_, ⟨p44, n44, rfl, rfl⟩, hH⟩
  simp only [List.cons_append, List.nil_append, List.eraseIdx_cons_zero, List.eraseIdx_cons_succ, List.set_cons_zero, List.set_cons_succ] at hH
  subst hH
  have huw := idr_p a b (shortP c)
  generalize encP a (shortP c) = u at *
  generalize encP b (shortP c) = w at *
  generalize fineE (shortP c) = e2 at *
  have hl1 := hxy.len
  have hl2 := huw.len
  refine ops_ro' rfl (ro_move rfl) rfl ?_
  refine ops_ro' rfl (ro_extract rfl rfl) rfl ?_
  refine ops_ro' rfl (ro_extract rfl rfl) rfl ?_
  refine ops_ro' rfl (ro_assign rfl) rfl ?_
  refine ops_ro' rfl (ro_assign rfl) rfl ?_
  refine ops_nil ?_
  refine Then_normal ?_
  refine wp_seq' ?_
  refine wp_seq' ?_
  refine wp_region' ?_
  refine ops_ro' rfl (ro_move rfl) rfl ?_
  refine ops_ro' rfl (ro_move rfl) rfl ?_
  refine ops_ro' rfl (ro_neq rfl rfl (decide_eq_false (by omega))) rfl ?_
  refine ops_ro' rfl (ro_move (v := .bool false) rfl) rfl ?_
  refine ops_ro' rfl (ro_move rfl) rfl ?_
  refine ops_ro' rfl (ro_move rfl) rfl ?_
  refine ops_ro' rfl (ro_neq rfl rfl (decide_eq_false (by omega))) rfl ?_
  refine ops_ro' rfl (ro_pick rfl rfl) rfl ?_
  refine ops_ro' rfl (ro_move (v := .bool false) rfl) rfl ?_
  refine ops_ro' rfl (ro_move rfl) rfl ?_
  refine ops_ro' rfl (ro_sliceLen Try.underlying32 rfl) rfl ?_
  refine ops_ro' rfl (ro_move rfl) rfl ?_
  refine ops_ro' rfl (ro_sliceLen Try.underlying32 rfl) rfl ?_
  refine ops_ro' rfl (ro_neq rfl rfl (decide_eq_false (by omega))) rfl ?_
  refine ops_ro' rfl (ro_pick rfl rfl) rfl ?_
  refine ops_ro' rfl (ro_move (v := .bool false) rfl) rfl ?_
  refine ops_ro' rfl (ro_move rfl) rfl ?_
  refine ops_ro' rfl (ro_sliceLen Try.underlying32 rfl) rfl ?_
  refine ops_ro' rfl (ro_move rfl) rfl ?_
  refine ops_ro' rfl (ro_sliceLen Try.underlying32 rfl) rfl ?_
  refine ops_ro' rfl (ro_neq rfl rfl (decide_eq_false (by omega))) rfl ?_
  refine ops_ro' rfl (ro_pick rfl rfl) rfl ?_
  refine ops_nil ?_
  refine Then_normal ?_
  refine wp_condF rfl ?_
  refine wp_skip' ?_
  refine Then_normal ?_
  refine wp_seq' ?_
  refine wp_seq' ?_
  refine wp_region' ?_
  refine ops_ro' rfl (ro_move rfl) rfl ?_
  refine ops_ro' rfl (ro_move rfl) rfl ?_
  refine ops_ro' rfl (ro_build rfl (bld_array z75 Try.underlying75 (fun w => Try.sizeOf32 w) rfl)) rfl ?_
  refine ops_ro' rfl (ro_move rfl) rfl ?_
  refine ops_ro' rfl (ro_move rfl) rfl ?_
  refine ops_ro' rfl (ro_build rfl (bld_array z75 Try.underlying75 (fun w => Try.sizeOf32 w) rfl)) rfl ?_
  refine ops_eff' rfl (eff_lit sl76 rfl (sbld (cs := flat Pr.cs [⟨⟨p26, n26, x⟩, ⟨p32, n32, y⟩⟩, ⟨⟨p38, n38, u⟩, ⟨p44, n44, w⟩⟩]) [(.slice none 0 0), (.slice none 0 0), (.slice none 0 0), (.slice none 0 0)] sl76 (by decide) (by kernel_rfl) rfl) rfl (by decide)) rfl ?_
  rintro _ _ ⟨b75, rfl, rfl⟩
  refine ops_know (p := x.length ≤ n26) (fun w F s => by first | exact row_caps 0 rfl s | exact row_caps 1 rfl s | exact row_caps 2 rfl s | exact row_caps 3 rfl s | exact row_caps 4 rfl s | exact row_caps 5 rfl s | exact row_caps 6 rfl s | exact row_caps 7 rfl s | exact row_caps 8 rfl s) ?_
  intro k1
  refine ops_know (p := y.length ≤ n32) (fun w F s => by first | exact row_caps 0 rfl s | exact row_caps 1 rfl s | exact row_caps 2 rfl s | exact row_caps 3 rfl s | exact row_caps 4 rfl s | exact row_caps 5 rfl s | exact row_caps 6 rfl s | exact row_caps 7 rfl s | exact row_caps 8 rfl s) ?_
  intro k2
  refine ops_know (p := u.length ≤ n38) (fun w F s => by first | exact row_caps 0 rfl s | exact row_caps 1 rfl s | exact row_caps 2 rfl s | exact row_caps 3 rfl s | exact row_caps 4 rfl s | exact row_caps 5 rfl s | exact row_caps 6 rfl s | exact row_caps 7 rfl s | exact row_caps 8 rfl s) ?_
  intro k3
  refine ops_know (p := w.length ≤ n44) (fun w F s => by first | exact row_caps 0 rfl s | exact row_caps 1 rfl s | exact row_caps 2 rfl s | exact row_caps 3 rfl s | exact row_caps 4 rfl s | exact row_caps 5 rfl s | exact row_caps 6 rfl s | exact row_caps 7 rfl s | exact row_caps 8 rfl s) ?_
  intro k4
  refine ops_packS fun U eU => ?_
  obtain ⟨prs, hprs⟩ : ∃ prs : List Pr, prs = [⟨⟨p26, n26, x⟩, ⟨p32, n32, y⟩⟩, ⟨⟨p38, n38, u⟩, ⟨p44, n44, w⟩⟩] := ⟨_, rfl⟩
  have hln : prs.length = 2 := by rw [hprs]; rfl
  have hP : Vw U (.slice (some ⟨b75, 0, none⟩) 2 2) 2 (flat Pr.cs prs) := by
    subst eU
    rw [hprs]
    exact Vw.pick 0 rfl Vw.row
  have hall : ∀ r ∈ prs, r.Ok U a := by
    subst eU
    rw [hprs]
    exact pr_all ⟨(by first | exact Vw.pick 0 rfl Vw.row | exact Vw.pick 1 rfl Vw.row | exact Vw.pick 2 rfl Vw.row | exact Vw.pick 3 rfl Vw.row | exact Vw.pick 4 rfl Vw.row | exact Vw.pick 5 rfl Vw.row | exact Vw.pick 6 rfl Vw.row | exact Vw.pick 7 rfl Vw.row | exact Vw.pick 8 rfl Vw.row), (by first | exact Vw.pick 0 rfl Vw.row | exact Vw.pick 1 rfl Vw.row | exact Vw.pick 2 rfl Vw.row | exact Vw.pick 3 rfl Vw.row | exact Vw.pick 4 rfl Vw.row | exact Vw.pick 5 rfl Vw.row | exact Vw.pick 6 rfl Vw.row | exact Vw.pick 7 rfl Vw.row | exact Vw.pick 8 rfl Vw.row), k1, k2, hxy⟩ ⟨(by first | exact Vw.pick 0 rfl Vw.row | exact Vw.pick 1 rfl Vw.row | exact Vw.pick 2 rfl Vw.row | exact Vw.pick 3 rfl Vw.row | exact Vw.pick 4 rfl Vw.row | exact Vw.pick 5 rfl Vw.row | exact Vw.pick 6 rfl Vw.row | exact Vw.pick 7 rfl Vw.row | exact Vw.pick 8 rfl Vw.row), (by first | exact Vw.pick 0 rfl Vw.row | exact Vw.pick 1 rfl Vw.row | exact Vw.pick 2 rfl Vw.row | exact Vw.pick 3 rfl Vw.row | exact Vw.pick 4 rfl Vw.row | exact Vw.pick 5 rfl Vw.row | exact Vw.pick 6 rfl Vw.row | exact Vw.pick 7 rfl Vw.row | exact Vw.pick 8 rfl Vw.row), k3, k4, huw⟩
  have hS : SubH [U] [V] := by
    subst eU
    exact sub_of (by repeat (first | exact SubH.nil _ | refine SubH.cons 0 rfl ?_ | refine SubH.cons 1 rfl ?_ | refine SubH.cons 2 rfl ?_ | refine SubH.cons 3 rfl ?_ | refine SubH.cons 4 rfl ?_ | refine SubH.cons 5 rfl ?_ | refine SubH.cons 6 rfl ?_ | refine SubH.cons 7 rfl ?_ | refine SubH.cons 8 rfl ?_ | refine SubH.cons 9 rfl ?_ | refine SubH.cons 10 rfl ?_ | refine SubH.cons 11 rfl ?_ | refine SubH.cons 12 rfl ?_ | refine SubH.cons 13 rfl ?_ | refine SubH.rown ?_))
  clear eU hprs
  refine ops_ro' rfl (ro_sliceLen Try.underlying76 rfl) rfl ?_
  refine ops_ro' rfl (ro_move rfl) rfl ?_
  refine ops_nil ?_
  refine Then_normal ?_
  refine wp_block' ?_
  refine wp_loopK 10 (fun m Δ LL => ∃ (i : Nat), (i + m = 2) ∧ Δ = [(77, .int .i64 (i : Nat))] ∧ LL = [U]) (m := 2) (Has.cons (k := 0) rfl (Has.cons (k := 75) rfl (Has.cons (k := 76) rfl (Has.nil _)))) (kept ⟨0, by omega, rfl, rfl⟩ (by repeat (first | exact Has.nil _ | refine Has.cons rfl ?_)) (by repeat (first | exact Has.nil _ | refine Has.cons rfl ?_)) (by repeat (first | exact SubH.nil _ | refine SubH.cons 0 rfl ?_ | refine SubH.cons 1 rfl ?_ | refine SubH.cons 2 rfl ?_ | refine SubH.cons 3 rfl ?_ | refine SubH.cons 4 rfl ?_ | refine SubH.cons 5 rfl ?_ | refine SubH.cons 6 rfl ?_ | refine SubH.cons 7 rfl ?_ | refine SubH.cons 8 rfl ?_ | refine SubH.cons 9 rfl ?_ | refine SubH.cons 10 rfl ?_ | refine SubH.cons 11 rfl ?_ | refine SubH.cons 12 rfl ?_ | refine SubH.cons 13 rfl ?_ | refine SubH.rown ?_))) ?_
  rintro m Δ LL ⟨i, hm, rfl, rfl⟩
  simp only [List.cons_append, List.nil_append]
  refine wp_seq' ?_
  refine wp_region' ?_
  refine ops_ro' rfl (ro_lss rfl rfl rfl) rfl ?_
  refine ops_nil ?_
  refine Then_normal ?_
  refine wp_seq' ?_
  refine wp_cond' rfl (fun hc78 => ?_) (fun hc78 => ?_)
  · replace hc78 := of_decide_eq_true hc78
    refine wp_skip' ?_
    refine Then_normal ?_
    refine wp_seq' ?_
    refine wp_block' ?_
    refine wp_seq' ?_
    have hi : i < prs.length := by omega
    refine wp_region' ?_
    refine ops_ro' rfl (ro_indexSlice sl76 rfl rfl rfl (by omega)) rfl ?_
    refine ops_ro' rfl (ro_loadA ag75 rfl (RdN.of_pick 0 rfl ((RdN.elem (vw_rdn hP) Pr.len (List.getElem?_eq_getElem hi)))) rfl) rfl ?_
    obtain ⟨j1, j2, j3, j4, j5⟩ := hall _ (List.getElem_mem hi)
    generalize prs[i] = pr at *
    obtain ⟨⟨px, cx, x⟩, ⟨py, cy, y⟩⟩ := pr
    simp only at j1 j2 j3 j4 j5
    have hl3 := j5.len
    refine ops_eff' rfl (eff_alloc z75) rfl ?_
    rintro _ _ ⟨b18, rfl, rfl⟩
    refine ops_eff0 rfl (eff_storeA 0 ag75 rfl rfl rfl rfl rfl (Nat.le_of_ble_eq_true rfl) (warm_zero _)) rfl ?_
    rintro _ _ rfl
    refine ops_nil ?_
    refine Then_normal ?_
    refine wp_seq' ?_
    refine wp_seq' ?_
    refine wp_region' ?_
    refine ops_ro' rfl (ro_indexArr Try.underlying75 (fun w => Try.sizeOf32 w) rfl rfl rfl (by dsimp only; omega)) rfl ?_
    refine ops_ro' rfl (ro_load sc32 rfl (Rd.pick 0 rfl (Rd.own rfl))) rfl ?_
    refine ops_ro' rfl (ro_sliceLen Try.underlying32 rfl) rfl ?_
    refine ops_ro' rfl (ro_eql rfl rfl rfl) rfl ?_
    refine ops_nil ?_
    refine Then_normal ?_
    refine wp_cond' rfl (fun hc84 => ?_) (fun hc84 => ?_)
    · replace hc84 := of_decide_eq_true hc84
      dsimp only at hc84
      refine wp_exit' ?_
      refine Then_exit ?_
      refine InBlock_here ?_
      refine Then_normal ?_
      refine wp_region' ?_
      refine ops_ro' rfl (ro_add rfl rfl (wrap_inc (by omega))) rfl ?_
      refine ops_ro' rfl (ro_move rfl) rfl ?_
      refine ops_nil ?_
      refine Then_normal ?_
      refine back (m - 1) (by omega) (kept ⟨i + 1, by omega, rfl, rfl⟩ ?_ ?_ ?_)
      · exact (by repeat (first | exact Has.nil _ | refine Has.cons rfl ?_))
      · exact (by repeat (first | exact Has.nil _ | refine Has.cons rfl ?_))
      · exact (SubH.cons 1 rfl (SubH.nil _))
    · replace hc84 := of_decide_eq_false hc84
      dsimp only at hc84
      refine wp_skip' ?_
      refine Then_normal ?_
      refine wp_seq' ?_
      have h5 := j5.pos (by omega)
      have h0 : 0 < x.length := by omega
      have h0y : 0 < y.length := by omega
      have hhd := j5.hd h0 h0y
      have hid := j5.id (by omega)
      have htl : (x.drop 5).take (x.length - 5) = (y.drop 5).take (y.length - 5) := by rw [j5.tl, hl3]
      refine wp_know (fun w F s => vw_ptr (Vw.pick (H := [_, U]) 1 rfl j1) s (Nat.pos_iff_ne_zero.1 h0)) ?_
      rintro ⟨bx, ox, rfl⟩
      refine wp_know (fun w F s => vw_ptr (Vw.pick (H := [_, U]) 1 rfl j2) s (Nat.pos_iff_ne_zero.1 h0y)) ?_
      rintro ⟨by0, oy, rfl⟩
      refine wp_draw 46 (by kernel_rfl) (Split.cons 0 rfl (Split.cons 0 rfl (Split.nil _))) ?_
      refine any_ro' (i := 0) (by kernel_rfl) rfl rfl (ro_indexArr Try.underlying75 (fun w => Try.sizeOf32 w) rfl rfl rfl (by dsimp only; omega)) rfl (fun _ _ _ h => h) ?_
      refine any_ro' (i := 1) (by kernel_rfl) rfl rfl (ro_load sc32 rfl (Rd.pick 0 rfl (Rd.own rfl))) rfl (fun _ _ _ h => h) ?_
      refine any_ro' (i := 2) (by kernel_rfl) rfl rfl (ro_sliceLen Try.underlying32 rfl) rfl (fun _ _ _ h => h) ?_
      refine any_ro' (i := 3) (by kernel_rfl) rfl rfl (ro_lss rfl rfl rfl) rfl (fun _ _ _ h => h) ?_
      refine any_split (i := 4) (by kernel_rfl) rfl rfl rfl rfl (fun _ _ _ h => h) (fun hg89 => ?_) (fun hg89 => ?_)
      · replace hg89 := of_decide_eq_true hg89
        dsimp only at hg89
        exfalso; omega
      · replace hg89 := of_decide_eq_false hg89
        dsimp only at hg89
        refine any_ro' (i := 5) (by kernel_rfl) rfl rfl (ro_indexArr Try.underlying75 (fun w => Try.sizeOf32 w) rfl rfl rfl (by dsimp only; omega)) rfl (fun _ _ _ h => h) ?_
        refine any_ro' (i := 6) (by kernel_rfl) rfl rfl (ro_load sc32 rfl (Rd.pick 0 rfl (Rd.own rfl))) rfl (fun _ _ _ h => h) ?_
        refine any_ro' (i := 7) (by kernel_rfl) rfl rfl (ro_indexSlice sl32 rfl rfl rfl (by omega)) rfl (fun _ _ _ h => h) ?_
        refine any_ro' (i := 8) (by kernel_rfl) rfl rfl (ro_load sc5 rfl (Rd.pick 1 rfl (Rd.of_n (vw_rdn j1) (j := 0) (by first | rfl | omega) (cel_get h0)))) rfl (fun _ _ _ h => h) ?_
        refine any_ro' (i := 9) (by kernel_rfl) rfl rfl (ro_indexArr Try.underlying75 (fun w => Try.sizeOf32 w) rfl rfl rfl (by dsimp only; omega)) rfl (fun _ _ _ h => h) ?_
        refine any_ro' (i := 10) (by kernel_rfl) rfl rfl (ro_load sc32 rfl (Rd.pick 0 rfl (Rd.own rfl))) rfl (fun _ _ _ h => h) ?_
        refine any_ro' (i := 11) (by kernel_rfl) rfl rfl (ro_indexSlice sl32 rfl rfl rfl (by omega)) rfl (fun _ _ _ h => h) ?_
        refine any_ro' (i := 12) (by kernel_rfl) rfl rfl (ro_load sc5 rfl (Rd.pick 1 rfl (Rd.of_n (vw_rdn j2) (j := 0) (by first | rfl | omega) (cel_get h0y)))) rfl (fun _ _ _ h => h) ?_
        refine any_ro' (i := 13) (by kernel_rfl) rfl rfl (ro_neq rfl rfl (decide_eq_false (by rw [hhd]; simp))) rfl (fun _ _ _ h => h) ?_
        refine any_ro' (i := 14) (by kernel_rfl) rfl rfl (ro_pick rfl rfl) rfl (fun _ _ _ h => h) ?_
        refine any_ro' (i := 15) (by kernel_rfl) rfl rfl (ro_move (v := .bool false) rfl) rfl (fun _ _ _ h => h) ?_
        refine any_ro' (i := 16) (by kernel_rfl) rfl rfl (ro_indexArr Try.underlying75 (fun w => Try.sizeOf32 w) rfl rfl rfl (by dsimp only; omega)) rfl (fun _ _ _ h => h) ?_
        refine any_ro' (i := 17) (by kernel_rfl) rfl rfl (ro_load sc32 rfl (Rd.pick 0 rfl (Rd.own rfl))) rfl (fun _ _ _ h => h) ?_
        refine any_ro' (i := 18) (by kernel_rfl) rfl rfl (ro_sliceP sl32 rfl ⟨.inr ⟨_, _, rfl⟩, j3⟩ rfl rfl (by dsimp only; omega) (by dsimp only; omega)) rfl (fun _ _ _ h => h) ?_
        refine any_ro' (i := 19) (by kernel_rfl) rfl rfl (ro_toStr Try.underlying32 Try.underlying5 Try.underlying9 rfl (Vw.pick 1 rfl (vw_subC j1 (by dsimp only; omega) (Nat.le_refl _) j3)) rfl) rfl (fun _ _ _ h => h) ?_
        refine any_ro' (i := 20) (by kernel_rfl) rfl rfl (ro_indexArr Try.underlying75 (fun w => Try.sizeOf32 w) rfl rfl rfl (by dsimp only; omega)) rfl (fun _ _ _ h => h) ?_
        refine any_ro' (i := 21) (by kernel_rfl) rfl rfl (ro_load sc32 rfl (Rd.pick 0 rfl (Rd.own rfl))) rfl (fun _ _ _ h => h) ?_
        refine any_ro' (i := 22) (by kernel_rfl) rfl rfl (ro_sliceP sl32 rfl ⟨.inr ⟨_, _, rfl⟩, j4⟩ rfl rfl (by dsimp only; omega) (by dsimp only; omega)) rfl (fun _ _ _ h => h) ?_
        refine any_ro' (i := 23) (by kernel_rfl) rfl rfl (ro_toStr Try.underlying32 Try.underlying5 Try.underlying9 rfl (Vw.pick 1 rfl (vw_subC j2 (by dsimp only; omega) (Nat.le_refl _) j4)) rfl) rfl (fun _ _ _ h => h) ?_
        refine any_ro' (i := 24) (by kernel_rfl) rfl rfl (ro_neqS rfl rfl (decide_eq_false (fun h => h htl))) rfl (fun _ _ _ h => h) ?_
        refine any_ro' (i := 25) (by kernel_rfl) rfl rfl (ro_pick rfl rfl) rfl (fun _ _ _ h => h) ?_
        refine any_ro' (i := 26) (by kernel_rfl) rfl rfl (ro_move (v := .bool false) rfl) rfl (fun _ _ _ h => h) ?_
        refine any_ro' (i := 27) (by kernel_rfl) rfl rfl (ro_indexArr Try.underlying75 (fun w => Try.sizeOf32 w) rfl rfl rfl (by dsimp only; omega)) rfl (fun _ _ _ h => h) ?_
        refine any_ro' (i := 28) (by kernel_rfl) rfl rfl (ro_load sc32 rfl (Rd.pick 0 rfl (Rd.own rfl))) rfl (fun _ _ _ h => h) ?_
        refine any_ro' (i := 29) (by kernel_rfl) rfl rfl (ro_sliceP sl32 rfl ⟨.inr ⟨_, _, rfl⟩, j3⟩ (b := 5) rfl rfl (by omega) (by omega)) rfl (fun _ _ _ h => h) ?_
        refine any_ro' (i := 30) (by kernel_rfl) rfl rfl (ro_toStr Try.underlying32 Try.underlying5 Try.underlying9 rfl (Vw.pick 1 rfl (vw_subC (a := 1) (b := 5) j1 (by omega) (by omega) j3)) rfl) rfl (fun _ _ _ h => h) ?_
        refine any_ro' (i := 31) (by kernel_rfl) rfl rfl (ro_move rfl) rfl (fun _ _ _ h => h) ?_
        refine any_ro' (i := 32) (by kernel_rfl) rfl rfl (ro_shr rfl rfl (by omega) (shr32 a 3 (by omega))) rfl (fun _ _ _ h => h) ?_
        refine any_ro' (i := 33) (by kernel_rfl) rfl rfl (ro_conv Try.underlying40 Try.underlying5 rfl (conv8 _)) rfl (fun _ _ _ h => h) ?_
        refine any_ro' (i := 34) (by kernel_rfl) rfl rfl (ro_move rfl) rfl (fun _ _ _ h => h) ?_
        refine any_ro' (i := 35) (by kernel_rfl) rfl rfl (ro_shr rfl rfl (by omega) (shr32 a 2 (by omega))) rfl (fun _ _ _ h => h) ?_
        refine any_ro' (i := 36) (by kernel_rfl) rfl rfl (ro_conv Try.underlying40 Try.underlying5 rfl (conv8 _)) rfl (fun _ _ _ h => h) ?_
        refine any_ro' (i := 37) (by kernel_rfl) rfl rfl (ro_move rfl) rfl (fun _ _ _ h => h) ?_
        refine any_ro' (i := 38) (by kernel_rfl) rfl rfl (ro_shr rfl rfl (by omega) (shr32 a 1 (by omega))) rfl (fun _ _ _ h => h) ?_
        refine any_ro' (i := 39) (by kernel_rfl) rfl rfl (ro_conv Try.underlying40 Try.underlying5 rfl (conv8 _)) rfl (fun _ _ _ h => h) ?_
        refine any_ro' (i := 40) (by kernel_rfl) rfl rfl (ro_move rfl) rfl (fun _ _ _ h => h) ?_
        refine any_ro' (i := 41) (by kernel_rfl) rfl rfl (ro_conv Try.underlying40 Try.underlying5 rfl (conv80 a)) rfl (fun _ _ _ h => h) ?_
        refine any_eff' (i := 42) (by kernel_rfl) rfl rfl (eff_lit sl32 rfl (sbld (cs := cel (be a 4)) [(.int .u8 0), (.int .u8 0), (.int .u8 0), (.int .u8 0)] sl32 (by decide) (by kernel_rfl) rfl) rfl (by decide)) rfl ?_
        rintro _ _ ⟨b127, rfl, rfl⟩
        refine any_eff' (i := 43) (by kernel_rfl) rfl rfl (eff_ro (ro_toStr Try.underlying32 Try.underlying5 Try.underlying9 rfl (Vw.pick 0 rfl Vw.row) rfl)) rfl ?_
        rintro _ _ ⟨rfl, rfl⟩
        refine any_ro' (i := 44) (by kernel_rfl) rfl rfl (ro_neqS rfl rfl (decide_eq_false (fun h => h hid))) rfl (fun _ _ _ h => h) ?_
        refine any_ro' (i := 45) (by kernel_rfl) rfl rfl (ro_pick rfl rfl) rfl (fun _ _ _ h => h) ?_
        refine any_done (by kernel_rfl) ?_
        refine Then_normal ?_
        refine wp_condF rfl ?_
        refine wp_skip' ?_
        refine InBlock_normal ?_
        refine Then_normal ?_
        refine wp_region' ?_
        refine ops_ro' rfl (ro_add rfl rfl (wrap_inc (by omega))) rfl ?_
        refine ops_ro' rfl (ro_move rfl) rfl ?_
        refine ops_nil ?_
        refine Then_normal ?_
        refine back (m - 1) (by omega) (kept ⟨i + 1, by omega, rfl, rfl⟩ ?_ ?_ ?_)
        · exact (by repeat (first | exact Has.nil _ | refine Has.cons rfl ?_))
        · exact (by repeat (first | exact Has.nil _ | refine Has.cons rfl ?_))
        · exact (SubH.cons 1 rfl (SubH.nil _))
  · replace hc78 := of_decide_eq_false hc78
    refine wp_exit' ?_
    refine Then_exit ?_
    refine Then_exit ?_
    refine InBlock_here ?_
    refine Then_normal ?_
    refine wp_seq' ?_
    refine wp_region' ?_
    refine ops_eff' rfl (eff_call Try.call30 rfl rfl (by repeat (first | exact Split.nil _ | apply Split.cons 0 rfl | apply Split.cons 1 rfl | apply Split.cons 2 rfl | apply Split.cons 3 rfl | apply Split.cons 4 rfl | apply Split.cons 5 rfl | apply Split.cons 6 rfl | apply Split.cons 7 rfl | apply Split.cons 8 rfl | apply Split.cons 9 rfl | apply Split.cons 10 rfl | apply Split.cons 11 rfl)) (known17_spec U)) rfl ?_
    rintro _ H' ⟨_, ⟨rfl, rfl⟩, hH⟩
    simp only [List.cons_append, List.nil_append, List.eraseIdx_cons_zero, List.eraseIdx_cons_succ, List.set_cons_zero, List.set_cons_succ] at hH
    subst hH
    refine ops_ro' rfl (ro_assign rfl) rfl ?_
    refine ops_nil ?_
    refine Then_normal ?_
    refine wp_ret' ?_
    refine doneS_pre2 (SubH.trans (show SubH _ [U] from (by repeat (first | exact SubH.nil _ | refine SubH.cons 0 rfl ?_ | refine SubH.cons 1 rfl ?_ | refine SubH.cons 2 rfl ?_ | refine SubH.cons 3 rfl ?_ | refine SubH.cons 4 rfl ?_ | refine SubH.cons 5 rfl ?_ | refine SubH.cons 6 rfl ?_ | refine SubH.cons 7 rfl ?_ | refine SubH.cons 8 rfl ?_ | refine SubH.cons 9 rfl ?_ | refine SubH.cons 10 rfl ?_ | refine SubH.cons 11 rfl ?_ | refine SubH.cons 12 rfl ?_ | refine SubH.cons 13 rfl ?_ | refine SubH.rown ?_))) hS) ?_
    refine' doneS_ret (res1 rfl rfl) ?_ ?_
    rotate_left 1
    exact ⟨rfl, rfl⟩
    exact SubH.refl _

end Go.Proofs.Ytigaolglnnjnmaa
