/-
  FsmLoads.
-/
import Derived.Test.YtlefpllcgcicpaaGreatDoorFsSd
import Derived.Test.YtlefpllcgcicpaaGreatDoorFsLs
import Derived.Test.YtlefpllcgcicpaaGreatDoorFsFw
set_option linter.unusedVariables false
set_option linter.unusedSimpArgs false
namespace Go.Proofs.YtlefpllcgcicpaaGreatDoor
open Go.Sx
set_option maxRecDepth 100000
set_option maxHeartbeats 4000000
theorem loadM_openL {mb : Nat} {t : Tr} {r : Nd} {hs : List Hd} {L : List HProp} {w : World} {F : HProp} (s : sat w (star (St (LoadM (some ⟨mb, t, r, hs⟩) :: L)) F)) : sat w (star (St ([oMa mb t.tb hs, tree t, St (hs.map rowN)] ++ L)) F) := by
 rw [yC]; rw [qJ, show LoadM (some ⟨mb, t, r, hs⟩) = St [oMa mb t.tb hs, tree t, St (hs.map rowN)] from rfl] at s; exact s
theorem loadM_one {s : Ld} {w : World} {F : HProp} (h : sat w (star (St [LoadM (some s)]) F)) : sat w (star (St [oMa s.mb s.t.tb s.hs, tree s.t, St (s.hs.map rowN)]) F) := by
 rw [qJ, yV, qt] at h; exact h
theorem within_tw (a lo hi : Int) (k : Nat) (h0 : 0 ≤ lo) (h1 : lo ≤ hi) (h2 : hi ≤ 4611686018427387904) (h : lo + a % (hi - lo + 1) = (k : Int)) : Tri Tryz.prog 13 [.int .i64 a, .int .i64 lo, .int .i64 hi] [] (fun v H' => v = .int .i64 (k : Int) ∧ H' = []) := by
 rw [← h]; exact within_spec a lo hi h0 h1 h2
theorem ops_packS {n : Nat} {ops : Array Oper} {l : List Oper} {Γ : Env} {H : List HProp} {Q : Post} (h : ∀ V2, V2 = St H → Ops Tryz.prog n ops l Γ [V2] Q) : Ops Tryz.prog n ops l Γ H Q :=
 ops_sub' (fun w F s => by rw [qJ, yV, qt]; exact s) (h (St H) rfl)
theorem sub_of {H L : List HProp} (h : SubH H L) : SubH [St H] L := fun w F s => h w F (by rw [qJ, yV, qt] at s; exact s)
def Zs (V : HProp) (xs : List (Slv UInt8)) : Prop := ∀ x ∈ xs, Vw V x.v x.l.length (cel x.l) ∧ x.l.length ≤ 1000000000
theorem zs_two {V : HProp} {x y : Slv UInt8} (h1 : Vw V x.v x.l.length (cel x.l) ∧ x.l.length ≤ 1000000000) (h2 : Vw V y.v y.l.length (cel y.l) ∧ y.l.length ≤ 1000000000) : Zs V [x, y] := fun r hr => by
 simp only [List.mem_cons, List.not_mem_nil, or_false] at hr
 rcases hr with rfl | rfl
 ·exact h1
 ·exact h2
theorem isNone_map {α β : Type} {f : α → β} {o : Option α} : (o.map f).isNone = o.isNone := by cases o <;> rfl
theorem isSome_map {α β : Type} {f : α → β} {o : Option α} : (o.map f).isSome = o.isSome := by cases o <;> rfl
set_option maxHeartbeats 400000
theorem floads_run (V : HProp) (hP : Ml V) (bp : Option Addr) (bc : Nat) (bb : List UInt8) (hb : Vw V (.slice bp bb.length bc) bb.length (cel bb)) (hbc : bb.length ≤ bc) (lp : Option Addr) (lc : Nat) (l : List Aq) (hL : Vw V (.slice lp l.length lc) l.length (flat Aq.cs l)) (hl : l.length ≤ 9223372036854775807) (hA : ∀ x ∈ l, x.Ok V) (at0 : Int) (tt : UInt8) :
 Tri Tryz.prog 8 [.slice bp bb.length bc, .slice lp l.length lc, .int .i64 at0, byteV tt] [V] (fun v H' => v = .bool true ∧ H' = [V]) := by
 refine zt Tryz.func8 rfl Tryz.ntmps8 (by simp) ?_; refine zM (zK (zH rfl (zO rfl) rfl (zN (zI (zM ?_))))); refine zK (zT rfl (zb Tryz.call11 rfl rfl (by repeat (first | exact zR _ | apply zG 0 rfl | apply zG 1 rfl | apply zG 2 rfl | apply zG 3 rfl | apply zG 4 rfl | apply zG 5 rfl | apply zG 6 rfl | apply zG 7 rfl)) (fnewc_spec)) rfl ?_); rintro _ H' ⟨_, ⟨mb, t, b, rfl, hn1, hn2, hW, rfl⟩, hH⟩; simp only [zy7] at hH; subst hH; obtain ⟨hs0, hhs0⟩ : ∃ z, z = List.replicate 256 Hd.zero := ⟨_, rfl⟩
 rw [← hhs0]; have hH0 : HsOk hs0 := by rw [hhs0]; exact hs0_ok
 have hv0 : ∀ h ∈ hs0, VdH t h := fun h hh => by rw [hhs0] at hh; rw [List.eq_of_mem_replicate hh]; exact vd_zero t
 obtain ⟨tb, htb⟩ : ∃ z, t.tb = z := ⟨_, rfl⟩
 rw [htb]; refine zH rfl (zO rfl) rfl (zN (zI (zM (zM (zK ?_))))); refine zH rfl (zL rfl) rfl (zH rfl (qI Tryz.underlying23 rfl rfl rfl) rfl (zN (zI (qC rfl ?_)))); refine zl ?_; refine zI (zM (zM (zK (zH rfl (zO rfl) rfl (zN ?_))))); refine zI (qA ?_); refine yQ 5 (fun m Δ LL => ∃ (i : Nat) (t1 : Tr) (r1 : Nd) (hs : List Hd), (i + m = l.length ∧ i ≤ 20 ∧ Wf t1 r1 ∧ t1.tb = tb ∧ t1.next ≤ 10 + i ∧ F15 t1 r1 ∧ HsOk hs ∧ (∀ h ∈ hs, VdH t1 h)) ∧ Δ = [(10, .int .i64 (i : Nat))] ∧ LL = [oMa mb tb (hs), tree t1, St ((hs).map rowN), V]) (m := l.length) (zS (k := 0) rfl (zS (k := 1) rfl (zS (k := 2) rfl (zS (k := 3) rfl (zS (k := 9) rfl (zf _)))))) (qn ⟨0, t, root0 b, hs0, ⟨by omega, by omega, hW, htb, by omega, f15_fst hn1, hH0, hv0⟩, rfl, rfl⟩ (by repeat (first | exact zf _ | refine zS rfl ?_)) (by repeat (first | exact zf _ | refine zS rfl ?_)) (by repeat (first | exact zY _ | refine zJ 0 rfl ?_ | refine zJ 1 rfl ?_ | refine zJ 2 rfl ?_ | refine zJ 3 rfl ?_ | refine zJ 4 rfl ?_ | refine zJ 5 rfl ?_ | refine zJ 6 rfl ?_ | refine zJ 7 rfl ?_ | refine SubH.rown ?_))) ?_; rintro m Δ LL ⟨i, t1, r1, hs, ⟨hm, hi20, hW1, htb1, hnx1, hF1, hH1, hv1⟩, rfl, rfl⟩; simp only [zA, zB]; refine zM (zM (zK (zH rfl (zL rfl) rfl (zH rfl (zL rfl) rfl (zH rfl (zw Tryz.underlying43 rfl) rfl ?_))))); refine zH rfl (yP rfl rfl rfl) rfl (qi rfl rfl rfl (fun hg24 => ?_) (fun hg24 => ?_))
 ·replace hg24 := zy2 hg24
  have hi : i < l.length := by omega
  refine zH rfl (zL rfl) rfl (zH rfl (yP rfl rfl rfl) rfl (zH rfl (zr rfl rfl) rfl (zN (zI (zq rfl (fun hc27 => ?_) (fun hc27 => ?_))))))
  ·replace hc27 := zy2 hc27
   refine zl ?_; refine zI (zM (qA ?_)); have hi : i < l.length := by omega
   have hqi := (hA l[i] (List.getElem_mem hi)).q
   refine yN (fun w F s => vw_ptr (zy5 (H := [_, _, _, V]) 3 rfl hL) s (by omega)) ?_; rintro ⟨b0, o0, rfl⟩; refine qZ 14 (by kernel_rfl) (zR _) ?_; refine zRO (i := 0) (by kernel_rfl) rfl rfl (zL rfl) rfl (zRO (i := 1) (by kernel_rfl) rfl rfl (zL rfl) rfl (zRO (i := 2) (by kernel_rfl) rfl rfl (zL rfl) rfl (zRO (i := 3) (by kernel_rfl) rfl rfl (qO sl43 rfl rfl rfl (by omega)) rfl (zRO (i := 4) (by kernel_rfl) rfl rfl (zP fa46_1 rfl) rfl (zRO (i := 7) (by kernel_rfl) rfl rfl (zL rfl) rfl ?_))))); refine zRO (i := 8) (by kernel_rfl) rfl rfl (zL rfl) rfl (zRO (i := 9) (by kernel_rfl) rfl rfl (qO sl43 rfl rfl rfl (by omega)) rfl (zRO (i := 10) (by kernel_rfl) rfl rfl (zP fa46_2 rfl) rfl (any_two (i := 5) (j := 11) (by kernel_rfl) ?_ ?_)))
   ·refine at_eff' rfl rfl (xG (zW sc3 rfl (zy4 3 rfl (Rd.elem (j := 1) (ym hL) Aq.len (List.getElem?_eq_getElem hi) rfl)))) rfl ?_; rintro _ _ ⟨rfl, rfl⟩; refine any_two (i := 6) (j := 11) (by kernel_rfl) ?_ ?_
    ·refine at_eff' rfl rfl (zb Tryz.call13 rfl rfl (by repeat (first | exact zR _ | apply zG 0 rfl | apply zG 1 rfl | apply zG 2 rfl | apply zG 3 rfl | apply zG 4 rfl | apply zG 5 rfl | apply zG 6 rfl | apply zG 7 rfl)) (within_spec l[i].ses 0 3 (by omega) (by omega) (by omega))) rfl ?_; rintro _ H' ⟨_, ⟨rfl, rfl⟩, hH⟩; simp only [zy7] at hH; subst hH; obtain ⟨k, hk, hk4⟩ : ∃ k : Nat, 0 + l[i].ses % (3 - 0 + 1) = (k : Int) ∧ k ≤ 3 := ⟨(l[i].ses % (3 - 0 + 1)).toNat, by omega, by omega⟩
     rw [hk]; refine qM (i := 11) (by kernel_rfl) rfl rfl (xG (qX ag35 rfl (zy6 3 rfl (aq_rd (ym hL) hi)) rfl)) rfl ?_; rintro _ _ ⟨rfl, rfl⟩; refine qM (i := 12) (by kernel_rfl) rfl rfl (zb Tryz.call17 rfl rfl (by repeat (first | exact zR _ | apply zG 0 rfl | apply zG 1 rfl | apply zG 2 rfl | apply zG 3 rfl | apply zG 4 rfl | apply zG 5 rfl | apply zG 6 rfl | apply zG 7 rfl)) (small_spec V l[i].q hqi.a.f hqi.vw hqi.cap)) rfl ?_; rintro _ H' ⟨_, ⟨p33, c33, q1, x1, x2, x3, hq1, hg1, hg2, hg3, rfl, hv33, hc33, rfl⟩, hH⟩; simp only [zy7] at hH; subst hH
     obtain ⟨qs, hqs⟩ : ∃ z : Qr, z = { q1 with path := x1, dest := x2, handle := x3 } := ⟨_, rfl⟩
     rw [← hqs]; obtain ⟨hs1, hs2, hs3, hs4, hs5, hs6, hs7⟩ := small_ok hqi hq1 hg1 hg2 hqs
     have hs8 : Vw V (.slice qs.dp qs.data.length qs.dc) qs.data.length (cel qs.data) := by rw [hqs, hq1]; exact hv33
     refine qM (i := 13) (by kernel_rfl) rfl rfl (zy (Pre := [_, _, _]) Tryz.call12 rfl rfl (by repeat (first | exact zR _ | apply zG 0 rfl | apply zG 1 rfl | apply zG 2 rfl | apply zG 3 rfl | apply zG 4 rfl | apply zG 5 rfl | apply zG 6 rfl | apply zG 7 rfl)) (do16K hW1 htb1 hH1 ((k : Nat) : Int) (qs) (hs7) (Ml.pick (H := _) 0 rfl hP) (by omega) (zy5 0 rfl hs8))) rfl ?_; rintro _ H' ⟨_, ⟨t9, hs9, k9, dp9, dc9, np9, nc9, rfl, hD9, hW9, htb9, hnx9, hH9, rfl⟩, hH⟩; simp only [zy7] at hH; subst hH; obtain ⟨r9, hr9⟩ := hW9
     have hF9 := hold_f15 hW1 hr9 (hold_do hD9) hF1
     have hv9 := vd_do hW1 hF1 (by omega) (by omega) hv1 hD9
     refine qT (by kernel_rfl) ?_; refine zQ ?_; refine zI (zK (zH rfl (zL rfl) rfl (zH rfl (ql rfl rfl (qo (by omega))) rfl (zH rfl (zO rfl) rfl (zN ?_))))); refine zI (back (m - 1) (by omega) (qn ⟨i + 1, t9, r9, hs9, ⟨by omega, by omega, hr9, htb9, by omega, hF9, hH9, hv9⟩, rfl, rfl⟩ ?_ ?_ ?_))
     ·exact (by repeat (first | exact zf _ | refine zS rfl ?_))
     ·exact (by repeat (first | exact zf _ | refine zS rfl ?_))
     ·exact (zJ 2 rfl (zJ 2 rfl (zJ 2 rfl (zJ 2 rfl (zY _)))))
    ·refine at_eff' rfl rfl (xG (qX ag35 rfl (zy6 3 rfl (aq_rd (ym hL) hi)) rfl)) rfl ?_; rintro _ _ ⟨rfl, rfl⟩; refine qM (i := 6) (by kernel_rfl) rfl rfl (zb Tryz.call13 rfl rfl (by repeat (first | exact zR _ | apply zG 0 rfl | apply zG 1 rfl | apply zG 2 rfl | apply zG 3 rfl | apply zG 4 rfl | apply zG 5 rfl | apply zG 6 rfl | apply zG 7 rfl)) (within_spec l[i].ses 0 3 (by omega) (by omega) (by omega))) rfl ?_; rintro _ H' ⟨_, ⟨rfl, rfl⟩, hH⟩; simp only [zy7] at hH; subst hH; obtain ⟨k, hk, hk4⟩ : ∃ k : Nat, 0 + l[i].ses % (3 - 0 + 1) = (k : Int) ∧ k ≤ 3 := ⟨(l[i].ses % (3 - 0 + 1)).toNat, by omega, by omega⟩
     rw [hk]; refine qM (i := 12) (by kernel_rfl) rfl rfl (zb Tryz.call17 rfl rfl (by repeat (first | exact zR _ | apply zG 0 rfl | apply zG 1 rfl | apply zG 2 rfl | apply zG 3 rfl | apply zG 4 rfl | apply zG 5 rfl | apply zG 6 rfl | apply zG 7 rfl)) (small_spec V l[i].q hqi.a.f hqi.vw hqi.cap)) rfl ?_; rintro _ H' ⟨_, ⟨p33, c33, q1, x1, x2, x3, hq1, hg1, hg2, hg3, rfl, hv33, hc33, rfl⟩, hH⟩; simp only [zy7] at hH; subst hH
     obtain ⟨qs, hqs⟩ : ∃ z : Qr, z = { q1 with path := x1, dest := x2, handle := x3 } := ⟨_, rfl⟩
     rw [← hqs]; obtain ⟨hs1, hs2, hs3, hs4, hs5, hs6, hs7⟩ := small_ok hqi hq1 hg1 hg2 hqs
     have hs8 : Vw V (.slice qs.dp qs.data.length qs.dc) qs.data.length (cel qs.data) := by rw [hqs, hq1]; exact hv33
     refine qM (i := 13) (by kernel_rfl) rfl rfl (zy (Pre := [_, _, _]) Tryz.call12 rfl rfl (by repeat (first | exact zR _ | apply zG 0 rfl | apply zG 1 rfl | apply zG 2 rfl | apply zG 3 rfl | apply zG 4 rfl | apply zG 5 rfl | apply zG 6 rfl | apply zG 7 rfl)) (do16K hW1 htb1 hH1 ((k : Nat) : Int) (qs) (hs7) (Ml.pick (H := _) 0 rfl hP) (by omega) (zy5 0 rfl hs8))) rfl ?_; rintro _ H' ⟨_, ⟨t9, hs9, k9, dp9, dc9, np9, nc9, rfl, hD9, hW9, htb9, hnx9, hH9, rfl⟩, hH⟩; simp only [zy7] at hH; subst hH; obtain ⟨r9, hr9⟩ := hW9
     have hF9 := hold_f15 hW1 hr9 (hold_do hD9) hF1
     have hv9 := vd_do hW1 hF1 (by omega) (by omega) hv1 hD9
     refine qT (by kernel_rfl) ?_; refine zQ ?_; refine zI (zK (zH rfl (zL rfl) rfl (zH rfl (ql rfl rfl (qo (by omega))) rfl (zH rfl (zO rfl) rfl (zN ?_))))); refine zI (back (m - 1) (by omega) (qn ⟨i + 1, t9, r9, hs9, ⟨by omega, by omega, hr9, htb9, by omega, hF9, hH9, hv9⟩, rfl, rfl⟩ ?_ ?_ ?_))
     ·exact (by repeat (first | exact zf _ | refine zS rfl ?_))
     ·exact (by repeat (first | exact zf _ | refine zS rfl ?_))
     ·exact (zJ 2 rfl (zJ 2 rfl (zJ 2 rfl (zJ 2 rfl (zY _)))))
   ·refine at_eff' rfl rfl (xG (qX ag35 rfl (zy6 3 rfl (aq_rd (ym hL) hi)) rfl)) rfl ?_; rintro _ _ ⟨rfl, rfl⟩; refine qM (i := 5) (by kernel_rfl) rfl rfl (xG (zW sc3 rfl (zy4 3 rfl (Rd.elem (j := 1) (ym hL) Aq.len (List.getElem?_eq_getElem hi) rfl)))) rfl ?_; rintro _ _ ⟨rfl, rfl⟩; refine qM (i := 6) (by kernel_rfl) rfl rfl (zb Tryz.call13 rfl rfl (by repeat (first | exact zR _ | apply zG 0 rfl | apply zG 1 rfl | apply zG 2 rfl | apply zG 3 rfl | apply zG 4 rfl | apply zG 5 rfl | apply zG 6 rfl | apply zG 7 rfl)) (within_spec l[i].ses 0 3 (by omega) (by omega) (by omega))) rfl ?_; rintro _ H' ⟨_, ⟨rfl, rfl⟩, hH⟩; simp only [zy7] at hH; subst hH; obtain ⟨k, hk, hk4⟩ : ∃ k : Nat, 0 + l[i].ses % (3 - 0 + 1) = (k : Int) ∧ k ≤ 3 := ⟨(l[i].ses % (3 - 0 + 1)).toNat, by omega, by omega⟩
    rw [hk]; refine qM (i := 12) (by kernel_rfl) rfl rfl (zb Tryz.call17 rfl rfl (by repeat (first | exact zR _ | apply zG 0 rfl | apply zG 1 rfl | apply zG 2 rfl | apply zG 3 rfl | apply zG 4 rfl | apply zG 5 rfl | apply zG 6 rfl | apply zG 7 rfl)) (small_spec V l[i].q hqi.a.f hqi.vw hqi.cap)) rfl ?_; rintro _ H' ⟨_, ⟨p33, c33, q1, x1, x2, x3, hq1, hg1, hg2, hg3, rfl, hv33, hc33, rfl⟩, hH⟩; simp only [zy7] at hH; subst hH
    obtain ⟨qs, hqs⟩ : ∃ z : Qr, z = { q1 with path := x1, dest := x2, handle := x3 } := ⟨_, rfl⟩
    rw [← hqs]; obtain ⟨hs1, hs2, hs3, hs4, hs5, hs6, hs7⟩ := small_ok hqi hq1 hg1 hg2 hqs
    have hs8 : Vw V (.slice qs.dp qs.data.length qs.dc) qs.data.length (cel qs.data) := by rw [hqs, hq1]; exact hv33
    refine qM (i := 13) (by kernel_rfl) rfl rfl (zy (Pre := [_, _, _]) Tryz.call12 rfl rfl (by repeat (first | exact zR _ | apply zG 0 rfl | apply zG 1 rfl | apply zG 2 rfl | apply zG 3 rfl | apply zG 4 rfl | apply zG 5 rfl | apply zG 6 rfl | apply zG 7 rfl)) (do16K hW1 htb1 hH1 ((k : Nat) : Int) (qs) (hs7) (Ml.pick (H := _) 0 rfl hP) (by omega) (zy5 0 rfl hs8))) rfl ?_; rintro _ H' ⟨_, ⟨t9, hs9, k9, dp9, dc9, np9, nc9, rfl, hD9, hW9, htb9, hnx9, hH9, rfl⟩, hH⟩; simp only [zy7] at hH; subst hH; obtain ⟨r9, hr9⟩ := hW9
    have hF9 := hold_f15 hW1 hr9 (hold_do hD9) hF1
    have hv9 := vd_do hW1 hF1 (by omega) (by omega) hv1 hD9
    refine qT (by kernel_rfl) ?_; refine zQ ?_; refine zI (zK (zH rfl (zL rfl) rfl (zH rfl (ql rfl rfl (qo (by omega))) rfl (zH rfl (zO rfl) rfl (zN ?_))))); refine zI (back (m - 1) (by omega) (qn ⟨i + 1, t9, r9, hs9, ⟨by omega, by omega, hr9, htb9, by omega, hF9, hH9, hv9⟩, rfl, rfl⟩ ?_ ?_ ?_))
    ·exact (by repeat (first | exact zf _ | refine zS rfl ?_))
    ·exact (by repeat (first | exact zf _ | refine zS rfl ?_))
    ·exact (zJ 2 rfl (zJ 2 rfl (zJ 2 rfl (zJ 2 rfl (zY _)))))
  ·replace hc27 := zy3 hc27
   refine yJ ?_; refine qV ?_; refine qV ?_; refine qe ?_; refine zI (zM (zK (zH rfl (zL rfl) rfl (zT rfl (zy (Pre := []) Tryz.call24 rfl rfl (zR _) (xH (Mq.of 0 1 rfl rfl htb1) hW1 (by omega) hH1.len (fun h hh => vd_hds (hv1 h hh)) (fun h hh => (List.mem_iff_getElem?.1 hh).elim fun j hj => by first | exact zy5 0 rfl (qF hj) | exact zy5 1 rfl (qF hj) | exact zy5 2 rfl (qF hj) | exact zy5 3 rfl (qF hj) | exact zy5 4 rfl (qF hj) | exact zy5 5 rfl (qF hj) | exact zy5 6 rfl (qF hj) | exact zy5 7 rfl (qF hj)))) rfl ?_)))); rintro _ H' ⟨_, ⟨sb, p45, c45, sb1, rfl, hS1, hsl1, hb1, hbl1, rfl⟩, hH⟩; simp only [zy7] at hH; subst hH; refine zH rfl (zO rfl) rfl (zN (zI (zM (zK (zH rfl (zL rfl) rfl ?_))))); refine zT rfl (zy (Pre := []) Tryz.call23 rfl rfl (zR _) (saved_spec (Mq.of 1 2 rfl rfl htb1) hW1 hF1 (by omega) hH1.len hv1 (fun h hh => (List.mem_iff_getElem?.1 hh).elim fun j hj => by first | exact zy5 0 rfl (qF hj) | exact zy5 1 rfl (qF hj) | exact zy5 2 rfl (qF hj) | exact zy5 3 rfl (qF hj) | exact zy5 4 rfl (qF hj) | exact zy5 5 rfl (qF hj) | exact zy5 6 rfl (qF hj) | exact zy5 7 rfl (qF hj)))) rfl ?_; rintro _ H' ⟨_, ⟨⟨mb2, t2, r2, hs2⟩, rfl, hSv, rfl⟩, hH⟩; simp only [zy7] at hH; subst hH; obtain ⟨tb2, htb2⟩ : ∃ z, t2.tb = z := ⟨_, rfl⟩
   have hWs : Wf t2 r2 := hSv.wf
   have hnx2 : t2.next ≤ 100 := by have : t2.next = t1.next := hSv.rel.nx; omega
   refine zH rfl (zO rfl) rfl (zN (zI (zM (zM (q8 (L := [LoadM (some ⟨mb2, t2, r2, hs2⟩), oMa mb tb hs, tree t1, St (hs.map rowN), rowD p45 c45 sb, V]) (by repeat (first | exact zY _ | refine zJ 0 rfl ?_ | refine zJ 1 rfl ?_ | refine zJ 2 rfl ?_ | refine zJ 3 rfl ?_ | refine zJ 4 rfl ?_ | refine zJ 5 rfl ?_ | refine zJ 6 rfl ?_ | refine zJ 7 rfl ?_ | refine SubH.rown ?_)) ?_))))); refine qD (H' := [oMa mb2 t2.tb hs2, tree t2, St (hs2.map rowN), oMa mb tb hs, tree t1, St (hs.map rowN), rowD p45 c45 sb, V]) (fun w F sw => loadM_openL sw) ?_; refine yN (fun w F sw => rows_ok 2 rfl hSv.len hSv.vd sw) ?_; intro hH2; rw [htb2]; refine zK (zH rfl (zL rfl) rfl (zH rfl (qI Tryz.underlying23 rfl rfl rfl) rfl (zN (zI (qC rfl ?_))))); refine zl ?_; refine zI (zM (zK (zH rfl (zL rfl) rfl (zH rfl (qY rfl (qK (cs := (qAt 14 [111, 116, 104, 101, 114] 0).cs) st35 rfl)) rfl (zT rfl (zy (Pre := [_, _, _]) Tryz.call12 rfl rfl (by repeat (first | exact zR _ | apply zG 0 rfl | apply zG 1 rfl | apply zG 2 rfl | apply zG 3 rfl | apply zG 4 rfl | apply zG 5 rfl | apply zG 6 rfl | apply zG 7 rfl)) (do16K hWs htb2 hH2 ((1 : Nat) : Int) (qAt 14 [111, 116, 104, 101, 114] 0) (qAt_ok (by decide) (by decide)) (Ml.pick (H := _) 4 rfl hP) (by omega) (show Vw _ _ 0 (cel []) from Vw.nil _))) rfl ?_))))); rintro _ H' ⟨_, ⟨t9, hs9, k9, dp9, dc9, np9, nc9, rfl, hD9, hW9, htb9, hnx9, hH9, rfl⟩, hH⟩; simp only [zy7] at hH; subst hH; refine zN (zI (zM (zM (q8 (L := [oMa mb tb hs, tree t1, St (hs.map rowN), rowD p45 c45 sb, V]) (by repeat (first | exact zY _ | refine zJ 0 rfl ?_ | refine zJ 1 rfl ?_ | refine zJ 2 rfl ?_ | refine zJ 3 rfl ?_ | refine zJ 4 rfl ?_ | refine zJ 5 rfl ?_ | refine zJ 6 rfl ?_ | refine zJ 7 rfl ?_ | refine SubH.rown ?_)) ?_)))); refine qZ 6 (by kernel_rfl) (zG 3 rfl (zR _)) ?_; refine zRO (i := 0) (by kernel_rfl) rfl rfl (zL rfl) rfl (zRO (i := 3) (by kernel_rfl) rfl rfl (zL rfl) rfl (zRO (i := 4) (by kernel_rfl) rfl rfl (yp Tryz.underlying25 Tryz.underlying5 Tryz.underlying9 rfl (zy5 0 rfl Vw.row) rfl) rfl (yb (i := 1) (by kernel_rfl) rfl rfl (zy (Pre := []) Tryz.call24 rfl rfl (zR _) (xH (Mq.of 1 2 rfl rfl htb1) hW1 (by omega) hH1.len (fun h hh => vd_hds (hv1 h hh)) (fun h hh => (List.mem_iff_getElem?.1 hh).elim fun j hj => by first | exact zy5 0 rfl (qF hj) | exact zy5 1 rfl (qF hj) | exact zy5 2 rfl (qF hj) | exact zy5 3 rfl (qF hj) | exact zy5 4 rfl (qF hj) | exact zy5 5 rfl (qF hj) | exact zy5 6 rfl (qF hj) | exact zy5 7 rfl (qF hj)))) rfl ?_))); rintro _ _ ⟨sb2, p54, c54, sb3, rfl, hS3, hsl3, hb3, hbl3, rfl⟩; simp only [zA, zB]; obtain rfl : sb3 = sb1 := SaveR.same hS3 hS1
   obtain rfl : sb2 = sb := hb3.trans hb1.symm
   refine qM (i := 2) (by kernel_rfl) rfl rfl (xG (yp Tryz.underlying25 Tryz.underlying5 Tryz.underlying9 rfl (zy5 0 rfl Vw.row) rfl)) rfl ?_; rintro _ _ ⟨rfl, rfl⟩; refine zRO (i := 5) (by kernel_rfl) rfl rfl (ro_neqS rfl rfl (decide_eq_false (fun h => h rfl))) rfl (qm (by kernel_rfl) ?_); refine zI (qC rfl ?_); refine zl ?_; refine zI (yO 1017 (fun Δ LL => ∃ (n2 : Nat) (y2 : List UInt8) (p48 : Option Addr) (c48 : Nat), (n2 ≤ 1000000000 ∧ n2 = y2.length) ∧ Δ = [(11, .slice p48 n2 c48)] ∧ LL = [row 5 1 (.slice p48 n2 c48) n2 (cel y2), V]) (zS (k := 0) rfl (zS (k := 11) rfl (zf _))) ?_ ?_)
   ·refine zM (q8 (L := [rowD p45 c45 sb2, V]) (by repeat (first | exact zY _ | refine zJ 0 rfl ?_ | refine zJ 1 rfl ?_ | refine zJ 2 rfl ?_ | refine zJ 3 rfl ?_ | refine zJ 4 rfl ?_ | refine zJ 5 rfl ?_ | refine zJ 6 rfl ?_ | refine zJ 7 rfl ?_ | refine SubH.rown ?_)) ?_); refine zK (zH rfl (zL rfl) rfl (zH rfl (zw Tryz.underlying25 rfl) rfl (zH rfl (yd rfl rfl rfl) rfl (zN (zI ?_))))); refine zq rfl (fun hc61 => ?_) (fun hc61 => ?_)
    ·replace hc61 := zy2 hc61
     obtain ⟨k, hk0, hk1⟩ : ∃ k : Nat, (0 + at0 % (((sb2.length - 1 : Nat) : Int) - 0 + 1)) = (k : Int) ∧ k < sb2.length := by
      have g1 := Int.emod_nonneg at0 (show (((sb2.length - 1 : Nat) : Int) - 0 + 1) ≠ 0 by omega)
      have g2 := Int.emod_lt_of_pos at0 (show 0 < (((sb2.length - 1 : Nat) : Int) - 0 + 1) by omega)
      exact ⟨(0 + at0 % (((sb2.length - 1 : Nat) : Int) - 0 + 1)).toNat, by omega, by omega⟩
     have hk2 := hk1
     have hzz := UInt8.toNat_lt (sb2[k] ^^^ tt)
     refine yN (fun w F s => row_ptr' 0 rfl s (by omega)) ?_; rintro ⟨b48, rfl⟩; refine zK (zH rfl (zL rfl) rfl (zH rfl (zL rfl) rfl (zH rfl (zL rfl) rfl (zH rfl (zw Tryz.underlying25 rfl) rfl (zH rfl (yi rfl rfl (xV (by omega) (by omega))) rfl ?_))))); refine zT rfl (zb Tryz.call13 rfl rfl (by repeat (first | exact zR _ | apply zG 0 rfl | apply zG 1 rfl | apply zG 2 rfl | apply zG 3 rfl | apply zG 4 rfl | apply zG 5 rfl | apply zG 6 rfl | apply zG 7 rfl)) (within_tw at0 0 ((sb2.length - 1 : Nat) : Int) k (by omega) (by omega) (by omega) hk0)) rfl ?_; rintro _ H' ⟨_, ⟨rfl, rfl⟩, hH⟩; simp only [zy7] at hH; subst hH; refine zH rfl (qO sl25 rfl rfl rfl (by omega)) rfl (zH rfl (zW sc5 rfl (zy4 0 rfl (Rd.row (by rw [Nat.zero_add, Nat.mul_one]; exact cel_get hk2)))) rfl (zH rfl (zL rfl) rfl (zH rfl (ro_xor rfl rfl (xor8 sb2[k] tt)) rfl (zH rfl (qO sl25 rfl rfl rfl (by omega)) rfl (zo rfl (eff_storeB 0 sc5 rfl rfl (by omega) (by omega) rfl rfl (by omega)) rfl ?_))))); rintro _ _ rfl; simp only [zE, zF]; generalize hw : sb2.set k (UInt8.ofNat (((sb2[k] ^^^ tt).toNat : Nat) : Int).toNat) = wv
     have hwl : wv.length = sb2.length := by rw [← hw, List.length_set]
     refine zN (zI (qc (qn ⟨sb2.length, wv, (some ⟨b48, 0, none⟩), c45, ⟨hbl1, hwl.symm⟩, rfl, rfl⟩ ?_ ?_ ?_)))
     ·exact (by repeat (first | exact zf _ | refine zS rfl ?_))
     ·exact (by repeat (first | exact zf _ | refine zS rfl ?_))
     ·exact zj _
    ·replace hc61 := zy3 hc61
     refine zl ?_; refine zI (qc (qn ⟨sb2.length, sb2, p45, c45, ⟨hbl1, rfl⟩, rfl, rfl⟩ ?_ ?_ ?_))
     ·exact (by repeat (first | exact zf _ | refine zS rfl ?_))
     ·exact (by repeat (first | exact zf _ | refine zS rfl ?_))
     ·exact zj _
   ·rintro Δ LL ⟨n2, y2, p48, c48, ⟨hy2, rfl⟩, rfl, rfl⟩; simp only [zA, zB]; refine zM (zM (zK (zH rfl (zL rfl) rfl (zT rfl (zb Tryz.call16 rfl rfl (by repeat (first | exact zR _ | apply zG 0 rfl | apply zG 1 rfl | apply zG 2 rfl | apply zG 3 rfl | apply zG 4 rfl | apply zG 5 rfl | apply zG 6 rfl | apply zG 7 rfl)) (kCut V bp bc bb 500 hb hbc)) rfl ?_)))); rintro _ H' ⟨_, ⟨_, ⟨p67, c67, rfl, hz0, hcz, rfl⟩, rfl⟩, hH⟩; simp only [zy7] at hH; subst hH; have hzl : (bb.take 500).length ≤ 500 := by rw [List.length_take]; omega
    generalize bb.take 500 = z0 at *
    refine zH rfl (zL rfl) rfl (zT rfl (eff_lit sl58 rfl (sbld (cs := flat Sb.cs [⟨p67, c67, z0⟩, ⟨p48, c48, y2⟩]) [(.slice none 0 0), (.slice none 0 0)] sl58 (by decide) (by kernel_rfl) rfl) rfl (by decide)) rfl ?_); rintro _ _ ⟨b76, rfl, rfl⟩; refine ops_packS fun U eU => ?_
    obtain ⟨zs, hzs⟩ : ∃ zs : List (Slv UInt8), zs = [⟨p67, c67, z0⟩, ⟨p48, c48, y2⟩] := ⟨_, rfl⟩
    have hln : zs.length = 2 := by rw [hzs]; rfl
    have hP2 : Vw U (.slice (some ⟨b76, 0, none⟩) 2 2) 2 (flat Sb.cs zs) := by
     subst eU; rw [hzs]; exact zy5 0 rfl Vw.row
    have hall : Zs U zs := by
     subst eU; rw [hzs]; exact zs_two ⟨(zy5 1 rfl hz0), by show z0.length ≤ 1000000000; omega⟩ ⟨(zy5 2 rfl Vw.row), by show y2.length ≤ 1000000000; omega⟩
    have hS : SubH [U] [V] := by
     subst eU; exact sub_of (by repeat (first | exact zY _ | refine zJ 0 rfl ?_ | refine zJ 1 rfl ?_ | refine zJ 2 rfl ?_ | refine zJ 3 rfl ?_ | refine zJ 4 rfl ?_ | refine zJ 5 rfl ?_ | refine zJ 6 rfl ?_ | refine zJ 7 rfl ?_ | refine SubH.rown ?_))
    clear eU hzs; refine zH rfl (zw Tryz.underlying58 rfl) rfl (zH rfl (zL rfl) rfl (zN (zI (qA ?_)))); refine yQ 18 (fun m Δ LL => ∃ (i : Nat), (i + m = 2) ∧ Δ = [(78, .int .i64 (i : Nat))] ∧ LL = [U]) (m := 2) (zS (k := 76) rfl (zS (k := 77) rfl (zf _))) (qn ⟨0, by omega, rfl, rfl⟩ (by repeat (first | exact zf _ | refine zS rfl ?_)) (by repeat (first | exact zf _ | refine zS rfl ?_)) (by repeat (first | exact zY _ | refine zJ 0 rfl ?_ | refine zJ 1 rfl ?_ | refine zJ 2 rfl ?_ | refine zJ 3 rfl ?_ | refine zJ 4 rfl ?_ | refine zJ 5 rfl ?_ | refine zJ 6 rfl ?_ | refine zJ 7 rfl ?_ | refine SubH.rown ?_))) ?_; rintro m Δ LL ⟨i, hm, rfl, rfl⟩; simp only [zA, zB]; refine zM (zK (zH rfl (yP rfl rfl rfl) rfl (zN (zI (zM ?_))))); refine zq rfl (fun hc79 => ?_) (fun hc79 => ?_)
    ·replace hc79 := zy2 hc79
     refine zl ?_; refine zI (zM (qA ?_)); refine zM ?_; have hi2 : i < zs.length := by omega
     refine zK (zH rfl (qO sl58 rfl rfl rfl (by omega)) rfl (zH rfl (zW sc25 rfl (zy4 0 rfl (Rd.elem (j := 0) (ym hP2) Sb.len (List.getElem?_eq_getElem hi2) rfl))) rfl ?_)); obtain ⟨j1, j2⟩ := hall _ (List.getElem_mem hi2)
     generalize zs[i] = zz at *
     obtain ⟨zp, zc, z⟩ := zz
     simp only at j1 j2
     refine zH rfl (zO rfl) rfl (zN (zI (zM (zK (zH rfl (zL rfl) rfl ?_))))); refine zT rfl (zy (Pre := []) Tryz.call25 rfl rfl (zR _) (fload_spec zp zc z (zy5 0 rfl j1) (by omega))) rfl ?_; rintro _ H' ⟨_, ⟨o, rfl, ho, _, rfl⟩, hH⟩; simp only [zy7] at hH; subst hH; refine zH rfl (zL rfl) rfl (zH rfl (zu rfl rfl) rfl (zH rfl (zu rfl rfl) rfl (zH rfl (zO rfl) rfl (zH rfl (zO rfl) rfl (zN ?_))))); refine zI (zM (qZ 25 (by kernel_rfl) (zG 1 rfl (zR _)) ?_)); refine zRO (i := 0) (by kernel_rfl) rfl rfl (zL rfl) rfl (zRO (i := 1) (by kernel_rfl) rfl rfl (qI Tryz.underlying23 rfl rfl rfl) rfl ?_); rw [isNone_map]; refine zRO (i := 2) (by kernel_rfl) rfl rfl (zL rfl) rfl (xQ (i := 3) (by kernel_rfl) rfl rfl (q9 rfl rfl (c := o.isNone) (by cases o <;> rfl)) rfl (fun _ _ _ h => h) (xQ (i := 4) (by kernel_rfl) rfl rfl (ro_neq_bool Tryz.underlying4 rfl rfl (c := false) (by cases o <;> rfl)) rfl (fun _ _ _ h => h) (zRO (i := 5) (by kernel_rfl) rfl rfl (zL (v := .bool false) rfl) rfl (zRO (i := 6) (by kernel_rfl) rfl rfl (zL rfl) rfl (xQ (i := 7) (by kernel_rfl) rfl rfl (q9 rfl rfl (c := o.isNone) (by cases o <;> rfl)) rfl (fun _ _ _ h => h) ?_))))); refine yA (i := 8) (by kernel_rfl) rfl rfl rfl rfl (fun _ _ _ h => h) (fun hg95 => ?_) (fun hg95 => ?_)
     ·skip; refine zRO (i := 9) (by kernel_rfl) rfl rfl (zL rfl) rfl (zRO (i := 10) (by kernel_rfl) rfl rfl (q9 rfl rfl (c := false) (by cases o with | none => rfl | some _ => cases hg95)) rfl (zRO (i := 11) (by kernel_rfl) rfl rfl (zr rfl rfl) rfl (zRO (i := 12) (by kernel_rfl) rfl rfl (zr rfl rfl) rfl (zRO (i := 13) (by kernel_rfl) rfl rfl (zL (v := .bool false) rfl) rfl (zRO (i := 14) (by kernel_rfl) rfl rfl (zL rfl) rfl ?_))))); refine zRO (i := 15) (by kernel_rfl) rfl rfl (xR Tryz.underlying23 rfl rfl rfl) rfl ?_; rw [isSome_map]; refine yA (i := 16) (by kernel_rfl) rfl rfl rfl rfl (fun _ _ _ h => h) (fun hg103 => ?_) (fun hg103 => ?_)
      ·skip
       obtain ⟨s, rfl⟩ : ∃ s, o = some s := by cases o with
        | none => cases hg103
        | some s => exact ⟨s, rfl⟩
       have hG := ho s rfl
       refine qu (H' := [oMa s.mb s.t.tb s.hs, tree s.t, St (s.hs.map rowN)]) (fun w F s => loadM_one s) ?_; refine zRO (i := 17) (by kernel_rfl) rfl rfl (zL rfl) rfl (zRO (i := 20) (by kernel_rfl) rfl rfl (zL rfl) rfl (zRO (i := 21) (by kernel_rfl) rfl rfl (yp Tryz.underlying25 Tryz.underlying5 Tryz.underlying9 rfl (zy5 0 rfl j1) rfl) rfl (yb (i := 18) (by kernel_rfl) rfl rfl (zy (Pre := []) Tryz.call24 rfl rfl (zR _) (xH (Mq.of 1 2 rfl rfl rfl) hG.wf hG.nx hG.len (fun h hh => vd_hds (hG.vd h hh)) (fun h hh => (List.mem_iff_getElem?.1 hh).elim fun j hj => by first | exact zy5 0 rfl (qF hj) | exact zy5 1 rfl (qF hj) | exact zy5 2 rfl (qF hj) | exact zy5 3 rfl (qF hj) | exact zy5 4 rfl (qF hj) | exact zy5 5 rfl (qF hj) | exact zy5 6 rfl (qF hj) | exact zy5 7 rfl (qF hj)))) rfl ?_))); rintro _ _ ⟨s2, p105, c105, sbx, rfl, hs2, hsl2, hb9, hbl9, rfl⟩; simp only [zA, zB]
       try obtain ⟨sbz, hz1, hz2, hz3⟩ := hG.sv
       try obtain rfl := SaveR.same hz1 hs2
       try obtain rfl := hb9.trans hz3.symm
       refine qM (i := 19) (by kernel_rfl) rfl rfl (xG (yp Tryz.underlying25 Tryz.underlying5 Tryz.underlying9 rfl (zy5 0 rfl Vw.row) rfl)) rfl ?_; rintro _ _ ⟨rfl, rfl⟩; refine zRO (i := 22) (by kernel_rfl) rfl rfl (ro_neqS rfl rfl (decide_eq_false (fun h => h rfl))) rfl (zRO (i := 23) (by kernel_rfl) rfl rfl (zr rfl rfl) rfl (zRO (i := 24) (by kernel_rfl) rfl rfl (zr rfl rfl) rfl (qm (by kernel_rfl) ?_))); refine zI (qC rfl ?_); refine zl ?_; refine zQ ?_; refine zI (zK (zH rfl (ql rfl rfl (qo (by omega))) rfl (zH rfl (zL rfl) rfl (zN (zI ?_))))); refine back (m - 1) (by omega) (qn ⟨i + 1, by omega, rfl, rfl⟩ ?_ ?_ ?_)
       ·exact (by repeat (first | exact zf _ | refine zS rfl ?_))
       ·exact (by repeat (first | exact zf _ | refine zS rfl ?_))
       ·exact (zJ 0 rfl (zY _))
      ·skip; refine zSK (i := 17) (by kernel_rfl) rfl rfl rfl (zSK (i := 20) (by kernel_rfl) rfl rfl rfl (zSK (i := 21) (by kernel_rfl) rfl rfl rfl (zSK (i := 18) (by kernel_rfl) rfl rfl rfl ?_)))
       try obtain ⟨sbz, hz1, hz2, hz3⟩ := hG.sv
       try obtain rfl := SaveR.same hz1 hs2
       try obtain rfl := hb9.trans hz3.symm
       refine zSK (i := 19) (by kernel_rfl) rfl rfl rfl (zSK (i := 22) (by kernel_rfl) rfl rfl rfl (zRO (i := 23) (by kernel_rfl) rfl rfl (zr rfl rfl) rfl (zRO (i := 24) (by kernel_rfl) rfl rfl (zr rfl rfl) rfl (qm (by kernel_rfl) ?_)))); refine zI (qC rfl ?_); refine zl ?_; refine zQ ?_; refine zI (zK (zH rfl (ql rfl rfl (qo (by omega))) rfl (zH rfl (zL rfl) rfl (zN (zI ?_))))); refine back (m - 1) (by omega) (qn ⟨i + 1, by omega, rfl, rfl⟩ ?_ ?_ ?_)
       ·exact (by repeat (first | exact zf _ | refine zS rfl ?_))
       ·exact (by repeat (first | exact zf _ | refine zS rfl ?_))
       ·exact (zJ 0 rfl (zY _))
     ·skip; refine zSK (i := 9) (by kernel_rfl) rfl rfl rfl (zSK (i := 10) (by kernel_rfl) rfl rfl rfl (zRO (i := 11) (by kernel_rfl) rfl rfl (zr rfl rfl) rfl (zRO (i := 12) (by kernel_rfl) rfl rfl (zr rfl rfl) rfl (zRO (i := 13) (by kernel_rfl) rfl rfl (zL (v := .bool false) rfl) rfl (zRO (i := 14) (by kernel_rfl) rfl rfl (zL rfl) rfl ?_))))); refine zRO (i := 15) (by kernel_rfl) rfl rfl (xR Tryz.underlying23 rfl rfl rfl) rfl ?_; rw [isSome_map]; refine yA (i := 16) (by kernel_rfl) rfl rfl rfl rfl (fun _ _ _ h => h) (fun hg103 => ?_) (fun hg103 => ?_)
      ·skip
       obtain ⟨s, rfl⟩ : ∃ s, o = some s := by cases o with
        | none => cases hg103
        | some s => exact ⟨s, rfl⟩
       have hG := ho s rfl
       refine qu (H' := [oMa s.mb s.t.tb s.hs, tree s.t, St (s.hs.map rowN)]) (fun w F s => loadM_one s) ?_; refine zRO (i := 17) (by kernel_rfl) rfl rfl (zL rfl) rfl (zRO (i := 20) (by kernel_rfl) rfl rfl (zL rfl) rfl (zRO (i := 21) (by kernel_rfl) rfl rfl (yp Tryz.underlying25 Tryz.underlying5 Tryz.underlying9 rfl (zy5 0 rfl j1) rfl) rfl (yb (i := 18) (by kernel_rfl) rfl rfl (zy (Pre := []) Tryz.call24 rfl rfl (zR _) (xH (Mq.of 1 2 rfl rfl rfl) hG.wf hG.nx hG.len (fun h hh => vd_hds (hG.vd h hh)) (fun h hh => (List.mem_iff_getElem?.1 hh).elim fun j hj => by first | exact zy5 0 rfl (qF hj) | exact zy5 1 rfl (qF hj) | exact zy5 2 rfl (qF hj) | exact zy5 3 rfl (qF hj) | exact zy5 4 rfl (qF hj) | exact zy5 5 rfl (qF hj) | exact zy5 6 rfl (qF hj) | exact zy5 7 rfl (qF hj)))) rfl ?_))); rintro _ _ ⟨s2, p105, c105, sbx, rfl, hs2, hsl2, hb9, hbl9, rfl⟩; simp only [zA, zB]
       try obtain ⟨sbz, hz1, hz2, hz3⟩ := hG.sv
       try obtain rfl := SaveR.same hz1 hs2
       try obtain rfl := hb9.trans hz3.symm
       refine qM (i := 19) (by kernel_rfl) rfl rfl (xG (yp Tryz.underlying25 Tryz.underlying5 Tryz.underlying9 rfl (zy5 0 rfl Vw.row) rfl)) rfl ?_; rintro _ _ ⟨rfl, rfl⟩; refine zRO (i := 22) (by kernel_rfl) rfl rfl (ro_neqS rfl rfl (decide_eq_false (fun h => h rfl))) rfl (zRO (i := 23) (by kernel_rfl) rfl rfl (zr rfl rfl) rfl (zRO (i := 24) (by kernel_rfl) rfl rfl (zr rfl rfl) rfl (qm (by kernel_rfl) ?_))); refine zI (qC rfl ?_); refine zl ?_; refine zQ ?_; refine zI (zK (zH rfl (ql rfl rfl (qo (by omega))) rfl (zH rfl (zL rfl) rfl (zN (zI ?_))))); refine back (m - 1) (by omega) (qn ⟨i + 1, by omega, rfl, rfl⟩ ?_ ?_ ?_)
       ·exact (by repeat (first | exact zf _ | refine zS rfl ?_))
       ·exact (by repeat (first | exact zf _ | refine zS rfl ?_))
       ·exact (zJ 0 rfl (zY _))
      ·skip; refine zSK (i := 17) (by kernel_rfl) rfl rfl rfl (zSK (i := 20) (by kernel_rfl) rfl rfl rfl (zSK (i := 21) (by kernel_rfl) rfl rfl rfl (zSK (i := 18) (by kernel_rfl) rfl rfl rfl ?_)))
       try obtain ⟨sbz, hz1, hz2, hz3⟩ := hG.sv
       try obtain rfl := SaveR.same hz1 hs2
       try obtain rfl := hb9.trans hz3.symm
       refine zSK (i := 19) (by kernel_rfl) rfl rfl rfl (zSK (i := 22) (by kernel_rfl) rfl rfl rfl (zRO (i := 23) (by kernel_rfl) rfl rfl (zr rfl rfl) rfl (zRO (i := 24) (by kernel_rfl) rfl rfl (zr rfl rfl) rfl (qm (by kernel_rfl) ?_)))); refine zI (qC rfl ?_); refine zl ?_; refine zQ ?_; refine zI (zK (zH rfl (ql rfl rfl (qo (by omega))) rfl (zH rfl (zL rfl) rfl (zN (zI ?_))))); refine back (m - 1) (by omega) (qn ⟨i + 1, by omega, rfl, rfl⟩ ?_ ?_ ?_)
       ·exact (by repeat (first | exact zf _ | refine zS rfl ?_))
       ·exact (by repeat (first | exact zf _ | refine zS rfl ?_))
       ·exact (zJ 0 rfl (zY _))
    ·replace hc79 := zy3 hc79
     refine yJ ?_; refine qV ?_; refine qV ?_; refine qe ?_; refine zI (zM (q8 hS ?_)); refine zK (zT rfl (zb Tryz.call15 rfl rfl (by repeat (first | exact zR _ | apply zG 0 rfl | apply zG 1 rfl | apply zG 2 rfl | apply zG 3 rfl | apply zG 4 rfl | apply zG 5 rfl | apply zG 6 rfl | apply zG 7 rfl)) (known16_spec V hP)) rfl ?_); rintro _ H' ⟨_, ⟨rfl, rfl⟩, hH⟩; simp only [zy7] at hH; subst hH; refine zH rfl (zO rfl) rfl (zN (zI (zi ?_))); refine' zX (qk rfl rfl) ?_ ?_
     rotate_left 1
     exact ⟨rfl, rfl⟩
     exact zj _
 ·replace hg24 := zy3 hg24
  refine zZ rfl rfl (zZ rfl rfl (zH rfl (zr rfl rfl) rfl (zN (zI (qC rfl ?_))))); refine yJ ?_; refine qV ?_; refine qV ?_; refine qe ?_; refine zI (zM (zK (zH rfl (zL rfl) rfl (zT rfl (zy (Pre := []) Tryz.call24 rfl rfl (zR _) (xH (Mq.of 0 1 rfl rfl htb1) hW1 (by omega) hH1.len (fun h hh => vd_hds (hv1 h hh)) (fun h hh => (List.mem_iff_getElem?.1 hh).elim fun j hj => by first | exact zy5 0 rfl (qF hj) | exact zy5 1 rfl (qF hj) | exact zy5 2 rfl (qF hj) | exact zy5 3 rfl (qF hj) | exact zy5 4 rfl (qF hj) | exact zy5 5 rfl (qF hj) | exact zy5 6 rfl (qF hj) | exact zy5 7 rfl (qF hj)))) rfl ?_)))); rintro _ H' ⟨_, ⟨sb, p45, c45, sb1, rfl, hS1, hsl1, hb1, hbl1, rfl⟩, hH⟩; simp only [zy7] at hH; subst hH; refine zH rfl (zO rfl) rfl (zN (zI (zM (zK (zH rfl (zL rfl) rfl ?_))))); refine zT rfl (zy (Pre := []) Tryz.call23 rfl rfl (zR _) (saved_spec (Mq.of 1 2 rfl rfl htb1) hW1 hF1 (by omega) hH1.len hv1 (fun h hh => (List.mem_iff_getElem?.1 hh).elim fun j hj => by first | exact zy5 0 rfl (qF hj) | exact zy5 1 rfl (qF hj) | exact zy5 2 rfl (qF hj) | exact zy5 3 rfl (qF hj) | exact zy5 4 rfl (qF hj) | exact zy5 5 rfl (qF hj) | exact zy5 6 rfl (qF hj) | exact zy5 7 rfl (qF hj)))) rfl ?_; rintro _ H' ⟨_, ⟨⟨mb2, t2, r2, hs2⟩, rfl, hSv, rfl⟩, hH⟩; simp only [zy7] at hH; subst hH; obtain ⟨tb2, htb2⟩ : ∃ z, t2.tb = z := ⟨_, rfl⟩
  have hWs : Wf t2 r2 := hSv.wf
  have hnx2 : t2.next ≤ 100 := by have : t2.next = t1.next := hSv.rel.nx; omega
  refine zH rfl (zO rfl) rfl (zN (zI (zM (zM (q8 (L := [LoadM (some ⟨mb2, t2, r2, hs2⟩), oMa mb tb hs, tree t1, St (hs.map rowN), rowD p45 c45 sb, V]) (by repeat (first | exact zY _ | refine zJ 0 rfl ?_ | refine zJ 1 rfl ?_ | refine zJ 2 rfl ?_ | refine zJ 3 rfl ?_ | refine zJ 4 rfl ?_ | refine zJ 5 rfl ?_ | refine zJ 6 rfl ?_ | refine zJ 7 rfl ?_ | refine SubH.rown ?_)) ?_))))); refine qD (H' := [oMa mb2 t2.tb hs2, tree t2, St (hs2.map rowN), oMa mb tb hs, tree t1, St (hs.map rowN), rowD p45 c45 sb, V]) (fun w F sw => loadM_openL sw) ?_; refine yN (fun w F sw => rows_ok 2 rfl hSv.len hSv.vd sw) ?_; intro hH2; rw [htb2]; refine zK (zH rfl (zL rfl) rfl (zH rfl (qI Tryz.underlying23 rfl rfl rfl) rfl (zN (zI (qC rfl ?_))))); refine zl ?_; refine zI (zM (zK (zH rfl (zL rfl) rfl (zH rfl (qY rfl (qK (cs := (qAt 14 [111, 116, 104, 101, 114] 0).cs) st35 rfl)) rfl (zT rfl (zy (Pre := [_, _, _]) Tryz.call12 rfl rfl (by repeat (first | exact zR _ | apply zG 0 rfl | apply zG 1 rfl | apply zG 2 rfl | apply zG 3 rfl | apply zG 4 rfl | apply zG 5 rfl | apply zG 6 rfl | apply zG 7 rfl)) (do16K hWs htb2 hH2 ((1 : Nat) : Int) (qAt 14 [111, 116, 104, 101, 114] 0) (qAt_ok (by decide) (by decide)) (Ml.pick (H := _) 4 rfl hP) (by omega) (show Vw _ _ 0 (cel []) from Vw.nil _))) rfl ?_))))); rintro _ H' ⟨_, ⟨t9, hs9, k9, dp9, dc9, np9, nc9, rfl, hD9, hW9, htb9, hnx9, hH9, rfl⟩, hH⟩; simp only [zy7] at hH; subst hH; refine zN (zI (zM (zM (q8 (L := [oMa mb tb hs, tree t1, St (hs.map rowN), rowD p45 c45 sb, V]) (by repeat (first | exact zY _ | refine zJ 0 rfl ?_ | refine zJ 1 rfl ?_ | refine zJ 2 rfl ?_ | refine zJ 3 rfl ?_ | refine zJ 4 rfl ?_ | refine zJ 5 rfl ?_ | refine zJ 6 rfl ?_ | refine zJ 7 rfl ?_ | refine SubH.rown ?_)) ?_)))); refine qZ 6 (by kernel_rfl) (zG 3 rfl (zR _)) ?_; refine zRO (i := 0) (by kernel_rfl) rfl rfl (zL rfl) rfl (zRO (i := 3) (by kernel_rfl) rfl rfl (zL rfl) rfl (zRO (i := 4) (by kernel_rfl) rfl rfl (yp Tryz.underlying25 Tryz.underlying5 Tryz.underlying9 rfl (zy5 0 rfl Vw.row) rfl) rfl (yb (i := 1) (by kernel_rfl) rfl rfl (zy (Pre := []) Tryz.call24 rfl rfl (zR _) (xH (Mq.of 1 2 rfl rfl htb1) hW1 (by omega) hH1.len (fun h hh => vd_hds (hv1 h hh)) (fun h hh => (List.mem_iff_getElem?.1 hh).elim fun j hj => by first | exact zy5 0 rfl (qF hj) | exact zy5 1 rfl (qF hj) | exact zy5 2 rfl (qF hj) | exact zy5 3 rfl (qF hj) | exact zy5 4 rfl (qF hj) | exact zy5 5 rfl (qF hj) | exact zy5 6 rfl (qF hj) | exact zy5 7 rfl (qF hj)))) rfl ?_))); rintro _ _ ⟨sb2, p54, c54, sb3, rfl, hS3, hsl3, hb3, hbl3, rfl⟩; simp only [zA, zB]; obtain rfl : sb3 = sb1 := SaveR.same hS3 hS1
  obtain rfl : sb2 = sb := hb3.trans hb1.symm
  refine qM (i := 2) (by kernel_rfl) rfl rfl (xG (yp Tryz.underlying25 Tryz.underlying5 Tryz.underlying9 rfl (zy5 0 rfl Vw.row) rfl)) rfl ?_; rintro _ _ ⟨rfl, rfl⟩; refine zRO (i := 5) (by kernel_rfl) rfl rfl (ro_neqS rfl rfl (decide_eq_false (fun h => h rfl))) rfl (qm (by kernel_rfl) ?_); refine zI (qC rfl ?_); refine zl ?_; refine zI (yO 1017 (fun Δ LL => ∃ (n2 : Nat) (y2 : List UInt8) (p48 : Option Addr) (c48 : Nat), (n2 ≤ 1000000000 ∧ n2 = y2.length) ∧ Δ = [(11, .slice p48 n2 c48)] ∧ LL = [row 5 1 (.slice p48 n2 c48) n2 (cel y2), V]) (zS (k := 0) rfl (zS (k := 11) rfl (zf _))) ?_ ?_)
  ·refine zM (q8 (L := [rowD p45 c45 sb2, V]) (by repeat (first | exact zY _ | refine zJ 0 rfl ?_ | refine zJ 1 rfl ?_ | refine zJ 2 rfl ?_ | refine zJ 3 rfl ?_ | refine zJ 4 rfl ?_ | refine zJ 5 rfl ?_ | refine zJ 6 rfl ?_ | refine zJ 7 rfl ?_ | refine SubH.rown ?_)) ?_); refine zK (zH rfl (zL rfl) rfl (zH rfl (zw Tryz.underlying25 rfl) rfl (zH rfl (yd rfl rfl rfl) rfl (zN (zI ?_))))); refine zq rfl (fun hc61 => ?_) (fun hc61 => ?_)
   ·replace hc61 := zy2 hc61
    obtain ⟨k, hk0, hk1⟩ : ∃ k : Nat, (0 + at0 % (((sb2.length - 1 : Nat) : Int) - 0 + 1)) = (k : Int) ∧ k < sb2.length := by
     have g1 := Int.emod_nonneg at0 (show (((sb2.length - 1 : Nat) : Int) - 0 + 1) ≠ 0 by omega)
     have g2 := Int.emod_lt_of_pos at0 (show 0 < (((sb2.length - 1 : Nat) : Int) - 0 + 1) by omega)
     exact ⟨(0 + at0 % (((sb2.length - 1 : Nat) : Int) - 0 + 1)).toNat, by omega, by omega⟩
    have hk2 := hk1
    have hzz := UInt8.toNat_lt (sb2[k] ^^^ tt)
    refine yN (fun w F s => row_ptr' 0 rfl s (by omega)) ?_; rintro ⟨b48, rfl⟩; refine zK (zH rfl (zL rfl) rfl (zH rfl (zL rfl) rfl (zH rfl (zL rfl) rfl (zH rfl (zw Tryz.underlying25 rfl) rfl (zH rfl (yi rfl rfl (xV (by omega) (by omega))) rfl ?_))))); refine zT rfl (zb Tryz.call13 rfl rfl (by repeat (first | exact zR _ | apply zG 0 rfl | apply zG 1 rfl | apply zG 2 rfl | apply zG 3 rfl | apply zG 4 rfl | apply zG 5 rfl | apply zG 6 rfl | apply zG 7 rfl)) (within_tw at0 0 ((sb2.length - 1 : Nat) : Int) k (by omega) (by omega) (by omega) hk0)) rfl ?_; rintro _ H' ⟨_, ⟨rfl, rfl⟩, hH⟩; simp only [zy7] at hH; subst hH; refine zH rfl (qO sl25 rfl rfl rfl (by omega)) rfl (zH rfl (zW sc5 rfl (zy4 0 rfl (Rd.row (by rw [Nat.zero_add, Nat.mul_one]; exact cel_get hk2)))) rfl (zH rfl (zL rfl) rfl (zH rfl (ro_xor rfl rfl (xor8 sb2[k] tt)) rfl (zH rfl (qO sl25 rfl rfl rfl (by omega)) rfl (zo rfl (eff_storeB 0 sc5 rfl rfl (by omega) (by omega) rfl rfl (by omega)) rfl ?_))))); rintro _ _ rfl; simp only [zE, zF]; generalize hw : sb2.set k (UInt8.ofNat (((sb2[k] ^^^ tt).toNat : Nat) : Int).toNat) = wv
    have hwl : wv.length = sb2.length := by rw [← hw, List.length_set]
    refine zN (zI (qc (qn ⟨sb2.length, wv, (some ⟨b48, 0, none⟩), c45, ⟨hbl1, hwl.symm⟩, rfl, rfl⟩ ?_ ?_ ?_)))
    ·exact (by repeat (first | exact zf _ | refine zS rfl ?_))
    ·exact (by repeat (first | exact zf _ | refine zS rfl ?_))
    ·exact zj _
   ·replace hc61 := zy3 hc61
    refine zl ?_; refine zI (qc (qn ⟨sb2.length, sb2, p45, c45, ⟨hbl1, rfl⟩, rfl, rfl⟩ ?_ ?_ ?_))
    ·exact (by repeat (first | exact zf _ | refine zS rfl ?_))
    ·exact (by repeat (first | exact zf _ | refine zS rfl ?_))
    ·exact zj _
  ·rintro Δ LL ⟨n2, y2, p48, c48, ⟨hy2, rfl⟩, rfl, rfl⟩; simp only [zA, zB]; refine zM (zM (zK (zH rfl (zL rfl) rfl (zT rfl (zb Tryz.call16 rfl rfl (by repeat (first | exact zR _ | apply zG 0 rfl | apply zG 1 rfl | apply zG 2 rfl | apply zG 3 rfl | apply zG 4 rfl | apply zG 5 rfl | apply zG 6 rfl | apply zG 7 rfl)) (kCut V bp bc bb 500 hb hbc)) rfl ?_)))); rintro _ H' ⟨_, ⟨_, ⟨p67, c67, rfl, hz0, hcz, rfl⟩, rfl⟩, hH⟩; simp only [zy7] at hH; subst hH; have hzl : (bb.take 500).length ≤ 500 := by rw [List.length_take]; omega
   generalize bb.take 500 = z0 at *
   refine zH rfl (zL rfl) rfl (zT rfl (eff_lit sl58 rfl (sbld (cs := flat Sb.cs [⟨p67, c67, z0⟩, ⟨p48, c48, y2⟩]) [(.slice none 0 0), (.slice none 0 0)] sl58 (by decide) (by kernel_rfl) rfl) rfl (by decide)) rfl ?_); rintro _ _ ⟨b76, rfl, rfl⟩; refine ops_packS fun U eU => ?_
   obtain ⟨zs, hzs⟩ : ∃ zs : List (Slv UInt8), zs = [⟨p67, c67, z0⟩, ⟨p48, c48, y2⟩] := ⟨_, rfl⟩
   have hln : zs.length = 2 := by rw [hzs]; rfl
   have hP2 : Vw U (.slice (some ⟨b76, 0, none⟩) 2 2) 2 (flat Sb.cs zs) := by
    subst eU; rw [hzs]; exact zy5 0 rfl Vw.row
   have hall : Zs U zs := by
    subst eU; rw [hzs]; exact zs_two ⟨(zy5 1 rfl hz0), by show z0.length ≤ 1000000000; omega⟩ ⟨(zy5 2 rfl Vw.row), by show y2.length ≤ 1000000000; omega⟩
   have hS : SubH [U] [V] := by
    subst eU; exact sub_of (by repeat (first | exact zY _ | refine zJ 0 rfl ?_ | refine zJ 1 rfl ?_ | refine zJ 2 rfl ?_ | refine zJ 3 rfl ?_ | refine zJ 4 rfl ?_ | refine zJ 5 rfl ?_ | refine zJ 6 rfl ?_ | refine zJ 7 rfl ?_ | refine SubH.rown ?_))
   clear eU hzs; refine zH rfl (zw Tryz.underlying58 rfl) rfl (zH rfl (zL rfl) rfl (zN (zI (qA ?_)))); refine yQ 18 (fun m Δ LL => ∃ (i : Nat), (i + m = 2) ∧ Δ = [(78, .int .i64 (i : Nat))] ∧ LL = [U]) (m := 2) (zS (k := 76) rfl (zS (k := 77) rfl (zf _))) (qn ⟨0, by omega, rfl, rfl⟩ (by repeat (first | exact zf _ | refine zS rfl ?_)) (by repeat (first | exact zf _ | refine zS rfl ?_)) (by repeat (first | exact zY _ | refine zJ 0 rfl ?_ | refine zJ 1 rfl ?_ | refine zJ 2 rfl ?_ | refine zJ 3 rfl ?_ | refine zJ 4 rfl ?_ | refine zJ 5 rfl ?_ | refine zJ 6 rfl ?_ | refine zJ 7 rfl ?_ | refine SubH.rown ?_))) ?_; rintro m Δ LL ⟨i, hm, rfl, rfl⟩; simp only [zA, zB]; refine zM (zK (zH rfl (yP rfl rfl rfl) rfl (zN (zI (zM ?_))))); refine zq rfl (fun hc79 => ?_) (fun hc79 => ?_)
   ·replace hc79 := zy2 hc79
    refine zl ?_; refine zI (zM (qA ?_)); refine zM ?_; have hi2 : i < zs.length := by omega
    refine zK (zH rfl (qO sl58 rfl rfl rfl (by omega)) rfl (zH rfl (zW sc25 rfl (zy4 0 rfl (Rd.elem (j := 0) (ym hP2) Sb.len (List.getElem?_eq_getElem hi2) rfl))) rfl ?_)); obtain ⟨j1, j2⟩ := hall _ (List.getElem_mem hi2)
    generalize zs[i] = zz at *
    obtain ⟨zp, zc, z⟩ := zz
    simp only at j1 j2
    refine zH rfl (zO rfl) rfl (zN (zI (zM (zK (zH rfl (zL rfl) rfl ?_))))); refine zT rfl (zy (Pre := []) Tryz.call25 rfl rfl (zR _) (fload_spec zp zc z (zy5 0 rfl j1) (by omega))) rfl ?_; rintro _ H' ⟨_, ⟨o, rfl, ho, _, rfl⟩, hH⟩; simp only [zy7] at hH; subst hH; refine zH rfl (zL rfl) rfl (zH rfl (zu rfl rfl) rfl (zH rfl (zu rfl rfl) rfl (zH rfl (zO rfl) rfl (zH rfl (zO rfl) rfl (zN ?_))))); refine zI (zM (qZ 25 (by kernel_rfl) (zG 1 rfl (zR _)) ?_)); refine zRO (i := 0) (by kernel_rfl) rfl rfl (zL rfl) rfl (zRO (i := 1) (by kernel_rfl) rfl rfl (qI Tryz.underlying23 rfl rfl rfl) rfl ?_); rw [isNone_map]; refine zRO (i := 2) (by kernel_rfl) rfl rfl (zL rfl) rfl (xQ (i := 3) (by kernel_rfl) rfl rfl (q9 rfl rfl (c := o.isNone) (by cases o <;> rfl)) rfl (fun _ _ _ h => h) (xQ (i := 4) (by kernel_rfl) rfl rfl (ro_neq_bool Tryz.underlying4 rfl rfl (c := false) (by cases o <;> rfl)) rfl (fun _ _ _ h => h) (zRO (i := 5) (by kernel_rfl) rfl rfl (zL (v := .bool false) rfl) rfl (zRO (i := 6) (by kernel_rfl) rfl rfl (zL rfl) rfl (xQ (i := 7) (by kernel_rfl) rfl rfl (q9 rfl rfl (c := o.isNone) (by cases o <;> rfl)) rfl (fun _ _ _ h => h) ?_))))); refine yA (i := 8) (by kernel_rfl) rfl rfl rfl rfl (fun _ _ _ h => h) (fun hg95 => ?_) (fun hg95 => ?_)
    ·skip; refine zRO (i := 9) (by kernel_rfl) rfl rfl (zL rfl) rfl (zRO (i := 10) (by kernel_rfl) rfl rfl (q9 rfl rfl (c := false) (by cases o with | none => rfl | some _ => cases hg95)) rfl (zRO (i := 11) (by kernel_rfl) rfl rfl (zr rfl rfl) rfl (zRO (i := 12) (by kernel_rfl) rfl rfl (zr rfl rfl) rfl (zRO (i := 13) (by kernel_rfl) rfl rfl (zL (v := .bool false) rfl) rfl (zRO (i := 14) (by kernel_rfl) rfl rfl (zL rfl) rfl ?_))))); refine zRO (i := 15) (by kernel_rfl) rfl rfl (xR Tryz.underlying23 rfl rfl rfl) rfl ?_; rw [isSome_map]; refine yA (i := 16) (by kernel_rfl) rfl rfl rfl rfl (fun _ _ _ h => h) (fun hg103 => ?_) (fun hg103 => ?_)
     ·skip
      obtain ⟨s, rfl⟩ : ∃ s, o = some s := by cases o with
       | none => cases hg103
       | some s => exact ⟨s, rfl⟩
      have hG := ho s rfl
      refine qu (H' := [oMa s.mb s.t.tb s.hs, tree s.t, St (s.hs.map rowN)]) (fun w F s => loadM_one s) ?_; refine zRO (i := 17) (by kernel_rfl) rfl rfl (zL rfl) rfl (zRO (i := 20) (by kernel_rfl) rfl rfl (zL rfl) rfl (zRO (i := 21) (by kernel_rfl) rfl rfl (yp Tryz.underlying25 Tryz.underlying5 Tryz.underlying9 rfl (zy5 0 rfl j1) rfl) rfl (yb (i := 18) (by kernel_rfl) rfl rfl (zy (Pre := []) Tryz.call24 rfl rfl (zR _) (xH (Mq.of 1 2 rfl rfl rfl) hG.wf hG.nx hG.len (fun h hh => vd_hds (hG.vd h hh)) (fun h hh => (List.mem_iff_getElem?.1 hh).elim fun j hj => by first | exact zy5 0 rfl (qF hj) | exact zy5 1 rfl (qF hj) | exact zy5 2 rfl (qF hj) | exact zy5 3 rfl (qF hj) | exact zy5 4 rfl (qF hj) | exact zy5 5 rfl (qF hj) | exact zy5 6 rfl (qF hj) | exact zy5 7 rfl (qF hj)))) rfl ?_))); rintro _ _ ⟨s2, p105, c105, sbx, rfl, hs2, hsl2, hb9, hbl9, rfl⟩; simp only [zA, zB]
      try obtain ⟨sbz, hz1, hz2, hz3⟩ := hG.sv
      try obtain rfl := SaveR.same hz1 hs2
      try obtain rfl := hb9.trans hz3.symm
      refine qM (i := 19) (by kernel_rfl) rfl rfl (xG (yp Tryz.underlying25 Tryz.underlying5 Tryz.underlying9 rfl (zy5 0 rfl Vw.row) rfl)) rfl ?_; rintro _ _ ⟨rfl, rfl⟩; refine zRO (i := 22) (by kernel_rfl) rfl rfl (ro_neqS rfl rfl (decide_eq_false (fun h => h rfl))) rfl (zRO (i := 23) (by kernel_rfl) rfl rfl (zr rfl rfl) rfl (zRO (i := 24) (by kernel_rfl) rfl rfl (zr rfl rfl) rfl (qm (by kernel_rfl) ?_))); refine zI (qC rfl ?_); refine zl ?_; refine zQ ?_; refine zI (zK (zH rfl (ql rfl rfl (qo (by omega))) rfl (zH rfl (zL rfl) rfl (zN (zI ?_))))); refine back (m - 1) (by omega) (qn ⟨i + 1, by omega, rfl, rfl⟩ ?_ ?_ ?_)
      ·exact (by repeat (first | exact zf _ | refine zS rfl ?_))
      ·exact (by repeat (first | exact zf _ | refine zS rfl ?_))
      ·exact (zJ 0 rfl (zY _))
     ·skip; refine zSK (i := 17) (by kernel_rfl) rfl rfl rfl (zSK (i := 20) (by kernel_rfl) rfl rfl rfl (zSK (i := 21) (by kernel_rfl) rfl rfl rfl (zSK (i := 18) (by kernel_rfl) rfl rfl rfl ?_)))
      try obtain ⟨sbz, hz1, hz2, hz3⟩ := hG.sv
      try obtain rfl := SaveR.same hz1 hs2
      try obtain rfl := hb9.trans hz3.symm
      refine zSK (i := 19) (by kernel_rfl) rfl rfl rfl (zSK (i := 22) (by kernel_rfl) rfl rfl rfl (zRO (i := 23) (by kernel_rfl) rfl rfl (zr rfl rfl) rfl (zRO (i := 24) (by kernel_rfl) rfl rfl (zr rfl rfl) rfl (qm (by kernel_rfl) ?_)))); refine zI (qC rfl ?_); refine zl ?_; refine zQ ?_; refine zI (zK (zH rfl (ql rfl rfl (qo (by omega))) rfl (zH rfl (zL rfl) rfl (zN (zI ?_))))); refine back (m - 1) (by omega) (qn ⟨i + 1, by omega, rfl, rfl⟩ ?_ ?_ ?_)
      ·exact (by repeat (first | exact zf _ | refine zS rfl ?_))
      ·exact (by repeat (first | exact zf _ | refine zS rfl ?_))
      ·exact (zJ 0 rfl (zY _))
    ·skip; refine zSK (i := 9) (by kernel_rfl) rfl rfl rfl (zSK (i := 10) (by kernel_rfl) rfl rfl rfl (zRO (i := 11) (by kernel_rfl) rfl rfl (zr rfl rfl) rfl (zRO (i := 12) (by kernel_rfl) rfl rfl (zr rfl rfl) rfl (zRO (i := 13) (by kernel_rfl) rfl rfl (zL (v := .bool false) rfl) rfl (zRO (i := 14) (by kernel_rfl) rfl rfl (zL rfl) rfl ?_))))); refine zRO (i := 15) (by kernel_rfl) rfl rfl (xR Tryz.underlying23 rfl rfl rfl) rfl ?_; rw [isSome_map]; refine yA (i := 16) (by kernel_rfl) rfl rfl rfl rfl (fun _ _ _ h => h) (fun hg103 => ?_) (fun hg103 => ?_)
     ·skip
      obtain ⟨s, rfl⟩ : ∃ s, o = some s := by cases o with
       | none => cases hg103
       | some s => exact ⟨s, rfl⟩
      have hG := ho s rfl
      refine qu (H' := [oMa s.mb s.t.tb s.hs, tree s.t, St (s.hs.map rowN)]) (fun w F s => loadM_one s) ?_; refine zRO (i := 17) (by kernel_rfl) rfl rfl (zL rfl) rfl (zRO (i := 20) (by kernel_rfl) rfl rfl (zL rfl) rfl (zRO (i := 21) (by kernel_rfl) rfl rfl (yp Tryz.underlying25 Tryz.underlying5 Tryz.underlying9 rfl (zy5 0 rfl j1) rfl) rfl (yb (i := 18) (by kernel_rfl) rfl rfl (zy (Pre := []) Tryz.call24 rfl rfl (zR _) (xH (Mq.of 1 2 rfl rfl rfl) hG.wf hG.nx hG.len (fun h hh => vd_hds (hG.vd h hh)) (fun h hh => (List.mem_iff_getElem?.1 hh).elim fun j hj => by first | exact zy5 0 rfl (qF hj) | exact zy5 1 rfl (qF hj) | exact zy5 2 rfl (qF hj) | exact zy5 3 rfl (qF hj) | exact zy5 4 rfl (qF hj) | exact zy5 5 rfl (qF hj) | exact zy5 6 rfl (qF hj) | exact zy5 7 rfl (qF hj)))) rfl ?_))); rintro _ _ ⟨s2, p105, c105, sbx, rfl, hs2, hsl2, hb9, hbl9, rfl⟩; simp only [zA, zB]
      try obtain ⟨sbz, hz1, hz2, hz3⟩ := hG.sv
      try obtain rfl := SaveR.same hz1 hs2
      try obtain rfl := hb9.trans hz3.symm
      refine qM (i := 19) (by kernel_rfl) rfl rfl (xG (yp Tryz.underlying25 Tryz.underlying5 Tryz.underlying9 rfl (zy5 0 rfl Vw.row) rfl)) rfl ?_; rintro _ _ ⟨rfl, rfl⟩; refine zRO (i := 22) (by kernel_rfl) rfl rfl (ro_neqS rfl rfl (decide_eq_false (fun h => h rfl))) rfl (zRO (i := 23) (by kernel_rfl) rfl rfl (zr rfl rfl) rfl (zRO (i := 24) (by kernel_rfl) rfl rfl (zr rfl rfl) rfl (qm (by kernel_rfl) ?_))); refine zI (qC rfl ?_); refine zl ?_; refine zQ ?_; refine zI (zK (zH rfl (ql rfl rfl (qo (by omega))) rfl (zH rfl (zL rfl) rfl (zN (zI ?_))))); refine back (m - 1) (by omega) (qn ⟨i + 1, by omega, rfl, rfl⟩ ?_ ?_ ?_)
      ·exact (by repeat (first | exact zf _ | refine zS rfl ?_))
      ·exact (by repeat (first | exact zf _ | refine zS rfl ?_))
      ·exact (zJ 0 rfl (zY _))
     ·skip; refine zSK (i := 17) (by kernel_rfl) rfl rfl rfl (zSK (i := 20) (by kernel_rfl) rfl rfl rfl (zSK (i := 21) (by kernel_rfl) rfl rfl rfl (zSK (i := 18) (by kernel_rfl) rfl rfl rfl ?_)))
      try obtain ⟨sbz, hz1, hz2, hz3⟩ := hG.sv
      try obtain rfl := SaveR.same hz1 hs2
      try obtain rfl := hb9.trans hz3.symm
      refine zSK (i := 19) (by kernel_rfl) rfl rfl rfl (zSK (i := 22) (by kernel_rfl) rfl rfl rfl (zRO (i := 23) (by kernel_rfl) rfl rfl (zr rfl rfl) rfl (zRO (i := 24) (by kernel_rfl) rfl rfl (zr rfl rfl) rfl (qm (by kernel_rfl) ?_)))); refine zI (qC rfl ?_); refine zl ?_; refine zQ ?_; refine zI (zK (zH rfl (ql rfl rfl (qo (by omega))) rfl (zH rfl (zL rfl) rfl (zN (zI ?_))))); refine back (m - 1) (by omega) (qn ⟨i + 1, by omega, rfl, rfl⟩ ?_ ?_ ?_)
      ·exact (by repeat (first | exact zf _ | refine zS rfl ?_))
      ·exact (by repeat (first | exact zf _ | refine zS rfl ?_))
      ·exact (zJ 0 rfl (zY _))
   ·replace hc79 := zy3 hc79
    refine yJ ?_; refine qV ?_; refine qV ?_; refine qe ?_; refine zI (zM (q8 hS ?_)); refine zK (zT rfl (zb Tryz.call15 rfl rfl (by repeat (first | exact zR _ | apply zG 0 rfl | apply zG 1 rfl | apply zG 2 rfl | apply zG 3 rfl | apply zG 4 rfl | apply zG 5 rfl | apply zG 6 rfl | apply zG 7 rfl)) (known16_spec V hP)) rfl ?_); rintro _ H' ⟨_, ⟨rfl, rfl⟩, hH⟩; simp only [zy7] at hH; subst hH; refine zH rfl (zO rfl) rfl (zN (zI (zi ?_))); refine' zX (qk rfl rfl) ?_ ?_
    rotate_left 1
    exact ⟨rfl, rfl⟩
    exact zj _
end Go.Proofs.YtlefpllcgcicpaaGreatDoor
