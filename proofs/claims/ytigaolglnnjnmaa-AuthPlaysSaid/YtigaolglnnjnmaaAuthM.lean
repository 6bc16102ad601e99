/-
  The reference's gate: logins, payloads.
-/
import Derived.Test.YtigaolglnnjnmaaAuthL
namespace Go.Proofs.Ytigaolglnnjnmaa
open Go.Sx
set_option linter.unusedVariables false
set_option linter.unusedSimpArgs false
set_option maxRecDepth 100000
set_option maxHeartbeats 4000000

theorem us_out1 {us : List Us} {nm pa : List UInt8} {i : Nat} (hk : i < us.length) (h : (⟨nm, pa⟩ : Us) ∉ us.take i) (h1 : us[i].name ≠ nm ∨ us[i].pass ≠ pa) : (⟨nm, pa⟩ : Us) ∉ us.take (i + 1) := by
  rw [List.take_succ_eq_append_getElem hk, List.mem_append, List.mem_singleton]
  rintro (h2 | h2)
  · exact h h2
  · rw [← h2] at h1; simp at h1
theorem us_in1 {us : List Us} {nm pa : List UInt8} {i : Nat} (hk : i < us.length) (h1 : us[i].name = nm) (h2 : us[i].pass = pa) : (⟨nm, pa⟩ : Us) ∈ us := by
  subst h1 h2; exact List.getElem_mem hk
theorem rqAsk_spec (bw pr : Nat) (p q : Option Addr) (c cr : Nat) (g : Gs) (ht : g.tries ≤ 100000) (us : List Us) (V : HProp) (hU : Vw V (.slice p us.length c) us.length (flat Us.cs us)) (hul : us.length ≤ 140737488355328) (b : List UInt8) (r : R) (hi : Rin V q cr b) (hr : r.On b) : Tri Try.prog 87 [.pointer (some ⟨bw, 0, none⟩), .pointer (some ⟨pr, 0, none⟩)] [gr bw p us.length c g, rq pr (.slice q b.length cr) r, V] (fun v H' => H' = [ansP v (gLogin g us r).2, gr bw p us.length c (gLogin g us r).1, V]) := by
  refine tri_of_wpS Try.func87 rfl Try.ntmps87 (by simp) ?_
  refine wp_seq' ?_
  refine wp_region' ?_
  refine ops_ro' rfl (ro_assign rfl) rfl ?_
  refine ops_nil ?_
  refine Then_normal ?_
  refine wp_seq' ?_
  refine wp_region' ?_
  refine ops_ro' rfl (ro_move rfl) rfl ?_
  refine ops_eff' rfl (eff_callM (Pre := [_]) Try.call84 rfl rfl (by repeat (first | exact Split.nil _ | apply Split.cons 0 rfl | apply Split.cons 1 rfl | apply Split.cons 2 rfl | apply Split.cons 3 rfl | apply Split.cons 4 rfl | apply Split.cons 5 rfl | apply Split.cons 6 rfl | apply Split.cons 7 rfl | apply Split.cons 8 rfl | apply Split.cons 9 rfl | apply Split.cons 10 rfl | apply Split.cons 11 rfl)) (qText pr q cr b r (by first | exact ⟨Vw.pick 0 rfl hi.vw, hi.cap, hi.len⟩ | exact ⟨Vw.pick 1 rfl hi.vw, hi.cap, hi.len⟩ | exact ⟨Vw.pick 2 rfl hi.vw, hi.cap, hi.len⟩) hr 64 (by decide))) rfl ?_
  rintro _ H' ⟨_, ⟨rfl, rfl⟩, hH⟩
  simp only [List.cons_append, List.nil_append, List.eraseIdx_cons_zero, List.eraseIdx_cons_succ, List.set_cons_zero, List.set_cons_succ] at hH
  subst hH
  have hE : gLogin g us r = gLogE g us (((r.text 64).1.text 64).1.text 64).1.why (r.text 64).2 ((r.text 64).1.text 64).2 (((r.text 64).1.text 64).1.text 64).2 (((r.text 64).1.text 64).1.text 64).1 := rfl
  have hr1 := R.on_text hr 64
  generalize r.text 64 = t1 at *
  obtain ⟨r1, nm⟩ := t1
  simp only at *
  refine ops_ro' rfl (ro_assign rfl) rfl ?_
  refine ops_nil ?_
  refine Then_normal ?_
  refine wp_seq' ?_
  refine wp_region' ?_
  refine ops_ro' rfl (ro_move rfl) rfl ?_
  refine ops_eff' rfl (eff_callM (Pre := [_]) Try.call84 rfl rfl (by repeat (first | exact Split.nil _ | apply Split.cons 0 rfl | apply Split.cons 1 rfl | apply Split.cons 2 rfl | apply Split.cons 3 rfl | apply Split.cons 4 rfl | apply Split.cons 5 rfl | apply Split.cons 6 rfl | apply Split.cons 7 rfl | apply Split.cons 8 rfl | apply Split.cons 9 rfl | apply Split.cons 10 rfl | apply Split.cons 11 rfl)) (qText pr q cr b r1 (by first | exact ⟨Vw.pick 0 rfl hi.vw, hi.cap, hi.len⟩ | exact ⟨Vw.pick 1 rfl hi.vw, hi.cap, hi.len⟩ | exact ⟨Vw.pick 2 rfl hi.vw, hi.cap, hi.len⟩) hr1 64 (by decide))) rfl ?_
  rintro _ H' ⟨_, ⟨rfl, rfl⟩, hH⟩
  simp only [List.cons_append, List.nil_append, List.eraseIdx_cons_zero, List.eraseIdx_cons_succ, List.set_cons_zero, List.set_cons_succ] at hH
  subst hH
  have hr2 := R.on_text hr1 64
  generalize r1.text 64 = t2 at *
  obtain ⟨r2, sv⟩ := t2
  simp only at *
  refine ops_ro' rfl (ro_assign rfl) rfl ?_
  refine ops_nil ?_
  refine Then_normal ?_
  refine wp_seq' ?_
  refine wp_region' ?_
  refine ops_ro' rfl (ro_move rfl) rfl ?_
  refine ops_eff' rfl (eff_callM (Pre := [_]) Try.call84 rfl rfl (by repeat (first | exact Split.nil _ | apply Split.cons 0 rfl | apply Split.cons 1 rfl | apply Split.cons 2 rfl | apply Split.cons 3 rfl | apply Split.cons 4 rfl | apply Split.cons 5 rfl | apply Split.cons 6 rfl | apply Split.cons 7 rfl | apply Split.cons 8 rfl | apply Split.cons 9 rfl | apply Split.cons 10 rfl | apply Split.cons 11 rfl)) (qText pr q cr b r2 (by first | exact ⟨Vw.pick 0 rfl hi.vw, hi.cap, hi.len⟩ | exact ⟨Vw.pick 1 rfl hi.vw, hi.cap, hi.len⟩ | exact ⟨Vw.pick 2 rfl hi.vw, hi.cap, hi.len⟩) hr2 64 (by decide))) rfl ?_
  rintro _ H' ⟨_, ⟨rfl, rfl⟩, hH⟩
  simp only [List.cons_append, List.nil_append, List.eraseIdx_cons_zero, List.eraseIdx_cons_succ, List.set_cons_zero, List.set_cons_succ] at hH
  subst hH
  have hr3 := R.on_text hr2 64
  generalize r2.text 64 = t3 at *
  obtain ⟨r3, me⟩ := t3
  simp only at *
  refine ops_ro' rfl (ro_assign rfl) rfl ?_
  refine ops_nil ?_
  refine Then_normal ?_
  refine wp_seq' ?_
  refine wp_seq' ?_
  refine wp_region' ?_
  refine ops_ro' rfl (ro_move rfl) rfl ?_
  refine ops_ro' rfl (ro_nilCheck rfl) rfl ?_
  refine ops_ro' rfl (ro_fieldAddr fa134_2 rfl) rfl ?_
  refine ops_ro' rfl (ro_load sc4 rfl (Rd.pick 0 rfl (Rd.own rfl))) rfl ?_
  refine ops_split rfl rfl rfl (fun hg21 => ?_) (fun hg21 => ?_)
  · replace hg21 := of_decide_eq_true hg21
    refine ops_skip' rfl rfl ?_
    refine ops_skip' rfl rfl ?_
    refine ops_skip' rfl rfl ?_
    refine ops_skip' rfl rfl ?_
    refine ops_skip' rfl rfl ?_
    refine ops_ro' rfl (ro_pick rfl rfl) rfl ?_
    refine ops_nil ?_
    refine Then_normal ?_
    refine wp_condT rfl ?_
    refine wp_seq' ?_
    refine wp_region' ?_
    refine ops_ro' rfl (ro_move rfl) rfl ?_
    refine ops_eff' rfl (eff_call Try.call86 rfl rfl (by repeat (first | exact Split.nil _ | apply Split.cons 0 rfl | apply Split.cons 1 rfl | apply Split.cons 2 rfl | apply Split.cons 3 rfl | apply Split.cons 4 rfl | apply Split.cons 5 rfl | apply Split.cons 6 rfl | apply Split.cons 7 rfl | apply Split.cons 8 rfl | apply Split.cons 9 rfl | apply Split.cons 10 rfl | apply Split.cons 11 rfl)) (rqEnd_spec bw p us.length c g 2)) rfl ?_
    rintro _ H' ⟨_, rfl, hH⟩
    simp only [List.cons_append, List.nil_append, List.eraseIdx_cons_zero, List.eraseIdx_cons_succ, List.set_cons_zero, List.set_cons_succ] at hH
    subst hH
    refine ops_ro' rfl (ro_assign rfl) rfl ?_
    refine ops_nil ?_
    refine Then_normal ?_
    refine wp_ret' ?_
    refine Then_ret ?_
    refine' doneS_ret (res1 rfl rfl) ?_ ?_
    rotate_left 1
    have HX : gLogin g us r = gEnd g 2 := by rw [hE, gLogE, if_pos (by first | exact .inl hg21 | exact .inr (by simpa using hc27) | exact .inl (by simpa using hg21))]
    rw [HX]
    exact (SubH.cons 0 rfl (SubH.cons 0 rfl (SubH.cons 1 rfl (SubH.nil _))))
  · replace hg21 := of_decide_eq_false hg21
    refine ops_ro' rfl (ro_move rfl) rfl ?_
    refine ops_ro' rfl (ro_nilCheck rfl) rfl ?_
    refine ops_ro' rfl (ro_fieldAddr fa89_1 rfl) rfl ?_
    refine ops_ro' rfl (ro_load sc4 rfl (Rd.pick 1 rfl (Rd.own rfl))) rfl ?_
    refine ops_ro' rfl (ro_not rfl rfl) rfl ?_
    refine ops_ro' rfl (ro_pick rfl rfl) rfl ?_
    refine ops_nil ?_
    refine Then_normal ?_
    refine wp_cond' rfl (fun hc27 => ?_) (fun hc27 => ?_)
    · simp only [Bool.and_eq_true, decide_eq_true_eq, Bool.not_eq_true', decide_eq_false_iff_not, bne_iff_ne, ne_eq] at hc27
      refine wp_seq' ?_
      refine wp_region' ?_
      refine ops_ro' rfl (ro_move rfl) rfl ?_
      refine ops_eff' rfl (eff_call Try.call86 rfl rfl (by repeat (first | exact Split.nil _ | apply Split.cons 0 rfl | apply Split.cons 1 rfl | apply Split.cons 2 rfl | apply Split.cons 3 rfl | apply Split.cons 4 rfl | apply Split.cons 5 rfl | apply Split.cons 6 rfl | apply Split.cons 7 rfl | apply Split.cons 8 rfl | apply Split.cons 9 rfl | apply Split.cons 10 rfl | apply Split.cons 11 rfl)) (rqEnd_spec bw p us.length c g 2)) rfl ?_
      rintro _ H' ⟨_, rfl, hH⟩
      simp only [List.cons_append, List.nil_append, List.eraseIdx_cons_zero, List.eraseIdx_cons_succ, List.set_cons_zero, List.set_cons_succ] at hH
      subst hH
      refine ops_ro' rfl (ro_assign rfl) rfl ?_
      refine ops_nil ?_
      refine Then_normal ?_
      refine wp_ret' ?_
      refine Then_ret ?_
      refine' doneS_ret (res1 rfl rfl) ?_ ?_
      rotate_left 1
      have HX : gLogin g us r = gEnd g 2 := by rw [hE, gLogE, if_pos (by first | exact .inl hg21 | exact .inr (by simpa using hc27) | exact .inl (by simpa using hg21))]
      rw [HX]
      exact (SubH.cons 0 rfl (SubH.cons 0 rfl (SubH.cons 1 rfl (SubH.nil _))))
    · simp only [Bool.and_eq_false_iff, decide_eq_false_iff_not, Bool.not_eq_false', decide_eq_true_eq] at hc27
      refine wp_skip' ?_
      refine Then_normal ?_
      refine wp_seq' ?_
      refine wp_seq' ?_
      refine wp_region' ?_
      refine ops_ro' rfl (ro_move rfl) rfl ?_
      refine ops_ro' rfl (ro_nilCheck rfl) rfl ?_
      refine ops_ro' rfl (ro_fieldAddr fa89_2 rfl) rfl ?_
      refine ops_ro' rfl (ro_load sc4 rfl (Rd.pick 1 rfl (Rd.own rfl))) rfl ?_
      refine ops_nil ?_
      refine Then_normal ?_
      refine wp_cond' rfl (fun hc33 => ?_) (fun hc33 => ?_)
      · skip
        refine wp_seq' ?_
        refine wp_region' ?_
        refine ops_ro' rfl (ro_assign rfl) rfl ?_
        refine ops_nil ?_
        refine Then_normal ?_
        refine wp_ret' ?_
        refine Then_ret ?_
        refine doneS_pre (ansP_none _) ?_
        refine' doneS_ret (res1 rfl rfl) ?_ ?_
        rotate_left 1
        have HX : gLogin g us r = (g, none) := by rw [hE, gLogE, if_neg (by rintro (h | h) <;> simp_all), if_pos hc33]
        rw [HX]
        exact (SubH.cons 0 rfl (SubH.cons 1 rfl (SubH.cons 1 rfl (SubH.nil _))))
      · skip
        refine wp_skip' ?_
        refine Then_normal ?_
        refine wp_seq' ?_
        refine wp_seq' ?_
        refine wp_region' ?_
        refine ops_ro' rfl (ro_move rfl) rfl ?_
        refine ops_ro' rfl (ro_neqS (b := tConn) rfl rfl rfl) rfl ?_
        refine ops_nil ?_
        refine Then_normal ?_
        refine wp_cond' rfl (fun hc35 => ?_) (fun hc35 => ?_)
        · replace hc35 := of_decide_eq_true hc35
          refine wp_seq' ?_
          refine wp_region' ?_
          refine ops_ro' rfl (ro_move rfl) rfl ?_
          refine ops_eff' rfl (eff_call Try.call86 rfl rfl (by repeat (first | exact Split.nil _ | apply Split.cons 0 rfl | apply Split.cons 1 rfl | apply Split.cons 2 rfl | apply Split.cons 3 rfl | apply Split.cons 4 rfl | apply Split.cons 5 rfl | apply Split.cons 6 rfl | apply Split.cons 7 rfl | apply Split.cons 8 rfl | apply Split.cons 9 rfl | apply Split.cons 10 rfl | apply Split.cons 11 rfl)) (rqEnd_spec bw p us.length c g 7)) rfl ?_
          rintro _ H' ⟨_, rfl, hH⟩
          simp only [List.cons_append, List.nil_append, List.eraseIdx_cons_zero, List.eraseIdx_cons_succ, List.set_cons_zero, List.set_cons_succ] at hH
          subst hH
          refine ops_ro' rfl (ro_assign rfl) rfl ?_
          refine ops_nil ?_
          refine Then_normal ?_
          refine wp_ret' ?_
          refine Then_ret ?_
          refine' doneS_ret (res1 rfl rfl) ?_ ?_
          rotate_left 1
          have HX : gLogin g us r = gEnd g 7 := by rw [hE, gLogE, if_neg (by rintro (h | h) <;> simp_all), if_neg (by simpa using hc33), if_pos hc35]
          rw [HX]
          exact (SubH.cons 0 rfl (SubH.cons 0 rfl (SubH.cons 1 rfl (SubH.nil _))))
        · replace hc35 := of_decide_eq_false hc35
          refine wp_skip' ?_
          refine Then_normal ?_
          refine wp_seq' ?_
          refine wp_seq' ?_
          refine wp_region' ?_
          refine ops_ro' rfl (ro_move rfl) rfl ?_
          refine ops_ro' rfl (ro_neqS (b := tPass) rfl rfl rfl) rfl ?_
          refine ops_nil ?_
          refine Then_normal ?_
          refine wp_cond' rfl (fun hc39 => ?_) (fun hc39 => ?_)
          · replace hc39 := of_decide_eq_true hc39
            refine wp_seq' ?_
            refine wp_region' ?_
            refine ops_ro' rfl (ro_move rfl) rfl ?_
            refine ops_eff' rfl (eff_call Try.call113 rfl rfl (by repeat (first | exact Split.nil _ | apply Split.cons 0 rfl | apply Split.cons 1 rfl | apply Split.cons 2 rfl | apply Split.cons 3 rfl | apply Split.cons 4 rfl | apply Split.cons 5 rfl | apply Split.cons 6 rfl | apply Split.cons 7 rfl | apply Split.cons 8 rfl | apply Split.cons 9 rfl | apply Split.cons 10 rfl | apply Split.cons 11 rfl)) (rqTry_spec bw p us.length c g ht)) rfl ?_
            rintro _ H' ⟨_, rfl, hH⟩
            simp only [List.cons_append, List.nil_append, List.eraseIdx_cons_zero, List.eraseIdx_cons_succ, List.set_cons_zero, List.set_cons_succ] at hH
            subst hH
            refine ops_ro' rfl (ro_assign rfl) rfl ?_
            refine ops_nil ?_
            refine Then_normal ?_
            refine wp_ret' ?_
            refine Then_ret ?_
            refine' doneS_ret (res1 rfl rfl) ?_ ?_
            rotate_left 1
            have HX : gLogin g us r = gTry g := by rw [hE, gLogE, if_neg (by rintro (h | h) <;> simp_all), if_neg (by simpa using hc33), if_neg hc35, if_pos hc39]
            rw [HX]
            exact (SubH.cons 0 rfl (SubH.cons 0 rfl (SubH.cons 1 rfl (SubH.nil _))))
          · replace hc39 := of_decide_eq_false hc39
            refine wp_skip' ?_
            refine Then_normal ?_
            refine wp_seq' ?_
            refine wp_region' ?_
            refine ops_ro' rfl (ro_move rfl) rfl ?_
            refine ops_eff' rfl (eff_callM (Pre := [_]) Try.call114 rfl rfl (by repeat (first | exact Split.nil _ | apply Split.cons 0 rfl | apply Split.cons 1 rfl | apply Split.cons 2 rfl | apply Split.cons 3 rfl | apply Split.cons 4 rfl | apply Split.cons 5 rfl | apply Split.cons 6 rfl | apply Split.cons 7 rfl | apply Split.cons 8 rfl | apply Split.cons 9 rfl | apply Split.cons 10 rfl | apply Split.cons 11 rfl)) (qBool pr q cr b r3 (by first | exact ⟨Vw.pick 0 rfl hi.vw, hi.cap, hi.len⟩ | exact ⟨Vw.pick 1 rfl hi.vw, hi.cap, hi.len⟩ | exact ⟨Vw.pick 2 rfl hi.vw, hi.cap, hi.len⟩) hr3)) rfl ?_
            rintro _ H' ⟨_, ⟨rfl, rfl⟩, hH⟩
            simp only [List.cons_append, List.nil_append, List.eraseIdx_cons_zero, List.eraseIdx_cons_succ, List.set_cons_zero, List.set_cons_succ] at hH
            subst hH
            have hr4 := R.on_get hr3 1
            generalize e4 : r3.get 1 = t4 at *
            obtain ⟨r4, bb⟩ := t4
            simp only at *
            refine ops_ro' rfl (ro_assign rfl) rfl ?_
            refine ops_nil ?_
            refine Then_normal ?_
            refine wp_seq' ?_
            refine wp_region' ?_
            refine ops_ro' rfl (ro_move rfl) rfl ?_
            refine ops_eff' rfl (eff_callM (Pre := [_]) Try.call84 rfl rfl (by repeat (first | exact Split.nil _ | apply Split.cons 0 rfl | apply Split.cons 1 rfl | apply Split.cons 2 rfl | apply Split.cons 3 rfl | apply Split.cons 4 rfl | apply Split.cons 5 rfl | apply Split.cons 6 rfl | apply Split.cons 7 rfl | apply Split.cons 8 rfl | apply Split.cons 9 rfl | apply Split.cons 10 rfl | apply Split.cons 11 rfl)) (qText pr q cr b r4 (by first | exact ⟨Vw.pick 0 rfl hi.vw, hi.cap, hi.len⟩ | exact ⟨Vw.pick 1 rfl hi.vw, hi.cap, hi.len⟩ | exact ⟨Vw.pick 2 rfl hi.vw, hi.cap, hi.len⟩) hr4 64 (by decide))) rfl ?_
            rintro _ H' ⟨_, ⟨rfl, rfl⟩, hH⟩
            simp only [List.cons_append, List.nil_append, List.eraseIdx_cons_zero, List.eraseIdx_cons_succ, List.set_cons_zero, List.set_cons_succ] at hH
            subst hH
            have hr5 := R.on_text hr4 64
            generalize e5 : r4.text 64 = t5 at *
            obtain ⟨r5, pa⟩ := t5
            simp only at *
            refine ops_ro' rfl (ro_assign rfl) rfl ?_
            refine ops_nil ?_
            refine Then_normal ?_
            refine wp_seq' ?_
            refine wp_seq' ?_
            refine wp_region' ?_
            refine ops_ro' rfl (ro_move rfl) rfl ?_
            refine ops_eff' rfl (eff_call Try.call85 rfl rfl (by repeat (first | exact Split.nil _ | apply Split.cons 0 rfl | apply Split.cons 1 rfl | apply Split.cons 2 rfl | apply Split.cons 3 rfl | apply Split.cons 4 rfl | apply Split.cons 5 rfl | apply Split.cons 6 rfl | apply Split.cons 7 rfl | apply Split.cons 8 rfl | apply Split.cons 9 rfl | apply Split.cons 10 rfl | apply Split.cons 11 rfl)) (qFine pr q cr b r5 hr5 hi.len)) rfl ?_
            rintro _ H' ⟨_, ⟨rfl, rfl⟩, hH⟩
            simp only [List.cons_append, List.nil_append, List.eraseIdx_cons_zero, List.eraseIdx_cons_succ, List.set_cons_zero, List.set_cons_succ] at hH
            subst hH
            refine ops_ro' rfl (ro_not rfl rfl) rfl ?_
            refine ops_split rfl rfl rfl (fun hg49 => ?_) (fun hg49 => ?_)
            · simp only [Bool.and_eq_true, decide_eq_true_eq, Bool.not_eq_true', decide_eq_false_iff_not, bne_iff_ne, ne_eq] at hg49
              refine ops_skip' rfl rfl ?_
              refine ops_ro' rfl (ro_pick rfl rfl) rfl ?_
              refine ops_nil ?_
              refine Then_normal ?_
              refine wp_condT rfl ?_
              refine wp_seq' ?_
              refine wp_region' ?_
              refine ops_ro' rfl (ro_move rfl) rfl ?_
              refine ops_eff' rfl (eff_call Try.call86 rfl rfl (by repeat (first | exact Split.nil _ | apply Split.cons 0 rfl | apply Split.cons 1 rfl | apply Split.cons 2 rfl | apply Split.cons 3 rfl | apply Split.cons 4 rfl | apply Split.cons 5 rfl | apply Split.cons 6 rfl | apply Split.cons 7 rfl | apply Split.cons 8 rfl | apply Split.cons 9 rfl | apply Split.cons 10 rfl | apply Split.cons 11 rfl)) (rqEnd_spec bw p us.length c g 2)) rfl ?_
              rintro _ H' ⟨_, rfl, hH⟩
              simp only [List.cons_append, List.nil_append, List.eraseIdx_cons_zero, List.eraseIdx_cons_succ, List.set_cons_zero, List.set_cons_succ] at hH
              subst hH
              refine ops_ro' rfl (ro_assign rfl) rfl ?_
              refine ops_nil ?_
              refine Then_normal ?_
              refine wp_ret' ?_
              refine Then_ret ?_
              refine' doneS_ret (res1 rfl rfl) ?_ ?_
              rotate_left 1
              have HX : gLogin g us r = gEnd g 2 := by
                rw [hE, gLogE, if_neg (by rintro (h | h) <;> simp_all), if_neg (by simpa using hc33), if_neg hc35, if_neg hc39, e4]
                simp only
                rw [e5]
                simp only
                rw [gLog2, if_pos (by first | exact .inr hg49 | exact .inl hc51 | exact .inr (by simpa using hg49) | exact .inl (by simpa using hc51) | (left; omega) | (right; omega))]
              rw [HX]
              exact (SubH.cons 0 rfl (SubH.cons 0 rfl (SubH.cons 1 rfl (SubH.nil _))))
            · simp only [Bool.and_eq_false_iff, decide_eq_false_iff_not, Bool.not_eq_false', decide_eq_true_eq] at hg49
              refine ops_ro' rfl (ro_move rfl) rfl ?_
              refine ops_ro' rfl (ro_pick rfl rfl) rfl ?_
              refine ops_nil ?_
              refine Then_normal ?_
              refine wp_cond' rfl (fun hc51 => ?_) (fun hc51 => ?_)
              · replace hc51 := of_decide_eq_true hc51
                refine wp_seq' ?_
                refine wp_region' ?_
                refine ops_ro' rfl (ro_move rfl) rfl ?_
                refine ops_eff' rfl (eff_call Try.call86 rfl rfl (by repeat (first | exact Split.nil _ | apply Split.cons 0 rfl | apply Split.cons 1 rfl | apply Split.cons 2 rfl | apply Split.cons 3 rfl | apply Split.cons 4 rfl | apply Split.cons 5 rfl | apply Split.cons 6 rfl | apply Split.cons 7 rfl | apply Split.cons 8 rfl | apply Split.cons 9 rfl | apply Split.cons 10 rfl | apply Split.cons 11 rfl)) (rqEnd_spec bw p us.length c g 2)) rfl ?_
                rintro _ H' ⟨_, rfl, hH⟩
                simp only [List.cons_append, List.nil_append, List.eraseIdx_cons_zero, List.eraseIdx_cons_succ, List.set_cons_zero, List.set_cons_succ] at hH
                subst hH
                refine ops_ro' rfl (ro_assign rfl) rfl ?_
                refine ops_nil ?_
                refine Then_normal ?_
                refine wp_ret' ?_
                refine Then_ret ?_
                refine' doneS_ret (res1 rfl rfl) ?_ ?_
                rotate_left 1
                have HX : gLogin g us r = gEnd g 2 := by
                  rw [hE, gLogE, if_neg (by rintro (h | h) <;> simp_all), if_neg (by simpa using hc33), if_neg hc35, if_neg hc39, e4]
                  simp only
                  rw [e5]
                  simp only
                  rw [gLog2, if_pos (by first | exact .inr hg49 | exact .inl hc51 | exact .inr (by simpa using hg49) | exact .inl (by simpa using hc51) | (left; omega) | (right; omega))]
                rw [HX]
                exact (SubH.cons 0 rfl (SubH.cons 0 rfl (SubH.cons 1 rfl (SubH.nil _))))
              · replace hc51 := of_decide_eq_false hc51
                refine wp_skip' ?_
                refine Then_normal ?_
                refine wp_seq' ?_
                refine wp_seq' ?_
                refine wp_region' ?_
                refine ops_ro' rfl (ro_assign rfl) rfl ?_
                refine ops_nil ?_
                refine Then_normal ?_
                refine wp_block' ?_
                refine wp_loopK 17 (fun m Δ LL => ∃ (i : Nat), (i + m = us.length ∧ (⟨nm, pa⟩ : Us) ∉ us.take i) ∧ Δ = [(10, .int .i64 (i : Nat))] ∧ LL = [gr bw p us.length c g, V]) (m := us.length) (Has.cons (k := 0) rfl (Has.cons (k := 5) rfl (Has.cons (k := 9) rfl (Has.nil _)))) (kept ⟨0, ⟨by omega, by simp⟩, rfl, rfl⟩ (by repeat (first | exact Has.nil _ | refine Has.cons rfl ?_)) (by repeat (first | exact Has.nil _ | refine Has.cons rfl ?_)) (by repeat (first | exact SubH.nil _ | refine SubH.cons 0 rfl ?_ | refine SubH.cons 1 rfl ?_ | refine SubH.cons 2 rfl ?_ | refine SubH.cons 3 rfl ?_ | refine SubH.cons 4 rfl ?_ | refine SubH.cons 5 rfl ?_ | refine SubH.cons 6 rfl ?_ | refine SubH.cons 7 rfl ?_ | refine SubH.cons 8 rfl ?_ | refine SubH.cons 9 rfl ?_ | refine SubH.cons 10 rfl ?_ | refine SubH.cons 11 rfl ?_ | refine SubH.cons 12 rfl ?_ | refine SubH.cons 13 rfl ?_ | refine SubH.rown ?_))) ?_
                rintro m Δ LL ⟨i, ⟨hm, hnt⟩, rfl, rfl⟩
                simp only [List.cons_append, List.nil_append]
                refine wp_seq' ?_
                refine wp_seq' ?_
                refine wp_region' ?_
                refine ops_ro' rfl (ro_move rfl) rfl ?_
                refine ops_ro' rfl (ro_move rfl) rfl ?_
                refine ops_ro' rfl (ro_nilCheck rfl) rfl ?_
                refine ops_ro' rfl (ro_fieldAddr fa89_0 rfl) rfl ?_
                refine ops_ro' rfl (ro_load sc31 rfl (Rd.pick 0 rfl (Rd.own rfl))) rfl ?_
                refine ops_ro' rfl (ro_sliceLen Try.underlying31 rfl) rfl ?_
                refine ops_ro' rfl (ro_lss rfl rfl rfl) rfl ?_
                refine ops_nil ?_
                refine Then_normal ?_
                refine wp_cond' rfl (fun hc60 => ?_) (fun hc60 => ?_)
                · replace hc60 := of_decide_eq_true hc60
                  refine wp_skip' ?_
                  refine Then_normal ?_
                  refine wp_seq' ?_
                  refine wp_block' ?_
                  refine wp_seq' ?_
                  have hk : i < us.length := by omega
                  refine wp_know (fun w F s => vw_ptr (Vw.pick (H := [_, V]) 1 rfl hU) s (by omega)) ?_
                  rintro ⟨b0, o0, rfl⟩
                  refine wp_region' ?_
                  refine ops_ro' rfl (ro_move rfl) rfl ?_
                  refine ops_ro' rfl (ro_nilCheck rfl) rfl ?_
                  refine ops_ro' rfl (ro_fieldAddr fa89_0 rfl) rfl ?_
                  refine ops_ro' rfl (ro_load sc31 rfl (Rd.pick 0 rfl (Rd.own rfl))) rfl ?_
                  refine ops_ro' rfl (ro_move rfl) rfl ?_
                  refine ops_ro' rfl (ro_indexSlice sl31 rfl rfl rfl (by omega)) rfl ?_
                  refine ops_ro' rfl (ro_fieldAddr fa30_0 rfl) rfl ?_
                  refine ops_ro' rfl (ro_load sc9 rfl (Rd.pick 1 rfl (Rd.elem (j := 0) (vw_rdn hU) Us.len (List.getElem?_eq_getElem hk) rfl))) rfl ?_
                  refine ops_ro' rfl (ro_move rfl) rfl ?_
                  refine ops_ro' rfl (ro_eqlS rfl rfl rfl) rfl ?_
                  refine ops_split rfl rfl rfl (fun hg73 => ?_) (fun hg73 => ?_)
                  · replace hg73 := of_decide_eq_true hg73
                    refine ops_ro' rfl (ro_move rfl) rfl ?_
                    refine ops_ro' rfl (ro_nilCheck rfl) rfl ?_
                    refine ops_ro' rfl (ro_fieldAddr fa89_0 rfl) rfl ?_
                    refine ops_ro' rfl (ro_load sc31 rfl (Rd.pick 0 rfl (Rd.own rfl))) rfl ?_
                    refine ops_ro' rfl (ro_move rfl) rfl ?_
                    refine ops_ro' rfl (ro_indexSlice sl31 rfl rfl rfl (by omega)) rfl ?_
                    refine ops_ro' rfl (ro_fieldAddr fa30_1 rfl) rfl ?_
                    refine ops_ro' rfl (ro_load sc9 rfl (Rd.pick 1 rfl (Rd.elem (j := 1) (vw_rdn hU) Us.len (List.getElem?_eq_getElem hk) rfl))) rfl ?_
                    refine ops_ro' rfl (ro_move rfl) rfl ?_
                    refine ops_ro' rfl (ro_eqlS rfl rfl rfl) rfl ?_
                    refine ops_ro' rfl (ro_pick rfl rfl) rfl ?_
                    refine ops_nil ?_
                    refine Then_normal ?_
                    refine wp_cond' rfl (fun hc84 => ?_) (fun hc84 => ?_)
                    · replace hc84 := of_decide_eq_true hc84
                      refine wp_seq' ?_
                      refine wp_region' ?_
                      refine ops_ro' rfl (ro_move rfl) rfl ?_
                      refine ops_ro' rfl (ro_nilCheck rfl) rfl ?_
                      refine ops_ro' rfl (ro_fieldAddr fa89_2 rfl) rfl ?_
                      refine ops_eff0 rfl (eff_store 0 sc4 rfl rfl rfl rfl (Nat.le_of_ble_eq_true rfl) (warm_zero _)) rfl ?_
                      rintro _ _ rfl
                      refine ops_nil ?_
                      refine Then_normal ?_
                      refine wp_seq' ?_
                      refine wp_region' ?_
                      refine ops_ro' rfl (ro_move rfl) rfl ?_
                      refine ops_ro' rfl (ro_move rfl) rfl ?_
                      refine ops_ro' rfl (ro_nilCheck rfl) rfl ?_
                      refine ops_ro' rfl (ro_fieldAddr fa89_3 rfl) rfl ?_
                      refine ops_eff0 rfl (eff_store 0 sc9 rfl rfl rfl rfl (Nat.le_of_ble_eq_true rfl) (warm_zero _)) rfl ?_
                      rintro _ _ rfl
                      refine ops_nil ?_
                      refine Then_normal ?_
                      refine wp_seq' ?_
                      refine wp_region' ?_
                      refine ops_eff' rfl (eff_lit sl32 rfl (sbld (cs := cel [52]) [(.int .u8 0)] sl32 (by decide) (by kernel_rfl) rfl) rfl (by decide)) rfl ?_
                      rintro _ _ ⟨b92, rfl, rfl⟩
                      refine ops_eff' rfl (eff_lit sl36 rfl (sbld (cs := [_]) [(.slice none 0 0)] sl36 (by decide) (by kernel_rfl) rfl) rfl (by decide)) rfl ?_
                      rintro _ _ ⟨b93, rfl, rfl⟩
                      refine ops_ro' rfl (ro_assign rfl) rfl ?_
                      refine ops_nil ?_
                      refine Then_normal ?_
                      refine wp_ret' ?_
                      refine InBlock_ret ?_
                      refine Then_ret ?_
                      refine Then_ret ?_
                      refine InBlock_ret ?_
                      refine Then_ret ?_
                      refine doneS_pre (ansP_fold (x := [52])) ?_
                      refine' doneS_ret (res1 rfl rfl) ?_ ?_
                      rotate_left 1
                      have HX : gLogin g us r = ({ g with user := nm, inn := true }, some [52]) := by
                        rw [hE, gLogE, if_neg (by rintro (h | h) <;> simp_all), if_neg (by simpa using hc33), if_neg hc35, if_neg hc39, e4]
                        simp only
                        rw [e5]
                        simp only
                        rw [gLog2, if_neg (by rintro (h | h) <;> simp_all), if_pos (by (exact us_in1 (by assumption) (by first | assumption | (simp_all; done)) (by first | assumption | (simp_all; done))))]
                      rw [HX]
                      exact SubH.refl _
                    · replace hc84 := of_decide_eq_false hc84
                      refine wp_skip' ?_
                      refine InBlock_normal ?_
                      refine Then_normal ?_
                      refine wp_region' ?_
                      refine ops_ro' rfl (ro_move rfl) rfl ?_
                      refine ops_ro' rfl (ro_add rfl rfl (wrap_inc (by omega))) rfl ?_
                      refine ops_ro' rfl (ro_assign rfl) rfl ?_
                      refine ops_nil ?_
                      refine Then_normal ?_
                      refine back (m - 1) (by omega) (kept ⟨i + 1, ⟨by omega, by (exact us_out1 (by assumption) (by assumption) (by first | exact .inl (by assumption) | exact .inr (by assumption) | (left; simp_all; done) | (right; simp_all; done)))⟩, rfl, rfl⟩ ?_ ?_ ?_)
                      · exact (by repeat (first | exact Has.nil _ | refine Has.cons rfl ?_))
                      · exact (by repeat (first | exact Has.nil _ | refine Has.cons rfl ?_))
                      · exact SubH.refl _
                  · replace hg73 := of_decide_eq_false hg73
                    refine ops_skip' rfl rfl ?_
                    refine ops_skip' rfl rfl ?_
                    refine ops_skip' rfl rfl ?_
                    refine ops_skip' rfl rfl ?_
                    refine ops_skip' rfl rfl ?_
                    refine ops_skip' rfl rfl ?_
                    refine ops_skip' rfl rfl ?_
                    refine ops_skip' rfl rfl ?_
                    refine ops_skip' rfl rfl ?_
                    refine ops_skip' rfl rfl ?_
                    refine ops_ro' rfl (ro_pick rfl rfl) rfl ?_
                    refine ops_nil ?_
                    refine Then_normal ?_
                    refine wp_condF rfl ?_
                    refine wp_skip' ?_
                    refine InBlock_normal ?_
                    refine Then_normal ?_
                    refine wp_region' ?_
                    refine ops_ro' rfl (ro_move rfl) rfl ?_
                    refine ops_ro' rfl (ro_add rfl rfl (wrap_inc (by omega))) rfl ?_
                    refine ops_ro' rfl (ro_assign rfl) rfl ?_
                    refine ops_nil ?_
                    refine Then_normal ?_
                    refine back (m - 1) (by omega) (kept ⟨i + 1, ⟨by omega, by (exact us_out1 (by assumption) (by assumption) (by first | exact .inl (by assumption) | exact .inr (by assumption) | (left; simp_all; done) | (right; simp_all; done)))⟩, rfl, rfl⟩ ?_ ?_ ?_)
                    · exact (by repeat (first | exact Has.nil _ | refine Has.cons rfl ?_))
                    · exact (by repeat (first | exact Has.nil _ | refine Has.cons rfl ?_))
                    · exact SubH.refl _
                · replace hc60 := of_decide_eq_false hc60
                  refine wp_exit' ?_
                  refine Then_exit ?_
                  refine Then_exit ?_
                  refine InBlock_here ?_
                  refine Then_normal ?_
                  refine wp_seq' ?_
                  refine wp_region' ?_
                  refine ops_ro' rfl (ro_move rfl) rfl ?_
                  refine ops_eff' rfl (eff_call Try.call113 rfl rfl (by repeat (first | exact Split.nil _ | apply Split.cons 0 rfl | apply Split.cons 1 rfl | apply Split.cons 2 rfl | apply Split.cons 3 rfl | apply Split.cons 4 rfl | apply Split.cons 5 rfl | apply Split.cons 6 rfl | apply Split.cons 7 rfl | apply Split.cons 8 rfl | apply Split.cons 9 rfl | apply Split.cons 10 rfl | apply Split.cons 11 rfl)) (rqTry_spec bw p us.length c g ht)) rfl ?_
                  rintro _ H' ⟨_, rfl, hH⟩
                  simp only [List.cons_append, List.nil_append, List.eraseIdx_cons_zero, List.eraseIdx_cons_succ, List.set_cons_zero, List.set_cons_succ] at hH
                  subst hH
                  refine ops_ro' rfl (ro_assign rfl) rfl ?_
                  refine ops_nil ?_
                  refine Then_normal ?_
                  refine wp_ret' ?_
                  refine' doneS_ret (res1 rfl rfl) ?_ ?_
                  rotate_left 1
                  have HX : gLogin g us r = gTry g := by
                    rw [hE, gLogE, if_neg (by rintro (h | h) <;> simp_all), if_neg (by simpa using hc33), if_neg hc35, if_neg hc39, e4]
                    simp only
                    rw [e5]
                    simp only
                    rw [gLog2, if_neg (by rintro (h | h) <;> simp_all), if_neg (by rw [List.take_of_length_le (by omega)] at hnt; exact hnt)]
                  rw [HX]
                  exact SubH.refl _


theorem rqDo_spec (V : HProp) (bw : Nat) (p : Option Addr) (c : Nat) (g : Gs) (ht : g.tries ≤ 100000) (us : List Us) (hU : Vw V (.slice p us.length c) us.length (flat Us.cs us)) (hul : us.length ≤ 140737488355328) (pb : Option Addr) (b : List UInt8) (cb : Nat) (hB : Vw V (.slice pb b.length cb) b.length (cel b)) (hcb : b.length ≤ cb) (hbl : b.length ≤ 140737488355328) :
    Tri Try.prog 46 [.pointer (some ⟨bw, 0, none⟩), .slice pb b.length cb] [gr bw p us.length c g, V] (fun v H' => H' = [ansP v (gDo g us b).2, gr bw p us.length c (gDo g us b).1, V]) := by
  refine tri_of_wpS Try.func46 rfl Try.ntmps46 (by simp) ?_
  refine wp_seq' ?_
  refine wp_region' ?_
  refine ops_ro' rfl (ro_assign rfl) rfl ?_
  refine ops_nil ?_
  refine Then_normal ?_
  refine wp_seq' ?_
  refine wp_seq' ?_
  refine wp_region' ?_
  refine ops_ro' rfl (ro_move rfl) rfl ?_
  refine ops_ro' rfl (ro_nilCheck rfl) rfl ?_
  refine ops_ro' rfl (ro_fieldAddr fa89_5 rfl) rfl ?_
  refine ops_ro' rfl (ro_load sc4 rfl (Rd.pick 0 rfl (Rd.own rfl))) rfl ?_
  refine ops_split rfl rfl rfl (fun hg11 => ?_) (fun hg11 => ?_)
  · skip
    refine ops_skip' rfl rfl ?_
    refine ops_skip' rfl rfl ?_
    refine ops_skip' rfl rfl ?_
    refine ops_ro' rfl (ro_pick rfl rfl) rfl ?_
    refine ops_nil ?_
    refine Then_normal ?_
    refine wp_condT rfl ?_
    refine wp_seq' ?_
    refine wp_region' ?_
    refine ops_ro' rfl (ro_assign rfl) rfl ?_
    refine ops_nil ?_
    refine Then_normal ?_
    refine wp_ret' ?_
    refine Then_ret ?_
    refine doneS_pre (ansP_none _) ?_
    refine' doneS_ret (res1 rfl rfl) ?_ ?_
    rotate_left 1
    rw [gDo_dead hg11]
    exact SubH.refl _
  · skip
    refine ops_ro' rfl (ro_move rfl) rfl ?_
    refine ops_ro' rfl (ro_sliceLen Try.underlying32 rfl) rfl ?_
    refine ops_ro' rfl (ro_eql rfl rfl rfl) rfl ?_
    refine ops_ro' rfl (ro_pick rfl rfl) rfl ?_
    refine ops_nil ?_
    refine Then_normal ?_
    refine wp_cond' rfl (fun hc15 => ?_) (fun hc15 => ?_)
    · replace hc15 := of_decide_eq_true hc15
      refine wp_seq' ?_
      refine wp_region' ?_
      refine ops_ro' rfl (ro_assign rfl) rfl ?_
      refine ops_nil ?_
      refine Then_normal ?_
      refine wp_ret' ?_
      refine Then_ret ?_
      refine doneS_pre (ansP_none _) ?_
      refine' doneS_ret (res1 rfl rfl) ?_ ?_
      rotate_left 1
      rw [gDo_nil (by omega)]
      exact SubH.refl _
    · replace hc15 := of_decide_eq_false hc15
      refine wp_skip' ?_
      refine Then_normal ?_
      refine wp_seq' ?_
      obtain ⟨x, rest, rfl⟩ : ∃ x rest, b = x :: rest := List.exists_cons_of_length_pos (by omega)
      have hxl := UInt8.toNat_lt x
      have hi : Rin V pb cb (x :: rest) := ⟨hB, hcb, hbl⟩
      refine wp_region' ?_
      refine ops_ro' rfl (ro_move rfl) rfl ?_
      refine ops_ro' rfl (ro_build rfl (bld_struct (cs := [.slice pb (x :: rest).length cb, .int .i64 0, .bool false, .int .i64 0, .int .i64 0]) st134 rfl)) rfl ?_
      refine ops_eff' rfl (eff_box rfl) rfl ?_
      rintro _ _ ⟨b18, rfl, rfl⟩
      refine ops_ro' rfl (ro_assign rfl) rfl ?_
      refine ops_nil ?_
      refine Then_normal ?_
      refine wp_seq' ?_
      refine wp_seq' ?_
      refine wp_sub' (L := [rq b18 (.slice pb (x :: rest).length cb) (R.new (x :: rest)), gr bw p us.length c g, V]) (by show SubH _ _; rw [rq_no (show (R.new (x :: rest)).why = 0 from rfl)]; exact (by repeat (first | exact SubH.nil _ | refine SubH.cons 0 rfl ?_ | refine SubH.cons 1 rfl ?_ | refine SubH.cons 2 rfl ?_ | refine SubH.cons 3 rfl ?_ | refine SubH.cons 4 rfl ?_ | refine SubH.cons 5 rfl ?_ | refine SubH.cons 6 rfl ?_ | refine SubH.cons 7 rfl ?_ | refine SubH.cons 8 rfl ?_ | refine SubH.cons 9 rfl ?_ | refine SubH.cons 10 rfl ?_ | refine SubH.cons 11 rfl ?_ | refine SubH.cons 12 rfl ?_ | refine SubH.cons 13 rfl ?_ | refine SubH.rown ?_))) ?_
      refine wp_region' ?_
      refine ops_ro' rfl (ro_move rfl) rfl ?_
      refine ops_eff' rfl (eff_callM (Pre := [_]) Try.call83 rfl rfl (by repeat (first | exact Split.nil _ | apply Split.cons 0 rfl | apply Split.cons 1 rfl | apply Split.cons 2 rfl | apply Split.cons 3 rfl | apply Split.cons 4 rfl | apply Split.cons 5 rfl | apply Split.cons 6 rfl | apply Split.cons 7 rfl | apply Split.cons 8 rfl | apply Split.cons 9 rfl | apply Split.cons 10 rfl | apply Split.cons 11 rfl)) (qByte b18 pb cb (x :: rest) (R.new (x :: rest)) (by first | exact ⟨Vw.pick 0 rfl hi.vw, hi.cap, hi.len⟩ | exact ⟨Vw.pick 1 rfl hi.vw, hi.cap, hi.len⟩ | exact ⟨Vw.pick 2 rfl hi.vw, hi.cap, hi.len⟩) (R.on_new _))) rfl ?_
      rintro _ H' ⟨_, ⟨rfl, rfl⟩, hH⟩
      simp only [List.cons_append, List.nil_append, List.eraseIdx_cons_zero, List.eraseIdx_cons_succ, List.set_cons_zero, List.set_cons_succ] at hH
      subst hH
      rw [R.first x rest]
      simp only
      have hr1 : (⟨x :: rest, 1, 0, 0⟩ : R).On (x :: rest) := ⟨rfl, by simp⟩
      refine ops_nil ?_
      refine Then_normal ?_
      refine wp_block' ?_
      refine wp_seq' ?_
      refine wp_region' ?_
      refine ops_ro' rfl (ro_eql rfl rfl rfl) rfl ?_
      refine ops_ro' rfl (ro_assign rfl) rfl ?_
      refine ops_nil ?_
      refine Then_normal ?_
      refine wp_cond' rfl (fun hc21 => ?_) (fun hc21 => ?_)
      · replace hc21 := of_decide_eq_true hc21
        refine wp_seq' ?_
        refine wp_region' ?_
        refine ops_ro' rfl (ro_move rfl) rfl ?_
        refine ops_ro' rfl (ro_nilCheck rfl) rfl ?_
        refine ops_ro' rfl (ro_fieldAddr fa89_5 rfl) rfl ?_
        refine ops_eff0 rfl (eff_store 1 sc4 rfl rfl rfl rfl (Nat.le_of_ble_eq_true rfl) (warm_zero _)) rfl ?_
        rintro _ _ rfl
        refine ops_nil ?_
        refine Then_normal ?_
        refine wp_seq' ?_
        refine wp_region' ?_
        refine ops_ro' rfl (ro_assign rfl) rfl ?_
        refine ops_nil ?_
        refine Then_normal ?_
        refine wp_ret' ?_
        refine InBlock_ret ?_
        refine Then_ret ?_
        refine doneS_pre (ansP_none _) ?_
        refine' doneS_ret (res1 rfl rfl) ?_ ?_
        rotate_left 1
        have HX : gDo g us (x :: rest) = ({ g with dead := true }, none) := by rw [gDo_cons]; rw [if_neg (by simp_all)]; rw [if_pos (by omega)]
        rw [HX]
        exact (SubH.cons 0 rfl (SubH.cons 1 rfl (SubH.cons 1 rfl (SubH.nil _))))
      · replace hc21 := of_decide_eq_false hc21
        refine wp_seq' ?_
        refine wp_seq' ?_
        refine wp_region' ?_
        refine ops_ro' rfl (ro_eql rfl rfl rfl) rfl ?_
        refine ops_ro' rfl (ro_assign rfl) rfl ?_
        refine ops_nil ?_
        refine Then_normal ?_
        refine wp_cond' rfl (fun hc26 => ?_) (fun hc26 => ?_)
        · replace hc26 := of_decide_eq_true hc26
          refine wp_skip' ?_
          refine Then_normal ?_
          refine wp_cond' rfl (fun hc26 => ?_) (fun hc26 => ?_)
          · replace hc26 := of_decide_eq_true hc26
            refine wp_seq' ?_
            refine wp_region' ?_
            refine ops_ro' rfl (ro_assign rfl) rfl ?_
            refine ops_nil ?_
            refine Then_normal ?_
            refine wp_ret' ?_
            refine InBlock_ret ?_
            refine Then_ret ?_
            refine doneS_pre (ansP_none _) ?_
            refine' doneS_ret (res1 rfl rfl) ?_ ?_
            rotate_left 1
            have HX : gDo g us (x :: rest) = (g, none) := by rw [gDo_cons]; rw [if_neg (by simp_all)]; rw [if_neg (by omega), if_pos (by omega)]
            rw [HX]
            exact (SubH.cons 0 rfl (SubH.cons 1 rfl (SubH.cons 1 rfl (SubH.nil _))))
          · replace hc26 := of_decide_eq_false hc26
            exfalso; omega
        · replace hc26 := of_decide_eq_false hc26
          refine wp_seq' ?_
          refine wp_region' ?_
          refine ops_ro' rfl (ro_eql rfl rfl rfl) rfl ?_
          refine ops_ro' rfl (ro_assign rfl) rfl ?_
          refine ops_nil ?_
          refine Then_normal ?_
          refine wp_cond' rfl (fun hc26 => ?_) (fun hc26 => ?_)
          · replace hc26 := of_decide_eq_true hc26
            refine wp_skip' ?_
            refine Then_normal ?_
            refine wp_cond' rfl (fun hc26 => ?_) (fun hc26 => ?_)
            · replace hc26 := of_decide_eq_true hc26
              refine wp_seq' ?_
              refine wp_region' ?_
              refine ops_ro' rfl (ro_assign rfl) rfl ?_
              refine ops_nil ?_
              refine Then_normal ?_
              refine wp_ret' ?_
              refine InBlock_ret ?_
              refine Then_ret ?_
              refine doneS_pre (ansP_none _) ?_
              refine' doneS_ret (res1 rfl rfl) ?_ ?_
              rotate_left 1
              have HX : gDo g us (x :: rest) = (g, none) := by rw [gDo_cons]; rw [if_neg (by simp_all)]; rw [if_neg (by omega), if_pos (by omega)]
              rw [HX]
              exact (SubH.cons 0 rfl (SubH.cons 1 rfl (SubH.cons 1 rfl (SubH.nil _))))
            · replace hc26 := of_decide_eq_false hc26
              exfalso; omega
          · replace hc26 := of_decide_eq_false hc26
            refine wp_region' ?_
            refine ops_ro' rfl (ro_eql rfl rfl rfl) rfl ?_
            refine ops_ro' rfl (ro_assign rfl) rfl ?_
            refine ops_nil ?_
            refine Then_normal ?_
            refine wp_cond' rfl (fun hc26 => ?_) (fun hc26 => ?_)
            · replace hc26 := of_decide_eq_true hc26
              refine wp_seq' ?_
              refine wp_region' ?_
              refine ops_ro' rfl (ro_assign rfl) rfl ?_
              refine ops_nil ?_
              refine Then_normal ?_
              refine wp_ret' ?_
              refine InBlock_ret ?_
              refine Then_ret ?_
              refine doneS_pre (ansP_none _) ?_
              refine' doneS_ret (res1 rfl rfl) ?_ ?_
              rotate_left 1
              have HX : gDo g us (x :: rest) = (g, none) := by rw [gDo_cons]; rw [if_neg (by simp_all)]; rw [if_neg (by omega), if_pos (by omega)]
              rw [HX]
              exact (SubH.cons 0 rfl (SubH.cons 1 rfl (SubH.cons 1 rfl (SubH.nil _))))
            · replace hc26 := of_decide_eq_false hc26
              refine wp_seq' ?_
              refine wp_region' ?_
              refine ops_ro' rfl (ro_eql rfl rfl rfl) rfl ?_
              refine ops_ro' rfl (ro_assign rfl) rfl ?_
              refine ops_nil ?_
              refine Then_normal ?_
              refine wp_cond' rfl (fun hc30 => ?_) (fun hc30 => ?_)
              · replace hc30 := of_decide_eq_true hc30
                refine wp_seq' ?_
                refine wp_region' ?_
                refine ops_ro' rfl (ro_move rfl) rfl ?_
                refine ops_eff' rfl (eff_callM (Pre := [_]) Try.call84 rfl rfl (by repeat (first | exact Split.nil _ | apply Split.cons 0 rfl | apply Split.cons 1 rfl | apply Split.cons 2 rfl | apply Split.cons 3 rfl | apply Split.cons 4 rfl | apply Split.cons 5 rfl | apply Split.cons 6 rfl | apply Split.cons 7 rfl | apply Split.cons 8 rfl | apply Split.cons 9 rfl | apply Split.cons 10 rfl | apply Split.cons 11 rfl)) (qText b18 pb cb (x :: rest) ⟨x :: rest, 1, 0, 0⟩ (by first | exact ⟨Vw.pick 0 rfl hi.vw, hi.cap, hi.len⟩ | exact ⟨Vw.pick 1 rfl hi.vw, hi.cap, hi.len⟩ | exact ⟨Vw.pick 2 rfl hi.vw, hi.cap, hi.len⟩) hr1 64 (by decide))) rfl ?_
                rintro _ H' ⟨_, ⟨rfl, rfl⟩, hH⟩
                simp only [List.cons_append, List.nil_append, List.eraseIdx_cons_zero, List.eraseIdx_cons_succ, List.set_cons_zero, List.set_cons_succ] at hH
                subst hH
                have hr2 := R.on_text hr1 64
                have htl := R.text_len ⟨x :: rest, 1, 0, 0⟩ 64
                have hE : gAsk g ⟨x :: rest, 1, 0, 0⟩ = gAskE g (R.text ⟨x :: rest, 1, 0, 0⟩ 64).1.fin.1 (R.text ⟨x :: rest, 1, 0, 0⟩ 64).2 := rfl
                generalize R.text ⟨x :: rest, 1, 0, 0⟩ 64 = t at *
                obtain ⟨r1, s⟩ := t
                simp only at *
                refine ops_ro' rfl (ro_assign rfl) rfl ?_
                refine ops_nil ?_
                refine Then_normal ?_
                refine wp_seq' ?_
                refine wp_seq' ?_
                refine wp_region' ?_
                refine ops_ro' rfl (ro_move rfl) rfl ?_
                refine ops_eff' rfl (eff_call Try.call85 rfl rfl (by repeat (first | exact Split.nil _ | apply Split.cons 0 rfl | apply Split.cons 1 rfl | apply Split.cons 2 rfl | apply Split.cons 3 rfl | apply Split.cons 4 rfl | apply Split.cons 5 rfl | apply Split.cons 6 rfl | apply Split.cons 7 rfl | apply Split.cons 8 rfl | apply Split.cons 9 rfl | apply Split.cons 10 rfl | apply Split.cons 11 rfl)) (qFine b18 pb cb (x :: rest) r1 hr2 hbl)) rfl ?_
                rintro _ H' ⟨_, ⟨rfl, rfl⟩, hH⟩
                simp only [List.cons_append, List.nil_append, List.eraseIdx_cons_zero, List.eraseIdx_cons_succ, List.set_cons_zero, List.set_cons_succ] at hH
                subst hH
                refine ops_ro' rfl (ro_not rfl rfl) rfl ?_
                refine ops_split rfl rfl rfl (fun hg37 => ?_) (fun hg37 => ?_)
                · simp only [Bool.and_eq_true, decide_eq_true_eq, Bool.not_eq_true', decide_eq_false_iff_not, bne_iff_ne, ne_eq] at hg37
                  refine ops_skip' rfl rfl ?_
                  refine ops_skip' rfl rfl ?_
                  refine ops_skip' rfl rfl ?_
                  refine ops_skip' rfl rfl ?_
                  refine ops_ro' rfl (ro_pick rfl rfl) rfl ?_
                  refine ops_nil ?_
                  refine Then_normal ?_
                  refine wp_condT rfl ?_
                  refine wp_seq' ?_
                  refine wp_region' ?_
                  refine ops_ro' rfl (ro_move rfl) rfl ?_
                  refine ops_eff' rfl (eff_call Try.call86 rfl rfl (by repeat (first | exact Split.nil _ | apply Split.cons 0 rfl | apply Split.cons 1 rfl | apply Split.cons 2 rfl | apply Split.cons 3 rfl | apply Split.cons 4 rfl | apply Split.cons 5 rfl | apply Split.cons 6 rfl | apply Split.cons 7 rfl | apply Split.cons 8 rfl | apply Split.cons 9 rfl | apply Split.cons 10 rfl | apply Split.cons 11 rfl)) (rqEnd_spec bw p us.length c g 2)) rfl ?_
                  rintro _ H' ⟨_, rfl, hH⟩
                  simp only [List.cons_append, List.nil_append, List.eraseIdx_cons_zero, List.eraseIdx_cons_succ, List.set_cons_zero, List.set_cons_succ] at hH
                  subst hH
                  refine ops_ro' rfl (ro_assign rfl) rfl ?_
                  refine ops_nil ?_
                  refine Then_normal ?_
                  refine wp_ret' ?_
                  refine Then_ret ?_
                  refine InBlock_ret ?_
                  refine Then_ret ?_
                  refine' doneS_ret (res1 rfl rfl) ?_ ?_
                  rotate_left 1
                  have HX : gDo g us (x :: rest) = gEnd g 2 := by rw [gDo_cons]; rw [if_neg (by simp_all)]; rw [if_neg (by omega), if_neg (by omega), if_pos (by omega), ← beh_ask (Beh.one x rest) g]; rw [hE, gAskE, if_pos (by first | exact .inl hg37 | exact .inr hc42 | (left; omega) | (right; simpa using hc42) | (left; simpa using hg37))]
                  rw [HX]
                  exact (SubH.cons 0 rfl (SubH.cons 0 rfl (SubH.cons 1 rfl (SubH.nil _))))
                · simp only [Bool.and_eq_false_iff, decide_eq_false_iff_not, Bool.not_eq_false', decide_eq_true_eq] at hg37
                  refine ops_ro' rfl (ro_move rfl) rfl ?_
                  refine ops_ro' rfl (ro_nilCheck rfl) rfl ?_
                  refine ops_ro' rfl (ro_fieldAddr fa89_1 rfl) rfl ?_
                  refine ops_ro' rfl (ro_load sc4 rfl (Rd.pick 1 rfl (Rd.own rfl))) rfl ?_
                  refine ops_ro' rfl (ro_pick rfl rfl) rfl ?_
                  refine ops_nil ?_
                  refine Then_normal ?_
                  refine wp_cond' rfl (fun hc42 => ?_) (fun hc42 => ?_)
                  · skip
                    refine wp_seq' ?_
                    refine wp_region' ?_
                    refine ops_ro' rfl (ro_move rfl) rfl ?_
                    refine ops_eff' rfl (eff_call Try.call86 rfl rfl (by repeat (first | exact Split.nil _ | apply Split.cons 0 rfl | apply Split.cons 1 rfl | apply Split.cons 2 rfl | apply Split.cons 3 rfl | apply Split.cons 4 rfl | apply Split.cons 5 rfl | apply Split.cons 6 rfl | apply Split.cons 7 rfl | apply Split.cons 8 rfl | apply Split.cons 9 rfl | apply Split.cons 10 rfl | apply Split.cons 11 rfl)) (rqEnd_spec bw p us.length c g 2)) rfl ?_
                    rintro _ H' ⟨_, rfl, hH⟩
                    simp only [List.cons_append, List.nil_append, List.eraseIdx_cons_zero, List.eraseIdx_cons_succ, List.set_cons_zero, List.set_cons_succ] at hH
                    subst hH
                    refine ops_ro' rfl (ro_assign rfl) rfl ?_
                    refine ops_nil ?_
                    refine Then_normal ?_
                    refine wp_ret' ?_
                    refine Then_ret ?_
                    refine InBlock_ret ?_
                    refine Then_ret ?_
                    refine' doneS_ret (res1 rfl rfl) ?_ ?_
                    rotate_left 1
                    have HX : gDo g us (x :: rest) = gEnd g 2 := by rw [gDo_cons]; rw [if_neg (by simp_all)]; rw [if_neg (by omega), if_neg (by omega), if_pos (by omega), ← beh_ask (Beh.one x rest) g]; rw [hE, gAskE, if_pos (by first | exact .inl hg37 | exact .inr hc42 | (left; omega) | (right; simpa using hc42) | (left; simpa using hg37))]
                    rw [HX]
                    exact (SubH.cons 0 rfl (SubH.cons 0 rfl (SubH.cons 1 rfl (SubH.nil _))))
                  · skip
                    refine wp_skip' ?_
                    refine Then_normal ?_
                    refine wp_seq' ?_
                    refine wp_seq' ?_
                    refine wp_region' ?_
                    refine ops_ro' rfl (ro_move rfl) rfl ?_
                    refine ops_ro' rfl (ro_neqS (b := tAuth) rfl rfl rfl) rfl ?_
                    refine ops_nil ?_
                    refine Then_normal ?_
                    refine wp_cond' rfl (fun hc46 => ?_) (fun hc46 => ?_)
                    · replace hc46 := of_decide_eq_true hc46
                      refine wp_seq' ?_
                      refine wp_region' ?_
                      refine ops_ro' rfl (ro_move rfl) rfl ?_
                      refine ops_eff' rfl (eff_call Try.call86 rfl rfl (by repeat (first | exact Split.nil _ | apply Split.cons 0 rfl | apply Split.cons 1 rfl | apply Split.cons 2 rfl | apply Split.cons 3 rfl | apply Split.cons 4 rfl | apply Split.cons 5 rfl | apply Split.cons 6 rfl | apply Split.cons 7 rfl | apply Split.cons 8 rfl | apply Split.cons 9 rfl | apply Split.cons 10 rfl | apply Split.cons 11 rfl)) (rqEnd_spec bw p us.length c g 7)) rfl ?_
                      rintro _ H' ⟨_, rfl, hH⟩
                      simp only [List.cons_append, List.nil_append, List.eraseIdx_cons_zero, List.eraseIdx_cons_succ, List.set_cons_zero, List.set_cons_succ] at hH
                      subst hH
                      refine ops_ro' rfl (ro_assign rfl) rfl ?_
                      refine ops_nil ?_
                      refine Then_normal ?_
                      refine wp_ret' ?_
                      refine Then_ret ?_
                      refine InBlock_ret ?_
                      refine Then_ret ?_
                      refine' doneS_ret (res1 rfl rfl) ?_ ?_
                      rotate_left 1
                      have HX : gDo g us (x :: rest) = gEnd g 7 := by rw [gDo_cons]; rw [if_neg (by simp_all)]; rw [if_neg (by omega), if_neg (by omega), if_pos (by omega), ← beh_ask (Beh.one x rest) g]; rw [hE, gAskE, if_neg (by rintro (h | h) <;> simp_all), if_pos hc46]
                      rw [HX]
                      exact (SubH.cons 0 rfl (SubH.cons 0 rfl (SubH.cons 1 rfl (SubH.nil _))))
                    · replace hc46 := of_decide_eq_false hc46
                      refine wp_skip' ?_
                      refine Then_normal ?_
                      refine wp_seq' ?_
                      refine wp_region' ?_
                      refine ops_ro' rfl (ro_move rfl) rfl ?_
                      refine ops_ro' rfl (ro_nilCheck rfl) rfl ?_
                      refine ops_ro' rfl (ro_fieldAddr fa89_1 rfl) rfl ?_
                      refine ops_eff0 rfl (eff_store 1 sc4 rfl rfl rfl rfl (Nat.le_of_ble_eq_true rfl) (warm_zero _)) rfl ?_
                      rintro _ _ rfl
                      refine ops_nil ?_
                      refine Then_normal ?_
                      refine wp_seq' ?_
                      refine wp_region' ?_
                      refine ops_eff' rfl (eff_lit sl32 rfl (sbld (cs := cel [6]) [(.int .u8 0)] sl32 (by decide) (by kernel_rfl) rfl) rfl (by decide)) rfl ?_
                      rintro _ _ ⟨b52, rfl, rfl⟩
                      refine ops_ro' rfl (ro_move rfl) rfl ?_
                      refine ops_eff' rfl (eff_callM (Pre := []) Try.call44 rfl rfl (Split.nil _) (qwText _ _ [6] (by first | exact (Vw.pick 0 rfl hB) | exact (Vw.pick 1 rfl hB) | exact (Vw.pick 2 rfl hB) | exact (Vw.pick 3 rfl hB) | exact (Vw.pick 4 rfl hB) | exact (Vw.pick 5 rfl hB) | exact (Vw.pick 6 rfl hB) | exact (Vw.pick 7 rfl hB) | exact (Vw.pick 8 rfl hB) | exact (Vw.pick 9 rfl hB) | exact Vw.pick 0 rfl Vw.row | exact Vw.pick 1 rfl Vw.row | exact Vw.pick 2 rfl Vw.row | exact Vw.pick 3 rfl Vw.row | exact Vw.pick 4 rfl Vw.row | exact Vw.pick 5 rfl Vw.row | exact Vw.pick 6 rfl Vw.row | exact Vw.pick 7 rfl Vw.row | exact Vw.pick 8 rfl Vw.row | exact Vw.pick 9 rfl Vw.row | exact Vw.nil _ | exact Vw.empty _ _) (by decide) s (by simp; omega))) rfl ?_
                      rintro _ H' ⟨_, ⟨p54, c54, rfl, rfl⟩, hH⟩
                      simp only [List.cons_append, List.nil_append, List.eraseIdx_cons_zero, List.eraseIdx_cons_succ, List.set_cons_zero, List.set_cons_succ] at hH
                      subst hH
                      rw [show [6] ++ be s.length 4 ++ s = b8 6 :: (be s.length 4 ++ s) from rfl]
                      refine ops_eff' rfl (eff_lit sl36 rfl (sbld (cs := [_]) [(.slice none 0 0)] sl36 (by decide) (by kernel_rfl) rfl) rfl (by decide)) rfl ?_
                      rintro _ _ ⟨b55, rfl, rfl⟩
                      refine ops_ro' rfl (ro_assign rfl) rfl ?_
                      refine ops_nil ?_
                      refine Then_normal ?_
                      refine wp_ret' ?_
                      refine InBlock_ret ?_
                      refine Then_ret ?_
                      refine doneS_pre ansP_fold ?_
                      refine' doneS_ret (res1 rfl rfl) ?_ ?_
                      rotate_left 1
                      have HX : gDo g us (x :: rest) = ({ g with sv := true }, some (b8 6 :: (be s.length 4 ++ s))) := by rw [gDo_cons]; rw [if_neg (by simp_all)]; rw [if_neg (by omega), if_neg (by omega), if_pos (by omega), ← beh_ask (Beh.one x rest) g]; rw [hE, gAskE, if_neg (by rintro (h | h) <;> simp_all), if_neg hc46]
                      rw [HX]
                      exact (SubH.cons 0 rfl (SubH.cons 2 rfl (SubH.cons 2 rfl (SubH.nil _))))
              · replace hc30 := of_decide_eq_false hc30
                refine wp_seq' ?_
                refine wp_region' ?_
                refine ops_ro' rfl (ro_eql rfl rfl rfl) rfl ?_
                refine ops_ro' rfl (ro_assign rfl) rfl ?_
                refine ops_nil ?_
                refine Then_normal ?_
                refine wp_cond' rfl (fun hc56 => ?_) (fun hc56 => ?_)
                · replace hc56 := of_decide_eq_true hc56
                  refine wp_seq' ?_
                  refine wp_region' ?_
                  refine ops_ro' rfl (ro_move rfl) rfl ?_
                  refine ops_ro' rfl (ro_move rfl) rfl ?_
                  refine ops_eff' rfl (eff_call Try.call87 rfl rfl (by repeat (first | exact Split.nil _ | apply Split.cons 0 rfl | apply Split.cons 1 rfl | apply Split.cons 2 rfl | apply Split.cons 3 rfl | apply Split.cons 4 rfl | apply Split.cons 5 rfl | apply Split.cons 6 rfl | apply Split.cons 7 rfl | apply Split.cons 8 rfl | apply Split.cons 9 rfl | apply Split.cons 10 rfl | apply Split.cons 11 rfl)) (rqAsk_spec bw b18 p pb c cb g ht us V hU hul (x :: rest) ⟨x :: rest, 1, 0, 0⟩ ⟨hB, hcb, hbl⟩ hr1)) rfl ?_
                  rintro _ H' ⟨_, rfl, hH⟩
                  simp only [List.cons_append, List.nil_append, List.eraseIdx_cons_zero, List.eraseIdx_cons_succ, List.set_cons_zero, List.set_cons_succ] at hH
                  subst hH
                  refine ops_ro' rfl (ro_assign rfl) rfl ?_
                  refine ops_nil ?_
                  refine Then_normal ?_
                  refine wp_ret' ?_
                  refine InBlock_ret ?_
                  refine Then_ret ?_
                  refine' doneS_ret (res1 rfl rfl) ?_ ?_
                  rotate_left 1
                  have HX : gDo g us (x :: rest) = gLogin g us ⟨x :: rest, 1, 0, 0⟩ := by rw [gDo_cons]; rw [if_neg (by simp_all)]; rw [if_neg (by omega), if_neg (by omega), if_neg (by omega), if_pos (by omega), ← beh_login (Beh.one x rest) g us]
                  rw [HX]
                  exact SubH.refl _
                · replace hc56 := of_decide_eq_false hc56
                  refine wp_skip' ?_
                  refine InBlock_normal ?_
                  refine Then_normal ?_
                  refine wp_seq' ?_
                  refine wp_region' ?_
                  refine ops_ro' rfl (ro_move rfl) rfl ?_
                  refine ops_eff' rfl (eff_call Try.call86 rfl rfl (by repeat (first | exact Split.nil _ | apply Split.cons 0 rfl | apply Split.cons 1 rfl | apply Split.cons 2 rfl | apply Split.cons 3 rfl | apply Split.cons 4 rfl | apply Split.cons 5 rfl | apply Split.cons 6 rfl | apply Split.cons 7 rfl | apply Split.cons 8 rfl | apply Split.cons 9 rfl | apply Split.cons 10 rfl | apply Split.cons 11 rfl)) (rqEnd_spec bw p us.length c g 2)) rfl ?_
                  rintro _ H' ⟨_, rfl, hH⟩
                  simp only [List.cons_append, List.nil_append, List.eraseIdx_cons_zero, List.eraseIdx_cons_succ, List.set_cons_zero, List.set_cons_succ] at hH
                  subst hH
                  refine ops_ro' rfl (ro_assign rfl) rfl ?_
                  refine ops_nil ?_
                  refine Then_normal ?_
                  refine wp_ret' ?_
                  refine' doneS_ret (res1 rfl rfl) ?_ ?_
                  rotate_left 1
                  have HX : gDo g us (x :: rest) = gEnd g 2 := by rw [gDo_cons]; rw [if_neg (by simp_all)]; rw [if_neg (by omega), if_neg (by omega), if_neg (by omega), if_neg (by omega)]
                  rw [HX]
                  exact (SubH.cons 0 rfl (SubH.cons 0 rfl (SubH.cons 1 rfl (SubH.nil _))))
theorem rqDo_K (V : HProp) (bw : Nat) (p : Option Addr) (c : Nat) (g : Gs) (ht : g.tries ≤ 100000) (us : List Us) (hU : Vw V (.slice p us.length c) us.length (flat Us.cs us)) (hul : us.length ≤ 140737488355328) (pb : Option Addr) (b : List UInt8) (cb : Nat) (hB : Vw V (.slice pb b.length cb) b.length (cel b)) (hcb : b.length ≤ cb) (hbl : b.length ≤ 140737488355328) :
    Tri Try.prog 46 [.pointer (some ⟨bw, 0, none⟩), .slice pb b.length cb] [gr bw p us.length c g, V] (fun v H' => ∃ K, (K = [ansP v (gDo g us b).2, gr bw p us.length c (gDo g us b).1]) ∧ H' = K ++ [V]) :=
  tri_post (rqDo_spec V bw p c g ht us hU hul pb b cb hB hcb hbl) fun v H' h => ⟨_, rfl, h⟩

end Go.Proofs.Ytigaolglnnjnmaa
