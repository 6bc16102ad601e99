/-
  Package fsm: open.
  Package fsm: what asks a handle.
-/
import Derived.Test.YtlefpllcgcicpaaGreatDoorFsG
set_option linter.unusedVariables false
set_option linter.unusedSimpArgs false
namespace Go.Proofs.YtlefpllcgcicpaaGreatDoor
open Go.Sx
set_option maxRecDepth 100000
set_option maxHeartbeats 4000000
theorem one_ok : (⟨1, 0, 0, 0, 0, 0, 0⟩ : At).Ok := ⟨by decide, by decide, by decide, by decide, by decide, by decide, by decide⟩
theorem bare_ok {a : At} (h : a.Ok) : (bareA a).Ok := ⟨Nat.lt_of_le_of_lt Nat.and_le_left h.f, (by show (0 : Nat) < 18446744073709551616; decide), h.u, h.g, h.m, h.a, h.t⟩
theorem open16_spec {V : HProp} {mb tb : Nat} {t : Tr} {hs : List Hd} {r : Nd} (hW : Wf t r) (htb : t.tb = tb) (hH : HsOk hs) (s : Nat) (hs16 : s < 16) (q : Qr) (hq : q.Ok) (hP : Ml V) (hnx : t.next ≤ 9223372036854775806) : Tri Tryz.prog 64 [.pointer (some ⟨mb, 0, none⟩), .int .i64 (s : Int), q.v] [oMa mb tb hs, tree t, St (hs.map rowN), V]
 (fun v H' => ∃ t' hs' k, v = (k.rep none 0 none 0).v ∧ openR t r hs s q t' hs' k ∧ (∃ r', Wf t' r') ∧ t'.tb = tb ∧ t'.next ≤ t.next + 1 ∧ HsOk hs' ∧ H' = [oMa mb tb hs', tree t', St (hs'.map rowN), V]) := by
 have hl := hH.len
 have hdl := wf_dl2 hW
 cases hf : freeH hs s with
 | none =>
  refine zt Tryz.func64 rfl Tryz.ntmps64 (by simp) ?_; refine zM (zK (zT rfl (qj rfl) rfl ?_)); rintro _ _ ⟨b5, rfl, rfl⟩; refine zT rfl (qL z32) rfl ?_; rintro _ _ ⟨b6, rfl, rfl⟩; refine zN (zI (zM (zK (zH rfl (zL rfl) rfl (zH rfl (zL rfl) rfl ?_))))); refine zT rfl (zy (Pre := []) Tryz.call124 rfl rfl (zR _) (free_spec (xX 2 rfl yL) hl s hs16)) rfl ?_; rintro _ H' ⟨_, ⟨rfl, rfl⟩, hH⟩; simp only [zy7] at hH; subst hH; rw [hf]; dsimp only [freeV]; refine zH rfl (zL rfl) rfl (zH rfl (zu rfl rfl) rfl (zH rfl (zu rfl rfl) rfl (zH rfl (zO rfl) rfl (zH rfl (zO rfl) rfl (zN ?_))))); refine zI (zM (zM (zK (zH rfl (zP fa35_7 rfl) rfl (zH rfl (zW yB rfl (zy4 1 rfl (Rd.own rfl))) rfl ?_))))); refine zH rfl (ya rfl rfl (xE hq.fl (c := 3) (by decide) rfl)) rfl (zH rfl (qQ rfl rfl rfl) rfl (qi rfl rfl rfl (fun hg24 => ?_) (fun hg24 => ?_)))
  ·replace hg24 := zy2 hg24
   refine zZ rfl rfl (zZ rfl rfl (zZ rfl rfl (zZ rfl rfl (zH rfl (zr rfl rfl) rfl (zH rfl (zL (v := .bool true) rfl) rfl ?_))))); refine zZ rfl rfl (zZ rfl rfl (zH rfl (zr rfl rfl) rfl (zN (zI (qG rfl ?_))))); refine zM (zK (zT rfl (zb Tryz.call28 rfl rfl (by repeat (first | exact zR _ | apply zG 0 rfl | apply zG 1 rfl | apply zG 2 rfl | apply zG 3 rfl | apply zG 4 rfl | apply zG 5 rfl | apply zG 6 rfl | apply zG 7 rfl)) (qS 4)) rfl ?_)); rintro _ H' ⟨_, ⟨rfl, rfl⟩, hH⟩; simp only [zy7] at hH; subst hH; refine zo rfl (zm 0 qW rfl rfl rfl rfl rfl (zy1 rfl) (zg _)) rfl ?_; rintro _ _ rfl; simp only [zE, zF]; refine zN (zI (zi ?_)); refine zh ?_; refine' zX (qg rfl (qB qW rfl (zy6 0 rfl zx) rfl)) ?_ ?_
   rotate_left 1
   exact ⟨t, hs, Rk.stat 4, rfl, (by unfold openR; rw [hf]; exact ⟨rfl, rfl, rfl⟩), ⟨r, hW⟩, htb, by omega, hH, rfl⟩
   exact (zJ 2 rfl (zJ 2 rfl (zJ 2 rfl (zJ 2 rfl (zY _)))))
  ·replace hg24 := zy3 hg24
   refine zH rfl (zP fa35_8 rfl) rfl (zH rfl (qX ag30 rfl (zy6 1 rfl (rdn_sub 7)) rfl) rfl (zT rfl (zb Tryz.call30 rfl rfl (by repeat (first | exact zR _ | apply zG 0 rfl | apply zG 1 rfl | apply zG 2 rfl | apply zG 3 rfl | apply zG 4 rfl | apply zG 5 rfl | apply zG 6 rfl | apply zG 7 rfl)) (right_spec q.a hq.a)) rfl ?_)); rintro _ H' ⟨_, ⟨rfl, rfl⟩, hH⟩; simp only [zy7] at hH; subst hH; refine zH rfl (qy rfl rfl) rfl (zH rfl (zr rfl rfl) rfl (qi rfl rfl rfl (fun hg30 => ?_) (fun hg30 => ?_)))
   ·simp only [Bool.and_eq_true, decide_eq_true_eq, Bool.not_eq_true', decide_eq_false_iff_not, bne_iff_ne, ne_eq] at hg30; refine zZ rfl rfl (zZ rfl rfl (zH rfl (zr rfl rfl) rfl (zN (zI (qG rfl ?_))))); refine zM (zK (zT rfl (zb Tryz.call28 rfl rfl (by repeat (first | exact zR _ | apply zG 0 rfl | apply zG 1 rfl | apply zG 2 rfl | apply zG 3 rfl | apply zG 4 rfl | apply zG 5 rfl | apply zG 6 rfl | apply zG 7 rfl)) (qS 4)) rfl ?_)); rintro _ H' ⟨_, ⟨rfl, rfl⟩, hH⟩; simp only [zy7] at hH; subst hH; refine zo rfl (zm 0 qW rfl rfl rfl rfl rfl (zy1 rfl) (zg _)) rfl ?_; rintro _ _ rfl; simp only [zE, zF]; refine zN (zI (zi ?_)); refine zh ?_; refine' zX (qg rfl (qB qW rfl (zy6 0 rfl zx) rfl)) ?_ ?_
    rotate_left 1
    exact ⟨t, hs, Rk.stat 4, rfl, (by unfold openR; rw [hf]; exact ⟨rfl, rfl, rfl⟩), ⟨r, hW⟩, htb, by omega, hH, rfl⟩
    exact (zJ 2 rfl (zJ 2 rfl (zJ 2 rfl (zJ 2 rfl (zY _)))))
   ·simp only [Bool.and_eq_false_iff, decide_eq_false_iff_not, Bool.not_eq_false', decide_eq_true_eq] at hg30; refine zH rfl (zL rfl) rfl (zH rfl (qy rfl rfl) rfl (zH rfl (zr rfl rfl) rfl (zN (zI (qG rfl ?_))))); refine zM (zK (zT rfl (zb Tryz.call28 rfl rfl (by repeat (first | exact zR _ | apply zG 0 rfl | apply zG 1 rfl | apply zG 2 rfl | apply zG 3 rfl | apply zG 4 rfl | apply zG 5 rfl | apply zG 6 rfl | apply zG 7 rfl)) (qS 4)) rfl ?_)); rintro _ H' ⟨_, ⟨rfl, rfl⟩, hH⟩; simp only [zy7] at hH; subst hH; refine zo rfl (zm 0 qW rfl rfl rfl rfl rfl (zy1 rfl) (zg _)) rfl ?_; rintro _ _ rfl; simp only [zE, zF]; refine zN (zI (zi ?_)); refine zh ?_; refine' zX (qg rfl (qB qW rfl (zy6 0 rfl zx) rfl)) ?_ ?_
    rotate_left 1
    exact ⟨t, hs, Rk.stat 4, rfl, (by unfold openR; rw [hf]; exact ⟨rfl, rfl, rfl⟩), ⟨r, hW⟩, htb, by omega, hH, rfl⟩
    exact (zJ 2 rfl (zJ 2 rfl (zJ 2 rfl (zJ 2 rfl (zY _)))))
 | some i =>
  have hi := free_lt hf
  refine zt Tryz.func64 rfl Tryz.ntmps64 (by simp) ?_; refine zM (zK (zT rfl (qj rfl) rfl ?_)); rintro _ _ ⟨b5, rfl, rfl⟩; refine zT rfl (qL z32) rfl ?_; rintro _ _ ⟨b6, rfl, rfl⟩; refine zN (zI (zM (zK (zH rfl (zL rfl) rfl (zH rfl (zL rfl) rfl ?_))))); refine zT rfl (zy (Pre := []) Tryz.call124 rfl rfl (zR _) (free_spec (xX 2 rfl yL) hl s hs16)) rfl ?_; rintro _ H' ⟨_, ⟨rfl, rfl⟩, hH⟩; simp only [zy7] at hH; subst hH; rw [hf]; dsimp only [freeV]; refine zH rfl (zL rfl) rfl (zH rfl (zu rfl rfl) rfl (zH rfl (zu rfl rfl) rfl (zH rfl (zO rfl) rfl (zH rfl (zO rfl) rfl (zN ?_))))); refine zI (zM (zM (zK (zH rfl (zP fa35_7 rfl) rfl (zH rfl (zW yB rfl (zy4 1 rfl (Rd.own rfl))) rfl ?_))))); refine zH rfl (ya rfl rfl (xE hq.fl (c := 3) (by decide) rfl)) rfl (zH rfl (qQ rfl rfl rfl) rfl (qi rfl rfl rfl (fun hg24 => ?_) (fun hg24 => ?_)))
  ·replace hg24 := zy2 hg24
   refine zZ rfl rfl (zZ rfl rfl (zZ rfl rfl (zZ rfl rfl (zH rfl (zr rfl rfl) rfl (zH rfl (zL (v := .bool true) rfl) rfl ?_))))); refine zZ rfl rfl (zZ rfl rfl (zH rfl (zr rfl rfl) rfl (zN (zI (qG rfl ?_))))); refine zM (zK (zT rfl (zb Tryz.call28 rfl rfl (by repeat (first | exact zR _ | apply zG 0 rfl | apply zG 1 rfl | apply zG 2 rfl | apply zG 3 rfl | apply zG 4 rfl | apply zG 5 rfl | apply zG 6 rfl | apply zG 7 rfl)) (qS 4)) rfl ?_)); rintro _ H' ⟨_, ⟨rfl, rfl⟩, hH⟩; simp only [zy7] at hH; subst hH; refine zo rfl (zm 0 qW rfl rfl rfl rfl rfl (zy1 rfl) (zg _)) rfl ?_; rintro _ _ rfl; simp only [zE, zF]; refine zN (zI (zi ?_)); refine zh ?_; refine' zX (qg rfl (qB qW rfl (zy6 0 rfl zx) rfl)) ?_ ?_
   rotate_left 1
   exact ⟨t, hs, Rk.stat 4, rfl, (by unfold openR; rw [hf]; dsimp only; rw [if_pos (.inl (by omega))]; exact ⟨rfl, rfl, rfl⟩), ⟨r, hW⟩, htb, by omega, hH, rfl⟩
   exact (zJ 2 rfl (zJ 2 rfl (zJ 2 rfl (zJ 2 rfl (zY _)))))
  ·replace hg24 := zy3 hg24
   refine zH rfl (zP fa35_8 rfl) rfl (zH rfl (qX ag30 rfl (zy6 1 rfl (rdn_sub 7)) rfl) rfl (zT rfl (zb Tryz.call30 rfl rfl (by repeat (first | exact zR _ | apply zG 0 rfl | apply zG 1 rfl | apply zG 2 rfl | apply zG 3 rfl | apply zG 4 rfl | apply zG 5 rfl | apply zG 6 rfl | apply zG 7 rfl)) (right_spec q.a hq.a)) rfl ?_)); rintro _ H' ⟨_, ⟨rfl, rfl⟩, hH⟩; simp only [zy7] at hH; subst hH; refine zH rfl (qy rfl rfl) rfl (zH rfl (zr rfl rfl) rfl (qi rfl rfl rfl (fun hg30 => ?_) (fun hg30 => ?_)))
   ·simp only [Bool.and_eq_true, decide_eq_true_eq, Bool.not_eq_true', decide_eq_false_iff_not, bne_iff_ne, ne_eq] at hg30; refine zZ rfl rfl (zZ rfl rfl (zH rfl (zr rfl rfl) rfl (zN (zI (qG rfl ?_))))); refine zM (zK (zT rfl (zb Tryz.call28 rfl rfl (by repeat (first | exact zR _ | apply zG 0 rfl | apply zG 1 rfl | apply zG 2 rfl | apply zG 3 rfl | apply zG 4 rfl | apply zG 5 rfl | apply zG 6 rfl | apply zG 7 rfl)) (qS 4)) rfl ?_)); rintro _ H' ⟨_, ⟨rfl, rfl⟩, hH⟩; simp only [zy7] at hH; subst hH; refine zo rfl (zm 0 qW rfl rfl rfl rfl rfl (zy1 rfl) (zg _)) rfl ?_; rintro _ _ rfl; simp only [zE, zF]; refine zN (zI (zi ?_)); refine zh ?_; refine' zX (qg rfl (qB qW rfl (zy6 0 rfl zx) rfl)) ?_ ?_
    rotate_left 1
    exact ⟨t, hs, Rk.stat 4, rfl, (by unfold openR; rw [hf]; dsimp only; rw [if_pos (.inr (.inl (by simpa using hg30)))]; exact ⟨rfl, rfl, rfl⟩), ⟨r, hW⟩, htb, by omega, hH, rfl⟩
    exact (zJ 2 rfl (zJ 2 rfl (zJ 2 rfl (zJ 2 rfl (zY _)))))
   ·simp only [Bool.and_eq_false_iff, decide_eq_false_iff_not, Bool.not_eq_false', decide_eq_true_eq] at hg30; refine zH rfl (zL rfl) rfl (zH rfl (qy rfl rfl) rfl (zH rfl (zr rfl rfl) rfl (zN (zI (qC rfl ?_))))); refine zl ?_; refine zI (zM (zK (zH rfl (zP fa35_1 rfl) rfl (zH rfl (zW sc9 rfl (zy4 1 rfl (Rd.own rfl))) rfl (zT rfl (zb Tryz.call31 rfl rfl (by repeat (first | exact zR _ | apply zG 0 rfl | apply zG 1 rfl | apply zG 2 rfl | apply zG 3 rfl | apply zG 4 rfl | apply zG 5 rfl | apply zG 6 rfl | apply zG 7 rfl)) (xb V hP q.path hq.path)) rfl ?_))))); rintro _ H' ⟨_, ⟨_, ⟨p38, c38, rfl, rfl⟩, rfl⟩, hH⟩; simp only [zy7] at hH; subst hH; have hfew := pSplit_few q.path
    have hlast := pSplit_last q.path
    obtain ⟨pp, hpp⟩ : ∃ z, pSplit q.path = z := ⟨_, rfl⟩
    rw [hpp] at hfew hlast ⊢; refine zH rfl (zL rfl) rfl (zH rfl (zu rfl rfl) rfl (zH rfl (zu rfl rfl) rfl (zH rfl (zO rfl) rfl (zH rfl (zO rfl) rfl (zN ?_))))); refine zI (zM (zM (zK (zH rfl (zL rfl) rfl (zH rfl (q9 rfl rfl rfl) rfl ?_))))); refine zN (zI (zq rfl (fun hc42 => ?_) (fun hc42 => ?_)))
    ·replace hc42 := zy2 hc42
     refine zM (zK (zT rfl (zb Tryz.call28 rfl rfl (by repeat (first | exact zR _ | apply zG 0 rfl | apply zG 1 rfl | apply zG 2 rfl | apply zG 3 rfl | apply zG 4 rfl | apply zG 5 rfl | apply zG 6 rfl | apply zG 7 rfl)) (qS 4)) rfl ?_)); rintro _ H' ⟨_, ⟨rfl, rfl⟩, hH⟩; simp only [zy7] at hH; subst hH; refine zo rfl (zm 2 qW rfl rfl rfl rfl rfl (zy1 rfl) (zg _)) rfl ?_; rintro _ _ rfl; simp only [zE, zF]; refine zN (zI (zi ?_)); refine zh ?_; refine' zX (qg rfl (qB qW rfl (zy6 2 rfl zx) rfl)) ?_ ?_
     rotate_left 1
     exact ⟨t, hs, Rk.stat 4, rfl, (by unfold openR; rw [hf]; dsimp only; rw [if_pos (.inr (.inr (by rw [hpp]; omega)))]; exact ⟨rfl, rfl, rfl⟩), ⟨r, hW⟩, htb, by omega, hH, rfl⟩
     exact (zJ 4 rfl (zJ 4 rfl (zJ 4 rfl (zJ 1 rfl (zY _)))))
    ·replace hc42 := zy3 hc42
     have hrt : q.a.right = true := by first | assumption | simp_all
     have hpe : pp.2 = 0 := by omega
     have hf3 : ¬ q.flags &&& 3 = 0 := by omega
     refine zl ?_; refine zI (zM (yN (fun w F s => row_caps 0 rfl s) ?_)); intro hpc; refine zK (zH rfl (zL rfl) rfl (zH rfl (zU rfl) rfl (zH rfl (zP yT rfl) rfl (zH rfl (zW sc51 rfl (zy4 4 rfl (Rd.own rfl))) rfl (zH rfl (zL rfl) rfl ?_))))); refine zT rfl (zy (Pre := []) Tryz.call39 rfl rfl (zR _) (qf htb (look_spec (Tv.pick 5 rfl (qh t)) hW _ _ pp.1 (zy5 0 rfl Vw.row) hfew))) rfl ?_; rintro _ H' ⟨_, ⟨rfl, rfl⟩, hH⟩; simp only [zy7] at hH; subst hH; obtain ⟨⟨id1, e1⟩, hz1⟩ : ∃ z : Int × Int, lookO (fnd t.ns r pp.1) = z := ⟨_, rfl⟩
     rw [hz1]; dsimp only; refine zH rfl (zL rfl) rfl (zH rfl (zu rfl rfl) rfl (zH rfl (zu rfl rfl) rfl (zH rfl (zO rfl) rfl (zH rfl (zO rfl) rfl (zN ?_))))); refine zI (zM (zK (zH rfl (zO rfl) rfl (zN (zI ?_))))); refine yO 1018 (fun Δ LL => ∃ (t2 : Tr) (r2 : Nd) (id2 : Int), (Wf t2 r2 ∧ t2.tb = tb ∧ t2.next ≤ t.next + 1 ∧ (∀ t3 hs3 k3, openT t2 hs s i q id2 t3 hs3 k3 → openR t r hs s q t3 hs3 k3)) ∧ Δ = [(11, .int .i64 id2)] ∧ LL = [own b6 (.cells ((Rk.rep ⟨0, 0, [], [], [], At.zero⟩ none 0 none 0).cs).toArray 32 (0, 0)), own b5 (.cells (q.cs).toArray 35 (0, 0)), oMa mb tb hs, tree t2, St (hs.map rowN), V]) (zS (k := 0) rfl (zS (k := 1) rfl (zS (k := 5) rfl (zS (k := 6) rfl (zS (k := 7) rfl (zf _)))))) ?_ ?_
     ·refine qA ?_; refine zM (zK (zH rfl (zL rfl) rfl (zH rfl (qQ rfl rfl rfl) rfl (qi rfl rfl rfl (fun hg56 => ?_) (fun hg56 => ?_)))))
      ·replace hg56 := zy2 hg56
       refine zH rfl (zL rfl) rfl (zH rfl (zU rfl) rfl (zH rfl (zP yT rfl) rfl (zH rfl (zW sc51 rfl (zy4 4 rfl (Rd.own rfl))) rfl (zH rfl (zL rfl) rfl (zT rfl (zy (Pre := []) Tryz.call100 rfl rfl (zR _) (qf htb (dir_spec (Tv.pick 5 rfl (qh t)) id1))) rfl ?_))))); rintro _ H' ⟨_, ⟨rfl, rfl⟩, hH⟩; simp only [zy7] at hH; subst hH; obtain ⟨d1, hd1⟩ : ∃ z, dirO (byId t.ns id1) = z := ⟨_, rfl⟩
       try rw [hd1]
       refine qi rfl rfl rfl (fun hg63 => ?_) (fun hg63 => ?_)
       ·skip; refine zZ rfl rfl (zZ rfl rfl (zZ rfl rfl (zZ rfl rfl (zZ rfl rfl (zZ rfl rfl ?_))))); refine zH rfl (zr rfl rfl) rfl (zH rfl (zr rfl rfl) rfl (zH rfl (zO rfl) rfl (zN (zI (qG rfl ?_))))); refine zM (zK (zT rfl (zb Tryz.call28 rfl rfl (by repeat (first | exact zR _ | apply zG 0 rfl | apply zG 1 rfl | apply zG 2 rfl | apply zG 3 rfl | apply zG 4 rfl | apply zG 5 rfl | apply zG 6 rfl | apply zG 7 rfl)) (qS 4)) rfl ?_)); rintro _ H' ⟨_, ⟨rfl, rfl⟩, hH⟩; simp only [zy7] at hH; subst hH; refine zo rfl (zm 2 qW rfl rfl rfl rfl rfl (zy1 rfl) (zg _)) rfl ?_; rintro _ _ rfl; simp only [zE, zF]; refine zN (zI (zi ?_)); refine zn ?_; refine zh ?_; refine' zX (qg rfl (qB qW rfl (zy6 2 rfl zx) rfl)) ?_ ?_
        rotate_left 1
        exact ⟨t, hs, Rk.stat 4, rfl, (by unfold openR; rw [hf]; dsimp only; rw [if_neg (by rintro (h | h | h) <;> first | omega | (rw [h] at hrt; cases hrt) | (rw [hpp] at h; omega)), hpp, hz1]; dsimp only; rw [if_pos (by omega), hd1, if_pos (.inl (by simpa using hg63))]; exact ⟨rfl, rfl, rfl⟩), ⟨r, hW⟩, htb, by omega, hH, rfl⟩
        exact (zJ 4 rfl (zJ 4 rfl (zJ 4 rfl (zJ 1 rfl (zY _)))))
       ·skip; refine zH rfl (zP fa35_7 rfl) rfl (zH rfl (zW yB rfl (zy4 3 rfl (Rd.own rfl))) rfl (zH rfl (zL rfl) rfl (zH rfl (ya rfl rfl (xE hq.fl (c := 40) (by decide) rfl)) rfl (zH rfl (zL rfl) rfl (zH rfl (qQ rfl rfl rfl) rfl ?_))))); refine zH rfl (zr rfl rfl) rfl (zH rfl (zr rfl rfl) rfl (zH rfl (zO rfl) rfl (zN (zI (zq rfl (fun hc53 => ?_) (fun hc53 => ?_))))))
        ·replace hc53 := zy2 hc53
         refine zM (zK (zT rfl (zb Tryz.call28 rfl rfl (by repeat (first | exact zR _ | apply zG 0 rfl | apply zG 1 rfl | apply zG 2 rfl | apply zG 3 rfl | apply zG 4 rfl | apply zG 5 rfl | apply zG 6 rfl | apply zG 7 rfl)) (qS 4)) rfl ?_)); rintro _ H' ⟨_, ⟨rfl, rfl⟩, hH⟩; simp only [zy7] at hH; subst hH; refine zo rfl (zm 2 qW rfl rfl rfl rfl rfl (zy1 rfl) (zg _)) rfl ?_; rintro _ _ rfl; simp only [zE, zF]; refine zN (zI (zi ?_)); refine zn ?_; refine zh ?_; refine' zX (qg rfl (qB qW rfl (zy6 2 rfl zx) rfl)) ?_ ?_
         rotate_left 1
         exact ⟨t, hs, Rk.stat 4, rfl, (by unfold openR; rw [hf]; dsimp only; rw [if_neg (by rintro (h | h | h) <;> first | omega | (rw [h] at hrt; cases hrt) | (rw [hpp] at h; omega)), hpp, hz1]; dsimp only; rw [if_pos (by omega), hd1, if_pos (.inr (by omega))]; exact ⟨rfl, rfl, rfl⟩), ⟨r, hW⟩, htb, by omega, hH, rfl⟩
         exact (zJ 4 rfl (zJ 4 rfl (zJ 4 rfl (zJ 1 rfl (zY _)))))
        ·replace hc53 := zy3 hc53
         refine zM (zK (zH rfl (zL rfl) rfl (zH rfl (q9 rfl rfl (decide_eq_false (by omega))) rfl (zH rfl (zL (v := .bool false) rfl) rfl (zZ rfl rfl ?_))))); refine zZ rfl rfl (zZ rfl rfl (zZ rfl rfl (zH rfl (zr rfl rfl) rfl (zH rfl (zO rfl) rfl (zN ?_))))); refine zI (qC rfl ?_); refine zM (zK (zH rfl (zL rfl) rfl (zH rfl (q9 rfl rfl (decide_eq_false (by omega))) rfl (zH rfl (zO rfl) rfl (zN ?_))))); refine zI (qC rfl ?_); refine zl ?_; refine zQ ?_; refine zI ?_; refine qc (qn ⟨t, r, id1, ⟨hW, htb, by omega, fun t3 hs3 k3 h3 => (by unfold openR; rw [hf]; dsimp only; rw [if_neg (by rintro (h | h | h) <;> first | omega | (rw [h] at hrt; cases hrt) | (rw [hpp] at h; omega)), hpp, hz1]; dsimp only; rw [if_pos (by omega), hd1, if_neg (by rintro (h | h) <;> first | omega | simp_all)]; exact h3)⟩, rfl, rfl⟩ ?_ ?_ ?_)
         ·exact (by repeat (first | exact zf _ | refine zS rfl ?_))
         ·exact (by repeat (first | exact zf _ | refine zS rfl ?_))
         ·exact (zJ 2 rfl (zJ 2 rfl (zJ 2 rfl (zJ 2 rfl (zJ 2 rfl (zJ 1 rfl (zY _)))))))
      ·replace hg56 := zy3 hg56
       refine zZ rfl rfl (zZ rfl rfl (zZ rfl rfl (zZ rfl rfl (zZ rfl rfl (zZ rfl rfl ?_))))); obtain ⟨d1, hd1⟩ : ∃ z, dirO (byId t.ns id1) = z := ⟨_, rfl⟩
       try rw [hd1]
       refine zZ rfl rfl (zZ rfl rfl (zZ rfl rfl (zZ rfl rfl (zZ rfl rfl (zZ rfl rfl ?_))))); refine zZ rfl rfl (zZ rfl rfl (zH rfl (zr rfl rfl) rfl (zH rfl (zO rfl) rfl (zN (zI ?_))))); refine qC rfl ?_; refine zM (zK (zH rfl (zL rfl) rfl (zH rfl (q9 rfl rfl (decide_eq_true (by omega))) rfl (zH rfl (zL (v := .bool true) rfl) rfl (zH rfl (zP fa35_7 rfl) rfl ?_))))); refine zH rfl (zW yB rfl (zy4 3 rfl (Rd.own rfl))) rfl (zH rfl (ya rfl rfl (xE hq.fl (c := 8) (by decide) rfl)) rfl (zH rfl (qQ rfl rfl rfl) rfl (zH rfl (zr rfl rfl) rfl (zH rfl (zO rfl) rfl (zN ?_))))); refine zI (zq rfl (fun hc73 => ?_) (fun hc73 => ?_))
       ·replace hc73 := zy2 hc73
        refine zM (zK (zT rfl (zb Tryz.call28 rfl rfl (by repeat (first | exact zR _ | apply zG 0 rfl | apply zG 1 rfl | apply zG 2 rfl | apply zG 3 rfl | apply zG 4 rfl | apply zG 5 rfl | apply zG 6 rfl | apply zG 7 rfl)) (qS 2)) rfl ?_)); rintro _ H' ⟨_, ⟨rfl, rfl⟩, hH⟩; simp only [zy7] at hH; subst hH; refine zo rfl (zm 2 qW rfl rfl rfl rfl rfl (zy1 rfl) (zg _)) rfl ?_; rintro _ _ rfl; simp only [zE, zF]; refine zN (zI (zi ?_)); refine zn ?_; refine zh ?_; refine' zX (qg rfl (qB qW rfl (zy6 2 rfl zx) rfl)) ?_ ?_
        rotate_left 1
        exact ⟨t, hs, Rk.stat 2, rfl, (by unfold openR; rw [hf]; dsimp only; rw [if_neg (by rintro (h | h | h) <;> first | omega | (rw [h] at hrt; cases hrt) | (rw [hpp] at h; omega)), hpp, hz1]; dsimp only; rw [if_neg (by omega), if_pos (by omega)]; exact ⟨rfl, rfl, rfl⟩), ⟨r, hW⟩, htb, by omega, hH, rfl⟩
        exact (zJ 4 rfl (zJ 4 rfl (zJ 4 rfl (zJ 1 rfl (zY _)))))
       ·replace hc73 := zy3 hc73
        refine zM (zK (zH rfl (zL rfl) rfl (zH rfl (q9 rfl rfl (decide_eq_true (by omega))) rfl (zH rfl (zO rfl) rfl (zN ?_))))); refine zI (qG rfl ?_); refine zM (zM (zK (zH rfl (zL rfl) rfl (zH rfl (zU rfl) rfl (zH rfl (zP yT rfl) rfl ?_))))); refine zH rfl (zW sc51 rfl (zy4 4 rfl (Rd.own rfl))) rfl (zH rfl (zL rfl) rfl (zT rfl (zb Tryz.call34 rfl rfl (by repeat (first | exact zR _ | apply zG 0 rfl | apply zG 1 rfl | apply zG 2 rfl | apply zG 3 rfl | apply zG 4 rfl | apply zG 5 rfl | apply zG 6 rfl | apply zG 7 rfl)) (qf htb (make_spec (V := row 9 1 (.slice p38 pp.1.length c38) pp.1.length (txs pp.1)) hW hnx _ _ pp.1 Vw.row hpc hfew (by omega) false))) rfl ?_)); rintro _ H' ⟨_, ⟨t1, r1, i1, e2, rfl, hR1, hW1, rfl⟩, hH⟩; simp only [zy7] at hH; subst hH; obtain ⟨hnx1, htb1⟩ := make_nx hR1
        have htb1 : t1.tb = tb := by rw [htb1, htb]
        refine zH rfl (zL rfl) rfl (zH rfl (zu rfl rfl) rfl (zH rfl (zu rfl rfl) rfl (zH rfl (zO rfl) rfl (zH rfl (zO rfl) rfl (zN ?_))))); refine zI (zM (zK (zH rfl (zL rfl) rfl (zH rfl (q9 rfl rfl rfl) rfl (zN ?_))))); refine zI (zq rfl (fun hc96 => ?_) (fun hc96 => ?_))
        ·replace hc96 := zy2 hc96
         refine zM (zK (zH rfl (zL rfl) rfl (zT rfl (zb Tryz.call32 rfl rfl (by repeat (first | exact zR _ | apply zG 0 rfl | apply zG 1 rfl | apply zG 2 rfl | apply zG 3 rfl | apply zG 4 rfl | apply zG 5 rfl | apply zG 6 rfl | apply zG 7 rfl)) (yz e2)) rfl ?_))); rintro _ H' ⟨_, ⟨rfl, rfl⟩, hH⟩; simp only [zy7] at hH; subst hH; refine zo rfl (zm 3 qW rfl rfl rfl rfl rfl (zy1 rfl) (zg _)) rfl ?_; rintro _ _ rfl; simp only [zE, zF]; refine zN (zI (zi ?_)); refine zh ?_; refine zn ?_; refine zh ?_; refine' zX (qg rfl (qB qW rfl (zy6 3 rfl zx) rfl)) ?_ ?_
         rotate_left 1
         exact ⟨t1, hs, ofK e2, (by rw [← ye]; rfl), (by unfold openR; rw [hf]; dsimp only; rw [if_neg (by rintro (h | h | h) <;> first | omega | (rw [h] at hrt; cases hrt) | (rw [hpp] at h; omega)), hpp, hz1]; dsimp only; rw [if_neg (by omega), if_neg (by omega)]; exact ⟨t1, r1, i1, e2, hR1, by rw [if_pos (by omega)]; exact ⟨rfl, rfl, rfl⟩⟩), ⟨r1, hW1⟩, htb1, by omega, hH, rfl⟩
         exact (zJ 5 rfl (zJ 0 rfl (zJ 4 rfl (zJ 1 rfl (zY _)))))
        ·replace hc96 := zy3 hc96
         refine zl ?_; refine zI (qZ 9 (by kernel_rfl) (zG 4 rfl (zG 4 rfl (zR _))) ?_); refine zRO (i := 0) (by kernel_rfl) rfl rfl (zL rfl) rfl (zRO (i := 1) (by kernel_rfl) rfl rfl (zU rfl) rfl (zRO (i := 2) (by kernel_rfl) rfl rfl (zP yT rfl) rfl (zRO (i := 3) (by kernel_rfl) rfl rfl (zW sc51 rfl (zy4 1 rfl (Rd.own rfl))) rfl (zRO (i := 4) (by kernel_rfl) rfl rfl (zL rfl) rfl (zRO (i := 5) (by kernel_rfl) rfl rfl (zP fa35_8 rfl) rfl ?_))))); refine zRO (i := 6) (by kernel_rfl) rfl rfl (qX ag30 rfl (zy6 0 rfl (rdn_sub 7)) rfl) rfl (qM (i := 7) (by kernel_rfl) rfl rfl (zb Tryz.call36 rfl rfl (by repeat (first | exact zR _ | apply zG 0 rfl | apply zG 1 rfl | apply zG 2 rfl | apply zG 3 rfl | apply zG 4 rfl | apply zG 5 rfl | apply zG 6 rfl | apply zG 7 rfl)) (fbare_spec q.a hq.a)) rfl ?_); rintro _ H' ⟨_, ⟨rfl, rfl⟩, hH⟩; simp only [zy7] at hH; subst hH; refine qM (i := 8) (by kernel_rfl) rfl rfl (zb Tryz.call35 rfl rfl (by repeat (first | exact zR _ | apply zG 0 rfl | apply zG 1 rfl | apply zG 2 rfl | apply zG 3 rfl | apply zG 4 rfl | apply zG 5 rfl | apply zG 6 rfl | apply zG 7 rfl)) (qf htb1 (set_spec hW1 i1 (bareA q.a) (bare_ok hq.a)))) rfl ?_; rintro _ H' ⟨_, ⟨t2, e3, rfl, hR2, rfl⟩, hH⟩; simp only [zy7] at hH; subst hH; obtain ⟨⟨r2, hW2⟩, hnx2, htb2, _⟩ := set_wf hW1 (bare_ok hq.a) hR2
         have htb2 : t2.tb = tb := by rw [htb2, htb1]
         refine qm (by kernel_rfl) ?_; refine zQ ?_; refine zI ?_; refine qc (qn ⟨t2, r2, i1, ⟨hW2, htb2, by omega, fun t3 hs3 k3 h3 => (by unfold openR; rw [hf]; dsimp only; rw [if_neg (by rintro (h | h | h) <;> first | omega | (rw [h] at hrt; cases hrt) | (rw [hpp] at h; omega)), hpp, hz1]; dsimp only; rw [if_neg (by omega), if_neg (by omega)]; exact ⟨t1, r1, i1, e2, hR1, by rw [if_neg (by omega)]; exact ⟨t2, e3, hR2, h3⟩⟩)⟩, rfl, rfl⟩ ?_ ?_ ?_)
         ·exact (by repeat (first | exact zf _ | refine zS rfl ?_))
         ·exact (by repeat (first | exact zf _ | refine zS rfl ?_))
         ·exact (zJ 5 rfl (zJ 0 rfl (zJ 0 rfl (zJ 0 rfl (zJ 2 rfl (zJ 1 rfl (zY _)))))))
     ·rintro Δ LL ⟨t2, r2, id2, ⟨hW2, htb2, hnx2, hO2⟩, rfl, rfl⟩; simp only [zA, zB]; refine yO 1021 (fun Δ LL => ∃ (t3 : Tr), ((∃ r3, Wf t3 r3) ∧ t3.tb = tb ∧ t3.next ≤ t.next + 1 ∧ openR t r hs s q t3 (hs.set (s * 16 + i) (⟨true, id2, false, q.flags &&& 7, none, 0, []⟩ : Hd)) (hdlK i)) ∧ Δ = [] ∧ LL = [own b6 (.cells ((Rk.rep ⟨0, 0, [], [], [], At.zero⟩ none 0 none 0).cs).toArray 32 (0, 0)), own b5 (.cells (q.cs).toArray 35 (0, 0)), oMa mb tb hs, tree t3, St (hs.map rowN), V]) (zS (k := 0) rfl (zS (k := 1) rfl (zS (k := 5) rfl (zS (k := 6) rfl (zS (k := 7) rfl (zS (k := 11) rfl (zf _))))))) ?_ ?_
      ·refine zM (zK (zH rfl (zO rfl) rfl (zN (zI (zM ?_))))); refine zK (zH rfl (zP fa35_7 rfl) rfl (zH rfl (zW yB rfl (zy4 1 rfl (Rd.own rfl))) rfl (zH rfl (zL rfl) rfl (zH rfl (ya rfl rfl (xE hq.fl (c := 18) (by decide) rfl)) rfl (zH rfl (zL rfl) rfl ?_))))); refine zH rfl (qQ rfl rfl rfl) rfl (zN (zI (zq rfl (fun hc113 => ?_) (fun hc113 => ?_))))
       ·replace hc113 := zy2 hc113
        refine zK (zH rfl (zL rfl) rfl (zH rfl (zU rfl) rfl (zH rfl (zP yT rfl) rfl (zH rfl (zW sc51 rfl (zy4 2 rfl (Rd.own rfl))) rfl (zH rfl (zL rfl) rfl ?_))))); refine zH rfl (qY rfl (qK (cs := (⟨1, 0, 0, 0, 0, 0, 0⟩ : At).cs) st30 rfl)) rfl (zT rfl (zb Tryz.call35 rfl rfl (by repeat (first | exact zR _ | apply zG 0 rfl | apply zG 1 rfl | apply zG 2 rfl | apply zG 3 rfl | apply zG 4 rfl | apply zG 5 rfl | apply zG 6 rfl | apply zG 7 rfl)) (qf htb2 (set_spec hW2 id2 ⟨1, 0, 0, 0, 0, 0, 0⟩ one_ok))) rfl ?_); rintro _ H' ⟨_, ⟨t3, e4, rfl, hR3, rfl⟩, hH⟩; simp only [zy7] at hH; subst hH; obtain ⟨hW3, hnx3, htb3, _⟩ := set_wf hW2 one_ok hR3
        have htb3 : t3.tb = tb := by rw [htb3, htb2]
        refine zN (zI (qc (qn ⟨t3, ⟨hW3, htb3, by omega, hO2 _ _ _ ⟨by rw [if_pos (by omega)]; exact ⟨e4, hR3⟩, rfl, rfl⟩⟩, rfl, rfl⟩ ?_ ?_ ?_)))
        ·exact (by repeat (first | exact zf _ | refine zS rfl ?_))
        ·exact (by repeat (first | exact zf _ | refine zS rfl ?_))
        ·exact (zJ 1 rfl (zJ 1 rfl (zJ 1 rfl (zJ 0 rfl (zJ 0 rfl (zJ 0 rfl (zY _)))))))
       ·replace hc113 := zy3 hc113
        refine zl ?_; refine zI (qc (qn ⟨t2, ⟨⟨r2, hW2⟩, htb2, by omega, hO2 _ _ _ ⟨by rw [if_neg (by omega)], rfl, rfl⟩⟩, rfl, rfl⟩ ?_ ?_ ?_))
        ·exact (by repeat (first | exact zf _ | refine zS rfl ?_))
        ·exact (by repeat (first | exact zf _ | refine zS rfl ?_))
        ·exact zj _
      ·rintro Δ LL ⟨t3, ⟨hW3, htb3, hnx3, hO3⟩, rfl, rfl⟩; simp only [zA, zB]; refine zM (qZ 11 (by kernel_rfl) (Split.all _) ?_); refine zRO (i := 0) (by kernel_rfl) rfl rfl (zL rfl) rfl (zRO (i := 1) (by kernel_rfl) rfl rfl (zL rfl) rfl (zRO (i := 2) (by kernel_rfl) rfl rfl (zL rfl) rfl (zRO (i := 3) (by kernel_rfl) rfl rfl (zL rfl) rfl (zRO (i := 4) (by kernel_rfl) rfl rfl (zP fa35_7 rfl) rfl (zRO (i := 5) (by kernel_rfl) rfl rfl (zW yB rfl (zy4 1 rfl (Rd.own rfl))) rfl ?_))))); refine zRO (i := 6) (by kernel_rfl) rfl rfl (ya rfl rfl (xE hq.fl (c := 7) (by decide) rfl)) rfl (zRO (i := 7) (by kernel_rfl) rfl rfl (qY rfl (qK (cs := ((⟨true, id2, false, q.flags &&& 7, none, 0, []⟩ : Hd)).cs) st67 rfl)) rfl (zRO (i := 8) (by kernel_rfl) rfl rfl (zU rfl) rfl (zRO (i := 9) (by kernel_rfl) rfl rfl (zP fa71_1 rfl) rfl (zRO (i := 10) (by kernel_rfl) rfl rfl (xD Tryz.underlying69 (fun w => Tryz.sizeOf68 w) rfl rfl rfl (by omega)) rfl (qR (m' := 13) (L' := []) (by kernel_rfl) qx ?_))))); simp only [zA, zB, List.append_nil]; refine zRO (i := 11) (by kernel_rfl) rfl rfl (xD Tryz.underlying68 (fun w => Tryz.sizeOf67 w) rfl rfl rfl (by omega)) rfl (qq (i := 12) (by kernel_rfl) rfl rfl (zm 2 ag67 rfl rfl rfl rfl rfl (by simp only [List.length_cons, yh Hd.len, Hd.len, hl]; omega) (zg _)) rfl ?_); rintro _ _ rfl; simp only [zE, zF]; rw [ma_set (y := (⟨true, id2, false, q.flags &&& 7, none, 0, []⟩ : Hd)) hl hs16 hi]; refine qT (by kernel_rfl) ?_; refine zI (zM (qD (fun w F s => qv 87 8 w F s) ?_)); refine q8 (L := [St (hs.map rowN), rowN (⟨true, id2, false, q.flags &&& 7, none, 0, []⟩ : Hd), own b6 (.cells ((Rk.rep ⟨0, 0, [], [], [], At.zero⟩ none 0 none 0).cs).toArray 32 (0, 0)), oMa mb tb (hs.set (s * 16 + i) (⟨true, id2, false, q.flags &&& 7, none, 0, []⟩ : Hd)), tree t3, V]) (by repeat (first | exact zY _ | refine zJ 0 rfl ?_ | refine zJ 1 rfl ?_ | refine zJ 2 rfl ?_ | refine zJ 3 rfl ?_ | refine zJ 4 rfl ?_ | refine zJ 5 rfl ?_ | refine zJ 6 rfl ?_ | refine zJ 7 rfl ?_ | refine SubH.rown ?_)) ?_; refine qD (fun w F s => rows_put (hd_some hl hs16 hi) s) ?_; refine zK (zH rfl (zL rfl) rfl (zT rfl (zb Tryz.call42 rfl rfl (by repeat (first | exact zR _ | apply zG 0 rfl | apply zG 1 rfl | apply zG 2 rfl | apply zG 3 rfl | apply zG 4 rfl | apply zG 5 rfl | apply zG 6 rfl | apply zG 7 rfl)) (named_spec i (by omega))) rfl ?_)); rintro _ H' ⟨_, ⟨rfl, rfl⟩, hH⟩; simp only [zy7] at hH; subst hH; refine zH rfl (qY rfl (qK (cs := ((hdlK i).rep none 0 none 0).cs) st32 rfl)) rfl (zo rfl (zm 1 qW rfl rfl rfl rfl rfl (zy1 rfl) (zg _)) rfl ?_); rintro _ _ rfl; simp only [zE, zF]; refine zN (zI (zi ?_)); refine' zX (qg rfl (qB qW rfl (zy6 1 rfl zx) rfl)) ?_ ?_
       rotate_left 1
       exact ⟨t3, hs.set (s * 16 + i) (⟨true, id2, false, q.flags &&& 7, none, 0, []⟩ : Hd), hdlK i, rfl, hO3, hW3, htb3, hnx3, HsOk.set hH (y := (⟨true, id2, false, q.flags &&& 7, none, 0, []⟩ : Hd)) ⟨Nat.lt_of_le_of_lt Nat.and_le_right (by decide), Nat.zero_le _, Nat.le_refl _⟩, rfl⟩
       exact (zJ 2 rfl (zJ 2 rfl (zJ 0 rfl (zJ 1 rfl (zY _)))))
abbrev rowNm (p : Option Addr) (c : Nat) (l : List Nm) : HProp := row 87 8 (.slice p l.length c) l.length (flat Nm.cs l)
/-- a reply without data, names -/
def Rk.Dry (k : Rk) : Prop := k.data = [] ∧ k.names = []
theorem qw (k : Int) : (Rk.stat k).Dry := ⟨rfl, rfl⟩
theorem xF (e : Int) : (ofK e).Dry := by
 unfold ofK
 split
 ·exact qw _
 ·split <;> exact qw _
theorem dry_hdl (n : Nat) : (hdlK n).Dry := ⟨rfl, rfl⟩
theorem dry_told (t : Tr) (id e : Int) : (toldK t id e).Dry := by
 unfold toldK
 split
 ·exact xF _
 ·split
  ·exact qw _
  ·exact ⟨rfl, rfl⟩
theorem rep_names {l : List Nm} (h : l = []) {H : List HProp} {w : World} {F : HProp} (s : sat w (star (St H) F)) : sat w (star (St (rowNm none 0 l :: H)) F) := by
 subst h; exact qv 87 8 w F s
theorem rep_data {l : List UInt8} (h : l = []) {H : List HProp} {w : World} {F : HProp} (s : sat w (star (St H) F)) : sat w (star (St (rowD none 0 l :: H)) F) := by
 subst h; exact qv 5 1 w F s
theorem qb {k : Rk} (h : k.Dry) {H : List HProp} {w : World} {F : HProp} (s : sat w (star (St H) F)) : sat w (star (St (rowD none 0 k.data :: rowNm none 0 k.names :: H)) F) := rep_data h.1 (rep_names h.2 s)
theorem readK_names (t : Tr) (hs : List Hd) (s : Nat) (q : Qr) : (readK t hs s q).names = [] := by
 unfold readK
 split
 ·rfl
 ·split
  ·rfl
  ·split <;> rfl
theorem closeR.dry {hs hs' : List Hd} {s : Nat} {q : Qr} {k : Rk} (h : closeR hs s q hs' k) : k.Dry := by
 unfold closeR at h
 split at h
 ·rw [h.2]; exact qw _
 ·rw [h.2]; exact qw _
theorem writeR.dry {t t' : Tr} {hs : List Hd} {s : Nat} {q : Qr} {k : Rk} (h : writeR t hs s q t' k) : k.Dry := by
 unfold writeR at h
 split at h
 ·rw [h.2]; exact qw _
 ·split at h
  ·rw [h.2]; exact qw _
  ·split at h
   ·rw [h.2]; exact qw _
   ·obtain ⟨e, _, rfl⟩ := h; exact xF _
theorem setR.dry {t t' : Tr} {hs : List Hd} {s : Nat} {q : Qr} {k : Rk} (h : setR t hs s q t' k) : k.Dry := by
 unfold setR at h
 split at h
 ·rw [h.2]; exact qw _
 ·split at h
  ·rw [h.2]; exact qw _
  ·split at h
   ·rw [h.2]; exact qw _
   ·obtain ⟨e, _, rfl⟩ := h; exact xF _
theorem opendirR.dry {t : Tr} {r : Nd} {hs hs' : List Hd} {s : Nat} {q : Qr} {k : Rk} (h : opendirR t r hs s q hs' k) : k.Dry := by
 unfold opendirR at h
 split at h
 ·rw [h.2]; exact qw _
 ·split at h
  ·rw [h.2]; exact xF _
  ·split at h
   ·rw [h.2]; exact qw _
   ·obtain ⟨_, _, _, _, rfl⟩ := h; exact dry_hdl _
theorem openR.dry {t t' : Tr} {r : Nd} {hs hs' : List Hd} {s : Nat} {q : Qr} {k : Rk} (h : openR t r hs s q t' hs' k) : k.Dry := by
 unfold openR at h
 split at h
 ·rw [h.2.2]; exact qw _
 ·split at h
  ·rw [h.2.2]; exact qw _
  ·split at h
   ·split at h
    ·rw [h.2.2]; exact qw _
    ·rw [h.2.2]; exact dry_hdl _
   ·split at h
    ·rw [h.2.2]; exact qw _
    ·obtain ⟨t1, r1, i, e, _, h⟩ := h
     split at h
     ·rw [h.2.2]; exact xF _
     ·obtain ⟨t2, e2, _, h⟩ := h
      rw [h.2.2]; exact dry_hdl _
theorem readdirR.dry {hs hs' : List Hd} {s : Nat} {q : Qr} {k : Rk} (h : readdirR hs s q hs' k) : k.data = [] := by
 unfold readdirR at h
 split at h
 ·rw [h.2]; rfl
 ·split at h
  ·rw [h.2]; rfl
  ·split at h
   ·rw [h.2]; rfl
   ·obtain ⟨_, _, _, _, rfl⟩ := h; rfl
theorem byHandle_spec {V : HProp} {mb tb : Nat} {t : Tr} {hs : List Hd} {r : Nd} (hW : Wf t r) (htb : t.tb = tb) (hH : HsOk hs) (s : Nat) (hs16 : s < 16) (q : Qr) (hq : q.Ok) (hP : Ml V) (hnx : t.next ≤ 9223372036854775806) (hD : Vw V (.slice q.dp q.data.length q.dc) q.data.length (cel q.data)) : Tri Tryz.prog 29 [.pointer (some ⟨mb, 0, none⟩), .int .i64 (s : Int), q.v] [oMa mb tb hs, tree t, St (hs.map rowN), V]
 (fun v H' => ∃ t' hs' k dp dc np nc b, v = .tuple #[(k.rep dp dc np nc).v, .bool b] ∧ ((b = true ∧ byH q.kind ∧ byR t r hs s q t' hs' k) ∨ (b = false ∧ ¬ byH q.kind ∧ t' = t ∧ hs' = hs)) ∧ (∃ r', Wf t' r') ∧ t'.tb = tb ∧ t'.next ≤ t.next + 1 ∧ HsOk hs' ∧ H' = [rowD dp dc k.data, rowNm np nc k.names, oMa mb tb hs', tree t', St (hs'.map rowN), V]) := by
 have hl := hH.len
 have hdl := wf_dl2 hW
 by_cases hk : q.kind = 8
 ·cases hf : findH hs s q.handle with
  | none =>
   refine zt Tryz.func29 rfl Tryz.ntmps29 (by simp) ?_; refine zM (zK (zT rfl (qj rfl) rfl ?_)); rintro _ _ ⟨b5, rfl, rfl⟩; refine zT rfl (qL z32) rfl ?_; rintro _ _ ⟨b6, rfl, rfl⟩; refine zH rfl (zO rfl) rfl (zN (zI (zM (zM (zK ?_))))); refine zH rfl (zP fa35_0 rfl) rfl (zH rfl (zW sc3 rfl (zy4 1 rfl (Rd.own rfl))) rfl (zN (zI (qA ?_)))); refine zM (zK (zH rfl (qQ rfl rfl (decide_eq_false (by omega))) rfl (zH rfl (zO rfl) rfl (zN (zI ?_))))); refine qC rfl ?_; refine zM (zK (zH rfl (qQ rfl rfl (decide_eq_false (by omega))) rfl (zH rfl (zO rfl) rfl (zN (zI ?_))))); refine qC rfl ?_; refine zM (zK (zH rfl (qQ rfl rfl (decide_eq_false (by omega))) rfl (zH rfl (zO rfl) rfl (zN (zI ?_))))); refine qC rfl ?_; refine zM (zK (zH rfl (qQ rfl rfl (decide_eq_false (by omega))) rfl (zH rfl (zO rfl) rfl (zN (zI ?_))))); refine qC rfl ?_; refine zM (zK (zH rfl (qQ rfl rfl (decide_eq_true (by omega))) rfl (zH rfl (zO rfl) rfl (zN (zI ?_))))); refine qG rfl ?_; refine zM (zK (zH rfl (zL rfl) rfl (zH rfl (zL rfl) rfl (zH rfl (zP fa35_3 rfl) rfl (zH rfl (zW sc9 rfl (zy4 1 rfl (Rd.own rfl))) rfl ?_))))); refine zT rfl (zy (Pre := []) Tryz.call68 rfl rfl (zR _) (xJ (xX 2 rfl yL) hl s hs16 q.handle)) rfl ?_; rintro _ H' ⟨_, ⟨rfl, rfl⟩, hH⟩; simp only [zy7] at hH; subst hH; rw [hf]; dsimp only [findV]; refine zH rfl (zO rfl) rfl (zN (zI (zM (zM (zK ?_))))); refine zH rfl (zL rfl) rfl (zH rfl (qI Tryz.underlying116 rfl rfl rfl) rfl (zN (zI (qG rfl ?_)))); refine zM (zK (zT rfl (zb Tryz.call28 rfl rfl (by repeat (first | exact zR _ | apply zG 0 rfl | apply zG 1 rfl | apply zG 2 rfl | apply zG 3 rfl | apply zG 4 rfl | apply zG 5 rfl | apply zG 6 rfl | apply zG 7 rfl)) (qS 4)) rfl ?_)); rintro _ H' ⟨_, ⟨rfl, rfl⟩, hH⟩; simp only [zy7] at hH; subst hH
   first | refine qp (fun w F sw => qb (qw 4) sw) ?_ | refine qu (fun w F sw => qb (qw 4) sw) ?_
   refine zo rfl (zm 2 qW rfl rfl rfl rfl rfl (zy1 rfl) (zg _)) rfl ?_; rintro _ _ rfl; simp only [zE, zF]; refine zH rfl (zO rfl) rfl (zN (zI (zi ?_))); refine zh ?_; refine zn ?_; refine zh ?_; refine' zX (resv2 rfl (qB qW rfl (zy6 2 rfl zx) rfl) (yn rfl)) ?_ ?_
   rotate_left 1
   exact ⟨t, hs, Rk.stat 4, none, 0, none, 0, true, rfl, .inl ⟨rfl, (by unfold byH; omega), (by unfold byR; rw [if_neg (by omega), if_neg (by omega), if_neg (by omega), if_neg (by omega), if_pos hk, hf]; exact ⟨rfl, rfl, rfl⟩)⟩, ⟨r, hW⟩, htb, by omega, hH, rfl⟩
   exact (zJ 0 rfl (zJ 0 rfl (zJ 2 rfl (zJ 2 rfl (zJ 2 rfl (zJ 2 rfl (zY _)))))))
  | some i =>
   have hi := find_lt hf
   refine zt Tryz.func29 rfl Tryz.ntmps29 (by simp) ?_; refine zM (zK (zT rfl (qj rfl) rfl ?_)); rintro _ _ ⟨b5, rfl, rfl⟩; refine zT rfl (qL z32) rfl ?_; rintro _ _ ⟨b6, rfl, rfl⟩; refine zH rfl (zO rfl) rfl (zN (zI (zM (zM (zK ?_))))); refine zH rfl (zP fa35_0 rfl) rfl (zH rfl (zW sc3 rfl (zy4 1 rfl (Rd.own rfl))) rfl (zN (zI (qA ?_)))); refine zM (zK (zH rfl (qQ rfl rfl (decide_eq_false (by omega))) rfl (zH rfl (zO rfl) rfl (zN (zI ?_))))); refine qC rfl ?_; refine zM (zK (zH rfl (qQ rfl rfl (decide_eq_false (by omega))) rfl (zH rfl (zO rfl) rfl (zN (zI ?_))))); refine qC rfl ?_; refine zM (zK (zH rfl (qQ rfl rfl (decide_eq_false (by omega))) rfl (zH rfl (zO rfl) rfl (zN (zI ?_))))); refine qC rfl ?_; refine zM (zK (zH rfl (qQ rfl rfl (decide_eq_false (by omega))) rfl (zH rfl (zO rfl) rfl (zN (zI ?_))))); refine qC rfl ?_; refine zM (zK (zH rfl (qQ rfl rfl (decide_eq_true (by omega))) rfl (zH rfl (zO rfl) rfl (zN (zI ?_))))); refine qG rfl ?_; refine zM (zK (zH rfl (zL rfl) rfl (zH rfl (zL rfl) rfl (zH rfl (zP fa35_3 rfl) rfl (zH rfl (zW sc9 rfl (zy4 1 rfl (Rd.own rfl))) rfl ?_))))); refine zT rfl (zy (Pre := []) Tryz.call68 rfl rfl (zR _) (xJ (xX 2 rfl yL) hl s hs16 q.handle)) rfl ?_; rintro _ H' ⟨_, ⟨rfl, rfl⟩, hH⟩; simp only [zy7] at hH; subst hH; rw [hf]; dsimp only [findV]; refine zH rfl (zO rfl) rfl (zN (zI (zM (zM (zK ?_))))); refine zH rfl (zL rfl) rfl (zH rfl (qI Tryz.underlying116 rfl rfl rfl) rfl (zN (zI (qC rfl ?_)))); refine zl ?_; refine zI (zM (zK (zH rfl (zL rfl) rfl (zH rfl (zL rfl) rfl (zH rfl (zU rfl) rfl ?_))))); refine zH rfl (zP fa67_1 rfl) rfl (zH rfl (zW sc3 rfl (zy4 2 rfl ((yo yL hl hs16 hi 1 _ rfl)))) rfl (zT rfl (zy (Pre := []) Tryz.call40 rfl rfl (zR _) (told16_spec (Mq.of 2 3 rfl rfl htb) hdl (hdA hs s i).id 0)) rfl ?_)); rintro _ H' ⟨_, ⟨rfl, rfl⟩, hH⟩; simp only [zy7] at hH; subst hH
   first | refine qp (fun w F sw => qb (dry_told t (hdA hs s i).id 0) sw) ?_ | refine qu (fun w F sw => qb (dry_told t (hdA hs s i).id 0) sw) ?_
   refine zo rfl (zm 2 qW rfl rfl rfl rfl rfl (zy1 rfl) (zg _)) rfl ?_; rintro _ _ rfl; simp only [zE, zF]; refine zH rfl (zO rfl) rfl (zN (zI (zi ?_))); refine zn ?_; refine zh ?_; refine' zX (resv2 rfl (qB qW rfl (zy6 2 rfl zx) rfl) (yn rfl)) ?_ ?_
   rotate_left 1
   exact ⟨t, hs, toldK t (hdA hs s i).id 0, none, 0, none, 0, true, rfl, .inl ⟨rfl, (by unfold byH; omega), (by unfold byR; rw [if_neg (by omega), if_neg (by omega), if_neg (by omega), if_neg (by omega), if_pos hk, hf]; exact ⟨rfl, rfl, rfl⟩)⟩, ⟨r, hW⟩, htb, by omega, hH, rfl⟩
   exact (zJ 0 rfl (zJ 0 rfl (zJ 2 rfl (zJ 2 rfl (zJ 2 rfl (zJ 2 rfl (zY _)))))))
 ·skip; refine zt Tryz.func29 rfl Tryz.ntmps29 (by simp) ?_; refine zM (zK (zT rfl (qj rfl) rfl ?_)); rintro _ _ ⟨b5, rfl, rfl⟩; refine zT rfl (qL z32) rfl ?_; rintro _ _ ⟨b6, rfl, rfl⟩; refine zH rfl (zO rfl) rfl (zN (zI (zM (zM (zK ?_))))); refine zH rfl (zP fa35_0 rfl) rfl (zH rfl (zW sc3 rfl (zy4 1 rfl (Rd.own rfl))) rfl (zN (zI (qA ?_)))); refine zM (zK (zH rfl (qQ rfl rfl rfl) rfl (zH rfl (zO rfl) rfl (zN (zI ?_))))); refine zq rfl (fun hc11 => ?_) (fun hc11 => ?_)
  ·replace hc11 := zy2 hc11
   refine zM (zK (zH rfl (zL rfl) rfl (zH rfl (zL rfl) rfl (zH rfl (qX ag35 rfl (zy6 1 rfl ((show RdN _ b5 0 q.cs from zx))) rfl) rfl (zT rfl (zb Tryz.call64 rfl rfl (by repeat (first | exact zR _ | apply zG 0 rfl | apply zG 1 rfl | apply zG 2 rfl | apply zG 3 rfl | apply zG 4 rfl | apply zG 5 rfl | apply zG 6 rfl | apply zG 7 rfl)) (open16_spec hW htb hH s hs16 q hq hP hnx)) rfl ?_))))); rintro _ H' ⟨_, ⟨t1, hs1, k1, rfl, hR, hW1, htb1, hnx1, hH1, rfl⟩, hH⟩; simp only [zy7] at hH; subst hH
   first | refine qp (fun w F sw => qb hR.dry sw) ?_ | refine qu (fun w F sw => qb hR.dry sw) ?_
   refine zo rfl (zm 6 qW rfl rfl rfl rfl rfl (zy1 rfl) (zg _)) rfl ?_; rintro _ _ rfl; simp only [zE, zF]; refine zH rfl (zO rfl) rfl (zN (zI (zi ?_))); refine zn ?_; refine zh ?_; refine' zX (resv2 rfl (qB qW rfl (zy6 6 rfl zx) rfl) (yn rfl)) ?_ ?_
   rotate_left 1
   exact ⟨t1, hs1, k1, none, 0, none, 0, true, rfl, .inl ⟨rfl, (by unfold byH; omega), (by unfold byR; rw [if_pos hc11]; exact hR)⟩, hW1, htb1, hnx1, hH1, rfl⟩
   exact (zJ 0 rfl (zJ 0 rfl (zJ 0 rfl (zJ 0 rfl (zJ 0 rfl (zJ 0 rfl (zY _)))))))
  ·replace hc11 := zy3 hc11
   refine zM (zK (zH rfl (qQ rfl rfl rfl) rfl (zH rfl (zO rfl) rfl (zN (zI ?_))))); refine zq rfl (fun hc17 => ?_) (fun hc17 => ?_)
   ·replace hc17 := zy2 hc17
    refine zM (zK (zH rfl (zL rfl) rfl (zH rfl (zL rfl) rfl (zH rfl (qX ag35 rfl (zy6 1 rfl ((show RdN _ b5 0 q.cs from zx))) rfl) rfl (zT rfl (zb Tryz.call65 rfl rfl (by repeat (first | exact zR _ | apply zG 0 rfl | apply zG 1 rfl | apply zG 2 rfl | apply zG 3 rfl | apply zG 4 rfl | apply zG 5 rfl | apply zG 6 rfl | apply zG 7 rfl)) (close16_spec hH s hs16 q)) rfl ?_))))); rintro _ H' ⟨_, ⟨hs1, k1, rfl, hR, hH1, rfl⟩, hH⟩; simp only [zy7] at hH; subst hH
    first | refine qp (fun w F sw => qb hR.dry sw) ?_ | refine qu (fun w F sw => qb hR.dry sw) ?_
    refine zo rfl (zm 4 qW rfl rfl rfl rfl rfl (zy1 rfl) (zg _)) rfl ?_; rintro _ _ rfl; simp only [zE, zF]; refine zH rfl (zO rfl) rfl (zN (zI (zi ?_))); refine zn ?_; refine zh ?_; refine' zX (resv2 rfl (qB qW rfl (zy6 4 rfl zx) rfl) (yn rfl)) ?_ ?_
    rotate_left 1
    exact ⟨t, hs1, k1, none, 0, none, 0, true, rfl, .inl ⟨rfl, (by unfold byH; omega), (by unfold byR; rw [if_neg hc11, if_pos hc17]; exact ⟨rfl, hR⟩)⟩, ⟨r, hW⟩, htb, by omega, hH1, rfl⟩
    exact (zJ 0 rfl (zJ 0 rfl (zJ 0 rfl (zJ 3 rfl (zJ 0 rfl (zJ 2 rfl (zY _)))))))
   ·replace hc17 := zy3 hc17
    refine zM (zK (zH rfl (qQ rfl rfl rfl) rfl (zH rfl (zO rfl) rfl (zN (zI ?_))))); refine zq rfl (fun hc23 => ?_) (fun hc23 => ?_)
    ·replace hc23 := zy2 hc23
     refine zM (zK (zH rfl (zL rfl) rfl (zH rfl (zL rfl) rfl (zH rfl (qX ag35 rfl (zy6 1 rfl ((show RdN _ b5 0 q.cs from zx))) rfl) rfl (zT rfl (zy (Pre := []) Tryz.call66 rfl rfl (zR _) (read16_spec (Mq.of 2 3 rfl rfl htb) hH hdl s hs16 q hq)) rfl ?_))))); rintro _ H' ⟨_, ⟨p1, c1, rfl, rfl⟩, hH⟩; simp only [zy7] at hH; subst hH
     first | refine qp (fun w F sw => rep_names (readK_names t hs s q) sw) ?_ | refine qu (fun w F sw => rep_names (readK_names t hs s q) sw) ?_
     refine zo rfl (zm 2 qW rfl rfl rfl rfl rfl (zy1 rfl) (zg _)) rfl ?_; rintro _ _ rfl; simp only [zE, zF]; refine zH rfl (zO rfl) rfl (zN (zI (zi ?_))); refine zn ?_; refine zh ?_; refine' zX (resv2 rfl (qB qW rfl (zy6 2 rfl zx) rfl) (yn rfl)) ?_ ?_
     rotate_left 1
     exact ⟨t, hs, (readK t hs s q), p1, c1, none, 0, true, rfl, .inl ⟨rfl, (by unfold byH; omega), (by unfold byR; rw [if_neg hc11, if_neg hc17, if_pos hc23]; exact ⟨rfl, rfl, rfl⟩)⟩, ⟨r, hW⟩, htb, by omega, hH, rfl⟩
     exact (zJ 1 rfl (zJ 0 rfl (zJ 2 rfl (zJ 2 rfl (zJ 2 rfl (zJ 2 rfl (zY _)))))))
    ·replace hc23 := zy3 hc23
     refine zM (zK (zH rfl (qQ rfl rfl rfl) rfl (zH rfl (zO rfl) rfl (zN (zI ?_))))); refine zq rfl (fun hc29 => ?_) (fun hc29 => ?_)
     ·replace hc29 := zy2 hc29
      refine zM (zK (zH rfl (zL rfl) rfl (zH rfl (zL rfl) rfl (zH rfl (qX ag35 rfl (zy6 1 rfl ((show RdN _ b5 0 q.cs from zx))) rfl) rfl (zT rfl (zb Tryz.call67 rfl rfl (by repeat (first | exact zR _ | apply zG 0 rfl | apply zG 1 rfl | apply zG 2 rfl | apply zG 3 rfl | apply zG 4 rfl | apply zG 5 rfl | apply zG 6 rfl | apply zG 7 rfl)) (write16_spec hW htb hH s hs16 q hq hD)) rfl ?_))))); rintro _ H' ⟨_, ⟨t1, k1, rfl, hR, hW1, htb1, hnx1, rfl⟩, hH⟩; simp only [zy7] at hH; subst hH
      first | refine qp (fun w F sw => qb hR.dry sw) ?_ | refine qu (fun w F sw => qb hR.dry sw) ?_
      refine zo rfl (zm 5 qW rfl rfl rfl rfl rfl (zy1 rfl) (zg _)) rfl ?_; rintro _ _ rfl; simp only [zE, zF]; refine zH rfl (zO rfl) rfl (zN (zI (zi ?_))); refine zn ?_; refine zh ?_; refine' zX (resv2 rfl (qB qW rfl (zy6 5 rfl zx) rfl) (yn rfl)) ?_ ?_
      rotate_left 1
      exact ⟨t1, hs, k1, none, 0, none, 0, true, rfl, .inl ⟨rfl, (by unfold byH; omega), (by unfold byR; rw [if_neg hc11, if_neg hc17, if_neg hc23, if_pos hc29]; exact ⟨rfl, hR⟩)⟩, ⟨r, hW1⟩, htb1.trans htb, by omega, hH, rfl⟩
      exact (zJ 0 rfl (zJ 0 rfl (zJ 0 rfl (zJ 0 rfl (zJ 3 rfl (zJ 0 rfl (zY _)))))))
     ·replace hc29 := zy3 hc29
      refine zM (zK (zH rfl (qQ rfl rfl (decide_eq_false (by omega))) rfl (zH rfl (zO rfl) rfl (zN (zI ?_))))); refine qC rfl ?_; refine zM (zK (zH rfl (qQ rfl rfl rfl) rfl (zH rfl (zO rfl) rfl (zN (zI ?_))))); refine zq rfl (fun hc51 => ?_) (fun hc51 => ?_)
      ·replace hc51 := zy2 hc51
       refine zM (zK (zH rfl (zL rfl) rfl (zH rfl (zL rfl) rfl (zH rfl (qX ag35 rfl (zy6 1 rfl ((show RdN _ b5 0 q.cs from zx))) rfl) rfl (zT rfl (zb Tryz.call69 rfl rfl (by repeat (first | exact zR _ | apply zG 0 rfl | apply zG 1 rfl | apply zG 2 rfl | apply zG 3 rfl | apply zG 4 rfl | apply zG 5 rfl | apply zG 6 rfl | apply zG 7 rfl)) (set16_spec (V := emp) hW htb hH s hs16 q hq)) rfl ?_))))); rintro _ H' ⟨_, ⟨t1, k1, rfl, hR, hW1, htb1, hnx1, rfl⟩, hH⟩; simp only [zy7] at hH; subst hH
       first | refine qp (fun w F sw => qb hR.dry sw) ?_ | refine qu (fun w F sw => qb hR.dry sw) ?_
       refine zo rfl (zm 4 qW rfl rfl rfl rfl rfl (zy1 rfl) (zg _)) rfl ?_; rintro _ _ rfl; simp only [zE, zF]; refine zH rfl (zO rfl) rfl (zN (zI (zi ?_))); refine zn ?_; refine zh ?_; refine' zX (resv2 rfl (qB qW rfl (zy6 4 rfl zx) rfl) (yn rfl)) ?_ ?_
       rotate_left 1
       exact ⟨t1, hs, k1, none, 0, none, 0, true, rfl, .inl ⟨rfl, (by unfold byH; omega), (by unfold byR; rw [if_neg hc11, if_neg hc17, if_neg hc23, if_neg hc29, if_neg hk, if_pos hc51]; exact ⟨rfl, hR⟩)⟩, hW1, htb1.trans htb, by omega, hH, rfl⟩
       exact (zJ 0 rfl (zJ 0 rfl (zJ 0 rfl (zJ 0 rfl (zJ 2 rfl (zJ 2 rfl (zY _)))))))
      ·replace hc51 := zy3 hc51
       refine zM (zK (zH rfl (qQ rfl rfl rfl) rfl (zH rfl (zO rfl) rfl (zN (zI ?_))))); refine zq rfl (fun hc57 => ?_) (fun hc57 => ?_)
       ·replace hc57 := zy2 hc57
        refine zM (zK (zH rfl (zL rfl) rfl (zH rfl (zL rfl) rfl (zH rfl (qX ag35 rfl (zy6 1 rfl ((show RdN _ b5 0 q.cs from zx))) rfl) rfl (zT rfl (zb Tryz.call70 rfl rfl (by repeat (first | exact zR _ | apply zG 0 rfl | apply zG 1 rfl | apply zG 2 rfl | apply zG 3 rfl | apply zG 4 rfl | apply zG 5 rfl | apply zG 6 rfl | apply zG 7 rfl)) (opendir_spec hW htb hH s hs16 q hq hP)) rfl ?_))))); rintro _ H' ⟨_, ⟨hs1, k1, rfl, hR, hH1, rfl⟩, hH⟩; simp only [zy7] at hH; subst hH
        first | refine qp (fun w F sw => qb hR.dry sw) ?_ | refine qu (fun w F sw => qb hR.dry sw) ?_
        refine zo rfl (zm 6 qW rfl rfl rfl rfl rfl (zy1 rfl) (zg _)) rfl ?_; rintro _ _ rfl; simp only [zE, zF]; refine zH rfl (zO rfl) rfl (zN (zI (zi ?_))); refine zn ?_; refine zh ?_; refine' zX (resv2 rfl (qB qW rfl (zy6 6 rfl zx) rfl) (yn rfl)) ?_ ?_
        rotate_left 1
        exact ⟨t, hs1, k1, none, 0, none, 0, true, rfl, .inl ⟨rfl, (by unfold byH; omega), (by unfold byR; rw [if_neg hc11, if_neg hc17, if_neg hc23, if_neg hc29, if_neg hk, if_neg hc51, if_pos hc57]; exact ⟨rfl, hR⟩)⟩, ⟨r, hW⟩, htb, by omega, hH1, rfl⟩
        exact (zJ 0 rfl (zJ 0 rfl (zJ 0 rfl (zJ 0 rfl (zJ 0 rfl (zJ 0 rfl (zY _)))))))
       ·replace hc57 := zy3 hc57
        refine zM (zK (zH rfl (qQ rfl rfl rfl) rfl (zH rfl (zO rfl) rfl (zN (zI ?_))))); refine zq rfl (fun hc63 => ?_) (fun hc63 => ?_)
        ·replace hc63 := zy2 hc63
         refine zM (zK (zH rfl (zL rfl) rfl (zH rfl (zL rfl) rfl (zH rfl (qX ag35 rfl (zy6 1 rfl ((show RdN _ b5 0 q.cs from zx))) rfl) rfl (zT rfl (zb Tryz.call71 rfl rfl (by repeat (first | exact zR _ | apply zG 0 rfl | apply zG 1 rfl | apply zG 2 rfl | apply zG 3 rfl | apply zG 4 rfl | apply zG 5 rfl | apply zG 6 rfl | apply zG 7 rfl)) (readdir_spec hH s hs16 q)) rfl ?_))))); rintro _ H' ⟨_, ⟨hs1, k1, p1, c1, rfl, hR, hH1, rfl⟩, hH⟩; simp only [zy7] at hH; subst hH
         first | refine qp (fun w F sw => rep_data hR.dry sw) ?_ | refine qu (fun w F sw => rep_data hR.dry sw) ?_
         refine zo rfl (zm 4 qW rfl rfl rfl rfl rfl (zy1 rfl) (zg _)) rfl ?_; rintro _ _ rfl; simp only [zE, zF]; refine zH rfl (zO rfl) rfl (zN (zI (zi ?_))); refine zn ?_; refine zh ?_; refine' zX (resv2 rfl (qB qW rfl (zy6 4 rfl zx) rfl) (yn rfl)) ?_ ?_
         rotate_left 1
         exact ⟨t, hs1, k1, none, 0, p1, c1, true, rfl, .inl ⟨rfl, (by unfold byH; omega), (by unfold byR; rw [if_neg hc11, if_neg hc17, if_neg hc23, if_neg hc29, if_neg hk, if_neg hc51, if_neg hc57]; exact ⟨rfl, hR⟩)⟩, ⟨r, hW⟩, htb, by omega, hH1, rfl⟩
         exact (zJ 0 rfl (zJ 0 rfl (zJ 0 rfl (zJ 3 rfl (zJ 0 rfl (zJ 2 rfl (zY _)))))))
        ·replace hc63 := zy3 hc63
         refine zl ?_; refine zQ ?_; refine zI (zM (zK (zH rfl (qY rfl (qK (cs := ((Rk.rep ⟨0, 0, [], [], [], At.zero⟩ none 0 none 0).cs)) st32 rfl)) rfl ?_)))
         first | refine qp (fun w F sw => qb (k := ⟨0, 0, [], [], [], At.zero⟩) ⟨rfl, rfl⟩ sw) ?_ | refine qu (fun w F sw => qb (k := ⟨0, 0, [], [], [], At.zero⟩) ⟨rfl, rfl⟩ sw) ?_
         refine zo rfl (zm 2 qW rfl rfl rfl rfl rfl (zy1 rfl) (zg _)) rfl ?_; rintro _ _ rfl; simp only [zE, zF]; refine zH rfl (zO rfl) rfl (zN (zI (zi ?_))); refine' zX (resv2 rfl (qB qW rfl (zy6 2 rfl zx) rfl) (yn rfl)) ?_ ?_
         rotate_left 1
         exact ⟨t, hs, ⟨0, 0, [], [], [], At.zero⟩, none, 0, none, 0, false, rfl, .inr ⟨rfl, (by unfold byH; omega), rfl, rfl⟩, ⟨r, hW⟩, htb, by omega, hH, rfl⟩
         exact (zJ 0 rfl (zJ 0 rfl (zJ 2 rfl (zJ 2 rfl (zJ 2 rfl (zJ 2 rfl (zY _)))))))
end Go.Proofs.YtlefpllcgcicpaaGreatDoor
