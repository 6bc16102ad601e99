/-
  Package fsm: read, write, set.
  Package fsm: close, opendir, readdir.
-/
import Derived.Test.YtlefpllcgcicpaaGreatDoorFsE
import Derived.Test.YtlefpllcgcicpaaGreatDoorSxSub
set_option linter.unusedVariables false
set_option linter.unusedSimpArgs false
namespace Go.Proofs.YtlefpllcgcicpaaGreatDoor
open Go.Sx
set_option maxRecDepth 100000
set_option maxHeartbeats 4000000
def HdP (h : Hd) : Prop := h.flags < 4294967296 ∧ h.names.length ≤ 1000 ∧ h.names.length ≤ h.nc
/-- a machine's handles are in order -/
structure HsOk (hs : List Hd) : Prop where
 len : hs.length = 256
 all : ∀ h ∈ hs, HdP h
theorem HsOk.at' {hs : List Hd} (h : HsOk hs) (s i : Nat) : HdP (hdA hs s i) := by
 unfold hdA; rw [List.getD_eq_getElem?_getD]
 cases e : hs[s * 16 + i]? with
 | none =>
  exact ⟨by decide, by decide, by decide⟩
 | some x => exact h.all x (List.mem_of_getElem? e)
theorem HsOk.set {hs : List Hd} (h : HsOk hs) {i : Nat} {y : Hd} (hy : HdP y) : HsOk (hs.set i y) :=
 ⟨by rw [List.length_set]; exact h.len, fun z hz => by
  rcases List.mem_or_eq_of_mem_set hz with h1 | rfl
  ·exact h.all z h1
  ·exact hy⟩
theorem wf_dl2 {t : Tr} {r : Nd} (h : Wf t r) : ∀ x ∈ t.ns, x.data.length ≤ 100000000 := fun x hx => by have := wf_dl h x hx; omega
theorem att_s {t : Tr} (hdl : ∀ x ∈ t.ns, x.data.length ≤ 100000000) (k : Int) : (attO (byId t.ns k)).1.s < 18446744073709551616 := by
 cases hb : byId t.ns k with
 | none => decide
 | some x => have := hdl x (yD hb).1; show x.data.length < _; omega
theorem read16_spec {V : HProp} {mb tb : Nat} {t : Tr} {hs : List Hd} (hM : Mq V mb tb t hs) (hH : HsOk hs) (hdl : ∀ x ∈ t.ns, x.data.length ≤ 100000000) (s : Nat) (hs16 : s < 16) (q : Qr) (hq : q.Ok) : Tri Tryz.prog 66 [.pointer (some ⟨mb, 0, none⟩), .int .i64 (s : Int), q.v] [V]
 (fun v H' => ∃ K, (∃ p c, v = ((readK t hs s q).rep p c none 0).v ∧ K = [rowD p c (readK t hs s q).data]) ∧ H' = K ++ [V]) := by
 have hl := hH.len
 cases hf : fileI t hs s q.handle with
 | none =>
  refine zt Tryz.func66 rfl Tryz.ntmps66 (by simp) ?_; refine zM (zK (zT rfl (qj rfl) rfl ?_)); rintro _ _ ⟨b5, rfl, rfl⟩; refine zT rfl (qL z32) rfl ?_; rintro _ _ ⟨b6, rfl, rfl⟩; refine zN (zI (zM (zK (zH rfl (zL rfl) rfl (zH rfl (zL rfl) rfl ?_))))); refine zH rfl (zP fa35_3 rfl) rfl (zH rfl (zW sc9 rfl (zy4 1 rfl (Rd.own rfl))) rfl (zT rfl (zb Tryz.call125 rfl rfl (by repeat (first | exact zR _ | apply zG 0 rfl | apply zG 1 rfl | apply zG 2 rfl | apply zG 3 rfl | apply zG 4 rfl | apply zG 5 rfl | apply zG 6 rfl | apply zG 7 rfl)) (ffile_spec hM hl hdl s hs16 q.handle)) rfl ?_)); rintro _ H' ⟨_, ⟨_, ⟨rfl, rfl⟩, rfl⟩, hH⟩; simp only [zy7] at hH; subst hH; rw [hf]; dsimp only [findV]; refine zH rfl (zO rfl) rfl (zN (zI (zM (qA ?_)))); refine zM (zK (zH rfl (zL rfl) rfl (zH rfl (qI Tryz.underlying116 rfl rfl rfl) rfl (zH rfl (zO rfl) rfl (zN ?_))))); refine zI (qG rfl ?_); refine zM (qD (fun w F s => qv 5 1 w F s) ?_); refine zK (zT rfl (zb Tryz.call28 rfl rfl (by repeat (first | exact zR _ | apply zG 0 rfl | apply zG 1 rfl | apply zG 2 rfl | apply zG 3 rfl | apply zG 4 rfl | apply zG 5 rfl | apply zG 6 rfl | apply zG 7 rfl)) (qS 4)) rfl ?_); rintro _ H' ⟨_, ⟨rfl, rfl⟩, hH⟩; simp only [zy7] at hH; subst hH; refine zo rfl (zm 2 qW rfl rfl rfl rfl rfl (zy1 rfl) (zg _)) rfl ?_; rintro _ _ rfl; simp only [zE, zF]; refine zN (zI (zi ?_)); refine zn ?_; refine zh ?_
  have hk : readK t hs s q = Rk.stat 4 := by
   unfold readK; rw [hf]; done
  rw [hk]; refine' zX (qg rfl (qB qW rfl (zy6 2 rfl zx) rfl)) ?_ ?_
  rotate_left 1
  exact ⟨_, ⟨none, 0, rfl, rfl⟩, rfl⟩
  exact (zJ 0 rfl (zJ 0 rfl (zY _)))
 | some i =>
  obtain ⟨hi, -, -, hat⟩ := fileI_lt hf
  have hfl := (hH.at' s i).1
  refine zt Tryz.func66 rfl Tryz.ntmps66 (by simp) ?_; refine zM (zK (zT rfl (qj rfl) rfl ?_)); rintro _ _ ⟨b5, rfl, rfl⟩; refine zT rfl (qL z32) rfl ?_; rintro _ _ ⟨b6, rfl, rfl⟩; refine zN (zI (zM (zK (zH rfl (zL rfl) rfl (zH rfl (zL rfl) rfl ?_))))); refine zH rfl (zP fa35_3 rfl) rfl (zH rfl (zW sc9 rfl (zy4 1 rfl (Rd.own rfl))) rfl (zT rfl (zb Tryz.call125 rfl rfl (by repeat (first | exact zR _ | apply zG 0 rfl | apply zG 1 rfl | apply zG 2 rfl | apply zG 3 rfl | apply zG 4 rfl | apply zG 5 rfl | apply zG 6 rfl | apply zG 7 rfl)) (ffile_spec hM hl hdl s hs16 q.handle)) rfl ?_)); rintro _ H' ⟨_, ⟨_, ⟨rfl, rfl⟩, rfl⟩, hH⟩; simp only [zy7] at hH; subst hH; rw [hf]; dsimp only [findV]; refine zH rfl (zO rfl) rfl (zN (zI (zM (qA ?_)))); refine zM (zK (zH rfl (zL rfl) rfl (zH rfl (qI Tryz.underlying116 rfl rfl rfl) rfl (zH rfl (zO rfl) rfl (zN ?_))))); refine zI (qC rfl ?_); refine zM (zK (zH rfl (zL rfl) rfl (zH rfl (zU rfl) rfl (zH rfl (zP fa67_3 rfl) rfl (zH rfl (zW yB rfl (zy4 0 rfl ((yo hM.hv hl hs16 hi 3 _ rfl)))) rfl ?_))))); refine zH rfl (ya rfl rfl (xE hfl (c := 1) (by decide) rfl)) rfl (zH rfl (qQ rfl rfl rfl) rfl (zH rfl (zO rfl) rfl (zN (zI (zq rfl (fun hc19 => ?_) (fun hc19 => ?_))))))
  ·replace hc19 := zy2 hc19
   refine zM (qD (fun w F s => qv 5 1 w F s) ?_); refine zK (zT rfl (zb Tryz.call28 rfl rfl (by repeat (first | exact zR _ | apply zG 0 rfl | apply zG 1 rfl | apply zG 2 rfl | apply zG 3 rfl | apply zG 4 rfl | apply zG 5 rfl | apply zG 6 rfl | apply zG 7 rfl)) (qS 3)) rfl ?_); rintro _ H' ⟨_, ⟨rfl, rfl⟩, hH⟩; simp only [zy7] at hH; subst hH; refine zo rfl (zm 2 qW rfl rfl rfl rfl rfl (zy1 rfl) (zg _)) rfl ?_; rintro _ _ rfl; simp only [zE, zF]; refine zN (zI (zi ?_)); refine zn ?_; refine zh ?_
   have hk : readK t hs s q = Rk.stat 3 := by
    unfold readK; rw [hf]; dsimp only; rw [if_pos (by omega)]
   rw [hk]; refine' zX (qg rfl (qB qW rfl (zy6 2 rfl zx) rfl)) ?_ ?_
   rotate_left 1
   exact ⟨_, ⟨none, 0, rfl, rfl⟩, rfl⟩
   exact (zJ 0 rfl (zJ 0 rfl (zY _)))
  ·replace hc19 := zy3 hc19
   refine zl ?_; refine zQ ?_; refine zI (zM (qZ 12 (by kernel_rfl) (Split.all _) ?_)); refine zRO (i := 0) (by kernel_rfl) rfl rfl (zL rfl) rfl (zRO (i := 1) (by kernel_rfl) rfl rfl (zU rfl) rfl (zRO (i := 2) (by kernel_rfl) rfl rfl (zP yT rfl) rfl (zRO (i := 3) (by kernel_rfl) rfl rfl (zW sc51 rfl (zy4 0 rfl (hM.pt))) rfl (zRO (i := 4) (by kernel_rfl) rfl rfl (zL rfl) rfl (zRO (i := 5) (by kernel_rfl) rfl rfl (zU rfl) rfl ?_))))); refine zRO (i := 6) (by kernel_rfl) rfl rfl (zP fa67_1 rfl) rfl (zRO (i := 7) (by kernel_rfl) rfl rfl (zW sc3 rfl (zy4 0 rfl ((yo hM.hv hl hs16 hi 1 _ rfl)))) rfl (zRO (i := 8) (by kernel_rfl) rfl rfl (zP fa35_4 rfl) rfl (zRO (i := 9) (by kernel_rfl) rfl rfl (zW sc28 rfl (zy4 2 rfl (Rd.own rfl))) rfl (zRO (i := 10) (by kernel_rfl) rfl rfl (zP fa35_5 rfl) rfl (zRO (i := 11) (by kernel_rfl) rfl rfl (zW yB rfl (zy4 2 rfl (Rd.own rfl))) rfl ?_))))); refine qR (m' := 18) (L' := []) (by kernel_rfl) qx ?_; simp only [zA, zB, List.append_nil]; refine qM (i := 12) (by kernel_rfl) rfl rfl (zb Tryz.call126 rfl rfl (by repeat (first | exact zR _ | apply zG 0 rfl | apply zG 1 rfl | apply zG 2 rfl | apply zG 3 rfl | apply zG 4 rfl | apply zG 5 rfl | apply zG 6 rfl | apply zG 7 rfl)) (qf hM.tb (read_spec hM.tv (hdA hs s i).id q.off hq.off q.len hq.len hdl))) rfl ?_; rintro _ H' ⟨_, ⟨_, ⟨p40, c40, rfl, rfl⟩, rfl⟩, hH⟩; simp only [zy7] at hH; subst hH; refine zRO (i := 13) (by kernel_rfl) rfl rfl (zL rfl) rfl (zRO (i := 14) (by kernel_rfl) rfl rfl (zu rfl rfl) rfl (zRO (i := 15) (by kernel_rfl) rfl rfl (zu rfl rfl) rfl (zRO (i := 16) (by kernel_rfl) rfl rfl (zO rfl) rfl (zRO (i := 17) (by kernel_rfl) rfl rfl (zO rfl) rfl (qT (by kernel_rfl) ?_))))); refine zI (zM (zM (zK (zH rfl (zL rfl) rfl (zH rfl (q9 rfl rfl rfl) rfl ?_))))); refine qi rfl rfl rfl (fun hg45 => ?_) (fun hg45 => ?_)
   ·replace hg45 := zy2 hg45
    refine zZ rfl rfl (zZ rfl rfl (zZ rfl rfl (zH rfl (zr rfl rfl) rfl (zN (zI ?_))))); refine qG rfl ?_; refine zM (qD (fun w F s => qv 5 1 w F s) ?_); refine zK (zT rfl (zb Tryz.call28 rfl rfl (by repeat (first | exact zR _ | apply zG 0 rfl | apply zG 1 rfl | apply zG 2 rfl | apply zG 3 rfl | apply zG 4 rfl | apply zG 5 rfl | apply zG 6 rfl | apply zG 7 rfl)) (qS 1)) rfl ?_); rintro _ H' ⟨_, ⟨rfl, rfl⟩, hH⟩; simp only [zy7] at hH; subst hH; refine zo rfl (zm 3 qW rfl rfl rfl rfl rfl (zy1 rfl) (zg _)) rfl ?_; rintro _ _ rfl; simp only [zE, zF]; refine zN (zI (zi ?_)); refine zh ?_
    have hk : readK t hs s q = Rk.stat 1 := by
     unfold readK; rw [hf]; dsimp only; rw [if_neg (by omega), if_pos (.inl (by omega))]
    rw [hk]; refine' zX (qg rfl (qB qW rfl (zy6 3 rfl zx) rfl)) ?_ ?_
    rotate_left 1
    exact ⟨_, ⟨none, 0, rfl, rfl⟩, rfl⟩
    exact (zJ 0 rfl (zJ 1 rfl (zY _)))
   ·replace hg45 := zy3 hg45
    refine zH rfl (zP fa35_5 rfl) rfl (zH rfl (zW yB rfl (zy4 3 rfl (Rd.own rfl))) rfl (zH rfl (qQ rfl rfl rfl) rfl (zH rfl (zr rfl rfl) rfl (zN (zI ?_))))); refine zq rfl (fun hc49 => ?_) (fun hc49 => ?_)
    ·replace hc49 := zy2 hc49
     refine zM (qD (fun w F s => qv 5 1 w F s) ?_); refine zK (zT rfl (zb Tryz.call28 rfl rfl (by repeat (first | exact zR _ | apply zG 0 rfl | apply zG 1 rfl | apply zG 2 rfl | apply zG 3 rfl | apply zG 4 rfl | apply zG 5 rfl | apply zG 6 rfl | apply zG 7 rfl)) (qS 1)) rfl ?_); rintro _ H' ⟨_, ⟨rfl, rfl⟩, hH⟩; simp only [zy7] at hH; subst hH; refine zo rfl (zm 3 qW rfl rfl rfl rfl rfl (zy1 rfl) (zg _)) rfl ?_; rintro _ _ rfl; simp only [zE, zF]; refine zN (zI (zi ?_)); refine zh ?_
     have hk : readK t hs s q = Rk.stat 1 := by
      unfold readK; rw [hf]; dsimp only; rw [if_neg (by omega), if_pos (.inr (by omega))]
     rw [hk]; refine' zX (qg rfl (qB qW rfl (zy6 3 rfl zx) rfl)) ?_ ?_
     rotate_left 1
     exact ⟨_, ⟨none, 0, rfl, rfl⟩, rfl⟩
     exact (zJ 0 rfl (zJ 1 rfl (zY _)))
    ·replace hc49 := zy3 hc49
     refine zl ?_; refine zI (zM (zK (zH rfl (zL rfl) rfl (zH rfl (qY rfl (qK (cs := (Rk.rep ⟨3, 0, [], (readO (byId t.ns (hdA hs s i).id) q.off q.len).1, [], At.zero⟩ p40 c40 none 0).cs) st32 rfl)) rfl (zo rfl (zm 2 qW rfl rfl rfl rfl rfl (zy1 rfl) (zg _)) rfl ?_))))); rintro _ _ rfl; simp only [zE, zF]; refine zN (zI (zi ?_))
     have hk : readK t hs s q = ⟨3, 0, [], (readO (byId t.ns (hdA hs s i).id) q.off q.len).1, [], At.zero⟩ := by
      unfold readK; rw [hf]; dsimp only; rw [if_neg (by omega), if_neg (by omega)]
     rw [hk]; refine' zX (qg rfl (qB qW rfl (zy6 2 rfl zx) rfl)) ?_ ?_
     rotate_left 1
     exact ⟨_, ⟨p40, c40, rfl, rfl⟩, rfl⟩
     exact (zJ 0 rfl (zJ 0 rfl (zY _)))
theorem write16_spec {V : HProp} {mb tb : Nat} {t : Tr} {hs : List Hd} {r : Nd} (hW : Wf t r) (htb : t.tb = tb) (hH : HsOk hs) (s : Nat) (hs16 : s < 16) (q : Qr) (hq : q.Ok) (hD : Vw V (.slice q.dp q.data.length q.dc) q.data.length (cel q.data)) : Tri Tryz.prog 67 [.pointer (some ⟨mb, 0, none⟩), .int .i64 (s : Int), q.v] [oMa mb tb hs, tree t, V]
 (fun v H' => ∃ t' k, v = (k.rep none 0 none 0).v ∧ writeR t hs s q t' k ∧ Wf t' r ∧ t'.tb = t.tb ∧ t'.next = t.next ∧ H' = [oMa mb tb hs, tree t', V]) := by
 have hl := hH.len
 have hdl := wf_dl2 hW
 cases hf : fileI t hs s q.handle with
 | none =>
  refine zt Tryz.func67 rfl Tryz.ntmps67 (by simp) ?_; refine zM (zK (zT rfl (qj rfl) rfl ?_)); rintro _ _ ⟨b5, rfl, rfl⟩; refine zT rfl (qL z32) rfl ?_; rintro _ _ ⟨b6, rfl, rfl⟩; refine zN (zI (zM (zK (zH rfl (zL rfl) rfl (zH rfl (zL rfl) rfl ?_))))); refine zH rfl (zP fa35_3 rfl) rfl (zH rfl (zW sc9 rfl (zy4 1 rfl (Rd.own rfl))) rfl (zT rfl (zy (Pre := []) Tryz.call125 rfl rfl (zR _) (ffile_spec (Mq.of 2 3 rfl rfl htb) hl hdl s hs16 q.handle)) rfl ?_)); rintro _ H' ⟨_, ⟨rfl, rfl⟩, hH⟩; simp only [zy7] at hH; subst hH; rw [hf]; dsimp only [findV]; refine zH rfl (zO rfl) rfl (zN (zI (zM (qA ?_)))); refine zM (zK (zH rfl (zL rfl) rfl (zH rfl (qI Tryz.underlying116 rfl rfl rfl) rfl (zH rfl (zO rfl) rfl (zN ?_))))); refine zI (qG rfl ?_); refine zM (zK (zT rfl (zb Tryz.call28 rfl rfl (by repeat (first | exact zR _ | apply zG 0 rfl | apply zG 1 rfl | apply zG 2 rfl | apply zG 3 rfl | apply zG 4 rfl | apply zG 5 rfl | apply zG 6 rfl | apply zG 7 rfl)) (qS 4)) rfl ?_)); rintro _ H' ⟨_, ⟨rfl, rfl⟩, hH⟩; simp only [zy7] at hH; subst hH; refine zo rfl (zm 0 qW rfl rfl rfl rfl rfl (zy1 rfl) (zg _)) rfl ?_; rintro _ _ rfl; simp only [zE, zF]; refine zN (zI (zi ?_)); refine zn ?_; refine zh ?_; refine' zX (qg rfl (qB qW rfl (zy6 0 rfl zx) rfl)) ?_ ?_
  rotate_left 1
  exact ⟨t, Rk.stat 4, rfl, (by unfold writeR; rw [hf]; exact ⟨rfl, rfl⟩), hW, rfl, rfl, rfl⟩
  exact (zJ 2 rfl (zJ 2 rfl (zJ 2 rfl (zY _))))
 | some i =>
  obtain ⟨hi, -, -, hat⟩ := fileI_lt hf
  have hfl := (hH.at' s i).1
  refine zt Tryz.func67 rfl Tryz.ntmps67 (by simp) ?_; refine zM (zK (zT rfl (qj rfl) rfl ?_)); rintro _ _ ⟨b5, rfl, rfl⟩; refine zT rfl (qL z32) rfl ?_; rintro _ _ ⟨b6, rfl, rfl⟩; refine zN (zI (zM (zK (zH rfl (zL rfl) rfl (zH rfl (zL rfl) rfl ?_))))); refine zH rfl (zP fa35_3 rfl) rfl (zH rfl (zW sc9 rfl (zy4 1 rfl (Rd.own rfl))) rfl (zT rfl (zy (Pre := []) Tryz.call125 rfl rfl (zR _) (ffile_spec (Mq.of 2 3 rfl rfl htb) hl hdl s hs16 q.handle)) rfl ?_)); rintro _ H' ⟨_, ⟨rfl, rfl⟩, hH⟩; simp only [zy7] at hH; subst hH; rw [hf]; dsimp only [findV]; refine zH rfl (zO rfl) rfl (zN (zI (zM (qA ?_)))); refine zM (zK (zH rfl (zL rfl) rfl (zH rfl (qI Tryz.underlying116 rfl rfl rfl) rfl (zH rfl (zO rfl) rfl (zN ?_))))); refine zI (qC rfl ?_); refine zM (zK (zH rfl (zL rfl) rfl (zH rfl (zU rfl) rfl (zH rfl (zP fa67_3 rfl) rfl (zH rfl (zW yB rfl (zy4 2 rfl ((yo yL hl hs16 hi 3 _ rfl)))) rfl ?_))))); refine zH rfl (ya rfl rfl (xE hfl (c := 2) (by decide) rfl)) rfl (zH rfl (qQ rfl rfl rfl) rfl (zH rfl (zO rfl) rfl (zN (zI (zq rfl (fun hc20 => ?_) (fun hc20 => ?_))))))
  ·replace hc20 := zy2 hc20
   refine zM (zK (zT rfl (zb Tryz.call28 rfl rfl (by repeat (first | exact zR _ | apply zG 0 rfl | apply zG 1 rfl | apply zG 2 rfl | apply zG 3 rfl | apply zG 4 rfl | apply zG 5 rfl | apply zG 6 rfl | apply zG 7 rfl)) (qS 3)) rfl ?_)); rintro _ H' ⟨_, ⟨rfl, rfl⟩, hH⟩; simp only [zy7] at hH; subst hH; refine zo rfl (zm 0 qW rfl rfl rfl rfl rfl (zy1 rfl) (zg _)) rfl ?_; rintro _ _ rfl; simp only [zE, zF]; refine zN (zI (zi ?_)); refine zn ?_; refine zh ?_; refine' zX (qg rfl (qB qW rfl (zy6 0 rfl zx) rfl)) ?_ ?_
   rotate_left 1
   exact ⟨t, Rk.stat 3, rfl, (by unfold writeR; rw [hf]; dsimp only; rw [if_pos (by omega)]; exact ⟨rfl, rfl⟩), hW, rfl, rfl, rfl⟩
   exact (zJ 2 rfl (zJ 2 rfl (zJ 2 rfl (zY _))))
  ·replace hc20 := zy3 hc20
   refine zM (zK (zH rfl (zP fa35_6 rfl) rfl (zH rfl (zW sc25 rfl (zy4 1 rfl (Rd.own rfl))) rfl (zH rfl (zw Tryz.underlying25 rfl) rfl (zH rfl (yd rfl rfl rfl) rfl ?_))))); refine zH rfl (zO rfl) rfl (zN (zI (zq rfl (fun hc28 => ?_) (fun hc28 => ?_))))
   ·replace hc28 := zy2 hc28
    refine zM (zK (zT rfl (zb Tryz.call28 rfl rfl (by repeat (first | exact zR _ | apply zG 0 rfl | apply zG 1 rfl | apply zG 2 rfl | apply zG 3 rfl | apply zG 4 rfl | apply zG 5 rfl | apply zG 6 rfl | apply zG 7 rfl)) (qS 4)) rfl ?_)); rintro _ H' ⟨_, ⟨rfl, rfl⟩, hH⟩; simp only [zy7] at hH; subst hH; refine zo rfl (zm 0 qW rfl rfl rfl rfl rfl (zy1 rfl) (zg _)) rfl ?_; rintro _ _ rfl; simp only [zE, zF]; refine zN (zI (zi ?_)); refine zn ?_; refine zh ?_; refine' zX (qg rfl (qB qW rfl (zy6 0 rfl zx) rfl)) ?_ ?_
    rotate_left 1
    exact ⟨t, Rk.stat 4, rfl, (by unfold writeR; rw [hf]; dsimp only; rw [if_neg (by omega), if_pos (by omega)]; exact ⟨rfl, rfl⟩), hW, rfl, rfl, rfl⟩
    exact (zJ 2 rfl (zJ 2 rfl (zJ 2 rfl (zY _))))
   ·replace hc28 := zy3 hc28
    refine zl ?_; refine zQ ?_; refine zI (zM (zK (zH rfl (zP fa35_4 rfl) rfl (zH rfl (zW sc28 rfl (zy4 1 rfl (Rd.own rfl))) rfl (zH rfl (zO rfl) rfl ?_))))); refine zN (zI ?_); refine yO 1012 (fun Δ LL => ∃ (aw : Nat), (aw = (if (hdA hs s i).flags &&& 4 ≠ 0 then (attO (byId t.ns (hdA hs s i).id)).1.s else q.off) ∧ aw < 18446744073709551616) ∧ Δ = [(8, .int .u64 (aw : Int))] ∧ LL = [own b6 (.cells ((Rk.rep ⟨0, 0, [], [], [], At.zero⟩ none 0 none 0).cs).toArray 32 (0, 0)), own b5 (.cells (q.cs).toArray 35 (0, 0)), oMa mb tb hs, tree t, V]) (zS (k := 0) rfl (zS (k := 5) rfl (zS (k := 6) rfl (zS (k := 7) rfl (zf _))))) ?_ ?_
    ·refine zM (zK (zH rfl (zL rfl) rfl (zH rfl (zU rfl) rfl (zH rfl (zP fa67_3 rfl) rfl (zH rfl (zW yB rfl (zy4 2 rfl ((yo yL hl hs16 hi 3 _ rfl)))) rfl ?_))))); refine zH rfl (ya rfl rfl (xE hfl (c := 4) (by decide) rfl)) rfl (zH rfl (q9 rfl rfl rfl) rfl (zN (zI (zq rfl (fun hc41 => ?_) (fun hc41 => ?_)))))
     ·replace hc41 := zy2 hc41
      refine zM (qZ 14 (by kernel_rfl) (zG 2 rfl (zR _)) ?_); refine zRO (i := 0) (by kernel_rfl) rfl rfl (zL rfl) rfl (zRO (i := 1) (by kernel_rfl) rfl rfl (zU rfl) rfl (zRO (i := 2) (by kernel_rfl) rfl rfl (zP yT rfl) rfl (zRO (i := 3) (by kernel_rfl) rfl rfl (zW sc51 rfl (zy4 0 rfl (Rd.own rfl))) rfl (zRO (i := 4) (by kernel_rfl) rfl rfl (zL rfl) rfl (zRO (i := 5) (by kernel_rfl) rfl rfl (zU rfl) rfl ?_))))); refine zRO (i := 6) (by kernel_rfl) rfl rfl (zP fa67_1 rfl) rfl (zRO (i := 7) (by kernel_rfl) rfl rfl (zW sc3 rfl (zy4 0 rfl ((yo yL hl hs16 hi 1 _ rfl)))) rfl (any_two (i := 8) (j := 12) (by kernel_rfl) ?_ ?_))
      ·refine at_callL' rfl rfl (zy (Pre := []) Tryz.call83 rfl rfl (zR _) (qf htb (xI (Tv.pick 3 rfl (qh t)) _ hdl))) rfl ?_; rintro _ _ ⟨rfl, rfl⟩; simp only [zA, zB]; obtain ⟨⟨a5, e5⟩, hz5⟩ : ∃ z : At × Int, attO (byId t.ns (hdA hs s i).id) = z := ⟨_, rfl⟩
       rw [hz5]; dsimp only; have ha5 := att_s hdl (hdA hs s i).id
       rw [hz5] at ha5; refine zRO (i := 9) (by kernel_rfl) rfl rfl (zL rfl) rfl (zRO (i := 10) (by kernel_rfl) rfl rfl (zu rfl rfl) rfl (zRO (i := 11) (by kernel_rfl) rfl rfl (zu rfl rfl) rfl (qM (i := 12) (by kernel_rfl) rfl rfl (qL z30) rfl ?_))); rintro _ _ ⟨b9, rfl, rfl⟩; refine qq (i := 13) (by kernel_rfl) rfl rfl (zm 0 ag30 rfl rfl rfl rfl rfl (zy1 rfl) (zg _)) rfl ?_; rintro _ _ rfl; simp only [zE, zF]; refine qR (m' := 15) (L' := []) (by kernel_rfl) qx ?_; simp only [zA, zB, List.append_nil]; refine zRO (i := 14) (by kernel_rfl) rfl rfl (zO rfl) rfl (qT (by kernel_rfl) ?_); refine zI (zK (zH rfl (zP fa30_1 rfl) rfl (zH rfl (zW sc28 rfl (zy4 1 rfl (Rd.own rfl))) rfl (zH rfl (zO rfl) rfl (zN ?_))))); refine zI ?_; refine qc (qn ⟨a5.s, ⟨by first | (rw [if_pos (by omega)]; done) | rw [if_pos (by omega), hz5], ha5⟩, rfl, rfl⟩ ?_ ?_ ?_)
       ·exact (by repeat (first | exact zf _ | refine zS rfl ?_))
       ·exact (by repeat (first | exact zf _ | refine zS rfl ?_))
       ·exact (zJ 2 rfl (zJ 2 rfl (zJ 0 rfl (zJ 1 rfl (zJ 1 rfl (zY _))))))
      ·refine at_eff' rfl rfl (qL z30) rfl ?_; rintro _ _ ⟨b9, rfl, rfl⟩; refine yb (i := 8) (by kernel_rfl) rfl rfl (zy (Pre := []) Tryz.call83 rfl rfl (zR _) (qf htb (xI (Tv.pick 4 rfl (qh t)) _ hdl))) rfl ?_; rintro _ _ ⟨rfl, rfl⟩; simp only [zA, zB]; obtain ⟨⟨a5, e5⟩, hz5⟩ : ∃ z : At × Int, attO (byId t.ns (hdA hs s i).id) = z := ⟨_, rfl⟩
       rw [hz5]; dsimp only; have ha5 := att_s hdl (hdA hs s i).id
       rw [hz5] at ha5; refine zRO (i := 9) (by kernel_rfl) rfl rfl (zL rfl) rfl (zRO (i := 10) (by kernel_rfl) rfl rfl (zu rfl rfl) rfl (zRO (i := 11) (by kernel_rfl) rfl rfl (zu rfl rfl) rfl (qq (i := 13) (by kernel_rfl) rfl rfl (zm 0 ag30 rfl rfl rfl rfl rfl (zy1 rfl) (zg _)) rfl ?_))); rintro _ _ rfl; simp only [zE, zF]; refine qR (m' := 15) (L' := []) (by kernel_rfl) qx ?_; simp only [zA, zB, List.append_nil]; refine zRO (i := 14) (by kernel_rfl) rfl rfl (zO rfl) rfl (qT (by kernel_rfl) ?_); refine zI (zK (zH rfl (zP fa30_1 rfl) rfl (zH rfl (zW sc28 rfl (zy4 1 rfl (Rd.own rfl))) rfl (zH rfl (zO rfl) rfl (zN ?_))))); refine zI ?_; refine qc (qn ⟨a5.s, ⟨by first | (rw [if_pos (by omega)]; done) | rw [if_pos (by omega), hz5], ha5⟩, rfl, rfl⟩ ?_ ?_ ?_)
       ·exact (by repeat (first | exact zf _ | refine zS rfl ?_))
       ·exact (by repeat (first | exact zf _ | refine zS rfl ?_))
       ·exact (zJ 2 rfl (zJ 2 rfl (zJ 0 rfl (zJ 1 rfl (zJ 1 rfl (zY _))))))
     ·replace hc41 := zy3 hc41
      refine zl ?_; refine zI (qc (qn ⟨q.off, ⟨by rw [if_neg (by omega)], hq.off⟩, rfl, rfl⟩ ?_ ?_ ?_))
      ·exact (by repeat (first | exact zf _ | refine zS rfl ?_))
      ·exact (by repeat (first | exact zf _ | refine zS rfl ?_))
      ·exact zj _
    ·rintro Δ LL ⟨aw, ⟨haw, haw2⟩, rfl, rfl⟩; simp only [zA, zB]; refine zM (qZ 11 (by kernel_rfl) (Split.all _) ?_); refine zRO (i := 0) (by kernel_rfl) rfl rfl (zL rfl) rfl (zRO (i := 1) (by kernel_rfl) rfl rfl (zU rfl) rfl (zRO (i := 2) (by kernel_rfl) rfl rfl (zP yT rfl) rfl (zRO (i := 3) (by kernel_rfl) rfl rfl (zW sc51 rfl (zy4 2 rfl (Rd.own rfl))) rfl (zRO (i := 4) (by kernel_rfl) rfl rfl (zL rfl) rfl (zRO (i := 5) (by kernel_rfl) rfl rfl (zU rfl) rfl ?_))))); refine zRO (i := 6) (by kernel_rfl) rfl rfl (zP fa67_1 rfl) rfl (zRO (i := 7) (by kernel_rfl) rfl rfl (zW sc3 rfl (zy4 2 rfl ((yo yL hl hs16 hi 1 _ rfl)))) rfl (zRO (i := 8) (by kernel_rfl) rfl rfl (zL rfl) rfl (zRO (i := 9) (by kernel_rfl) rfl rfl (zP fa35_6 rfl) rfl (zRO (i := 10) (by kernel_rfl) rfl rfl (zW sc25 rfl (zy4 1 rfl (Rd.own rfl))) rfl (qR (m' := 14) (L' := []) (by kernel_rfl) qx ?_))))); simp only [zA, zB, List.append_nil]; refine qM (i := 11) (by kernel_rfl) rfl rfl (zb Tryz.call127 rfl rfl (by repeat (first | exact zR _ | apply zG 0 rfl | apply zG 1 rfl | apply zG 2 rfl | apply zG 3 rfl | apply zG 4 rfl | apply zG 5 rfl | apply zG 6 rfl | apply zG 7 rfl)) (qf htb (write_spec hW (hdA hs s i).id aw haw2 q.dp q.dc q.data hD (by have := hq.data; omega)))) rfl ?_; rintro _ H' ⟨_, ⟨t1, e1, rfl, hR1, rfl⟩, hH⟩; simp only [zy7] at hH; subst hH; obtain ⟨hW1, hnx1, ht1, _⟩ := write_wf hW hR1
     refine qM (i := 12) (by kernel_rfl) rfl rfl (zb Tryz.call32 rfl rfl (by repeat (first | exact zR _ | apply zG 0 rfl | apply zG 1 rfl | apply zG 2 rfl | apply zG 3 rfl | apply zG 4 rfl | apply zG 5 rfl | apply zG 6 rfl | apply zG 7 rfl)) (yz e1)) rfl ?_; rintro _ H' ⟨_, ⟨rfl, rfl⟩, hH⟩; simp only [zy7] at hH; subst hH; refine qq (i := 13) (by kernel_rfl) rfl rfl (zm 2 qW rfl rfl rfl rfl rfl (zy1 rfl) (zg _)) rfl ?_; rintro _ _ rfl; simp only [zE, zF]; refine qT (by kernel_rfl) ?_; refine zI (zi ?_); refine' zX (qg rfl (qB qW rfl (zy6 2 rfl zx) rfl)) ?_ ?_
     rotate_left 1
     exact ⟨t1, ofK e1, (by rw [← ye]; rfl), (by unfold writeR; rw [hf]; dsimp only; rw [if_neg (by omega), if_neg (by omega)]; refine ⟨e1, ?_, rfl⟩; rw [← haw]; exact hR1), hW1, ht1, hnx1, rfl⟩
     exact (zJ 4 rfl (zJ 0 rfl (zJ 0 rfl (zY _))))
theorem set16_spec {V : HProp} {mb tb : Nat} {t : Tr} {hs : List Hd} {r : Nd} (hW : Wf t r) (htb : t.tb = tb) (hH : HsOk hs) (s : Nat) (hs16 : s < 16) (q : Qr) (hq : q.Ok) : Tri Tryz.prog 69 [.pointer (some ⟨mb, 0, none⟩), .int .i64 (s : Int), q.v] [oMa mb tb hs, tree t]
 (fun v H' => ∃ t' k, v = (k.rep none 0 none 0).v ∧ setR t hs s q t' k ∧ (∃ r', Wf t' r') ∧ t'.tb = t.tb ∧ t'.next = t.next ∧ H' = [oMa mb tb hs, tree t']) := by
 have hl := hH.len
 have hdl := wf_dl2 hW
 cases hf : findH hs s q.handle with
 | none =>
  refine zt Tryz.func69 rfl Tryz.ntmps69 (by simp) ?_; refine zM (zK (zT rfl (qj rfl) rfl ?_)); rintro _ _ ⟨b5, rfl, rfl⟩; refine zT rfl (qL z32) rfl ?_; rintro _ _ ⟨b6, rfl, rfl⟩; refine zN (zI (zM (zK (zH rfl (zL rfl) rfl (zH rfl (zL rfl) rfl ?_))))); refine zH rfl (zP fa35_3 rfl) rfl (zH rfl (zW sc9 rfl (zy4 1 rfl (Rd.own rfl))) rfl (zT rfl (zy (Pre := []) Tryz.call68 rfl rfl (zR _) (xJ (xX 2 rfl yL) hl s hs16 q.handle)) rfl ?_)); rintro _ H' ⟨_, ⟨rfl, rfl⟩, hH⟩; simp only [zy7] at hH; subst hH; rw [hf]; dsimp only [findV]; refine zH rfl (zO rfl) rfl (zN (zI (zM (zM (zK ?_))))); refine zH rfl (zL rfl) rfl (zH rfl (qI Tryz.underlying116 rfl rfl rfl) rfl (zN (zI (qG rfl ?_)))); refine zM (zK (zT rfl (zb Tryz.call28 rfl rfl (by repeat (first | exact zR _ | apply zG 0 rfl | apply zG 1 rfl | apply zG 2 rfl | apply zG 3 rfl | apply zG 4 rfl | apply zG 5 rfl | apply zG 6 rfl | apply zG 7 rfl)) (qS 4)) rfl ?_)); rintro _ H' ⟨_, ⟨rfl, rfl⟩, hH⟩; simp only [zy7] at hH; subst hH; refine zo rfl (zm 0 qW rfl rfl rfl rfl rfl (zy1 rfl) (zg _)) rfl ?_; rintro _ _ rfl; simp only [zE, zF]; refine zN (zI (zi ?_)); refine zh ?_; refine' zX (qg rfl (qB qW rfl (zy6 0 rfl zx) rfl)) ?_ ?_
  rotate_left 1
  exact ⟨t, Rk.stat 4, rfl, (by unfold setR; rw [hf]; exact ⟨rfl, rfl⟩), ⟨r, hW⟩, rfl, rfl, rfl⟩
  exact (zJ 2 rfl (zJ 2 rfl (zY _)))
 | some i =>
  have hi := find_lt hf
  have hfl := (hH.at' s i).1
  refine zt Tryz.func69 rfl Tryz.ntmps69 (by simp) ?_; refine zM (zK (zT rfl (qj rfl) rfl ?_)); rintro _ _ ⟨b5, rfl, rfl⟩; refine zT rfl (qL z32) rfl ?_; rintro _ _ ⟨b6, rfl, rfl⟩; refine zN (zI (zM (zK (zH rfl (zL rfl) rfl (zH rfl (zL rfl) rfl ?_))))); refine zH rfl (zP fa35_3 rfl) rfl (zH rfl (zW sc9 rfl (zy4 1 rfl (Rd.own rfl))) rfl (zT rfl (zy (Pre := []) Tryz.call68 rfl rfl (zR _) (xJ (xX 2 rfl yL) hl s hs16 q.handle)) rfl ?_)); rintro _ H' ⟨_, ⟨rfl, rfl⟩, hH⟩; simp only [zy7] at hH; subst hH; rw [hf]; dsimp only [findV]; refine zH rfl (zO rfl) rfl (zN (zI (zM (zM (zK ?_))))); refine zH rfl (zL rfl) rfl (zH rfl (qI Tryz.underlying116 rfl rfl rfl) rfl (zN (zI (qC rfl ?_)))); refine zl ?_; refine zI (zM (zM (qZ 14 (by kernel_rfl) (zG 2 rfl (zR _)) ?_))); refine zRO (i := 0) (by kernel_rfl) rfl rfl (zL rfl) rfl (zRO (i := 1) (by kernel_rfl) rfl rfl (zU rfl) rfl (zRO (i := 2) (by kernel_rfl) rfl rfl (zP yT rfl) rfl (zRO (i := 3) (by kernel_rfl) rfl rfl (zW sc51 rfl (zy4 0 rfl (Rd.own rfl))) rfl (zRO (i := 4) (by kernel_rfl) rfl rfl (zL rfl) rfl (zRO (i := 5) (by kernel_rfl) rfl rfl (zU rfl) rfl ?_))))); refine zRO (i := 6) (by kernel_rfl) rfl rfl (zP fa67_1 rfl) rfl (zRO (i := 7) (by kernel_rfl) rfl rfl (zW sc3 rfl (zy4 0 rfl ((yo yL hl hs16 hi 1 _ rfl)))) rfl (any_two (i := 8) (j := 12) (by kernel_rfl) ?_ ?_))
  ·refine at_callL' rfl rfl (zy (Pre := []) Tryz.call83 rfl rfl (zR _) (qf htb (xI (Tv.pick 3 rfl (qh t)) _ hdl))) rfl ?_; rintro _ _ ⟨rfl, rfl⟩; simp only [zA, zB]; refine zRO (i := 9) (by kernel_rfl) rfl rfl (zL rfl) rfl (zRO (i := 10) (by kernel_rfl) rfl rfl (zu rfl rfl) rfl (zRO (i := 11) (by kernel_rfl) rfl rfl (zu rfl rfl) rfl (qM (i := 12) (by kernel_rfl) rfl rfl (qL z30) rfl ?_))); rintro _ _ ⟨b8, rfl, rfl⟩; refine qq (i := 13) (by kernel_rfl) rfl rfl (zm 0 ag30 rfl rfl rfl rfl rfl (zy1 rfl) (zg _)) rfl ?_; rintro _ _ rfl; simp only [zE, zF]; refine qR (m' := 15) (L' := []) (by kernel_rfl) qx ?_; simp only [zA, zB, List.append_nil]; refine zRO (i := 14) (by kernel_rfl) rfl rfl (zO rfl) rfl (qT (by kernel_rfl) ?_); refine zI (zM (zK (zH rfl (zL rfl) rfl (zH rfl (q9 rfl rfl rfl) rfl (zN ?_))))); refine zI (zq rfl (fun hc31 => ?_) (fun hc31 => ?_))
   ·replace hc31 := zy2 hc31
    refine zM (zK (zT rfl (zb Tryz.call28 rfl rfl (by repeat (first | exact zR _ | apply zG 0 rfl | apply zG 1 rfl | apply zG 2 rfl | apply zG 3 rfl | apply zG 4 rfl | apply zG 5 rfl | apply zG 6 rfl | apply zG 7 rfl)) (qS 4)) rfl ?_)); rintro _ H' ⟨_, ⟨rfl, rfl⟩, hH⟩; simp only [zy7] at hH; subst hH; refine zo rfl (zm 2 qW rfl rfl rfl rfl rfl (zy1 rfl) (zg _)) rfl ?_; rintro _ _ rfl; simp only [zE, zF]; refine zN (zI (zi ?_)); refine zh ?_; refine' zX (qg rfl (qB qW rfl (zy6 2 rfl zx) rfl)) ?_ ?_
    rotate_left 1
    exact ⟨t, Rk.stat 4, rfl, (by unfold setR; rw [hf]; dsimp only; rw [if_pos (by omega)]; exact ⟨rfl, rfl⟩), ⟨r, hW⟩, rfl, rfl, rfl⟩
    exact (zJ 0 rfl (zJ 3 rfl (zY _)))
   ·replace hc31 := zy3 hc31
    refine zl ?_; refine zI (zM (zM (zK (zH rfl (zP fa35_8 rfl) rfl (zH rfl (zP yg rfl) rfl ?_))))); refine zH rfl (zW yB rfl (zy4 3 rfl (Rd.own rfl))) rfl (zH rfl (ya rfl rfl (xE hq.a.f (c := 1) (by decide) rfl)) rfl (zH rfl (q9 rfl rfl rfl) rfl (qi rfl rfl rfl (fun hg38 => ?_) (fun hg38 => ?_))))
    ·replace hg38 := zy2 hg38
     refine zH rfl (zL rfl) rfl (zH rfl (zU rfl) rfl (zH rfl (zP fa67_2 rfl) rfl (zH rfl (zW sc4 rfl (zy4 0 rfl ((yo yL hl hs16 hi 2 _ rfl)))) rfl (zH rfl (qy rfl rfl) rfl (zH rfl (zr rfl rfl) rfl ?_))))); refine qi rfl rfl rfl (fun hg45 => ?_) (fun hg45 => ?_)
     ·simp only [Bool.and_eq_true, decide_eq_true_eq, Bool.not_eq_true', decide_eq_false_iff_not, bne_iff_ne, ne_eq] at hg45; refine zH rfl (zL rfl) rfl (zH rfl (zU rfl) rfl (zH rfl (zP fa67_3 rfl) rfl (zH rfl (zW yB rfl (zy4 0 rfl ((yo yL hl hs16 hi 3 _ rfl)))) rfl (zH rfl (ya rfl rfl (xE hfl (c := 2) (by decide) rfl)) rfl (zH rfl (qQ rfl rfl rfl) rfl ?_))))); refine zH rfl (zr rfl rfl) rfl (zN (zI (zq rfl (fun hc52 => ?_) (fun hc52 => ?_))))
      ·replace hc52 := zy2 hc52
       refine zM (zK (zT rfl (zb Tryz.call28 rfl rfl (by repeat (first | exact zR _ | apply zG 0 rfl | apply zG 1 rfl | apply zG 2 rfl | apply zG 3 rfl | apply zG 4 rfl | apply zG 5 rfl | apply zG 6 rfl | apply zG 7 rfl)) (qS 3)) rfl ?_)); rintro _ H' ⟨_, ⟨rfl, rfl⟩, hH⟩; simp only [zy7] at hH; subst hH; refine zo rfl (zm 2 qW rfl rfl rfl rfl rfl (zy1 rfl) (zg _)) rfl ?_; rintro _ _ rfl; simp only [zE, zF]; refine zN (zI (zi ?_)); refine zh ?_; refine' zX (qg rfl (qB qW rfl (zy6 2 rfl zx) rfl)) ?_ ?_
       rotate_left 1
       exact ⟨t, Rk.stat 3, rfl, (by unfold setR; rw [hf]; dsimp only; rw [if_neg (by omega), if_pos ⟨by omega, by simp_all, by omega⟩]; exact ⟨rfl, rfl⟩), ⟨r, hW⟩, rfl, rfl, rfl⟩
       exact (zJ 0 rfl (zJ 3 rfl (zY _)))
      ·replace hc52 := zy3 hc52
       refine zl ?_; refine zI (zM (qZ 10 (by kernel_rfl) (Split.all _) ?_)); refine zRO (i := 0) (by kernel_rfl) rfl rfl (zL rfl) rfl (zRO (i := 1) (by kernel_rfl) rfl rfl (zU rfl) rfl (zRO (i := 2) (by kernel_rfl) rfl rfl (zP yT rfl) rfl (zRO (i := 3) (by kernel_rfl) rfl rfl (zW sc51 rfl (zy4 0 rfl (Rd.own rfl))) rfl (zRO (i := 4) (by kernel_rfl) rfl rfl (zL rfl) rfl (zRO (i := 5) (by kernel_rfl) rfl rfl (zU rfl) rfl ?_))))); refine zRO (i := 6) (by kernel_rfl) rfl rfl (zP fa67_1 rfl) rfl (zRO (i := 7) (by kernel_rfl) rfl rfl (zW sc3 rfl (zy4 0 rfl ((yo yL hl hs16 hi 1 _ rfl)))) rfl (zRO (i := 8) (by kernel_rfl) rfl rfl (zP fa35_8 rfl) rfl (zRO (i := 9) (by kernel_rfl) rfl rfl (qX ag30 rfl (zy6 3 rfl (rdn_sub 7)) rfl) rfl (qR (m' := 13) (L' := []) (by kernel_rfl) qx ?_)))); simp only [zA, zB, List.append_nil]; refine qM (i := 10) (by kernel_rfl) rfl rfl (zb Tryz.call35 rfl rfl (by repeat (first | exact zR _ | apply zG 0 rfl | apply zG 1 rfl | apply zG 2 rfl | apply zG 3 rfl | apply zG 4 rfl | apply zG 5 rfl | apply zG 6 rfl | apply zG 7 rfl)) (qf htb (set_spec hW (hdA hs s i).id q.a hq.a))) rfl ?_; rintro _ H' ⟨_, ⟨t1, e1, rfl, hR1, rfl⟩, hH⟩; simp only [zy7] at hH; subst hH; obtain ⟨hW1, hnx1, ht1, _⟩ := set_wf hW hq.a hR1
       refine qM (i := 11) (by kernel_rfl) rfl rfl (zb Tryz.call32 rfl rfl (by repeat (first | exact zR _ | apply zG 0 rfl | apply zG 1 rfl | apply zG 2 rfl | apply zG 3 rfl | apply zG 4 rfl | apply zG 5 rfl | apply zG 6 rfl | apply zG 7 rfl)) (yz e1)) rfl ?_; rintro _ H' ⟨_, ⟨rfl, rfl⟩, hH⟩; simp only [zy7] at hH; subst hH; refine qq (i := 12) (by kernel_rfl) rfl rfl (zm 3 qW rfl rfl rfl rfl rfl (zy1 rfl) (zg _)) rfl ?_; rintro _ _ rfl; simp only [zE, zF]; refine qT (by kernel_rfl) ?_; refine zI (zi ?_); refine' zX (qg rfl (qB qW rfl (zy6 3 rfl zx) rfl)) ?_ ?_
       rotate_left 1
       exact ⟨t1, ofK e1, (by rw [← ye]; rfl), (by unfold setR; rw [hf]; dsimp only; rw [if_neg (by omega), if_neg (by rintro ⟨a1, a2, a3⟩; first | omega | simp_all)]; exact ⟨e1, hR1, rfl⟩), hW1, ht1, hnx1, rfl⟩
       exact (zJ 1 rfl (zJ 0 rfl (zY _)))
     ·simp only [Bool.and_eq_false_iff, decide_eq_false_iff_not, Bool.not_eq_false', decide_eq_true_eq] at hg45; refine zZ rfl rfl (zZ rfl rfl (zZ rfl rfl (zZ rfl rfl (zZ rfl rfl (zZ rfl rfl ?_))))); refine zH rfl (zr rfl rfl) rfl (zN (zI (qC rfl ?_))); refine zl ?_; refine zI (zM (qZ 10 (by kernel_rfl) (Split.all _) ?_)); refine zRO (i := 0) (by kernel_rfl) rfl rfl (zL rfl) rfl (zRO (i := 1) (by kernel_rfl) rfl rfl (zU rfl) rfl (zRO (i := 2) (by kernel_rfl) rfl rfl (zP yT rfl) rfl (zRO (i := 3) (by kernel_rfl) rfl rfl (zW sc51 rfl (zy4 0 rfl (Rd.own rfl))) rfl (zRO (i := 4) (by kernel_rfl) rfl rfl (zL rfl) rfl (zRO (i := 5) (by kernel_rfl) rfl rfl (zU rfl) rfl ?_))))); refine zRO (i := 6) (by kernel_rfl) rfl rfl (zP fa67_1 rfl) rfl (zRO (i := 7) (by kernel_rfl) rfl rfl (zW sc3 rfl (zy4 0 rfl ((yo yL hl hs16 hi 1 _ rfl)))) rfl (zRO (i := 8) (by kernel_rfl) rfl rfl (zP fa35_8 rfl) rfl (zRO (i := 9) (by kernel_rfl) rfl rfl (qX ag30 rfl (zy6 3 rfl (rdn_sub 7)) rfl) rfl (qR (m' := 13) (L' := []) (by kernel_rfl) qx ?_)))); simp only [zA, zB, List.append_nil]; refine qM (i := 10) (by kernel_rfl) rfl rfl (zb Tryz.call35 rfl rfl (by repeat (first | exact zR _ | apply zG 0 rfl | apply zG 1 rfl | apply zG 2 rfl | apply zG 3 rfl | apply zG 4 rfl | apply zG 5 rfl | apply zG 6 rfl | apply zG 7 rfl)) (qf htb (set_spec hW (hdA hs s i).id q.a hq.a))) rfl ?_; rintro _ H' ⟨_, ⟨t1, e1, rfl, hR1, rfl⟩, hH⟩; simp only [zy7] at hH; subst hH; obtain ⟨hW1, hnx1, ht1, _⟩ := set_wf hW hq.a hR1
      refine qM (i := 11) (by kernel_rfl) rfl rfl (zb Tryz.call32 rfl rfl (by repeat (first | exact zR _ | apply zG 0 rfl | apply zG 1 rfl | apply zG 2 rfl | apply zG 3 rfl | apply zG 4 rfl | apply zG 5 rfl | apply zG 6 rfl | apply zG 7 rfl)) (yz e1)) rfl ?_; rintro _ H' ⟨_, ⟨rfl, rfl⟩, hH⟩; simp only [zy7] at hH; subst hH; refine qq (i := 12) (by kernel_rfl) rfl rfl (zm 3 qW rfl rfl rfl rfl rfl (zy1 rfl) (zg _)) rfl ?_; rintro _ _ rfl; simp only [zE, zF]; refine qT (by kernel_rfl) ?_; refine zI (zi ?_); refine' zX (qg rfl (qB qW rfl (zy6 3 rfl zx) rfl)) ?_ ?_
      rotate_left 1
      exact ⟨t1, ofK e1, (by rw [← ye]; rfl), (by unfold setR; rw [hf]; dsimp only; rw [if_neg (by omega), if_neg (by rintro ⟨a1, a2, a3⟩; first | omega | simp_all)]; exact ⟨e1, hR1, rfl⟩), hW1, ht1, hnx1, rfl⟩
      exact (zJ 1 rfl (zJ 0 rfl (zY _)))
    ·replace hg38 := zy3 hg38
     refine zZ rfl rfl (zZ rfl rfl (zZ rfl rfl (zZ rfl rfl (zZ rfl rfl (zH rfl (zr rfl rfl) rfl ?_))))); refine zH rfl (zL (v := .bool false) rfl) rfl (zZ rfl rfl (zZ rfl rfl (zZ rfl rfl (zZ rfl rfl (zZ rfl rfl ?_))))); refine zZ rfl rfl (zH rfl (zr rfl rfl) rfl (zN (zI (qC rfl ?_)))); refine zl ?_; refine zI (zM (qZ 10 (by kernel_rfl) (Split.all _) ?_)); refine zRO (i := 0) (by kernel_rfl) rfl rfl (zL rfl) rfl (zRO (i := 1) (by kernel_rfl) rfl rfl (zU rfl) rfl (zRO (i := 2) (by kernel_rfl) rfl rfl (zP yT rfl) rfl (zRO (i := 3) (by kernel_rfl) rfl rfl (zW sc51 rfl (zy4 0 rfl (Rd.own rfl))) rfl (zRO (i := 4) (by kernel_rfl) rfl rfl (zL rfl) rfl (zRO (i := 5) (by kernel_rfl) rfl rfl (zU rfl) rfl ?_))))); refine zRO (i := 6) (by kernel_rfl) rfl rfl (zP fa67_1 rfl) rfl (zRO (i := 7) (by kernel_rfl) rfl rfl (zW sc3 rfl (zy4 0 rfl ((yo yL hl hs16 hi 1 _ rfl)))) rfl (zRO (i := 8) (by kernel_rfl) rfl rfl (zP fa35_8 rfl) rfl (zRO (i := 9) (by kernel_rfl) rfl rfl (qX ag30 rfl (zy6 3 rfl (rdn_sub 7)) rfl) rfl (qR (m' := 13) (L' := []) (by kernel_rfl) qx ?_)))); simp only [zA, zB, List.append_nil]; refine qM (i := 10) (by kernel_rfl) rfl rfl (zb Tryz.call35 rfl rfl (by repeat (first | exact zR _ | apply zG 0 rfl | apply zG 1 rfl | apply zG 2 rfl | apply zG 3 rfl | apply zG 4 rfl | apply zG 5 rfl | apply zG 6 rfl | apply zG 7 rfl)) (qf htb (set_spec hW (hdA hs s i).id q.a hq.a))) rfl ?_; rintro _ H' ⟨_, ⟨t1, e1, rfl, hR1, rfl⟩, hH⟩; simp only [zy7] at hH; subst hH; obtain ⟨hW1, hnx1, ht1, _⟩ := set_wf hW hq.a hR1
     refine qM (i := 11) (by kernel_rfl) rfl rfl (zb Tryz.call32 rfl rfl (by repeat (first | exact zR _ | apply zG 0 rfl | apply zG 1 rfl | apply zG 2 rfl | apply zG 3 rfl | apply zG 4 rfl | apply zG 5 rfl | apply zG 6 rfl | apply zG 7 rfl)) (yz e1)) rfl ?_; rintro _ H' ⟨_, ⟨rfl, rfl⟩, hH⟩; simp only [zy7] at hH; subst hH; refine qq (i := 12) (by kernel_rfl) rfl rfl (zm 3 qW rfl rfl rfl rfl rfl (zy1 rfl) (zg _)) rfl ?_; rintro _ _ rfl; simp only [zE, zF]; refine qT (by kernel_rfl) ?_; refine zI (zi ?_); refine' zX (qg rfl (qB qW rfl (zy6 3 rfl zx) rfl)) ?_ ?_
     rotate_left 1
     exact ⟨t1, ofK e1, (by rw [← ye]; rfl), (by unfold setR; rw [hf]; dsimp only; rw [if_neg (by omega), if_neg (by rintro ⟨a1, a2, a3⟩; first | omega | simp_all)]; exact ⟨e1, hR1, rfl⟩), hW1, ht1, hnx1, rfl⟩
     exact (zJ 1 rfl (zJ 0 rfl (zY _)))
  ·refine at_eff' rfl rfl (qL z30) rfl ?_; rintro _ _ ⟨b8, rfl, rfl⟩; refine yb (i := 8) (by kernel_rfl) rfl rfl (zy (Pre := []) Tryz.call83 rfl rfl (zR _) (qf htb (xI (Tv.pick 4 rfl (qh t)) _ hdl))) rfl ?_; rintro _ _ ⟨rfl, rfl⟩; simp only [zA, zB]; refine zRO (i := 9) (by kernel_rfl) rfl rfl (zL rfl) rfl (zRO (i := 10) (by kernel_rfl) rfl rfl (zu rfl rfl) rfl (zRO (i := 11) (by kernel_rfl) rfl rfl (zu rfl rfl) rfl (qq (i := 13) (by kernel_rfl) rfl rfl (zm 0 ag30 rfl rfl rfl rfl rfl (zy1 rfl) (zg _)) rfl ?_))); rintro _ _ rfl; simp only [zE, zF]; refine qR (m' := 15) (L' := []) (by kernel_rfl) qx ?_; simp only [zA, zB, List.append_nil]; refine zRO (i := 14) (by kernel_rfl) rfl rfl (zO rfl) rfl (qT (by kernel_rfl) ?_); refine zI (zM (zK (zH rfl (zL rfl) rfl (zH rfl (q9 rfl rfl rfl) rfl (zN ?_))))); refine zI (zq rfl (fun hc31 => ?_) (fun hc31 => ?_))
   ·replace hc31 := zy2 hc31
    refine zM (zK (zT rfl (zb Tryz.call28 rfl rfl (by repeat (first | exact zR _ | apply zG 0 rfl | apply zG 1 rfl | apply zG 2 rfl | apply zG 3 rfl | apply zG 4 rfl | apply zG 5 rfl | apply zG 6 rfl | apply zG 7 rfl)) (qS 4)) rfl ?_)); rintro _ H' ⟨_, ⟨rfl, rfl⟩, hH⟩; simp only [zy7] at hH; subst hH; refine zo rfl (zm 2 qW rfl rfl rfl rfl rfl (zy1 rfl) (zg _)) rfl ?_; rintro _ _ rfl; simp only [zE, zF]; refine zN (zI (zi ?_)); refine zh ?_; refine' zX (qg rfl (qB qW rfl (zy6 2 rfl zx) rfl)) ?_ ?_
    rotate_left 1
    exact ⟨t, Rk.stat 4, rfl, (by unfold setR; rw [hf]; dsimp only; rw [if_pos (by omega)]; exact ⟨rfl, rfl⟩), ⟨r, hW⟩, rfl, rfl, rfl⟩
    exact (zJ 0 rfl (zJ 3 rfl (zY _)))
   ·replace hc31 := zy3 hc31
    refine zl ?_; refine zI (zM (zM (zK (zH rfl (zP fa35_8 rfl) rfl (zH rfl (zP yg rfl) rfl ?_))))); refine zH rfl (zW yB rfl (zy4 3 rfl (Rd.own rfl))) rfl (zH rfl (ya rfl rfl (xE hq.a.f (c := 1) (by decide) rfl)) rfl (zH rfl (q9 rfl rfl rfl) rfl (qi rfl rfl rfl (fun hg38 => ?_) (fun hg38 => ?_))))
    ·replace hg38 := zy2 hg38
     refine zH rfl (zL rfl) rfl (zH rfl (zU rfl) rfl (zH rfl (zP fa67_2 rfl) rfl (zH rfl (zW sc4 rfl (zy4 0 rfl ((yo yL hl hs16 hi 2 _ rfl)))) rfl (zH rfl (qy rfl rfl) rfl (zH rfl (zr rfl rfl) rfl ?_))))); refine qi rfl rfl rfl (fun hg45 => ?_) (fun hg45 => ?_)
     ·simp only [Bool.and_eq_true, decide_eq_true_eq, Bool.not_eq_true', decide_eq_false_iff_not, bne_iff_ne, ne_eq] at hg45; refine zH rfl (zL rfl) rfl (zH rfl (zU rfl) rfl (zH rfl (zP fa67_3 rfl) rfl (zH rfl (zW yB rfl (zy4 0 rfl ((yo yL hl hs16 hi 3 _ rfl)))) rfl (zH rfl (ya rfl rfl (xE hfl (c := 2) (by decide) rfl)) rfl (zH rfl (qQ rfl rfl rfl) rfl ?_))))); refine zH rfl (zr rfl rfl) rfl (zN (zI (zq rfl (fun hc52 => ?_) (fun hc52 => ?_))))
      ·replace hc52 := zy2 hc52
       refine zM (zK (zT rfl (zb Tryz.call28 rfl rfl (by repeat (first | exact zR _ | apply zG 0 rfl | apply zG 1 rfl | apply zG 2 rfl | apply zG 3 rfl | apply zG 4 rfl | apply zG 5 rfl | apply zG 6 rfl | apply zG 7 rfl)) (qS 3)) rfl ?_)); rintro _ H' ⟨_, ⟨rfl, rfl⟩, hH⟩; simp only [zy7] at hH; subst hH; refine zo rfl (zm 2 qW rfl rfl rfl rfl rfl (zy1 rfl) (zg _)) rfl ?_; rintro _ _ rfl; simp only [zE, zF]; refine zN (zI (zi ?_)); refine zh ?_; refine' zX (qg rfl (qB qW rfl (zy6 2 rfl zx) rfl)) ?_ ?_
       rotate_left 1
       exact ⟨t, Rk.stat 3, rfl, (by unfold setR; rw [hf]; dsimp only; rw [if_neg (by omega), if_pos ⟨by omega, by simp_all, by omega⟩]; exact ⟨rfl, rfl⟩), ⟨r, hW⟩, rfl, rfl, rfl⟩
       exact (zJ 0 rfl (zJ 3 rfl (zY _)))
      ·replace hc52 := zy3 hc52
       refine zl ?_; refine zI (zM (qZ 10 (by kernel_rfl) (Split.all _) ?_)); refine zRO (i := 0) (by kernel_rfl) rfl rfl (zL rfl) rfl (zRO (i := 1) (by kernel_rfl) rfl rfl (zU rfl) rfl (zRO (i := 2) (by kernel_rfl) rfl rfl (zP yT rfl) rfl (zRO (i := 3) (by kernel_rfl) rfl rfl (zW sc51 rfl (zy4 0 rfl (Rd.own rfl))) rfl (zRO (i := 4) (by kernel_rfl) rfl rfl (zL rfl) rfl (zRO (i := 5) (by kernel_rfl) rfl rfl (zU rfl) rfl ?_))))); refine zRO (i := 6) (by kernel_rfl) rfl rfl (zP fa67_1 rfl) rfl (zRO (i := 7) (by kernel_rfl) rfl rfl (zW sc3 rfl (zy4 0 rfl ((yo yL hl hs16 hi 1 _ rfl)))) rfl (zRO (i := 8) (by kernel_rfl) rfl rfl (zP fa35_8 rfl) rfl (zRO (i := 9) (by kernel_rfl) rfl rfl (qX ag30 rfl (zy6 3 rfl (rdn_sub 7)) rfl) rfl (qR (m' := 13) (L' := []) (by kernel_rfl) qx ?_)))); simp only [zA, zB, List.append_nil]; refine qM (i := 10) (by kernel_rfl) rfl rfl (zb Tryz.call35 rfl rfl (by repeat (first | exact zR _ | apply zG 0 rfl | apply zG 1 rfl | apply zG 2 rfl | apply zG 3 rfl | apply zG 4 rfl | apply zG 5 rfl | apply zG 6 rfl | apply zG 7 rfl)) (qf htb (set_spec hW (hdA hs s i).id q.a hq.a))) rfl ?_; rintro _ H' ⟨_, ⟨t1, e1, rfl, hR1, rfl⟩, hH⟩; simp only [zy7] at hH; subst hH; obtain ⟨hW1, hnx1, ht1, _⟩ := set_wf hW hq.a hR1
       refine qM (i := 11) (by kernel_rfl) rfl rfl (zb Tryz.call32 rfl rfl (by repeat (first | exact zR _ | apply zG 0 rfl | apply zG 1 rfl | apply zG 2 rfl | apply zG 3 rfl | apply zG 4 rfl | apply zG 5 rfl | apply zG 6 rfl | apply zG 7 rfl)) (yz e1)) rfl ?_; rintro _ H' ⟨_, ⟨rfl, rfl⟩, hH⟩; simp only [zy7] at hH; subst hH; refine qq (i := 12) (by kernel_rfl) rfl rfl (zm 3 qW rfl rfl rfl rfl rfl (zy1 rfl) (zg _)) rfl ?_; rintro _ _ rfl; simp only [zE, zF]; refine qT (by kernel_rfl) ?_; refine zI (zi ?_); refine' zX (qg rfl (qB qW rfl (zy6 3 rfl zx) rfl)) ?_ ?_
       rotate_left 1
       exact ⟨t1, ofK e1, (by rw [← ye]; rfl), (by unfold setR; rw [hf]; dsimp only; rw [if_neg (by omega), if_neg (by rintro ⟨a1, a2, a3⟩; first | omega | simp_all)]; exact ⟨e1, hR1, rfl⟩), hW1, ht1, hnx1, rfl⟩
       exact (zJ 1 rfl (zJ 0 rfl (zY _)))
     ·simp only [Bool.and_eq_false_iff, decide_eq_false_iff_not, Bool.not_eq_false', decide_eq_true_eq] at hg45; refine zZ rfl rfl (zZ rfl rfl (zZ rfl rfl (zZ rfl rfl (zZ rfl rfl (zZ rfl rfl ?_))))); refine zH rfl (zr rfl rfl) rfl (zN (zI (qC rfl ?_))); refine zl ?_; refine zI (zM (qZ 10 (by kernel_rfl) (Split.all _) ?_)); refine zRO (i := 0) (by kernel_rfl) rfl rfl (zL rfl) rfl (zRO (i := 1) (by kernel_rfl) rfl rfl (zU rfl) rfl (zRO (i := 2) (by kernel_rfl) rfl rfl (zP yT rfl) rfl (zRO (i := 3) (by kernel_rfl) rfl rfl (zW sc51 rfl (zy4 0 rfl (Rd.own rfl))) rfl (zRO (i := 4) (by kernel_rfl) rfl rfl (zL rfl) rfl (zRO (i := 5) (by kernel_rfl) rfl rfl (zU rfl) rfl ?_))))); refine zRO (i := 6) (by kernel_rfl) rfl rfl (zP fa67_1 rfl) rfl (zRO (i := 7) (by kernel_rfl) rfl rfl (zW sc3 rfl (zy4 0 rfl ((yo yL hl hs16 hi 1 _ rfl)))) rfl (zRO (i := 8) (by kernel_rfl) rfl rfl (zP fa35_8 rfl) rfl (zRO (i := 9) (by kernel_rfl) rfl rfl (qX ag30 rfl (zy6 3 rfl (rdn_sub 7)) rfl) rfl (qR (m' := 13) (L' := []) (by kernel_rfl) qx ?_)))); simp only [zA, zB, List.append_nil]; refine qM (i := 10) (by kernel_rfl) rfl rfl (zb Tryz.call35 rfl rfl (by repeat (first | exact zR _ | apply zG 0 rfl | apply zG 1 rfl | apply zG 2 rfl | apply zG 3 rfl | apply zG 4 rfl | apply zG 5 rfl | apply zG 6 rfl | apply zG 7 rfl)) (qf htb (set_spec hW (hdA hs s i).id q.a hq.a))) rfl ?_; rintro _ H' ⟨_, ⟨t1, e1, rfl, hR1, rfl⟩, hH⟩; simp only [zy7] at hH; subst hH; obtain ⟨hW1, hnx1, ht1, _⟩ := set_wf hW hq.a hR1
      refine qM (i := 11) (by kernel_rfl) rfl rfl (zb Tryz.call32 rfl rfl (by repeat (first | exact zR _ | apply zG 0 rfl | apply zG 1 rfl | apply zG 2 rfl | apply zG 3 rfl | apply zG 4 rfl | apply zG 5 rfl | apply zG 6 rfl | apply zG 7 rfl)) (yz e1)) rfl ?_; rintro _ H' ⟨_, ⟨rfl, rfl⟩, hH⟩; simp only [zy7] at hH; subst hH; refine qq (i := 12) (by kernel_rfl) rfl rfl (zm 3 qW rfl rfl rfl rfl rfl (zy1 rfl) (zg _)) rfl ?_; rintro _ _ rfl; simp only [zE, zF]; refine qT (by kernel_rfl) ?_; refine zI (zi ?_); refine' zX (qg rfl (qB qW rfl (zy6 3 rfl zx) rfl)) ?_ ?_
      rotate_left 1
      exact ⟨t1, ofK e1, (by rw [← ye]; rfl), (by unfold setR; rw [hf]; dsimp only; rw [if_neg (by omega), if_neg (by rintro ⟨a1, a2, a3⟩; first | omega | simp_all)]; exact ⟨e1, hR1, rfl⟩), hW1, ht1, hnx1, rfl⟩
      exact (zJ 1 rfl (zJ 0 rfl (zY _)))
    ·replace hg38 := zy3 hg38
     refine zZ rfl rfl (zZ rfl rfl (zZ rfl rfl (zZ rfl rfl (zZ rfl rfl (zH rfl (zr rfl rfl) rfl ?_))))); refine zH rfl (zL (v := .bool false) rfl) rfl (zZ rfl rfl (zZ rfl rfl (zZ rfl rfl (zZ rfl rfl (zZ rfl rfl ?_))))); refine zZ rfl rfl (zH rfl (zr rfl rfl) rfl (zN (zI (qC rfl ?_)))); refine zl ?_; refine zI (zM (qZ 10 (by kernel_rfl) (Split.all _) ?_)); refine zRO (i := 0) (by kernel_rfl) rfl rfl (zL rfl) rfl (zRO (i := 1) (by kernel_rfl) rfl rfl (zU rfl) rfl (zRO (i := 2) (by kernel_rfl) rfl rfl (zP yT rfl) rfl (zRO (i := 3) (by kernel_rfl) rfl rfl (zW sc51 rfl (zy4 0 rfl (Rd.own rfl))) rfl (zRO (i := 4) (by kernel_rfl) rfl rfl (zL rfl) rfl (zRO (i := 5) (by kernel_rfl) rfl rfl (zU rfl) rfl ?_))))); refine zRO (i := 6) (by kernel_rfl) rfl rfl (zP fa67_1 rfl) rfl (zRO (i := 7) (by kernel_rfl) rfl rfl (zW sc3 rfl (zy4 0 rfl ((yo yL hl hs16 hi 1 _ rfl)))) rfl (zRO (i := 8) (by kernel_rfl) rfl rfl (zP fa35_8 rfl) rfl (zRO (i := 9) (by kernel_rfl) rfl rfl (qX ag30 rfl (zy6 3 rfl (rdn_sub 7)) rfl) rfl (qR (m' := 13) (L' := []) (by kernel_rfl) qx ?_)))); simp only [zA, zB, List.append_nil]; refine qM (i := 10) (by kernel_rfl) rfl rfl (zb Tryz.call35 rfl rfl (by repeat (first | exact zR _ | apply zG 0 rfl | apply zG 1 rfl | apply zG 2 rfl | apply zG 3 rfl | apply zG 4 rfl | apply zG 5 rfl | apply zG 6 rfl | apply zG 7 rfl)) (qf htb (set_spec hW (hdA hs s i).id q.a hq.a))) rfl ?_; rintro _ H' ⟨_, ⟨t1, e1, rfl, hR1, rfl⟩, hH⟩; simp only [zy7] at hH; subst hH; obtain ⟨hW1, hnx1, ht1, _⟩ := set_wf hW hq.a hR1
     refine qM (i := 11) (by kernel_rfl) rfl rfl (zb Tryz.call32 rfl rfl (by repeat (first | exact zR _ | apply zG 0 rfl | apply zG 1 rfl | apply zG 2 rfl | apply zG 3 rfl | apply zG 4 rfl | apply zG 5 rfl | apply zG 6 rfl | apply zG 7 rfl)) (yz e1)) rfl ?_; rintro _ H' ⟨_, ⟨rfl, rfl⟩, hH⟩; simp only [zy7] at hH; subst hH; refine qq (i := 12) (by kernel_rfl) rfl rfl (zm 3 qW rfl rfl rfl rfl rfl (zy1 rfl) (zg _)) rfl ?_; rintro _ _ rfl; simp only [zE, zF]; refine qT (by kernel_rfl) ?_; refine zI (zi ?_); refine' zX (qg rfl (qB qW rfl (zy6 3 rfl zx) rfl)) ?_ ?_
     rotate_left 1
     exact ⟨t1, ofK e1, (by rw [← ye]; rfl), (by unfold setR; rw [hf]; dsimp only; rw [if_neg (by omega), if_neg (by rintro ⟨a1, a2, a3⟩; first | omega | simp_all)]; exact ⟨e1, hR1, rfl⟩), hW1, ht1, hnx1, rfl⟩
     exact (zJ 1 rfl (zJ 0 rfl (zY _)))
theorem cloneN_some (V : HProp) (a : Addr) (m c : Nat) (xs : List Value) (hV : Vw V (.slice (some a) m c) m xs) (hl : xs.length = m * 8) (hone : ∀ v ∈ xs, v.oneCell' = true) (hm : m ≤ 1000000) :
 Tri Tryz.prog 129 [.slice (some a) m c] [V] (fun r H' => ∃ p' c', r = .slice p' m c' ∧ H' = [row 87 8 (.slice p' m c') m xs, V]) := by
 refine zt Tryz.func129 rfl Tryz.ntmps129 (by simp) ?_; refine zM (zK (zH rfl (zO rfl) rfl (zN (zI (zM ?_))))); refine zM (zK (zH rfl (zL rfl) rfl (zH rfl (ro_sliceEqlNil Tryz.underlying26 rfl rfl rfl) rfl (zN (zI ?_))))); refine qC rfl ?_; refine zl ?_; refine zI (zM (zK (zT rfl (eff_lit sl26 rfl (sbld (cs := []) [] sl26 (by decide) (by kernel_rfl) rfl) rfl (by decide)) rfl ?_))); rintro _ _ ⟨b5, rfl, rfl⟩; refine zH rfl (zL rfl) rfl (zT rfl (eff_append 0 sl26 (.inl ⟨87, Tryz.underlying26⟩) rfl rfl rfl (Src.of_vw (zy5 0 rfl hV) hl hone) (by omega) (by simp only [maxLen]; omega)) rfl ?_); rintro _ _ ⟨_, ⟨p', c', rfl, -, rfl⟩, rfl⟩; simp only [Nat.zero_add, zB, zE]; refine zH rfl (zO rfl) rfl (zN (zI (zi ?_))); refine' zX (qk rfl rfl) ?_ ?_
 rotate_left 1
 exact ⟨p', c', rfl, rfl⟩
 exact zj _
theorem cloneN_nil (V : HProp) : Tri Tryz.prog 129 [.slice none 0 0] [V] (fun r H' => ∃ p' c', r = .slice p' 0 c' ∧ H' = [row 87 8 (.slice p' 0 c') 0 [], V]) := by
 refine zt Tryz.func129 rfl Tryz.ntmps129 (by simp) ?_; refine zM (zK (zH rfl (zO rfl) rfl (zN (zI (zM ?_))))); refine zM (zK (zH rfl (zL rfl) rfl (zH rfl (ro_sliceEqlNil Tryz.underlying26 rfl rfl rfl) rfl (zN (zI ?_))))); refine qG rfl ?_; refine zM (qD (fun w F => qv 87 8 w F) ?_); refine zK (zH rfl (zO rfl) rfl (zN (zI (zi ?_)))); refine zh ?_; refine' zX (qk rfl rfl) ?_ ?_
 rotate_left 1
 exact ⟨none, 0, rfl, rfl⟩
 exact zj _
theorem cloneN (V : HProp) (p : Option Addr) (m c : Nat) (xs : List Value) (hV : Vw V (.slice p m c) m xs) (hl : xs.length = m * 8) (hone : ∀ v ∈ xs, v.oneCell' = true) (hm : m ≤ 1000000) :
 Tri Tryz.prog 129 [.slice p m c] [V] (fun r H' => ∃ K, (∃ p' c', r = .slice p' m c' ∧ K = [row 87 8 (.slice p' m c') m xs]) ∧ H' = K ++ [V]) := by
 cases p with
 | some a =>
  refine tri_post (cloneN_some V a m c xs hV hl hone hm) ?_; rintro v H ⟨p', c', h1, h2⟩; exact ⟨_, ⟨p', c', h1, rfl⟩, h2⟩
 | none =>
  refine tri_know (p := m = 0 ∧ c = 0 ∧ xs = []) (fun w F s => hV.len_nil (by simpa [qJ, yV, qt] using s)) ?_; rintro ⟨rfl, rfl, rfl⟩; refine tri_post (cloneN_nil V) ?_; rintro v H ⟨p', c', h1, h2⟩; exact ⟨_, ⟨p', c', h1, rfl⟩, h2⟩
theorem hd_some {hs : List Hd} {s i : Nat} (hl : hs.length = 256) (h16 : s < 16) (hi : i < 16) : hs[s * 16 + i]? = some (hdA hs s i) := by
 unfold hdA; rw [List.getD_eq_getElem?_getD, List.getElem?_eq_getElem (by omega)]
 rfl
theorem rows_put {hs : List Hd} {k : Nat} {x y : Hd} {L : List HProp} (h : hs[k]? = some x) {w : World} {F : HProp} (s : sat w (star (St (St (hs.map rowN) :: rowN y :: L)) F)) : sat w (star (St (St ((hs.set k y).map rowN) :: L)) F) := by
 rw [qJ, qJ, zv, zv] at s; rw [qJ, zv]; exact rows_set h s
theorem qF {hs : List Hd} {k : Nat} {x : Hd} (h : hs[k]? = some x) : Vw (St (hs.map rowN)) (.slice x.np x.names.length x.nc) x.names.length (flat Nm.cs x.names) :=
 zy5 k (A := rowN x) (by rw [List.getElem?_map, h]; rfl) Vw.row
theorem set_over {cs : List Value} {o : Nat} {v : Value} (h : o < cs.length) : cs.set o v = yE cs o [v] := by
 unfold yE; rw [List.set_eq_take_append_cons_drop, if_pos h]; simp
theorem ma_field {p v : Value} {hs : List Hd} {s i k : Nat} {y : Hd} (hl : hs.length = 256) (h16 : s < 16) (hi : i < 16) (hk : k < 5) (hy : y.cs = (hdA hs s i).cs.set k v) : (p :: flat Hd.cs hs).set (0 + 1 + s * 80 + i * 5 + k) v = p :: flat Hd.cs (hs.set (s * 16 + i) y) := by
 rw [set_over (by rw [List.length_cons, yh Hd.len]; omega)]; rw [show p :: flat Hd.cs hs = [p] ++ flat Hd.cs hs from rfl, show 0 + 1 + s * 80 + i * 5 + k = [p].length + ((s * 16 + i) * 5 + k) by simp only [List.length_cons, List.length_nil]; omega, over_app_right]; rw [flat_part Hd.len (hd_some hl h16 hi) (by simp only [List.length_cons, List.length_nil]; omega) (y := y) (by rw [hy, set_over (by rw [Hd.len]; omega)])]
 rfl
theorem ma_field4 {v : Value} {hs : List Hd} {s i : Nat} {y : Hd} (hl : hs.length = 256) (h16 : s < 16) (hi : i < 16) (hy : y.cs = (hdA hs s i).cs.set 4 v) : (flat Hd.cs hs).set (0 + 1 + s * 80 + i * 5 + 3) v = flat Hd.cs (hs.set (s * 16 + i) y) :=
 (List.cons.inj (ma_field (p := .bool true) (k := 4) hl h16 hi (by decide) hy)).2
theorem take_tl {α : Type} (l : List α) : l.take (l.take 8).length = l.take 8 := by
 rw [List.length_take]
 by_cases h : l.length ≤ 8
 ·rw [Nat.min_eq_right h, List.take_of_length_le (Nat.le_refl _), List.take_of_length_le h]
 ·rw [Nat.min_eq_left (by omega)]
theorem drop_tl2 {α : Type} (l : List α) : l.length - (l.take 8).length = (l.drop 8).length := by
 rw [List.length_take, List.length_drop]; omega
theorem drop_tl1 {α : Type} (l : List α) : (l.drop (l.take 8).length).take (l.length - (l.take 8).length) = l.drop 8 := by
 rw [List.take_of_length_le (by rw [List.length_drop]; omega), List.length_take]
 by_cases h : l.length ≤ 8
 ·rw [Nat.min_eq_right h, List.drop_of_length_le (Nat.le_refl _), List.drop_of_length_le h]
 ·rw [Nat.min_eq_left (by omega)]
theorem listO_thou {t : Tr} {r : Nd} (hW : Wf t r) (id : Int) : (listO t.ns (byId t.ns id)).1.length ≤ 1000 := by
 cases hb : byId t.ns id with
 | none => exact Nat.zero_le _
 | some x =>
  unfold listO; dsimp only
  split
  ·show (lsK t.ns x.kids).length ≤ 1000
   have h1 := kids_le hW.kd (yD hb).1
   have h2 := hW.few
   unfold lsK; rw [List.length_map]; omega
  ·exact Nat.zero_le _
theorem close16_spec {V : HProp} {mb tb : Nat} {hs : List Hd} (hH : HsOk hs) (s : Nat) (hs16 : s < 16) (q : Qr) : Tri Tryz.prog 65 [.pointer (some ⟨mb, 0, none⟩), .int .i64 (s : Int), q.v] [oMa mb tb hs, St (hs.map rowN), V]
 (fun v H' => ∃ hs' k, v = (k.rep none 0 none 0).v ∧ closeR hs s q hs' k ∧ HsOk hs' ∧ H' = [oMa mb tb hs', St (hs'.map rowN), V]) :=
 tri_weak (tri_sub (L := [oMa mb tb hs, St [St (hs.map rowN), V]]) (fun w F sw => by simpa only [qJ, yV, qt, zv] using sw) (close_spec hH.len s hs16 q)) fun v H h => by
  obtain ⟨k, hs', hv, hc, rfl⟩ := h
  rcases hc with ⟨hf, rfl, rfl⟩ | ⟨i, hf, rfl, rfl⟩
  ·exact ⟨_, ⟨hs', Rk.stat 4, hv, (by unfold closeR; rw [hf]; exact ⟨rfl, rfl⟩), hH, rfl⟩, fun w F sw => by simpa only [qJ, yV, qt, zv] using sw⟩
  ·refine ⟨_, ⟨_, Rk.stat 0, hv, (by unfold closeR; rw [hf]; exact ⟨rfl, rfl⟩), hH.set ⟨by decide, by decide, by decide⟩, rfl⟩, fun w F sw => ?_⟩
   have s1 : sat w (star (St (St (hs.map rowN) :: rowN Hd.zero :: [oMa mb tb (hs.set (s * 16 + i) Hd.zero), V])) F) := by
    have s2 := qv 87 8 w F sw
    have e : row 87 8 (.slice none 0 0) 0 [] = rowN Hd.zero := rfl
    rw [e] at s2; have s3 : sat w (star (St [rowN Hd.zero, oMa mb tb (hs.set (s * 16 + i) Hd.zero), St (hs.map rowN), V]) F) := by simpa only [qJ, yV, qt, zv] using s2
    exact (zJ 2 rfl (zJ 0 rfl (zJ 0 rfl (zJ 0 rfl (zY _))))) w F s3
   have s3 := rows_put (hd_some hH.len hs16 (find_lt hf)) s1
   simp only [qJ, yV, qt, zv] at s3 ⊢; rw [qH]; exact s3
theorem free_lt {hs : List Hd} {s i : Nat} (h : freeH hs s = some i) : i < 16 := by
 have := List.mem_of_find?_eq_some h
 simpa using this
theorem opendir_spec {V : HProp} {mb tb : Nat} {t : Tr} {hs : List Hd} {r : Nd} (hW : Wf t r) (htb : t.tb = tb) (hH : HsOk hs) (s : Nat) (hs16 : s < 16) (q : Qr) (hq : q.Ok) (hP : Ml V) : Tri Tryz.prog 70 [.pointer (some ⟨mb, 0, none⟩), .int .i64 (s : Int), q.v] [oMa mb tb hs, tree t, St (hs.map rowN), V]
 (fun v H' => ∃ hs' k, v = (k.rep none 0 none 0).v ∧ opendirR t r hs s q hs' k ∧ HsOk hs' ∧ H' = [oMa mb tb hs', tree t, St (hs'.map rowN), V]) := by
 have hl := hH.len
 have hdl := wf_dl2 hW
 cases hf : freeH hs s with
 | none =>
  refine zt Tryz.func70 rfl Tryz.ntmps70 (by simp) ?_; refine zM (zK (zT rfl (qj rfl) rfl ?_)); rintro _ _ ⟨b5, rfl, rfl⟩; refine zT rfl (qL z32) rfl ?_; rintro _ _ ⟨b6, rfl, rfl⟩; refine zN (zI (zM (zK (zH rfl (zL rfl) rfl (zH rfl (zL rfl) rfl ?_))))); refine zT rfl (zy (Pre := []) Tryz.call124 rfl rfl (zR _) (free_spec (xX 2 rfl yL) hl s hs16)) rfl ?_; rintro _ H' ⟨_, ⟨rfl, rfl⟩, hH⟩; simp only [zy7] at hH; subst hH; rw [hf]; dsimp only [freeV]; refine zH rfl (zL rfl) rfl (zH rfl (zu rfl rfl) rfl (zH rfl (zu rfl rfl) rfl (zH rfl (zO rfl) rfl (zH rfl (zO rfl) rfl (zN ?_))))); refine zI (zM (zM (zK (zH rfl (zL rfl) rfl (zH rfl (qy rfl rfl) rfl ?_))))); refine zN (zI (qG rfl ?_)); refine zM (zK (zT rfl (zb Tryz.call28 rfl rfl (by repeat (first | exact zR _ | apply zG 0 rfl | apply zG 1 rfl | apply zG 2 rfl | apply zG 3 rfl | apply zG 4 rfl | apply zG 5 rfl | apply zG 6 rfl | apply zG 7 rfl)) (qS 4)) rfl ?_)); rintro _ H' ⟨_, ⟨rfl, rfl⟩, hH⟩; simp only [zy7] at hH; subst hH; refine zo rfl (zm 0 qW rfl rfl rfl rfl rfl (zy1 rfl) (zg _)) rfl ?_; rintro _ _ rfl; simp only [zE, zF]; refine zN (zI (zi ?_)); refine zh ?_; refine' zX (qg rfl (qB qW rfl (zy6 0 rfl zx) rfl)) ?_ ?_
  rotate_left 1
  exact ⟨hs, Rk.stat 4, rfl, (by unfold opendirR; rw [hf]; exact ⟨rfl, rfl⟩), hH, rfl⟩
  exact (zJ 2 rfl (zJ 2 rfl (zJ 2 rfl (zJ 2 rfl (zY _)))))
 | some i =>
  have hi := free_lt hf
  refine zt Tryz.func70 rfl Tryz.ntmps70 (by simp) ?_; refine zM (zK (zT rfl (qj rfl) rfl ?_)); rintro _ _ ⟨b5, rfl, rfl⟩; refine zT rfl (qL z32) rfl ?_; rintro _ _ ⟨b6, rfl, rfl⟩; refine zN (zI (zM (zK (zH rfl (zL rfl) rfl (zH rfl (zL rfl) rfl ?_))))); refine zT rfl (zy (Pre := []) Tryz.call124 rfl rfl (zR _) (free_spec (xX 2 rfl yL) hl s hs16)) rfl ?_; rintro _ H' ⟨_, ⟨rfl, rfl⟩, hH⟩; simp only [zy7] at hH; subst hH; rw [hf]; dsimp only [freeV]; refine zH rfl (zL rfl) rfl (zH rfl (zu rfl rfl) rfl (zH rfl (zu rfl rfl) rfl (zH rfl (zO rfl) rfl (zH rfl (zO rfl) rfl (zN ?_))))); refine zI (zM (zM (zK (zH rfl (zL rfl) rfl (zH rfl (qy rfl rfl) rfl ?_))))); refine zN (zI (qC rfl ?_)); refine zl ?_; refine zI (zM (zK (zH rfl (zL rfl) rfl (zH rfl (zP fa35_1 rfl) rfl (zH rfl (zW sc9 rfl (zy4 1 rfl (Rd.own rfl))) rfl ?_))))); refine zT rfl (zy (Pre := []) Tryz.call128 rfl rfl (zR _) (flook_spec (Mq.of 2 3 rfl rfl htb) hW (Ml.pick (H := _) 5 rfl hP) q.path hq.path)) rfl ?_; rintro _ H' ⟨_, ⟨rfl, rfl⟩, hH⟩; simp only [zy7] at hH; subst hH; obtain ⟨⟨id1, e1⟩, hz1⟩ : ∃ z : Int × Int, look16 t r q.path = z := ⟨_, rfl⟩
  rw [hz1]; dsimp only; refine zH rfl (zL rfl) rfl (zH rfl (zu rfl rfl) rfl (zH rfl (zu rfl rfl) rfl (zH rfl (zO rfl) rfl (zH rfl (zO rfl) rfl (zN ?_))))); refine zI (zM (zM (zK (zH rfl (zL rfl) rfl (zH rfl (q9 rfl rfl rfl) rfl ?_))))); refine zN (zI (zq rfl (fun hc29 => ?_) (fun hc29 => ?_)))
  ·replace hc29 := zy2 hc29
   refine zM (zK (zH rfl (zL rfl) rfl (zT rfl (zb Tryz.call32 rfl rfl (by repeat (first | exact zR _ | apply zG 0 rfl | apply zG 1 rfl | apply zG 2 rfl | apply zG 3 rfl | apply zG 4 rfl | apply zG 5 rfl | apply zG 6 rfl | apply zG 7 rfl)) (yz e1)) rfl ?_))); rintro _ H' ⟨_, ⟨rfl, rfl⟩, hH⟩; simp only [zy7] at hH; subst hH; refine zo rfl (zm 0 qW rfl rfl rfl rfl rfl (zy1 rfl) (zg _)) rfl ?_; rintro _ _ rfl; simp only [zE, zF]; refine zN (zI (zi ?_)); refine zh ?_; refine' zX (qg rfl (qB qW rfl (zy6 0 rfl zx) rfl)) ?_ ?_
   rotate_left 1
   exact ⟨hs, ofK e1, (by rw [← ye]; rfl), (by unfold opendirR; rw [hf]; dsimp only; rw [hz1, if_pos (by dsimp only; omega)]; exact ⟨rfl, rfl⟩), hH, rfl⟩
   exact (zJ 2 rfl (zJ 2 rfl (zJ 2 rfl (zJ 2 rfl (zY _)))))
  ·replace hc29 := zy3 hc29
   refine zl ?_; refine zI (zM (zK (zH rfl (zL rfl) rfl (zH rfl (zU rfl) rfl (zH rfl (zP yT rfl) rfl ?_))))); refine zH rfl (zW sc51 rfl (zy4 2 rfl (Rd.own rfl))) rfl (zH rfl (zL rfl) rfl (zT rfl (zy (Pre := []) Tryz.call21 rfl rfl (zR _) (qf htb (list_spec (Tv.pick 3 rfl (qh t)) hW id1 hdl))) rfl ?_)); rintro _ H' ⟨_, ⟨p38, c38, rfl, rfl⟩, hH⟩; simp only [zy7] at hH; subst hH; have hls := listO_thou hW id1
   obtain ⟨⟨ls, e2⟩, hz2⟩ : ∃ z : List Nm × Int, listO t.ns (byId t.ns id1) = z := ⟨_, rfl⟩
   rw [hz2] at hls ⊢; dsimp only at hls ⊢; refine zH rfl (zL rfl) rfl (zH rfl (zu rfl rfl) rfl (zH rfl (zu rfl rfl) rfl (zH rfl (zO rfl) rfl (zH rfl (zO rfl) rfl (zN ?_))))); refine zI (zM (zM (zK (zH rfl (zL rfl) rfl (zH rfl (q9 rfl rfl rfl) rfl ?_))))); refine zN (zI (zq rfl (fun hc42 => ?_) (fun hc42 => ?_)))
   ·replace hc42 := zy2 hc42
    refine zM (zK (zT rfl (zb Tryz.call28 rfl rfl (by repeat (first | exact zR _ | apply zG 0 rfl | apply zG 1 rfl | apply zG 2 rfl | apply zG 3 rfl | apply zG 4 rfl | apply zG 5 rfl | apply zG 6 rfl | apply zG 7 rfl)) (qS 4)) rfl ?_)); rintro _ H' ⟨_, ⟨rfl, rfl⟩, hH⟩; simp only [zy7] at hH; subst hH; refine zo rfl (zm 1 qW rfl rfl rfl rfl rfl (zy1 rfl) (zg _)) rfl ?_; rintro _ _ rfl; simp only [zE, zF]; refine zN (zI (zi ?_)); refine zh ?_; refine' zX (qg rfl (qB qW rfl (zy6 1 rfl zx) rfl)) ?_ ?_
    rotate_left 1
    exact ⟨hs, Rk.stat 4, rfl, (by unfold opendirR; rw [hf]; dsimp only; rw [hz1, if_neg (by dsimp only; omega)]; dsimp only; rw [hz2, if_pos (by dsimp only; omega)]; exact ⟨rfl, rfl⟩), hH, rfl⟩
    exact (zJ 3 rfl (zJ 3 rfl (zJ 3 rfl (zJ 3 rfl (zY _)))))
   ·replace hc42 := zy3 hc42
    refine zl ?_; refine zI (zM (yN (fun w F s => row_caps 0 rfl s) ?_)); intro hcp; refine zK (zH rfl (zL rfl) rfl (zH rfl (zL rfl) rfl (zH rfl (zL rfl) rfl (zH rfl (zL rfl) rfl (zH rfl (zL rfl) rfl ?_))))); refine zH rfl (qY rfl (qK (cs := ((⟨true, id1, true, 0, p38, c38, ls⟩ : Hd)).cs) st67 rfl)) rfl (zH rfl (zU rfl) rfl (zH rfl (zP fa71_1 rfl) rfl (zH rfl (xD Tryz.underlying69 (fun w => Tryz.sizeOf68 w) rfl rfl rfl (by omega)) rfl (zH rfl (xD Tryz.underlying68 (fun w => Tryz.sizeOf67 w) rfl rfl rfl (by omega)) rfl (zo rfl (zm 3 ag67 rfl rfl rfl rfl rfl (by simp only [List.length_cons, yh Hd.len, Hd.len, hl]; omega) (zg _)) rfl ?_))))); rintro _ _ rfl; simp only [zE, zF]; rw [ma_set (y := (⟨true, id1, true, 0, p38, c38, ls⟩ : Hd)) hl hs16 hi]; refine zN (zI (zM (q8 (L := [St (hs.map rowN), rowN (⟨true, id1, true, 0, p38, c38, ls⟩ : Hd), own b6 (.cells ((Rk.rep ⟨0, 0, [], [], [], At.zero⟩ none 0 none 0).cs).toArray 32 (0, 0)), oMa mb tb (hs.set (s * 16 + i) (⟨true, id1, true, 0, p38, c38, ls⟩ : Hd)), tree t, V]) (by repeat (first | exact zY _ | refine zJ 0 rfl ?_ | refine zJ 1 rfl ?_ | refine zJ 2 rfl ?_ | refine zJ 3 rfl ?_ | refine zJ 4 rfl ?_ | refine zJ 5 rfl ?_ | refine zJ 6 rfl ?_ | refine zJ 7 rfl ?_ | refine SubH.rown ?_)) ?_))); refine qD (fun w F s => rows_put (hd_some hl hs16 hi) s) ?_; refine zK (zH rfl (zL rfl) rfl (zT rfl (zb Tryz.call42 rfl rfl (by repeat (first | exact zR _ | apply zG 0 rfl | apply zG 1 rfl | apply zG 2 rfl | apply zG 3 rfl | apply zG 4 rfl | apply zG 5 rfl | apply zG 6 rfl | apply zG 7 rfl)) (named_spec i (by omega))) rfl ?_)); rintro _ H' ⟨_, ⟨rfl, rfl⟩, hH⟩; simp only [zy7] at hH; subst hH; refine zH rfl (qY rfl (qK (cs := ((hdlK i).rep none 0 none 0).cs) st32 rfl)) rfl (zo rfl (zm 1 qW rfl rfl rfl rfl rfl (zy1 rfl) (zg _)) rfl ?_); rintro _ _ rfl; simp only [zE, zF]; refine zN (zI (zi ?_)); refine' zX (qg rfl (qB qW rfl (zy6 1 rfl zx) rfl)) ?_ ?_
    rotate_left 1
    exact ⟨_, hdlK i, rfl, (by unfold opendirR; rw [hf]; dsimp only; rw [hz1, if_neg (by dsimp only; omega)]; dsimp only; rw [hz2, if_neg (by dsimp only; omega)]; exact ⟨p38, c38, hcp, rfl, rfl⟩), hH.set ⟨(by show (0 : Nat) < 4294967296; decide), hls, hcp⟩, rfl⟩
    exact (zJ 2 rfl (zJ 2 rfl (zJ 0 rfl (zJ 1 rfl (zY _)))))
theorem readdir_spec {V : HProp} {mb tb : Nat} {hs : List Hd} (hH : HsOk hs) (s : Nat) (hs16 : s < 16) (q : Qr) : Tri Tryz.prog 71 [.pointer (some ⟨mb, 0, none⟩), .int .i64 (s : Int), q.v] [oMa mb tb hs, St (hs.map rowN), V]
 (fun v H' => ∃ hs' k np nc, v = (k.rep none 0 np nc).v ∧ readdirR hs s q hs' k ∧ HsOk hs' ∧ H' = [row 87 8 (.slice np k.names.length nc) k.names.length (flat Nm.cs k.names), oMa mb tb hs', St (hs'.map rowN), V]) := by
 have hl := hH.len
 cases hf : findH hs s q.handle with
 | none =>
  refine zt Tryz.func71 rfl Tryz.ntmps71 (by simp) ?_; refine zM (zK (zT rfl (qj rfl) rfl ?_)); rintro _ _ ⟨b5, rfl, rfl⟩; refine zT rfl (qL z32) rfl ?_; rintro _ _ ⟨b6, rfl, rfl⟩; refine zN (zI (zM (zK (zH rfl (zL rfl) rfl (zH rfl (zL rfl) rfl ?_))))); refine zH rfl (zP fa35_3 rfl) rfl (zH rfl (zW sc9 rfl (zy4 1 rfl (Rd.own rfl))) rfl (zT rfl (zy (Pre := []) Tryz.call68 rfl rfl (zR _) (xJ (xX 2 rfl yL) hl s hs16 q.handle)) rfl ?_)); rintro _ H' ⟨_, ⟨rfl, rfl⟩, hH⟩; simp only [zy7] at hH; subst hH; rw [hf]; dsimp only [findV]; refine zH rfl (zO rfl) rfl (zN (zI (zM (qA ?_)))); refine zM (zK (zH rfl (zL rfl) rfl (zH rfl (qI Tryz.underlying116 rfl rfl rfl) rfl (zH rfl (zL (v := .bool true) rfl) rfl (zZ rfl rfl ?_))))); refine zZ rfl rfl (zZ rfl rfl (zZ rfl rfl (zZ rfl rfl (zH rfl (zr rfl rfl) rfl (zH rfl (zO rfl) rfl ?_))))); refine zN (zI (qG rfl ?_)); refine zM (qD (fun w F s => qv 87 8 w F s) ?_); refine zK (zT rfl (zb Tryz.call28 rfl rfl (by repeat (first | exact zR _ | apply zG 0 rfl | apply zG 1 rfl | apply zG 2 rfl | apply zG 3 rfl | apply zG 4 rfl | apply zG 5 rfl | apply zG 6 rfl | apply zG 7 rfl)) (qS 4)) rfl ?_); rintro _ H' ⟨_, ⟨rfl, rfl⟩, hH⟩; simp only [zy7] at hH; subst hH; refine zo rfl (zm 1 qW rfl rfl rfl rfl rfl (zy1 rfl) (zg _)) rfl ?_; rintro _ _ rfl; simp only [zE, zF]; refine zN (zI (zi ?_)); refine zn ?_; refine zh ?_; refine' zX (qg rfl (qB qW rfl (zy6 1 rfl zx) rfl)) ?_ ?_
  rotate_left 1
  exact ⟨hs, Rk.stat 4, none, 0, rfl, (by unfold readdirR; rw [hf]; exact ⟨rfl, rfl⟩), hH, rfl⟩
  exact (zJ 0 rfl (zJ 2 rfl (zJ 2 rfl (zJ 2 rfl (zY _)))))
 | some i =>
  have hi := find_lt hf
  have hA := hH.at' s i
  have hcap := hA.2.2
  have hnl := hA.2.1
  refine zt Tryz.func71 rfl Tryz.ntmps71 (by simp) ?_; refine zM (zK (zT rfl (qj rfl) rfl ?_)); rintro _ _ ⟨b5, rfl, rfl⟩; refine zT rfl (qL z32) rfl ?_; rintro _ _ ⟨b6, rfl, rfl⟩; refine zN (zI (zM (zK (zH rfl (zL rfl) rfl (zH rfl (zL rfl) rfl ?_))))); refine zH rfl (zP fa35_3 rfl) rfl (zH rfl (zW sc9 rfl (zy4 1 rfl (Rd.own rfl))) rfl (zT rfl (zy (Pre := []) Tryz.call68 rfl rfl (zR _) (xJ (xX 2 rfl yL) hl s hs16 q.handle)) rfl ?_)); rintro _ H' ⟨_, ⟨rfl, rfl⟩, hH⟩; simp only [zy7] at hH; subst hH; rw [hf]; dsimp only [findV]; refine zH rfl (zO rfl) rfl (zN (zI (zM (qA ?_)))); refine zM (zK (zH rfl (zL rfl) rfl (zH rfl (qI Tryz.underlying116 rfl rfl rfl) rfl (zH rfl (zL (v := .bool false) rfl) rfl (zH rfl (zL rfl) rfl ?_))))); refine zH rfl (zU rfl) rfl (zH rfl (zP fa67_2 rfl) rfl (zH rfl (zW sc4 rfl (zy4 2 rfl ((yo yL hl hs16 hi 2 _ rfl)))) rfl (zH rfl (qy rfl rfl) rfl (zH rfl (zr rfl rfl) rfl (zH rfl (zO rfl) rfl ?_))))); refine zN (zI (zq rfl (fun hc15 => ?_) (fun hc15 => ?_)))
  ·simp only [Bool.and_eq_true, decide_eq_true_eq, Bool.not_eq_true', decide_eq_false_iff_not, bne_iff_ne, ne_eq] at hc15; refine zM (qD (fun w F s => qv 87 8 w F s) ?_); refine zK (zT rfl (zb Tryz.call28 rfl rfl (by repeat (first | exact zR _ | apply zG 0 rfl | apply zG 1 rfl | apply zG 2 rfl | apply zG 3 rfl | apply zG 4 rfl | apply zG 5 rfl | apply zG 6 rfl | apply zG 7 rfl)) (qS 4)) rfl ?_); rintro _ H' ⟨_, ⟨rfl, rfl⟩, hH⟩; simp only [zy7] at hH; subst hH; refine zo rfl (zm 1 qW rfl rfl rfl rfl rfl (zy1 rfl) (zg _)) rfl ?_; rintro _ _ rfl; simp only [zE, zF]; refine zN (zI (zi ?_)); refine zn ?_; refine zh ?_; refine' zX (qg rfl (qB qW rfl (zy6 1 rfl zx) rfl)) ?_ ?_
   rotate_left 1
   exact ⟨hs, Rk.stat 4, none, 0, rfl, (by unfold readdirR; rw [hf]; dsimp only; rw [if_pos (by simpa using hc15)]; exact ⟨rfl, rfl⟩), hH, rfl⟩
   exact (zJ 0 rfl (zJ 2 rfl (zJ 2 rfl (zJ 2 rfl (zY _)))))
  ·simp only [Bool.and_eq_false_iff, decide_eq_false_iff_not, Bool.not_eq_false', decide_eq_true_eq] at hc15; refine zM (zK (zH rfl (zL rfl) rfl (zH rfl (zU rfl) rfl (zH rfl (zP fa67_4 rfl) rfl (zH rfl (zW sc26 rfl (zy4 2 rfl ((yo yL hl hs16 hi 4 _ rfl)))) rfl ?_))))); refine zH rfl (zw Tryz.underlying26 rfl) rfl (zH rfl (qQ rfl rfl rfl) rfl (zH rfl (zO rfl) rfl (zN (zI (zq rfl (fun hc26 => ?_) (fun hc26 => ?_))))))
   ·replace hc26 := zy2 hc26
    refine zM (qD (fun w F s => qv 87 8 w F s) ?_); refine zK (zT rfl (zb Tryz.call28 rfl rfl (by repeat (first | exact zR _ | apply zG 0 rfl | apply zG 1 rfl | apply zG 2 rfl | apply zG 3 rfl | apply zG 4 rfl | apply zG 5 rfl | apply zG 6 rfl | apply zG 7 rfl)) (qS 1)) rfl ?_); rintro _ H' ⟨_, ⟨rfl, rfl⟩, hH⟩; simp only [zy7] at hH; subst hH; refine zo rfl (zm 1 qW rfl rfl rfl rfl rfl (zy1 rfl) (zg _)) rfl ?_; rintro _ _ rfl; simp only [zE, zF]; refine zN (zI (zi ?_)); refine zn ?_; refine zh ?_; refine' zX (qg rfl (qB qW rfl (zy6 1 rfl zx) rfl)) ?_ ?_
    rotate_left 1
    exact ⟨hs, Rk.stat 1, none, 0, rfl, (by unfold readdirR; rw [hf]; dsimp only; rw [if_neg (by simpa using hc15), if_pos (List.eq_nil_of_length_eq_zero (by omega))]; exact ⟨rfl, rfl⟩), hH, rfl⟩
    exact (zJ 0 rfl (zJ 2 rfl (zJ 2 rfl (zJ 2 rfl (zY _)))))
   ·replace hc26 := zy3 hc26
    refine zl ?_; refine zQ ?_; refine zI (zM (zK (zH rfl (zL rfl) rfl (zH rfl (zU rfl) rfl (zH rfl (zP fa67_4 rfl) rfl ?_))))); refine zH rfl (zW sc26 rfl (zy4 2 rfl ((yo yL hl hs16 hi 4 _ rfl)))) rfl (zH rfl (zw Tryz.underlying26 rfl) rfl ?_); refine zH rfl (ro_min rfl rfl (show (if (8 : Int) < (((hdA hs s i).names.length : Nat) : Int) then (8 : Int) else (((hdA hs s i).names.length : Nat) : Int)) = ((((hdA hs s i).names.take 8).length : Nat) : Int) by rw [List.length_take]; split <;> omega)) rfl (zH rfl (zO rfl) rfl (zN (zI (zM (zK ?_))))); refine zH rfl (zL rfl) rfl (zH rfl (zU rfl) rfl (zH rfl (zP fa67_4 rfl) rfl (zH rfl (zW sc26 rfl (zy4 2 rfl ((yo yL hl hs16 hi 4 _ rfl)))) rfl (zH rfl (zL rfl) rfl (zT rfl (eff_sliceF 3 rfl Nm.len sl26 rfl ((qF (hd_some hl hs16 hi))) rfl (yZ rfl rfl) (by omega) (by rw [List.length_take]; omega) hcap) rfl ?_))))); rintro _ _ ⟨p45, rfl, hv45, hn45, rfl⟩; have e45 : ((hdA hs s i).names.take 8).length - 0 = ((hdA hs s i).names.take 8).length := Nat.sub_zero _
    rw [List.drop_zero, e45, take_tl] at hv45 ⊢; refine zT rfl (zy (Pre := []) Tryz.call129 rfl rfl (zR _) (cloneN _ p45 _ _ (flat Nm.cs ((hdA hs s i).names.take 8)) ((zy5 3 rfl hv45)) (by rw [yh Nm.len]) (flat_one' Nm.one _) (by rw [List.length_take]; omega))) rfl ?_; rintro _ H' ⟨_, ⟨p46, c46, rfl, rfl⟩, hH⟩; simp only [zy7] at hH; subst hH; refine zH rfl (zO rfl) rfl (zN (zI (zM (zK (zH rfl (zL rfl) rfl ?_))))); refine zH rfl (zL rfl) rfl (zH rfl (zU rfl) rfl (zH rfl (zP fa67_4 rfl) rfl (zH rfl (zW sc26 rfl (zy4 3 rfl ((yo yL hl hs16 hi 4 _ rfl)))) rfl (zH rfl (zL rfl) rfl (zT rfl (eff_sliceF 4 rfl Nm.len sl26 rfl ((qF (hd_some hl hs16 hi))) (yZ rfl rfl) rfl (by rw [List.length_take]; omega) (by omega) hcap) rfl ?_))))); rintro _ _ ⟨p53, rfl, hv53, hn53, rfl⟩
    try rw [drop_tl1] at hv53
    try rw [drop_tl2] at hv53
    try rw [drop_tl1]
    try rw [drop_tl2]
    refine zT rfl (zy (Pre := []) Tryz.call129 rfl rfl (zR _) (cloneN _ p53 _ _ (flat Nm.cs ((hdA hs s i).names.drop 8)) ((zy5 4 rfl hv53)) (by rw [yh Nm.len]) (flat_one' Nm.one _) (by rw [List.length_drop]; omega))) rfl ?_; rintro _ H' ⟨_, ⟨p54, c54, rfl, rfl⟩, hH⟩; simp only [zy7] at hH; subst hH; refine zH rfl (zU rfl) rfl (zH rfl (zP fa67_4 rfl) rfl (zo rfl (qP 4 sc26 rfl rfl rfl rfl (by simp only [List.length_cons, yh Hd.len, hl]; omega) (zg _)) rfl ?_)); rintro _ _ rfl; simp only [zE, zF]; rw [ma_field4 (v := .slice p54 ((hdA hs s i).names.drop 8).length c54) (y := (⟨(hdA hs s i).used, (hdA hs s i).id, (hdA hs s i).dir, (hdA hs s i).flags, p54, c54, (hdA hs s i).names.drop 8⟩ : Hd)) hl hs16 hi rfl]; refine zN (zI (zM (yN (fun w F s => row_caps 0 rfl s) ?_))); intro hc54; refine q8 (L := [St (hs.map rowN), rowN (⟨(hdA hs s i).used, (hdA hs s i).id, (hdA hs s i).dir, (hdA hs s i).flags, p54, c54, (hdA hs s i).names.drop 8⟩ : Hd), row 87 8 (.slice p46 ((hdA hs s i).names.take 8).length c46) ((hdA hs s i).names.take 8).length (flat Nm.cs ((hdA hs s i).names.take 8)), own b6 (.cells ((Rk.rep ⟨0, 0, [], [], [], At.zero⟩ none 0 none 0).cs).toArray 32 (0, 0)), oMa mb tb (hs.set (s * 16 + i) (⟨(hdA hs s i).used, (hdA hs s i).id, (hdA hs s i).dir, (hdA hs s i).flags, p54, c54, (hdA hs s i).names.drop 8⟩ : Hd)), V]) (by repeat (first | exact zY _ | refine zJ 0 rfl ?_ | refine zJ 1 rfl ?_ | refine zJ 2 rfl ?_ | refine zJ 3 rfl ?_ | refine zJ 4 rfl ?_ | refine zJ 5 rfl ?_ | refine zJ 6 rfl ?_ | refine zJ 7 rfl ?_ | refine SubH.rown ?_)) ?_; refine qD (fun w F s => rows_put (hd_some hl hs16 hi) s) ?_; refine zK (zH rfl (zL rfl) rfl (zH rfl (qY rfl (qK (cs := (Rk.rep ⟨4, 0, [], [], (hdA hs s i).names.take 8, At.zero⟩ none 0 p46 c46).cs) st32 rfl)) rfl (zo rfl (zm 2 qW rfl rfl rfl rfl rfl (zy1 rfl) (zg _)) rfl ?_))); rintro _ _ rfl; simp only [zE, zF]; refine zN (zI (zi ?_)); refine' zX (qg rfl (qB qW rfl (zy6 2 rfl zx) rfl)) ?_ ?_
    rotate_left 1
    exact ⟨hs.set (s * 16 + i) (⟨(hdA hs s i).used, (hdA hs s i).id, (hdA hs s i).dir, (hdA hs s i).flags, p54, c54, (hdA hs s i).names.drop 8⟩ : Hd), ⟨4, 0, [], [], (hdA hs s i).names.take 8, At.zero⟩, p46, c46, rfl, (by unfold readdirR; rw [hf]; dsimp only; rw [if_neg (by simpa using hc15), if_neg (fun h => by rw [h] at hc26; exact hc26 rfl)]; exact ⟨p54, c54, hc54, rfl, rfl⟩), HsOk.set hH (y := (⟨(hdA hs s i).used, (hdA hs s i).id, (hdA hs s i).dir, (hdA hs s i).flags, p54, c54, (hdA hs s i).names.drop 8⟩ : Hd)) ⟨hA.1, (by show (List.drop 8 _).length ≤ 1000; rw [List.length_drop]; omega), hc54⟩, rfl⟩
    exact (zJ 1 rfl (zJ 2 rfl (zJ 0 rfl (zJ 1 rfl (zY _)))))
end Go.Proofs.YtlefpllcgcicpaaGreatDoor
