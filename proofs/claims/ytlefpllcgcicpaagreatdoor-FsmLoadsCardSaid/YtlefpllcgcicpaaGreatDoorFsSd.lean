/-
  Package fsm: handles read.
  Package fsm: Load.
  Law 16: saved.
-/
import Derived.Test.YtlefpllcgcicpaaGreatDoorFsP
import Derived.Test.YtlefpllcgcicpaaGreatDoorSxFork
import Derived.Test.YtlefpllcgcicpaaGreatDoorSxSub
import Derived.Test.YtlefpllcgcicpaaGreatDoorTrX
import Derived.Test.YtlefpllcgcicpaaGreatDoorFsHo
set_option linter.unusedVariables false
set_option linter.unusedSimpArgs false
namespace Go.Proofs.YtlefpllcgcicpaaGreatDoor
open Go.Sx
set_option maxRecDepth 100000
set_option maxHeartbeats 4000000
theorem andn7 {a : Nat} (ha : a < 4294967296) : bits .andNot .u32 (a : Int) 7 = ((a &&& 4294967288 : Nat) : Int) := by
 show IntKind.u32.wrap ((BitVec.ofInt 32 (a : Int) &&& ~~~ BitVec.ofInt 32 (7 : Int)).toNat : Int) = _
 have e1 : BitVec.ofInt 32 (a : Int) = BitVec.ofNat 32 a := by simp
 have e2 : ~~~ BitVec.ofInt 32 (7 : Int) = BitVec.ofNat 32 4294967288 := by decide
 rw [e1, e2, BitVec.toNat_and, BitVec.toNat_ofNat, BitVec.toNat_ofNat, Nat.mod_eq_of_lt ha, Nat.mod_eq_of_lt (by decide)]; have h1 : a &&& 4294967288 ≤ a := Nat.and_le_left
 exact xC (by omega) (by omega)
theorem next_spec {V : HProp} {t : Tr} (hT : Tv V t) : Tri Tryz.prog 99 [t.v] [V] (fun v H' => ∃ K, (v = .int .i64 t.next ∧ K = []) ∧ H' = K ++ [V]) := by
 refine zt Tryz.func99 rfl Tryz.ntmps99 (by simp) ?_; refine zM (zK (zH rfl (zO rfl) rfl (zN (zI (zM ?_))))); refine zK (zH rfl (zL rfl) rfl (zH rfl (zU rfl) rfl (zH rfl (zP fa95_2 rfl) rfl (zH rfl (zW sc3 rfl (zy4 0 rfl ((hT.cs 2 _ rfl)))) rfl (zH rfl (zO rfl) rfl ?_))))); refine zN (zI (zi ?_)); refine' zX (qk rfl rfl) ?_ ?_
 rotate_left 1
 exact ⟨_, ⟨rfl, rfl⟩, rfl⟩
 exact zj _
theorem rByte_spec (pr : Nat) (p : Option Addr) (c : Nat) (r : R) (hg : r.Good) : Tri Tryz.prog 97 [.pointer (some ⟨pr, 0, none⟩)] (rd pr p c r) (fun v H' => v = .int .i64 (((r.get 1).2 : Nat) : Int) ∧ H' = rd pr p c (r.get 1).1) := by
 refine zt Tryz.func97 rfl Tryz.ntmps97 (by simp) ?_; refine zM (zK (zH rfl (zO rfl) rfl (zN (zI (zM ?_))))); refine zK (zH rfl (zL rfl) rfl (zT rfl (zb Tryz.call94 rfl rfl (by repeat (first | exact zR _ | apply zG 0 rfl | apply zG 1 rfl | apply zG 2 rfl | apply zG 3 rfl | apply zG 4 rfl | apply zG 5 rfl | apply zG 6 rfl | apply zG 7 rfl)) (get_spec pr p c r 1 (by omega) hg.len hg.pos)) rfl ?_)); rintro _ H' ⟨_, ⟨rfl, rfl⟩, hH⟩; simp only [zy7] at hH; subst hH; have l0 := yt r 1
 simp only [Nat.reducePow] at l0; refine zH rfl (yF Tryz.underlying28 Tryz.underlying3 rfl (wrap_natN (by omega))) rfl (zH rfl (zO rfl) rfl (zN (zI (zi ?_)))); refine' zX (qk rfl rfl) ?_ ?_
 rotate_left 1
 exact ⟨rfl, rfl⟩
 exact zj _
set_option maxHeartbeats 400000
theorem get16_spec {V : HProp} {mb tb : Nat} {t : Tr} (hpt : Rd V mb (0 + 0) (.pointer (some ⟨tb, 0, none⟩))) (htb : t.tb = tb) (hT : Tv V t) (hdl : ∀ x ∈ t.ns, x.data.length ≤ 100000000) (pr : Nat) (p : Option Addr) (c : Nat) (r : R) (hg : r.Good) : Tri Tryz.prog 52 [.pointer (some ⟨mb, 0, none⟩), .pointer (some ⟨pr, 0, none⟩)] (rd pr p c r ++ [V])
 (fun v H' => ∃ K, (∃ h ok r', v = .tuple #[.agg h.cs.toArray, .bool ok] ∧ GetP t r h ok r' ∧ K = rowN h :: rd pr p c r') ∧ H' = K ++ [V]) := by
 refine zt Tryz.func52 rfl Tryz.ntmps52 (by simp) ?_; refine zM (zK (zT rfl (qL z67) rfl ?_)); rintro _ _ ⟨b4, rfl, rfl⟩; refine zH rfl (zO rfl) rfl (zN (zI (zM (zK (zH rfl (zL rfl) rfl ?_))))); refine zT rfl (zb Tryz.call97 rfl rfl (by repeat (first | exact zR _ | apply zG 0 rfl | apply zG 1 rfl | apply zG 2 rfl | apply zG 3 rfl | apply zG 4 rfl | apply zG 5 rfl | apply zG 6 rfl | apply zG 7 rfl)) (rByte_spec pr p c r hg)) rfl ?_; rintro _ H' ⟨_, ⟨rfl, rfl⟩, hH⟩; simp only [zy7] at hH; subst hH; obtain ⟨z0, e0⟩ : ∃ z, r.get 1 = z := ⟨_, rfl⟩
 rw [e0]; have g0 : z0.1.Good := e0 ▸ R.good_get hg 1
 have l0 : z0.2 < 256 := by have h := yt r 1; rw [e0] at h; simpa only [Nat.reducePow] using h
 refine zH rfl (zO rfl) rfl (zN (zI (zM (zM (zK ?_))))); refine zH rfl (zL rfl) rfl (zH rfl (qQ rfl rfl rfl) rfl (zN (zI (zq rfl (fun hc15 => ?_) (fun hc15 => ?_)))))
 ·replace hc15 := zy2 hc15
  refine zM (qD (fun w F s => qv 87 8 w F s) ?_); refine zK (zH rfl (qY rfl (qK (cs := Hd.zero.cs) st67 rfl)) rfl (zH rfl (zL rfl) rfl (zT rfl (zb Tryz.call98 rfl rfl (by repeat (first | exact zR _ | apply zG 0 rfl | apply zG 1 rfl | apply zG 2 rfl | apply zG 3 rfl | apply zG 4 rfl | apply zG 5 rfl | apply zG 6 rfl | apply zG 7 rfl)) (fine_spec pr p c z0.1)) rfl ?_))); rintro _ H' ⟨_, ⟨rfl, rfl⟩, hH⟩; simp only [zy7] at hH; subst hH; refine zo rfl (zm 3 ag67 rfl rfl rfl rfl rfl (zy1 rfl) (zg _)) rfl ?_; rintro _ _ rfl; simp only [zE, zF]
  try rw [yq rfl]
  refine zH rfl (zO rfl) rfl (zN (zI (zi ?_))); refine zh ?_; refine' zX (resv2 rfl (qB ag67 rfl (zy6 3 rfl zx) rfl) (yn rfl)) ?_ ?_
  rotate_left 1
  exact ⟨_, ⟨Hd.zero, decide (z0.1.why = 0), z0.1, rfl, gp_none g0 e0 (by omega), rfl⟩, rfl⟩
  exact (SubH.rown (zJ 0 rfl (zJ 0 rfl (zJ 2 rfl (zY _)))))
 ·replace hc15 := zy3 hc15
  have hk : z0.2 ≠ 0 := by omega
  refine zl ?_; refine zI (zM (zK (zH rfl (zL rfl) rfl (zT rfl (zb Tryz.call86 rfl rfl (by repeat (first | exact zR _ | apply zG 0 rfl | apply zG 1 rfl | apply zG 2 rfl | apply zG 3 rfl | apply zG 4 rfl | apply zG 5 rfl | apply zG 6 rfl | apply zG 7 rfl)) (rU64_spec pr p c z0.1 g0.len g0.pos)) rfl ?_)))); rintro _ H' ⟨_, ⟨rfl, rfl⟩, hH⟩; simp only [zy7] at hH; subst hH; obtain ⟨z1, e1⟩ : ∃ z, z0.1.get 8 = z := ⟨_, rfl⟩
  rw [e1]; have g1 : z1.1.Good := e1 ▸ R.good_get g0 8
  have l1 : z1.2 < 18446744073709551616 := by have h := yt z0.1 8; rw [e1] at h; simpa only [Nat.reducePow] using h
  refine zH rfl (yF Tryz.underlying28 Tryz.underlying3 rfl rfl) rfl ?_; have hw := wrap64 l1
  obtain ⟨zid, hzid⟩ : ∃ z : Int, IntKind.i64.wrap ((z1.2 : Nat) : Int) = z := ⟨_, rfl⟩
  rw [hzid] at hw ⊢; refine zH rfl (zL rfl) rfl (zH rfl (qQ rfl rfl rfl) rfl ?_); obtain ⟨dir, hdir⟩ : ∃ b, b = decide (z0.2 = 2) := ⟨_, rfl⟩
  first | rw [← hdir] | rw [show decide (((z0.2 : Nat) : Int) = 2) = dir by rw [hdir]; exact decide_eq_decide.2 (by omega)]
  refine zH rfl (qY rfl (qK (cs := [.bool true, .int .i64 zid, .bool dir, .int .u32 0, .slice none 0 0]) st67 rfl)) rfl (zT rfl (qL z67) rfl ?_); rintro _ _ ⟨b7, rfl, rfl⟩; refine zo rfl (zm 0 ag67 rfl rfl rfl rfl rfl (zy1 rfl) (zg _)) rfl ?_; rintro _ _ rfl; simp only [zE, zF]
  try rw [yq rfl]
  refine zN (zI (zM (zM (qZ 22 (by kernel_rfl) (zG 0 rfl (zR _)) ?_)))); refine zRO (i := 0) (by kernel_rfl) rfl rfl (zL rfl) rfl (qM (i := 1) (by kernel_rfl) rfl rfl (zb Tryz.call98 rfl rfl (by repeat (first | exact zR _ | apply zG 0 rfl | apply zG 1 rfl | apply zG 2 rfl | apply zG 3 rfl | apply zG 4 rfl | apply zG 5 rfl | apply zG 6 rfl | apply zG 7 rfl)) (fine_spec pr p c z1.1)) rfl ?_); rintro _ H' ⟨_, ⟨rfl, rfl⟩, hH⟩; simp only [zy7] at hH; subst hH; refine zRO (i := 2) (by kernel_rfl) rfl rfl (qy rfl rfl) rfl (yA (i := 3) (by kernel_rfl) rfl rfl rfl rfl (fun _ _ _ h => h) (fun hg28 => ?_) (fun hg28 => ?_))
  ·simp only [Bool.and_eq_true, decide_eq_true_eq, Bool.not_eq_true', decide_eq_false_iff_not, bne_iff_ne, ne_eq] at hg28; refine zSK (i := 4) (by kernel_rfl) rfl rfl rfl (zSK (i := 5) (by kernel_rfl) rfl rfl rfl (zRO (i := 6) (by kernel_rfl) rfl rfl (zr rfl rfl) rfl (zRO (i := 7) (by kernel_rfl) rfl rfl (zL (v := .bool true) rfl) rfl (zSK (i := 8) (by kernel_rfl) rfl rfl rfl (zSK (i := 9) (by kernel_rfl) rfl rfl rfl ?_))))); refine zSK (i := 10) (by kernel_rfl) rfl rfl rfl (zRO (i := 11) (by kernel_rfl) rfl rfl (zr rfl rfl) rfl (zRO (i := 12) (by kernel_rfl) rfl rfl (zL (v := .bool true) rfl) rfl (zSK (i := 13) (by kernel_rfl) rfl rfl rfl (zSK (i := 14) (by kernel_rfl) rfl rfl rfl (zSK (i := 15) (by kernel_rfl) rfl rfl rfl ?_))))); refine zSK (i := 16) (by kernel_rfl) rfl rfl rfl (zSK (i := 17) (by kernel_rfl) rfl rfl rfl (zSK (i := 18) (by kernel_rfl) rfl rfl rfl (zSK (i := 19) (by kernel_rfl) rfl rfl rfl (zSK (i := 20) (by kernel_rfl) rfl rfl rfl (zRO (i := 21) (by kernel_rfl) rfl rfl (zr rfl rfl) rfl ?_))))); refine qm (by kernel_rfl) ?_; refine zI (qG rfl ?_); refine zM (qD (fun w F s => qv 87 8 w F s) ?_); refine zK (zH rfl (qY rfl (qK (cs := Hd.zero.cs) st67 rfl)) rfl (zo rfl (zm 4 ag67 rfl rfl rfl rfl rfl (zy1 rfl) (zg _)) rfl ?_)); rintro _ _ rfl; simp only [zE, zF]
   try rw [yq rfl]
   refine zH rfl (zO rfl) rfl (zN (zI (zi ?_))); refine zh ?_; refine' zX (resv2 rfl (qB ag67 rfl (zy6 4 rfl zx) rfl) (yn rfl)) ?_ ?_
   rotate_left 1
   refine ⟨_, ⟨Hd.zero, false, z1.1, rfl, gp_bad g1 _ (fun h0 rest hv hh => ?_), rfl⟩, rfl⟩; obtain ⟨k1, k2, k3, k4, k5, k6, k7, k8⟩ := fit_a e0 e1 hk hv hh
   first
    | exact absurd k1 (by simpa using hg26)
    | (rw [if_pos (by omega)] at hw; omega)
    | omega
   exact (SubH.rown (zJ 2 rfl (zJ 2 rfl (zJ 3 rfl (zY _)))))
  ·simp only [Bool.and_eq_false_iff, decide_eq_false_iff_not, Bool.not_eq_false', decide_eq_true_eq] at hg28; refine zRO (i := 4) (by kernel_rfl) rfl rfl (zL rfl) rfl (zRO (i := 5) (by kernel_rfl) rfl rfl (yd rfl rfl rfl) rfl (zRO (i := 6) (by kernel_rfl) rfl rfl (zr rfl rfl) rfl (yA (i := 7) (by kernel_rfl) rfl rfl rfl rfl (fun _ _ _ h => h) (fun hg32 => ?_) (fun hg32 => ?_))))
   ·replace hg32 := zy2 hg32
    refine zSK (i := 8) (by kernel_rfl) rfl rfl rfl (zSK (i := 9) (by kernel_rfl) rfl rfl rfl (zSK (i := 10) (by kernel_rfl) rfl rfl rfl (zRO (i := 11) (by kernel_rfl) rfl rfl (zr rfl rfl) rfl (zRO (i := 12) (by kernel_rfl) rfl rfl (zL (v := .bool true) rfl) rfl (zSK (i := 13) (by kernel_rfl) rfl rfl rfl ?_))))); refine zSK (i := 14) (by kernel_rfl) rfl rfl rfl (zSK (i := 15) (by kernel_rfl) rfl rfl rfl (zSK (i := 16) (by kernel_rfl) rfl rfl rfl (zSK (i := 17) (by kernel_rfl) rfl rfl rfl (zSK (i := 18) (by kernel_rfl) rfl rfl rfl (zSK (i := 19) (by kernel_rfl) rfl rfl rfl ?_))))); refine zSK (i := 20) (by kernel_rfl) rfl rfl rfl (zRO (i := 21) (by kernel_rfl) rfl rfl (zr rfl rfl) rfl (qm (by kernel_rfl) ?_)); refine zI (qG rfl ?_); refine zM (qD (fun w F s => qv 87 8 w F s) ?_); refine zK (zH rfl (qY rfl (qK (cs := Hd.zero.cs) st67 rfl)) rfl (zo rfl (zm 4 ag67 rfl rfl rfl rfl rfl (zy1 rfl) (zg _)) rfl ?_)); rintro _ _ rfl; simp only [zE, zF]
    try rw [yq rfl]
    refine zH rfl (zO rfl) rfl (zN (zI (zi ?_))); refine zh ?_; refine' zX (resv2 rfl (qB ag67 rfl (zy6 4 rfl zx) rfl) (yn rfl)) ?_ ?_
    rotate_left 1
    refine ⟨_, ⟨Hd.zero, false, z1.1, rfl, gp_bad g1 _ (fun h0 rest hv hh => ?_), rfl⟩, rfl⟩; obtain ⟨k1, k2, k3, k4, k5, k6, k7, k8⟩ := fit_a e0 e1 hk hv hh
    first
     | exact absurd k1 (by simpa using hg26)
     | (rw [if_pos (by omega)] at hw; omega)
     | omega
    exact (SubH.rown (zJ 2 rfl (zJ 2 rfl (zJ 3 rfl (zY _)))))
   ·replace hg32 := zy3 hg32
    refine zRO (i := 8) (by kernel_rfl) rfl rfl (zP fa67_1 rfl) rfl (zRO (i := 9) (by kernel_rfl) rfl rfl (zW sc3 rfl (zy4 0 rfl (Rd.own rfl))) rfl (zRO (i := 10) (by kernel_rfl) rfl rfl (yP rfl rfl rfl) rfl (zRO (i := 11) (by kernel_rfl) rfl rfl (zr rfl rfl) rfl (yA (i := 12) (by kernel_rfl) rfl rfl rfl rfl (fun _ _ _ h => h) (fun hg37 => ?_) (fun hg37 => ?_)))))
    ·replace hg37 := zy2 hg37
     refine zSK (i := 13) (by kernel_rfl) rfl rfl rfl (zSK (i := 14) (by kernel_rfl) rfl rfl rfl (zSK (i := 15) (by kernel_rfl) rfl rfl rfl (zSK (i := 16) (by kernel_rfl) rfl rfl rfl (zSK (i := 17) (by kernel_rfl) rfl rfl rfl (zSK (i := 18) (by kernel_rfl) rfl rfl rfl ?_))))); refine zSK (i := 19) (by kernel_rfl) rfl rfl rfl (zSK (i := 20) (by kernel_rfl) rfl rfl rfl (zRO (i := 21) (by kernel_rfl) rfl rfl (zr rfl rfl) rfl (qm (by kernel_rfl) ?_))); refine zI (qG rfl ?_); refine zM (qD (fun w F s => qv 87 8 w F s) ?_); refine zK (zH rfl (qY rfl (qK (cs := Hd.zero.cs) st67 rfl)) rfl (zo rfl (zm 4 ag67 rfl rfl rfl rfl rfl (zy1 rfl) (zg _)) rfl ?_)); rintro _ _ rfl; simp only [zE, zF]
     try rw [yq rfl]
     refine zH rfl (zO rfl) rfl (zN (zI (zi ?_))); refine zh ?_; refine' zX (resv2 rfl (qB ag67 rfl (zy6 4 rfl zx) rfl) (yn rfl)) ?_ ?_
     rotate_left 1
     refine ⟨_, ⟨Hd.zero, false, z1.1, rfl, gp_bad g1 _ (fun h0 rest hv hh => ?_), rfl⟩, rfl⟩; obtain ⟨k1, k2, k3, k4, k5, k6, k7, k8⟩ := fit_a e0 e1 hk hv hh
     first
      | exact absurd k1 (by simpa using hg26)
      | (rw [if_pos (by omega)] at hw; omega)
      | omega
     exact (SubH.rown (zJ 2 rfl (zJ 2 rfl (zJ 3 rfl (zY _)))))
    ·replace hg37 := zy3 hg37
     refine zRO (i := 13) (by kernel_rfl) rfl rfl (zP fa67_1 rfl) rfl (zRO (i := 14) (by kernel_rfl) rfl rfl (zW sc3 rfl (zy4 0 rfl (Rd.own rfl))) rfl (zRO (i := 15) (by kernel_rfl) rfl rfl (zL rfl) rfl (zRO (i := 16) (by kernel_rfl) rfl rfl (zU rfl) rfl (zRO (i := 17) (by kernel_rfl) rfl rfl (zP yT rfl) rfl (qM (i := 18) (by kernel_rfl) rfl rfl (xG (zW sc51 rfl (zy4 3 rfl (hpt)))) rfl ?_))))); rintro _ _ ⟨rfl, rfl⟩; refine yb (i := 19) (by kernel_rfl) rfl rfl (zy (Pre := []) Tryz.call99 rfl rfl (zR _) (qf htb (next_spec (Tv.pick 4 rfl hT)))) rfl ?_; rintro _ _ ⟨rfl, rfl⟩; simp only [zA, zB]; refine zRO (i := 20) (by kernel_rfl) rfl rfl (ro_geq rfl rfl rfl) rfl (zRO (i := 21) (by kernel_rfl) rfl rfl (zr rfl rfl) rfl (qm (by kernel_rfl) ?_)); refine zI (zq rfl (fun hc46 => ?_) (fun hc46 => ?_))
     ·replace hc46 := zy2 hc46
      refine zM (qD (fun w F s => qv 87 8 w F s) ?_); refine zK (zH rfl (qY rfl (qK (cs := Hd.zero.cs) st67 rfl)) rfl (zo rfl (zm 4 ag67 rfl rfl rfl rfl rfl (zy1 rfl) (zg _)) rfl ?_)); rintro _ _ rfl; simp only [zE, zF]
      try rw [yq rfl]
      refine zH rfl (zO rfl) rfl (zN (zI (zi ?_))); refine zh ?_; refine' zX (resv2 rfl (qB ag67 rfl (zy6 4 rfl zx) rfl) (yn rfl)) ?_ ?_
      rotate_left 1
      refine ⟨_, ⟨Hd.zero, false, z1.1, rfl, gp_bad g1 _ (fun h0 rest hv hh => ?_), rfl⟩, rfl⟩; obtain ⟨k1, k2, k3, k4, k5, k6, k7, k8⟩ := fit_a e0 e1 hk hv hh
      first
       | exact absurd k1 (by simpa using hg26)
       | (rw [if_pos (by omega)] at hw; omega)
       | omega
      exact (SubH.rown (zJ 2 rfl (zJ 2 rfl (zJ 3 rfl (zY _)))))
     ·replace hc46 := zy3 hc46
      have hid : zid = ((z1.2 : Nat) : Int) := by split at hw <;> omega
      have hid1 : z1.2 ≤ 9223372036854775807 := by split at hw <;> omega
      subst hid; have hid2 : ((z1.2 : Nat) : Int) < t.next := by omega
      clear hw hzid; refine zl ?_; refine zI ?_; refine yO 1010 (fun Δ LL => (∀ x, byId t.ns ((z1.2 : Nat) : Int) = some x → x.dir = dir) ∧ Δ = [] ∧ LL = [own b7 (.cells (Hd.cs ⟨true, ((z1.2 : Nat) : Int), dir, 0, none, 0, []⟩).toArray 67 (0, 0)), own b4 (.cells (Hd.cs Hd.zero).toArray 67 (0, 0)), own pr (.cells [Value.slice p z1.1.b.length c, .int .i64 z1.1.pos, .int .i64 z1.1.why, .int .i64 z1.1.place].toArray 140 (0, 0)), row 5 1 (.slice p z1.1.b.length c) z1.1.b.length (cel z1.1.b), V]) (zS (k := 1) rfl (zS (k := 4) rfl (zS (k := 7) rfl (zf _)))) ?_ ?_
      ·refine yO 1008 (fun Δ LL => ∃ (e9 : Int), ((attO (byId t.ns ((z1.2 : Nat) : Int))).2 = e9) ∧ Δ = [(9, .int .i64 e9)] ∧ LL = [own b7 (.cells (Hd.cs ⟨true, ((z1.2 : Nat) : Int), dir, 0, none, 0, []⟩).toArray 67 (0, 0)), own b4 (.cells (Hd.cs Hd.zero).toArray 67 (0, 0)), own pr (.cells [Value.slice p z1.1.b.length c, .int .i64 z1.1.pos, .int .i64 z1.1.why, .int .i64 z1.1.place].toArray 140 (0, 0)), row 5 1 (.slice p z1.1.b.length c) z1.1.b.length (cel z1.1.b), V]) (zS (k := 0) rfl (zS (k := 1) rfl (zS (k := 4) rfl (zS (k := 7) rfl (zf _))))) ?_ ?_
       ·refine qZ 12 (by kernel_rfl) (zG 0 rfl (zR _)) ?_; refine zRO (i := 0) (by kernel_rfl) rfl rfl (zL rfl) rfl (zRO (i := 1) (by kernel_rfl) rfl rfl (zU rfl) rfl (zRO (i := 2) (by kernel_rfl) rfl rfl (zP yT rfl) rfl (zRO (i := 4) (by kernel_rfl) rfl rfl (zP fa67_1 rfl) rfl (zRO (i := 5) (by kernel_rfl) rfl rfl (zW sc3 rfl (zy4 0 rfl (Rd.own rfl))) rfl (any_two (i := 3) (j := 10) (by kernel_rfl) ?_ ?_)))))
        ·refine at_eff' rfl rfl (xG (zW sc51 rfl (zy4 3 rfl (hpt)))) rfl ?_; rintro _ _ ⟨rfl, rfl⟩; refine any_two (i := 6) (j := 10) (by kernel_rfl) ?_ ?_
         ·refine at_callL' rfl rfl (zy (Pre := []) Tryz.call83 rfl rfl (zR _) (qf htb (xI (Tv.pick 4 rfl hT) ((z1.2 : Nat) : Int) hdl))) rfl ?_; rintro _ _ ⟨rfl, rfl⟩; simp only [zA, zB]; obtain ⟨⟨ax, e9⟩, hz9⟩ : ∃ z : At × Int, attO (byId t.ns ((z1.2 : Nat) : Int)) = z := ⟨_, rfl⟩
          rw [hz9]; dsimp only; refine zRO (i := 7) (by kernel_rfl) rfl rfl (zL rfl) rfl (zRO (i := 8) (by kernel_rfl) rfl rfl (zu rfl rfl) rfl (zRO (i := 9) (by kernel_rfl) rfl rfl (zu rfl rfl) rfl (qM (i := 10) (by kernel_rfl) rfl rfl (qL z30) rfl ?_))); rintro _ _ ⟨b8, rfl, rfl⟩; refine qq (i := 11) (by kernel_rfl) rfl rfl (zm 0 ag30 rfl rfl rfl rfl rfl (zy1 rfl) (zg _)) rfl ?_; rintro _ _ rfl; simp only [zE, zF]; refine qR (m' := 13) (L' := []) (by kernel_rfl) qx ?_; simp only [zA, zB, List.append_nil]; refine zRO (i := 12) (by kernel_rfl) rfl rfl (zO rfl) rfl (qT (by kernel_rfl) ?_); refine zI (qc (qn ⟨e9, by first | rfl | rw [hz9], rfl, rfl⟩ ?_ ?_ ?_))
          ·exact (by repeat (first | exact zf _ | refine zS rfl ?_))
          ·exact (by repeat (first | exact zf _ | refine zS rfl ?_))
          ·exact (zJ 0 rfl (zJ 3 rfl (zJ 1 rfl (zJ 1 rfl (zJ 1 rfl (zY _))))))
         ·refine at_eff' rfl rfl (qL z30) rfl ?_; rintro _ _ ⟨b8, rfl, rfl⟩; refine yb (i := 6) (by kernel_rfl) rfl rfl (zy (Pre := []) Tryz.call83 rfl rfl (zR _) (qf htb (xI (Tv.pick 5 rfl hT) ((z1.2 : Nat) : Int) hdl))) rfl ?_; rintro _ _ ⟨rfl, rfl⟩; simp only [zA, zB]; obtain ⟨⟨ax, e9⟩, hz9⟩ : ∃ z : At × Int, attO (byId t.ns ((z1.2 : Nat) : Int)) = z := ⟨_, rfl⟩
          rw [hz9]; dsimp only; refine zRO (i := 7) (by kernel_rfl) rfl rfl (zL rfl) rfl (zRO (i := 8) (by kernel_rfl) rfl rfl (zu rfl rfl) rfl (zRO (i := 9) (by kernel_rfl) rfl rfl (zu rfl rfl) rfl (qq (i := 11) (by kernel_rfl) rfl rfl (zm 0 ag30 rfl rfl rfl rfl rfl (zy1 rfl) (zg _)) rfl ?_))); rintro _ _ rfl; simp only [zE, zF]; refine qR (m' := 13) (L' := []) (by kernel_rfl) qx ?_; simp only [zA, zB, List.append_nil]; refine zRO (i := 12) (by kernel_rfl) rfl rfl (zO rfl) rfl (qT (by kernel_rfl) ?_); refine zI (qc (qn ⟨e9, by first | rfl | rw [hz9], rfl, rfl⟩ ?_ ?_ ?_))
          ·exact (by repeat (first | exact zf _ | refine zS rfl ?_))
          ·exact (by repeat (first | exact zf _ | refine zS rfl ?_))
          ·exact (zJ 0 rfl (zJ 3 rfl (zJ 1 rfl (zJ 1 rfl (zJ 1 rfl (zY _))))))
        ·refine at_eff' rfl rfl (qL z30) rfl ?_; rintro _ _ ⟨b8, rfl, rfl⟩; refine qM (i := 3) (by kernel_rfl) rfl rfl (xG (zW sc51 rfl (zy4 4 rfl (hpt)))) rfl ?_; rintro _ _ ⟨rfl, rfl⟩; refine yb (i := 6) (by kernel_rfl) rfl rfl (zy (Pre := []) Tryz.call83 rfl rfl (zR _) (qf htb (xI (Tv.pick 5 rfl hT) ((z1.2 : Nat) : Int) hdl))) rfl ?_; rintro _ _ ⟨rfl, rfl⟩; simp only [zA, zB]; obtain ⟨⟨ax, e9⟩, hz9⟩ : ∃ z : At × Int, attO (byId t.ns ((z1.2 : Nat) : Int)) = z := ⟨_, rfl⟩
         rw [hz9]; dsimp only; refine zRO (i := 7) (by kernel_rfl) rfl rfl (zL rfl) rfl (zRO (i := 8) (by kernel_rfl) rfl rfl (zu rfl rfl) rfl (zRO (i := 9) (by kernel_rfl) rfl rfl (zu rfl rfl) rfl (qq (i := 11) (by kernel_rfl) rfl rfl (zm 0 ag30 rfl rfl rfl rfl rfl (zy1 rfl) (zg _)) rfl ?_))); rintro _ _ rfl; simp only [zE, zF]; refine qR (m' := 13) (L' := []) (by kernel_rfl) qx ?_; simp only [zA, zB, List.append_nil]; refine zRO (i := 12) (by kernel_rfl) rfl rfl (zO rfl) rfl (qT (by kernel_rfl) ?_); refine zI (qc (qn ⟨e9, by first | rfl | rw [hz9], rfl, rfl⟩ ?_ ?_ ?_))
         ·exact (by repeat (first | exact zf _ | refine zS rfl ?_))
         ·exact (by repeat (first | exact zf _ | refine zS rfl ?_))
         ·exact (zJ 0 rfl (zJ 3 rfl (zJ 1 rfl (zJ 1 rfl (zJ 1 rfl (zY _))))))
       ·rintro Δ LL ⟨e9, he9, rfl, rfl⟩; simp only [zA, zB]; refine zM (qZ 14 (by kernel_rfl) (zG 0 rfl (zR _)) ?_); refine zRO (i := 0) (by kernel_rfl) rfl rfl (zL rfl) rfl (zRO (i := 1) (by kernel_rfl) rfl rfl (qQ rfl rfl rfl) rfl (yA (i := 2) (by kernel_rfl) rfl rfl rfl rfl (fun _ _ _ h => h) (fun hg60 => ?_) (fun hg60 => ?_)))
        ·replace hg60 := zy2 hg60
         refine zRO (i := 3) (by kernel_rfl) rfl rfl (zL rfl) rfl (zRO (i := 4) (by kernel_rfl) rfl rfl (zU rfl) rfl (zRO (i := 5) (by kernel_rfl) rfl rfl (zP yT rfl) rfl (zRO (i := 7) (by kernel_rfl) rfl rfl (zP fa67_1 rfl) rfl (zRO (i := 8) (by kernel_rfl) rfl rfl (zW sc3 rfl (zy4 0 rfl (Rd.own rfl))) rfl (zRO (i := 10) (by kernel_rfl) rfl rfl (zP fa67_2 rfl) rfl ?_))))); refine zRO (i := 11) (by kernel_rfl) rfl rfl (zW sc4 rfl (zy4 0 rfl (Rd.own rfl))) rfl (qM (i := 6) (by kernel_rfl) rfl rfl (xG (zW sc51 rfl (zy4 3 rfl (hpt)))) rfl ?_); rintro _ _ ⟨rfl, rfl⟩; refine yb (i := 9) (by kernel_rfl) rfl rfl (zy (Pre := []) Tryz.call100 rfl rfl (zR _) (qf htb (dir_spec (Tv.pick 4 rfl hT) ((z1.2 : Nat) : Int)))) rfl ?_; rintro _ _ ⟨rfl, rfl⟩; simp only [zA, zB]; obtain ⟨d1, hd1⟩ : ∃ z, dirO (byId t.ns ((z1.2 : Nat) : Int)) = z := ⟨_, rfl⟩
         try rw [hd1]
         refine zRO (i := 12) (by kernel_rfl) rfl rfl (ro_neq_bool Tryz.underlying4 rfl rfl rfl) rfl (zRO (i := 13) (by kernel_rfl) rfl rfl (zr rfl rfl) rfl (qm (by kernel_rfl) ?_)); refine zI (zq rfl (fun hc71 => ?_) (fun hc71 => ?_))
         ·simp only [Bool.and_eq_true, decide_eq_true_eq, Bool.not_eq_true', decide_eq_false_iff_not, bne_iff_ne, ne_eq] at hc71; refine zM (qD (fun w F s => qv 87 8 w F s) ?_); refine zK (zH rfl (qY rfl (qK (cs := Hd.zero.cs) st67 rfl)) rfl (zo rfl (zm 2 ag67 rfl rfl rfl rfl rfl (zy1 rfl) (zg _)) rfl ?_)); rintro _ _ rfl; simp only [zE, zF]
          try rw [yq rfl]
          refine zH rfl (zO rfl) rfl (zN (zI (zi ?_))); refine zh ?_; refine' zX (resv2 rfl (qB ag67 rfl (zy6 2 rfl zx) rfl) (yn rfl)) ?_ ?_
          rotate_left 1
          refine ⟨_, ⟨Hd.zero, false, z1.1, rfl, gp_bad g1 _ (fun h0 rest hv hh => ?_), rfl⟩, rfl⟩; obtain ⟨k1, k2, k3, k4, k5, k6, k7, k8⟩ := fit_a e0 e1 hk hv hh
          rcases hx : byId t.ns ((z1.2 : Nat) : Int) with _ | x
          ·rw [hx] at he9; rw [← he9] at hg60; cases hg60
          ·rw [hx] at hd1; exact hc71 (hd1.symm.trans ((k8 x hx).trans (k7.trans hdir.symm)))
          exact (SubH.rown (zJ 3 rfl (zJ 3 rfl (zJ 3 rfl (zY _)))))
         ·skip; refine zl ?_; refine zI (qc (qn ⟨fun x hx => by rw [hx] at hd1; exact hd1.trans (by simpa using hc71), rfl, rfl⟩ ?_ ?_ ?_))
          ·exact (by repeat (first | exact zf _ | refine zS rfl ?_))
          ·exact (by repeat (first | exact zf _ | refine zS rfl ?_))
          ·exact zj _
        ·replace hg60 := zy3 hg60
         refine zSK (i := 3) (by kernel_rfl) rfl rfl rfl (zSK (i := 4) (by kernel_rfl) rfl rfl rfl (zSK (i := 5) (by kernel_rfl) rfl rfl rfl (zSK (i := 7) (by kernel_rfl) rfl rfl rfl (zSK (i := 8) (by kernel_rfl) rfl rfl rfl (zSK (i := 10) (by kernel_rfl) rfl rfl rfl ?_))))); refine zSK (i := 11) (by kernel_rfl) rfl rfl rfl (zSK (i := 6) (by kernel_rfl) rfl rfl rfl (zSK (i := 9) (by kernel_rfl) rfl rfl rfl ?_)); obtain ⟨d1, hd1⟩ : ∃ z, dirO (byId t.ns ((z1.2 : Nat) : Int)) = z := ⟨_, rfl⟩
         try rw [hd1]
         refine zSK (i := 12) (by kernel_rfl) rfl rfl rfl (zRO (i := 13) (by kernel_rfl) rfl rfl (zr rfl rfl) rfl (qm (by kernel_rfl) ?_)); refine zI (qC rfl ?_); refine zl ?_; refine zI (qc (qn ⟨fun x hx => by rw [hx] at he9; exact absurd (he9.symm.trans rfl) hg60, rfl, rfl⟩ ?_ ?_ ?_))
         ·exact (by repeat (first | exact zf _ | refine zS rfl ?_))
         ·exact (by repeat (first | exact zf _ | refine zS rfl ?_))
         ·exact zj _
      ·rintro Δ LL ⟨hdd, rfl, rfl⟩; simp only [zA, zB]; refine zM (zM (zK (zH rfl (zP fa67_2 rfl) rfl (zH rfl (zW sc4 rfl (zy4 0 rfl (Rd.own rfl))) rfl (zH rfl (qy rfl rfl) rfl ?_))))); refine zN (zI (zq rfl (fun hc75 => ?_) (fun hc75 => ?_)))
       ·simp only [Bool.and_eq_true, decide_eq_true_eq, Bool.not_eq_true', decide_eq_false_iff_not, bne_iff_ne, ne_eq] at hc75; obtain rfl : dir = false := by simpa using hc75
        have hk2 : z0.2 ≠ 2 := fun h => by rw [h] at hdir; cases hdir
        refine zM (zK (zH rfl (zL rfl) rfl (zT rfl (zb Tryz.call101 rfl rfl (by repeat (first | exact zR _ | apply zG 0 rfl | apply zG 1 rfl | apply zG 2 rfl | apply zG 3 rfl | apply zG 4 rfl | apply zG 5 rfl | apply zG 6 rfl | apply zG 7 rfl)) (yk pr p c z1.1 g1.len g1.pos)) rfl ?_))); rintro _ H' ⟨_, ⟨rfl, rfl⟩, hH⟩; simp only [zy7] at hH; subst hH; obtain ⟨z2, e2⟩ : ∃ z, z1.1.get 4 = z := ⟨_, rfl⟩
        rw [e2]; have g2 : z2.1.Good := e2 ▸ R.good_get g1 4
        have l2 : z2.2 < 4294967296 := by have h := yt z1.1 4; rw [e2] at h; simpa only [Nat.reducePow] using h
        refine zH rfl (zP fa67_3 rfl) rfl (zo rfl (qP 2 yB rfl rfl rfl rfl (zy1 rfl) (zg _)) rfl ?_); rintro _ _ rfl; refine zN (zI (zM (qD (fun w F s => qv 87 8 w F s) ?_))); refine qZ 12 (by kernel_rfl) (zG 3 rfl (zR _)) ?_; refine zRO (i := 0) (by kernel_rfl) rfl rfl (qX ag67 rfl (zy6 0 rfl zx) rfl) rfl (zRO (i := 1) (by kernel_rfl) rfl rfl (zP fa67_3 rfl) rfl (zRO (i := 2) (by kernel_rfl) rfl rfl (zW yB rfl (zy4 0 rfl (Rd.own rfl))) rfl (zRO (i := 3) (by kernel_rfl) rfl rfl (ro_andNot rfl rfl (andn7 l2)) rfl (zRO (i := 4) (by kernel_rfl) rfl rfl (qQ rfl rfl rfl) rfl (yA (i := 5) (by kernel_rfl) rfl rfl rfl rfl (fun _ _ _ h => h) (fun hg84 => ?_) (fun hg84 => ?_))))))
        ·replace hg84 := zy2 hg84
         refine zRO (i := 6) (by kernel_rfl) rfl rfl (zP fa67_3 rfl) rfl (zRO (i := 7) (by kernel_rfl) rfl rfl (zW yB rfl (zy4 0 rfl (Rd.own rfl))) rfl (zRO (i := 8) (by kernel_rfl) rfl rfl (ya rfl rfl (xE l2 (c := 3) (by decide) rfl)) rfl (zRO (i := 9) (by kernel_rfl) rfl rfl (q9 rfl rfl rfl) rfl (zRO (i := 10) (by kernel_rfl) rfl rfl (zr rfl rfl) rfl (qq (i := 11) (by kernel_rfl) rfl rfl (zm 3 ag67 rfl rfl rfl rfl rfl (zy1 rfl) (zg _)) rfl ?_))))); rintro _ _ rfl; simp only [zE, zF]
         try rw [yq rfl]
         refine qR (m' := 13) (L' := []) (by kernel_rfl) qx ?_; simp only [zA, zB, List.append_nil]; refine zRO (i := 12) (by kernel_rfl) rfl rfl (zO rfl) rfl (qT (by kernel_rfl) ?_); refine zI (zi ?_); refine zh ?_; refine' zX (resv2 rfl (qB ag67 rfl (zy6 4 rfl zx) rfl) (yn rfl)) ?_ ?_
         rotate_left 1
         exact ⟨_, ⟨⟨true, ((z1.2 : Nat) : Int), false, z2.2, none, 0, []⟩, _, z2.1, rfl, gp_file e0 e1 e2 hk hk2 g2 hid2 hid1 hdd (by constructor <;> intro h <;> simp_all <;> omega), rfl⟩, rfl⟩
         exact (SubH.rown (zJ 2 rfl (zJ 2 rfl (zJ 3 rfl (zY _)))))
        ·replace hg84 := zy3 hg84
         refine zSK (i := 6) (by kernel_rfl) rfl rfl rfl (zSK (i := 7) (by kernel_rfl) rfl rfl rfl (zSK (i := 8) (by kernel_rfl) rfl rfl rfl (zSK (i := 9) (by kernel_rfl) rfl rfl rfl (zRO (i := 10) (by kernel_rfl) rfl rfl (zr rfl rfl) rfl (qq (i := 11) (by kernel_rfl) rfl rfl (zm 3 ag67 rfl rfl rfl rfl rfl (zy1 rfl) (zg _)) rfl ?_))))); rintro _ _ rfl; simp only [zE, zF]
         try rw [yq rfl]
         refine qR (m' := 13) (L' := []) (by kernel_rfl) qx ?_; simp only [zA, zB, List.append_nil]; refine zRO (i := 12) (by kernel_rfl) rfl rfl (zO rfl) rfl (qT (by kernel_rfl) ?_); refine zI (zi ?_); refine zh ?_; refine' zX (resv2 rfl (qB ag67 rfl (zy6 4 rfl zx) rfl) (yn rfl)) ?_ ?_
         rotate_left 1
         exact ⟨_, ⟨⟨true, ((z1.2 : Nat) : Int), false, z2.2, none, 0, []⟩, _, z2.1, rfl, gp_file e0 e1 e2 hk hk2 g2 hid2 hid1 hdd (by constructor <;> intro h <;> simp_all <;> omega), rfl⟩, rfl⟩
         exact (SubH.rown (zJ 2 rfl (zJ 2 rfl (zJ 3 rfl (zY _)))))
       ·simp only [Bool.and_eq_false_iff, decide_eq_false_iff_not, Bool.not_eq_false', decide_eq_true_eq] at hc75; obtain rfl : dir = true := by simpa using hc75
        have hk2 : z0.2 = 2 := by simpa using hdir
        refine zl ?_; refine zI (zM (zK (zH rfl (zL rfl) rfl (zT rfl (zb Tryz.call101 rfl rfl (by repeat (first | exact zR _ | apply zG 0 rfl | apply zG 1 rfl | apply zG 2 rfl | apply zG 3 rfl | apply zG 4 rfl | apply zG 5 rfl | apply zG 6 rfl | apply zG 7 rfl)) (yk pr p c z1.1 g1.len g1.pos)) rfl ?_)))); rintro _ H' ⟨_, ⟨rfl, rfl⟩, hH⟩; simp only [zy7] at hH; subst hH; obtain ⟨z2, e2⟩ : ∃ z, z1.1.get 4 = z := ⟨_, rfl⟩
        rw [e2]; have g2 : z2.1.Good := e2 ▸ R.good_get g1 4
        have l2 : z2.2 < 4294967296 := by have h := yt z1.1 4; rw [e2] at h; simpa only [Nat.reducePow] using h
        refine zH rfl (zO rfl) rfl (zN (zI (zM (zM (zK ?_))))); refine zH rfl (zL rfl) rfl (zH rfl (yd rfl rfl rfl) rfl (zN (zI (zq rfl (fun hc93 => ?_) (fun hc93 => ?_)))))
        ·replace hc93 := zy2 hc93
         refine zM (qD (fun w F s => qv 87 8 w F s) ?_); refine zK (zH rfl (qY rfl (qK (cs := Hd.zero.cs) st67 rfl)) rfl (zo rfl (zm 4 ag67 rfl rfl rfl rfl rfl (zy1 rfl) (zg _)) rfl ?_)); rintro _ _ rfl; simp only [zE, zF]
         try rw [yq rfl]
         refine zH rfl (zO rfl) rfl (zN (zI (zi ?_))); refine zh ?_; refine' zX (resv2 rfl (qB ag67 rfl (zy6 4 rfl zx) rfl) (yn rfl)) ?_ ?_
         rotate_left 1
         refine ⟨_, ⟨Hd.zero, false, z2.1, rfl, gp_bad g2 _ (fun h0 rest hv hh => ?_), rfl⟩, rfl⟩; obtain ⟨k1, k2, k3, k4, k5, k6, k7, k8⟩ := fit_a e0 e1 hk hv hh
         obtain ⟨m1, m2, m3, m4, m5, m6, m7⟩ := fit_d e0 e1 e2 hk (by simpa using hdir) hv hh
         have := m3.len
         omega
         exact (SubH.rown (zJ 1 rfl (zJ 1 rfl (zJ 3 rfl (zY _)))))
        ·replace hc93 := zy3 hc93
         have h200 : z2.2 ≤ 200 := by omega
         have hFD : ∀ h0 rest, VdH t h0 → Here r (encH h0 ++ rest) → VdN h0.names ∧ z2.2 = h0.names.length := fun h0 rest hv hh => by obtain ⟨_, _, m3, m4, _⟩ := fit_d e0 e1 e2 hk hk2 hv hh; exact ⟨m3, m4⟩
         refine zl ?_; refine zI (zM (zM (qD (fun w F s => qv 87 8 w F s) ?_))); refine zK (zH rfl (zL rfl) rfl (zH rfl (zL rfl) rfl (zN (zI (qA ?_))))); refine yQ 17 (fun m Δ LL => ∃ (i : Nat) (q : R) (acc : List Nm) (pn : Option Addr) (cn : Nat), (i + m = z2.2 ∧ LN t r i acc q) ∧ Δ = [(96, .int .u32 (i : Nat))] ∧ LL = [own b7 (.cells (Hd.cs ⟨true, ((z1.2 : Nat) : Int), true, 0, pn, cn, acc⟩).toArray 67 (0, 0)), row 87 8 (.slice pn (acc).length cn) (acc).length (flat Nm.cs (acc)), own b4 (.cells (Hd.cs Hd.zero).toArray 67 (0, 0)), own pr (.cells [Value.slice p q.b.length c, .int .i64 q.pos, .int .i64 q.why, .int .i64 q.place].toArray 140 (0, 0)), row 5 1 (.slice p q.b.length c) q.b.length (cel q.b), V]) (m := z2.2) (zS (k := 1) rfl (zS (k := 4) rfl (zS (k := 7) rfl (zS (k := 95) rfl (zf _))))) (qn ⟨0, z2.1, [], none, 0, ⟨by omega, ln_zero e0 e1 e2 hk hk2 g2⟩, rfl, rfl⟩ (by repeat (first | exact zf _ | refine zS rfl ?_)) (by repeat (first | exact zf _ | refine zS rfl ?_)) (by repeat (first | exact zY _ | refine zJ 0 rfl ?_ | refine zJ 1 rfl ?_ | refine zJ 2 rfl ?_ | refine zJ 3 rfl ?_ | refine zJ 4 rfl ?_ | refine zJ 5 rfl ?_ | refine zJ 6 rfl ?_ | refine zJ 7 rfl ?_ | refine SubH.rown ?_))) ?_; rintro m Δ LL ⟨i, q, acc, pn, cn, ⟨hm, hLN⟩, rfl, rfl⟩; simp only [zA, zB]; refine zM (zK (zH rfl (yP rfl rfl rfl) rfl (zN (zI (zM ?_))))); refine zq rfl (fun hc97 => ?_) (fun hc97 => ?_)
         ·replace hc97 := zy2 hc97
          have hi : i < z2.2 := by omega
          have hal := hLN.len
          refine zl ?_; refine zI (zM (qA ?_)); refine zM (zK (zH rfl (zL rfl) rfl (zT rfl (zb Tryz.call51 rfl rfl (by repeat (first | exact zR _ | apply zG 0 rfl | apply zG 1 rfl | apply zG 2 rfl | apply zG 3 rfl | apply zG 4 rfl | apply zG 5 rfl | apply zG 6 rfl | apply zG 7 rfl)) (rText_spec pr p c q hLN.good 30 (by omega))) rfl ?_))); rintro _ H' ⟨_, ⟨rfl, rfl⟩, hH⟩; simp only [zy7] at hH; subst hH; obtain ⟨y, ey⟩ : ∃ y, q.text 30 = y := ⟨_, rfl⟩
          rw [ey]; have gy : y.1.Good := ey ▸ R.good_text hLN.good 30
          have ly : y.2.length ≤ 140737488355328 := ey ▸ text_le hLN.good 30
          refine zH rfl (zL rfl) rfl (zT rfl (zb Tryz.call102 rfl rfl (by repeat (first | exact zR _ | apply zG 0 rfl | apply zG 1 rfl | apply zG 2 rfl | apply zG 3 rfl | apply zG 4 rfl | apply zG 5 rfl | apply zG 6 rfl | apply zG 7 rfl)) (aget_spec pr p c y.1 gy.len gy.pos)) rfl ?_); rintro _ H' ⟨_, ⟨rfl, rfl⟩, hH⟩; simp only [zy7] at hH; subst hH; obtain ⟨x, ex⟩ : ∃ x, y.1.attrs = x := ⟨_, rfl⟩
          rw [ex]; have gx : x.1.Good := ex ▸ good_attrs gy
          refine zH rfl (qY rfl (qK (cs := Nm.cs ⟨y.2, x.2⟩) st87 rfl)) rfl (zT rfl (qL z87) rfl ?_); rintro _ _ ⟨b11, rfl, rfl⟩; refine zo rfl (zm 0 ag87 rfl rfl rfl rfl rfl (zy1 rfl) (zg _)) rfl ?_; rintro _ _ rfl; simp only [zE, zF]; refine zN (zI ?_); refine yO 1021 (fun Δ LL => (ptOk y.2 = true ∧ x.2.f = 15 ∧ (∀ l ∈ acc.map Nm.n, cmp l y.2 < 0)) ∧ Δ = [] ∧ LL = [own b11 (.cells (Nm.cs ⟨y.2, x.2⟩).toArray 87 (0, 0)), own b7 (.cells (Hd.cs ⟨true, ((z1.2 : Nat) : Int), true, 0, pn, cn, acc⟩).toArray 67 (0, 0)), row 87 8 (.slice pn (acc).length cn) (acc).length (flat Nm.cs (acc)), own b4 (.cells (Hd.cs Hd.zero).toArray 67 (0, 0)), own pr (.cells [Value.slice p x.1.b.length c, .int .i64 x.1.pos, .int .i64 x.1.why, .int .i64 x.1.place].toArray 140 (0, 0)), row 5 1 (.slice p x.1.b.length c) x.1.b.length (cel x.1.b), V]) (zS (k := 1) rfl (zS (k := 4) rfl (zS (k := 7) rfl (zS (k := 11) rfl (zS (k := 95) rfl (zS (k := 96) rfl (zf _))))))) ?_ ?_
          ·refine zM ?_; refine yN (p := acc.length ≠ 0 → ∃ b o, pn = some ⟨b, o, none⟩) (fun w F s h0 => vw_ptr (zy5 (H := [_, _, _, _, _, _, V]) 4 rfl Vw.row) s h0) ?_; intro hkp0; refine qZ 30 (by kernel_rfl) (zG 0 rfl (zG 2 rfl (zG 2 rfl (zR _)))) ?_; refine zRO (i := 0) (by kernel_rfl) rfl rfl (zP fa87_0 rfl) rfl (zRO (i := 1) (by kernel_rfl) rfl rfl (zW sc9 rfl (zy4 0 rfl (Rd.own rfl))) rfl (qM (i := 2) (by kernel_rfl) rfl rfl (zb Tryz.call74 rfl rfl (by repeat (first | exact zR _ | apply zG 0 rfl | apply zG 1 rfl | apply zG 2 rfl | apply zG 3 rfl | apply zG 4 rfl | apply zG 5 rfl | apply zG 6 rfl | apply zG 7 rfl)) (ptRight_spec y.2 (by omega))) rfl ?_)); rintro _ H' ⟨_, ⟨rfl, rfl⟩, hH⟩; simp only [zy7] at hH; subst hH; refine zRO (i := 3) (by kernel_rfl) rfl rfl (qy rfl rfl) rfl (yA (i := 4) (by kernel_rfl) rfl rfl rfl rfl (fun _ _ _ h => h) (fun hg107 => ?_) (fun hg107 => ?_))
           ·simp only [Bool.and_eq_true, decide_eq_true_eq, Bool.not_eq_true', decide_eq_false_iff_not, bne_iff_ne, ne_eq] at hg107; refine zSK (i := 5) (by kernel_rfl) rfl rfl rfl (zSK (i := 6) (by kernel_rfl) rfl rfl rfl (zSK (i := 7) (by kernel_rfl) rfl rfl rfl (zSK (i := 8) (by kernel_rfl) rfl rfl rfl (zRO (i := 9) (by kernel_rfl) rfl rfl (zr rfl rfl) rfl (zRO (i := 10) (by kernel_rfl) rfl rfl (zL (v := .bool true) rfl) rfl ?_))))); refine zSK (i := 11) (by kernel_rfl) rfl rfl rfl (zSK (i := 12) (by kernel_rfl) rfl rfl rfl (zSK (i := 13) (by kernel_rfl) rfl rfl rfl (zSK (i := 14) (by kernel_rfl) rfl rfl rfl (zSK (i := 15) (by kernel_rfl) rfl rfl rfl (zSK (i := 16) (by kernel_rfl) rfl rfl rfl ?_))))); refine zSK (i := 17) (by kernel_rfl) rfl rfl rfl (zSK (i := 18) (by kernel_rfl) rfl rfl rfl (zSK (i := 19) (by kernel_rfl) rfl rfl rfl (zSK (i := 20) (by kernel_rfl) rfl rfl rfl (zSK (i := 21) (by kernel_rfl) rfl rfl rfl (zSK (i := 22) (by kernel_rfl) rfl rfl rfl ?_))))); refine zSK (i := 23) (by kernel_rfl) rfl rfl rfl (zSK (i := 24) (by kernel_rfl) rfl rfl rfl (zSK (i := 25) (by kernel_rfl) rfl rfl rfl (zSK (i := 26) (by kernel_rfl) rfl rfl rfl (zSK (i := 27) (by kernel_rfl) rfl rfl rfl (zSK (i := 28) (by kernel_rfl) rfl rfl rfl ?_))))); refine zRO (i := 29) (by kernel_rfl) rfl rfl (zr rfl rfl) rfl (qm (by kernel_rfl) ?_); refine zI (qG rfl ?_); refine zM (qD (fun w F s => qv 87 8 w F s) ?_); refine zK (zH rfl (qY rfl (qK (cs := Hd.zero.cs) st67 rfl)) rfl (zo rfl (zm 6 ag67 rfl rfl rfl rfl rfl (zy1 rfl) (zg _)) rfl ?_)); rintro _ _ rfl; simp only [zE, zF]
            try rw [yq rfl]
            refine zH rfl (zO rfl) rfl (zN (zI (zi ?_))); refine zh ?_; refine zn ?_; refine zh ?_; refine zh ?_; refine zn ?_; refine zh ?_; refine' zX (resv2 rfl (qB ag67 rfl (zy6 6 rfl zx) rfl) (yn rfl)) ?_ ?_
            rotate_left 1
            refine ⟨_, ⟨Hd.zero, false, x.1, rfl, gp_bad gx _ (fun h0 rest hv hh => ?_), rfl⟩, rfl⟩; obtain ⟨k1, k2, k3, k4, k5, k6, k7, k8⟩ := fit_a e0 e1 hk hv hh
            obtain ⟨m1, m2, m3, m4, m5, m6, m7⟩ := fit_d e0 e1 e2 hk (by simpa using hdir) hv hh
            obtain ⟨k, u1, u2, u3, u4, u5, u6, u7, u8⟩ := ln_kid hLN hi ey ex m3 m4 hv hh
            first
             | (rw [u4] at hg107; exact Bool.noConfusion hg107)
             | (exact absurd u5 (by omega))
             | (exact absurd (u6 _ (List.mem_of_getElem? hvn)) (by simpa using hc132))
            exact (SubH.rown (zJ 4 rfl (zJ 4 rfl (zJ 5 rfl (zY _)))))
           ·simp only [Bool.and_eq_false_iff, decide_eq_false_iff_not, Bool.not_eq_false', decide_eq_true_eq] at hg107; refine zRO (i := 5) (by kernel_rfl) rfl rfl (zP fa87_1 rfl) rfl (zRO (i := 6) (by kernel_rfl) rfl rfl (zP yg rfl) rfl (zRO (i := 7) (by kernel_rfl) rfl rfl (zW yB rfl (zy4 0 rfl (Rd.own rfl))) rfl (zRO (i := 8) (by kernel_rfl) rfl rfl (q9 rfl rfl rfl) rfl (zRO (i := 9) (by kernel_rfl) rfl rfl (zr rfl rfl) rfl (yA (i := 10) (by kernel_rfl) rfl rfl rfl rfl (fun _ _ _ h => h) (fun hg113 => ?_) (fun hg113 => ?_))))))
            ·replace hg113 := zy2 hg113
             dsimp only at hg113; refine zSK (i := 11) (by kernel_rfl) rfl rfl rfl (zSK (i := 12) (by kernel_rfl) rfl rfl rfl (zSK (i := 13) (by kernel_rfl) rfl rfl rfl (zSK (i := 14) (by kernel_rfl) rfl rfl rfl (zSK (i := 15) (by kernel_rfl) rfl rfl rfl (zSK (i := 16) (by kernel_rfl) rfl rfl rfl ?_))))); refine zSK (i := 17) (by kernel_rfl) rfl rfl rfl (zSK (i := 18) (by kernel_rfl) rfl rfl rfl (zSK (i := 19) (by kernel_rfl) rfl rfl rfl (zSK (i := 20) (by kernel_rfl) rfl rfl rfl (zSK (i := 21) (by kernel_rfl) rfl rfl rfl (zSK (i := 22) (by kernel_rfl) rfl rfl rfl ?_))))); refine zSK (i := 23) (by kernel_rfl) rfl rfl rfl (zSK (i := 24) (by kernel_rfl) rfl rfl rfl (zSK (i := 25) (by kernel_rfl) rfl rfl rfl (zSK (i := 26) (by kernel_rfl) rfl rfl rfl (zSK (i := 27) (by kernel_rfl) rfl rfl rfl (zSK (i := 28) (by kernel_rfl) rfl rfl rfl ?_))))); refine zRO (i := 29) (by kernel_rfl) rfl rfl (zr rfl rfl) rfl (qm (by kernel_rfl) ?_); refine zI (qG rfl ?_); refine zM (qD (fun w F s => qv 87 8 w F s) ?_); refine zK (zH rfl (qY rfl (qK (cs := Hd.zero.cs) st67 rfl)) rfl (zo rfl (zm 6 ag67 rfl rfl rfl rfl rfl (zy1 rfl) (zg _)) rfl ?_)); rintro _ _ rfl; simp only [zE, zF]
             try rw [yq rfl]
             refine zH rfl (zO rfl) rfl (zN (zI (zi ?_))); refine zh ?_; refine zn ?_; refine zh ?_; refine zh ?_; refine zn ?_; refine zh ?_; refine' zX (resv2 rfl (qB ag67 rfl (zy6 6 rfl zx) rfl) (yn rfl)) ?_ ?_
             rotate_left 1
             refine ⟨_, ⟨Hd.zero, false, x.1, rfl, gp_bad gx _ (fun h0 rest hv hh => ?_), rfl⟩, rfl⟩; obtain ⟨k1, k2, k3, k4, k5, k6, k7, k8⟩ := fit_a e0 e1 hk hv hh
             obtain ⟨m1, m2, m3, m4, m5, m6, m7⟩ := fit_d e0 e1 e2 hk (by simpa using hdir) hv hh
             obtain ⟨k, u1, u2, u3, u4, u5, u6, u7, u8⟩ := ln_kid hLN hi ey ex m3 m4 hv hh
             first
              | (rw [u4] at hg107; exact Bool.noConfusion hg107)
              | (exact absurd u5 (by omega))
              | (exact absurd (u6 _ (List.mem_of_getElem? hvn)) (by simpa using hc132))
             exact (SubH.rown (zJ 4 rfl (zJ 4 rfl (zJ 5 rfl (zY _)))))
            ·replace hg113 := zy3 hg113
             dsimp only at hg113; refine zRO (i := 11) (by kernel_rfl) rfl rfl (zP fa67_4 rfl) rfl (zRO (i := 12) (by kernel_rfl) rfl rfl (zW sc26 rfl (zy4 1 rfl (Rd.own rfl))) rfl (zRO (i := 13) (by kernel_rfl) rfl rfl (zw Tryz.underlying26 rfl) rfl (zRO (i := 14) (by kernel_rfl) rfl rfl (yd rfl rfl rfl) rfl (yA (i := 15) (by kernel_rfl) rfl rfl rfl rfl (fun _ _ _ h => h) (fun hg118 => ?_) (fun hg118 => ?_)))))
             ·replace hg118 := zy2 hg118
              dsimp only at hg118; have hl1 : acc.length - 1 < acc.length := by omega
              have hvn : (acc.map Nm.n)[(acc.map Nm.n).length - 1]? = some (acc[acc.length - 1]).n := by rw [List.length_map, List.getElem?_map, List.getElem?_eq_getElem hl1]; rfl
              obtain ⟨b1, o1, rfl⟩ := hkp0 (by omega)
              refine zRO (i := 16) (by kernel_rfl) rfl rfl (zP fa67_4 rfl) rfl (zRO (i := 17) (by kernel_rfl) rfl rfl (zW sc26 rfl (zy4 1 rfl (Rd.own rfl))) rfl (zRO (i := 18) (by kernel_rfl) rfl rfl (zP fa67_4 rfl) rfl (zRO (i := 19) (by kernel_rfl) rfl rfl (zW sc26 rfl (zy4 1 rfl (Rd.own rfl))) rfl (zRO (i := 20) (by kernel_rfl) rfl rfl (zw Tryz.underlying26 rfl) rfl (xQ (i := 21) (by kernel_rfl) rfl rfl (yi rfl rfl (xV (by dsimp only; omega) (by dsimp only; omega))) rfl (fun _ _ _ h => h) ?_))))); refine zRO (i := 22) (by kernel_rfl) rfl rfl (qO sl26 rfl rfl rfl (by omega)) rfl (zRO (i := 23) (by kernel_rfl) rfl rfl (zP fa87_0 rfl) rfl (zRO (i := 24) (by kernel_rfl) rfl rfl (zW sc9 rfl (zy4 2 rfl (Rd.elem (j := 0) (ym Vw.row) Nm.len (List.getElem?_eq_getElem hl1) rfl))) rfl ?_)); refine zRO (i := 25) (by kernel_rfl) rfl rfl (zP fa87_0 rfl) rfl (zRO (i := 26) (by kernel_rfl) rfl rfl (zW sc9 rfl (zy4 0 rfl (Rd.own rfl))) rfl (zRO (i := 27) (by kernel_rfl) rfl rfl (ro_geqS rfl rfl rfl) rfl (zRO (i := 28) (by kernel_rfl) rfl rfl (zr rfl rfl) rfl (zRO (i := 29) (by kernel_rfl) rfl rfl (zr rfl rfl) rfl (qm (by kernel_rfl) ?_))))); refine zI (zq rfl (fun hc132 => ?_) (fun hc132 => ?_))
              ·simp only [Bool.and_eq_true, decide_eq_true_eq, Bool.not_eq_true', decide_eq_false_iff_not, bne_iff_ne, ne_eq] at hc132; refine zM (qD (fun w F s => qv 87 8 w F s) ?_); refine zK (zH rfl (qY rfl (qK (cs := Hd.zero.cs) st67 rfl)) rfl (zo rfl (zm 6 ag67 rfl rfl rfl rfl rfl (zy1 rfl) (zg _)) rfl ?_)); rintro _ _ rfl; simp only [zE, zF]
               try rw [yq rfl]
               refine zH rfl (zO rfl) rfl (zN (zI (zi ?_))); refine zh ?_; refine zn ?_; refine zh ?_; refine zh ?_; refine zn ?_; refine zh ?_; refine' zX (resv2 rfl (qB ag67 rfl (zy6 6 rfl zx) rfl) (yn rfl)) ?_ ?_
               rotate_left 1
               refine ⟨_, ⟨Hd.zero, false, x.1, rfl, gp_bad gx _ (fun h0 rest hv hh => ?_), rfl⟩, rfl⟩; obtain ⟨k1, k2, k3, k4, k5, k6, k7, k8⟩ := fit_a e0 e1 hk hv hh
               obtain ⟨m1, m2, m3, m4, m5, m6, m7⟩ := fit_d e0 e1 e2 hk (by simpa using hdir) hv hh
               obtain ⟨k, u1, u2, u3, u4, u5, u6, u7, u8⟩ := ln_kid hLN hi ey ex m3 m4 hv hh
               first
                | (rw [u4] at hg107; exact Bool.noConfusion hg107)
                | (exact absurd u5 (by omega))
                | (exact absurd (u6 _ (List.mem_of_getElem? hvn)) (by simpa using hc132))
               exact (SubH.rown (zJ 4 rfl (zJ 4 rfl (zJ 5 rfl (zY _)))))
              ·simp only [Bool.and_eq_false_iff, decide_eq_false_iff_not, Bool.not_eq_false', decide_eq_true_eq] at hc132; refine zl ?_; refine zI (qc (qn ⟨⟨by simpa using hg107, by omega, rise_last hLN.up hvn (by simpa using hc132)⟩, rfl, rfl⟩ ?_ ?_ ?_))
               ·exact (by repeat (first | exact zf _ | refine zS rfl ?_))
               ·exact (by repeat (first | exact zf _ | refine zS rfl ?_))
               ·exact (zJ 0 rfl (zJ 0 rfl (zJ 0 rfl (zJ 2 rfl (zJ 0 rfl (zJ 0 rfl (zJ 0 rfl (zY _))))))))
             ·replace hg118 := zy3 hg118
              dsimp only at hg118; refine zSK (i := 16) (by kernel_rfl) rfl rfl rfl (zSK (i := 17) (by kernel_rfl) rfl rfl rfl (zSK (i := 18) (by kernel_rfl) rfl rfl rfl (zSK (i := 19) (by kernel_rfl) rfl rfl rfl (zSK (i := 20) (by kernel_rfl) rfl rfl rfl (zSK (i := 21) (by kernel_rfl) rfl rfl rfl ?_))))); refine zSK (i := 22) (by kernel_rfl) rfl rfl rfl (zSK (i := 23) (by kernel_rfl) rfl rfl rfl (zSK (i := 24) (by kernel_rfl) rfl rfl rfl (zSK (i := 25) (by kernel_rfl) rfl rfl rfl (zSK (i := 26) (by kernel_rfl) rfl rfl rfl (zSK (i := 27) (by kernel_rfl) rfl rfl rfl ?_))))); refine zRO (i := 28) (by kernel_rfl) rfl rfl (zr rfl rfl) rfl (zRO (i := 29) (by kernel_rfl) rfl rfl (zr rfl rfl) rfl (qm (by kernel_rfl) ?_)); refine zI (qC rfl ?_); refine zl ?_; refine zI ?_; refine qc (qn ⟨⟨by simpa using hg107, by omega, fun l hl => (by rw [List.eq_nil_of_length_eq_zero (show acc.length = 0 by omega)] at hl; cases hl)⟩, rfl, rfl⟩ ?_ ?_ ?_)
              ·exact (by repeat (first | exact zf _ | refine zS rfl ?_))
              ·exact (by repeat (first | exact zf _ | refine zS rfl ?_))
              ·exact (zJ 0 rfl (zJ 0 rfl (zJ 0 rfl (zJ 2 rfl (zJ 0 rfl (zJ 0 rfl (zJ 0 rfl (zY _))))))))
          ·rintro Δ LL ⟨⟨hb1, hb2, hb3⟩, rfl, rfl⟩; simp only [zA, zB]; refine zK (zH rfl (zP fa67_4 rfl) rfl (zH rfl (zW sc26 rfl (zy4 1 rfl (Rd.own rfl))) rfl (zH rfl (qX ag87 rfl (zy6 0 rfl zx) rfl) rfl (zT rfl (eff_lit sl26 rfl (sbld (cs := flat Nm.cs [⟨y.2, x.2⟩]) [(.string ByteArray.empty), (.int .u32 0), (.int .u64 0), (.int .u32 0), (.int .u32 0), (.int .u32 0), (.int .u32 0), (.int .u32 0)] sl26 (by decide) (by kernel_rfl) rfl) rfl (by decide)) rfl ?_)))); rintro _ _ ⟨b137, rfl, rfl⟩; refine zT rfl (eff_appF (f := Nm.cs) (l2 := [(⟨y.2, x.2⟩ : Nm)]) 3 sl26 (.inl ⟨87, Tryz.underlying26⟩) rfl rfl rfl (Src.flatv Nm.len Nm.one (zy5 0 rfl Vw.row)) (by simp only [List.length_cons, List.length_nil]; omega) (by simp only [List.length_cons, List.length_nil]; omega)) rfl ?_; rintro _ _ ⟨p138, c138, rfl, hn138, rfl⟩; simp only [zE, zF]; refine zH rfl (zP fa67_4 rfl) rfl (zo rfl (qP 2 sc26 rfl rfl rfl rfl (zy1 rfl) (zg _)) rfl ?_); rintro _ _ rfl; refine zN (zQ ?_); refine zI (zK ?_); refine zH rfl (ql rfl rfl (show IntKind.u32.wrap ((i : Int) + 1) = ((i + 1 : Nat) : Int) by rw [xC (by omega) (by omega)]; omega)) rfl (zH rfl (zL rfl) rfl (zN (zI (back (m - 1) (by omega) (qn ⟨i + 1, x.1, acc ++ [⟨y.2, x.2⟩], p138, c138, ⟨by omega, ln_next hLN hi ey ex hFD gx hb1 hb2 hb3⟩, rfl, rfl⟩ ?_ ?_ ?_)))))
           ·exact (by repeat (first | exact zf _ | refine zS rfl ?_))
           ·exact (by repeat (first | exact zf _ | refine zS rfl ?_))
           ·exact (zJ 2 rfl (zJ 2 rfl (zJ 2 rfl (zJ 2 rfl (zJ 2 rfl (zJ 2 rfl (zY _)))))))
         ·replace hc97 := zy3 hc97
          obtain rfl : i = z2.2 := by omega
          refine yJ ?_; refine qV ?_; refine qV ?_; refine qe ?_; refine zI (zM (qZ 4 (by kernel_rfl) (zG 0 rfl (zR _)) ?_)); refine zRO (i := 0) (by kernel_rfl) rfl rfl (qX ag67 rfl (zy6 0 rfl zx) rfl) rfl (zRO (i := 1) (by kernel_rfl) rfl rfl (zL rfl) rfl (qM (i := 2) (by kernel_rfl) rfl rfl (zb Tryz.call98 rfl rfl (by repeat (first | exact zR _ | apply zG 0 rfl | apply zG 1 rfl | apply zG 2 rfl | apply zG 3 rfl | apply zG 4 rfl | apply zG 5 rfl | apply zG 6 rfl | apply zG 7 rfl)) (fine_spec pr p c q)) rfl ?_)); rintro _ H' ⟨_, ⟨rfl, rfl⟩, hH⟩; simp only [zy7] at hH; subst hH; refine qq (i := 3) (by kernel_rfl) rfl rfl (zm 3 ag67 rfl rfl rfl rfl rfl (zy1 rfl) (zg _)) rfl ?_; rintro _ _ rfl; simp only [zE, zF]
          try rw [yq rfl]
          refine qR (m' := 5) (L' := []) (by kernel_rfl) qx ?_; simp only [zA, zB, List.append_nil]; refine zRO (i := 4) (by kernel_rfl) rfl rfl (zO rfl) rfl (qT (by kernel_rfl) ?_); refine zI (zi ?_); refine' zX (resv2 rfl (qB ag67 rfl (zy6 4 rfl zx) rfl) (yn rfl)) ?_ ?_
          rotate_left 1
          exact ⟨[row 87 8 (.slice pn (acc).length cn) (acc).length (flat Nm.cs (acc)), own pr (.cells [Value.slice p q.b.length c, .int .i64 q.pos, .int .i64 q.why, .int .i64 q.place].toArray 140 (0, 0)), row 5 1 (.slice p q.b.length c) q.b.length (cel q.b)], ⟨⟨true, ((z1.2 : Nat) : Int), true, 0, pn, cn, acc⟩, decide (q.why = 0), q, rfl, gp_dir e0 e1 e2 hk hk2 hid2 hid1 hdd h200 hLN pn cn, rfl⟩, rfl⟩
          exact (zJ 3 rfl (zJ 1 rfl (zJ 1 rfl (zJ 2 rfl (zY _)))))
set_option maxHeartbeats 4000000
theorem over_hd (a b c d e : Value) (h : Hd) : yE [a, b, c, d, e] 0 h.cs = h.cs := yq rfl
structure Ld where
 mb : Nat
 t : Tr
 r : Nd
 hs : List Hd
def LoadM : Option Ld → HProp
 | none => emp
 | some s => St [oMa s.mb s.t.tb s.hs, tree s.t, St (s.hs.map rowN)]
theorem loadM_none {L : List HProp} {w : World} {F : HProp} (s : sat w (star (St L) F)) : sat w (star (St (LoadM none :: L)) F) := by
 rw [qJ, show LoadM none = emp from rfl, emp_star]; exact s
/-- a machine that was loaded -/
structure GoodL (l : List UInt8) (s : Ld) : Prop where
 wf : Wf s.t s.r
 sv : ∃ sb, SaveR s.t s.r sb ∧ sb.length ≤ 1100008 ∧ l = be sb.length 4 ++ sb ++ s.hs.flatMap encH
 nx : s.t.next ≤ 9223372036854775807
 f15 : F15 s.t s.r
 len : s.hs.length = 256
 vd : ∀ h ∈ s.hs, VdH s.t h
theorem load_fits {l : List UInt8} {y : R × List UInt8} (ey : (R.new l).text 1073741824 = y) {sb0 : List UInt8} {hs0 : List Hd} (h5 : sb0.length ≤ 1100008) (h8 : l = be sb0.length 4 ++ sb0 ++ hs0.flatMap encH) : y.2 = sb0 ∧ Here y.1 (hs0.flatMap encH) := by
 have H := Here.new l
 rw [h8] at H; have h1 := text_here H 1073741824 (by omega) (by omega)
 rw [← h8, ey] at h1; subst h1; refine ⟨rfl, ?_⟩; have := H.adv (n := 4 + sb0.length) (by rw [List.length_append, qE])
 rw [← h8] at this; exact this
theorem loadM_some {a b c V : HProp} {w : World} {F : HProp} (s : sat w (star (St [a, b, c, V]) F)) : sat w (star (St [St [a, b, c], V]) F) := by
 simp only [qJ, yV, qt, zv] at s ⊢; exact s
theorem ld_fin {t : Tr} {q0 : R} {hs : List Hd} {q : R} (h : LD t q0 256 hs q) {hs0 : List Hd} (h1 : hs0.length = 256) (h2 : ∀ h ∈ hs0, VdH t h) (h3 : Here q0 (hs0.flatMap encH)) : q.fin.1 = 0 ∧ hs.map Hd.core = hs0.map Hd.core ∧ hs.flatMap encH = hs0.flatMap encH := by
 obtain ⟨j1, j2⟩ := h.back hs0 h1 h2 h3
 rw [List.take_of_length_le (by rw [h.len]; exact Nat.le_refl _), List.take_of_length_le (by rw [h1]; exact Nat.le_refl _)] at j1; rw [List.drop_of_length_le (by rw [h1]; exact Nat.le_refl _), List.flatMap_nil] at j2; exact ⟨fin_here2 j2, j1, flat_core j1⟩
theorem load_rel {t t0 : Tr} {r r0 : Nd} {b sb0 : List UInt8} {hs0 : List Hd} (hW : Wf t r) (hS : SaveR t r b) (hn : t.next ≤ 9223372036854775807) (hf : ∀ u ∈ t.ns, u.a.f = 15) (hm : r.name = []) (a1 : Wf t0 r0) (a2 : F15 t0 r0) (a3 : t0.next ≤ 9223372036854775807) (a4 : SaveR t0 r0 sb0) (a7 : ∀ h ∈ hs0, VdH t0 h) (hb : b = sb0) :
 RelW t (twin t0) ∧ ∀ h ∈ hs0, VdH t h := by
 subst hb; have hrel := rel_load a1 (twin_rel a2) a3 a4 hW hS hn hf hm
 exact ⟨hrel, fun h hh => vd_same hW a1 hrel (a7 h hh)⟩
set_option maxHeartbeats 400000
theorem fload_spec {V : HProp} (q : Option Addr) (cq : Nat) (l : List UInt8) (hV : Vw V (.slice q l.length cq) l.length (cel l)) (hl : l.length ≤ 140737488355328) : Tri Tryz.prog 25 [.slice q l.length cq] [V]
 (fun v H' => ∃ K, (∃ o : Option Ld, v = .tuple #[.pointer (o.map fun s => ⟨s.mb, 0, none⟩), .int .i64 (if o.isSome then 0 else 12)] ∧ (∀ s, o = some s → GoodL l s) ∧
  (∀ (t0 : Tr) (r0 : Nd) (hs0 : List Hd) (sb0 : List UInt8), Wf t0 r0 → F15 t0 r0 → t0.next ≤ 9223372036854775807 → SaveR t0 r0 sb0 → sb0.length ≤ 1100008 → hs0.length = 256 → (∀ h ∈ hs0, VdH t0 h) → l = be sb0.length 4 ++ sb0 ++ hs0.flatMap encH → ∃ s, o = some s ∧ RelW s.t (twin t0) ∧ s.hs.map Hd.core = hs0.map Hd.core) ∧ K = [LoadM o]) ∧ H' = K ++ [V]) := by
 refine zt Tryz.func25 rfl Tryz.ntmps25 (by simp) ?_; refine zM (zK (zH rfl (zO rfl) rfl (zH rfl (zO rfl) rfl (zN (zI ?_))))); refine zM (zK (zH rfl (zL rfl) rfl (zT rfl (zb Tryz.call50 rfl rfl (by repeat (first | exact zR _ | apply zG 0 rfl | apply zG 1 rfl | apply zG 2 rfl | apply zG 3 rfl | apply zG 4 rfl | apply zG 5 rfl | apply zG 6 rfl | apply zG 7 rfl)) (newReader_spec V q cq l hV hl)) rfl ?_))); rintro _ H' ⟨_, ⟨pr, p, c, rfl, rfl⟩, hH⟩; simp only [zy7] at hH; subst hH; refine zH rfl (zO rfl) rfl (zN (zI (zM (zK (zH rfl (zL rfl) rfl ?_))))); refine zT rfl (zb Tryz.call51 rfl rfl (by repeat (first | exact zR _ | apply zG 0 rfl | apply zG 1 rfl | apply zG 2 rfl | apply zG 3 rfl | apply zG 4 rfl | apply zG 5 rfl | apply zG 6 rfl | apply zG 7 rfl)) (rText_spec pr p c (R.new l) (R.good_new l hl) 1073741824 (by omega))) rfl ?_; rintro _ H' ⟨_, ⟨rfl, rfl⟩, hH⟩; simp only [zy7] at hH; subst hH; obtain ⟨y, ey⟩ : ∃ y, (R.new l).text 1073741824 = y := ⟨_, rfl⟩
 rw [ey]; have gy : y.1.Good := ey ▸ R.good_text (R.good_new l hl) 1073741824
 have ly : y.2.length ≤ 140737488355328 := ey ▸ text_le (R.good_new l hl) 1073741824
 refine zT rfl (eff_toBytesS Tryz.underlying9 Tryz.underlying25 Tryz.underlying5 rfl (by simp only [maxLen]; omega)) rfl ?_; rintro _ _ ⟨b17, c17, rfl, rfl⟩; refine zT rfl (zy (Pre := []) Tryz.call43 rfl rfl (zR _) (load_spec _ _ y.2 (zy5 0 rfl Vw.row) (by omega))) rfl ?_; rintro _ H' ⟨_, ⟨o, rfl, ho, ho2, rfl⟩, hH⟩; simp only [zy7] at hH; subst hH; refine zH rfl (zL rfl) rfl (zH rfl (zu rfl rfl) rfl (zH rfl (zu rfl rfl) rfl (zH rfl (zO rfl) rfl (zH rfl (zO rfl) rfl (zN ?_))))); refine zI (zM (zM (zK (zH rfl (zL rfl) rfl (zH rfl (q9 rfl rfl rfl) rfl ?_))))); refine zN (zI (zq rfl (fun hc22 => ?_) (fun hc22 => ?_)))
 ·replace hc22 := zy2 hc22
  have hno : o = none := by cases o with
   | none => rfl
   | some s => exact absurd hc22 (by simp)
  subst hno; refine zM (q8 (L := [V]) (by repeat (first | exact zY _ | refine zJ 0 rfl ?_ | refine zJ 1 rfl ?_ | refine zJ 2 rfl ?_ | refine zJ 3 rfl ?_ | refine zJ 4 rfl ?_ | refine zJ 5 rfl ?_ | refine zJ 6 rfl ?_ | refine zJ 7 rfl ?_ | refine SubH.rown ?_)) ?_); refine qD (H' := [LoadM none, V]) (fun w F s => loadM_none s) ?_; refine zK (zH rfl (zO rfl) rfl (zH rfl (zO rfl) rfl (zN (zI (zi ?_))))); refine zh ?_; refine' zX (res2 rfl rfl rfl) ?_ ?_
  rotate_left 1
  refine ⟨[LoadM none], ⟨none, rfl, fun s h => (by cases h), fun t0 r0 hs0 sb0 a1 a2 a3 a4 a5 a6 a7 a8 => ?_, rfl⟩, rfl⟩
  exfalso
  obtain ⟨f1, f2⟩ := load_fits ey a5 a8
  subst f1; obtain ⟨s, hs⟩ := ho2 t0 r0 a1 a3 a4
  cases hs
  exact zj _
 ·replace hc22 := zy3 hc22
  obtain ⟨⟨t, r⟩, rfl⟩ : ∃ s, o = some s := by cases o with
   | none => exact absurd hc22 (by simp)
   | some s => exact ⟨s, rfl⟩
  obtain ⟨hW, hS, hn, hf, hm⟩ := ho _ rfl
  dsimp only at hW hS hn hf hm; simp only [Option.map_some]; clear ho; refine zl ?_; refine zI (zM (zK (zH rfl (zL rfl) rfl (zH rfl (qY rfl (qK (cs := .pointer (some ⟨t.tb, 0, none⟩) :: flat Hd.cs (List.replicate 256 Hd.zero)) st71 (by kernel_rfl))) rfl (zT rfl (qj rfl) rfl ?_))))); rintro _ _ ⟨b25, rfl, rfl⟩; refine zH rfl (zO rfl) rfl (zN (qD (fun w F sw => rows_new 256 sw) ?_)); refine zM (zM (zK (zH rfl (zL rfl) rfl (zN (zI ?_))))); refine qA ?_; refine yQ 7 (fun m Δ LL => ∃ (s : Nat) (hs : List Hd) (q1 : R), (s + m = 16 ∧ LD t y.1 (s * 16) hs q1) ∧ Δ = [(26, .int .i64 (s : Nat))] ∧ LL = [oMa b25 t.tb (hs), tree t, St ((hs).map rowN), own pr (.cells [Value.slice p q1.b.length c, .int .i64 q1.pos, .int .i64 q1.why, .int .i64 q1.place].toArray 140 (0, 0)), row 5 1 (.slice p q1.b.length c) q1.b.length (cel q1.b), V]) (m := 16) (zS (k := 0) rfl (zS (k := 4) rfl (zS (k := 7) rfl (zf _)))) (qn ⟨0, List.replicate 256 Hd.zero, y.1, ⟨rfl, ld_zero gy⟩, rfl, rfl⟩ (by repeat (first | exact zf _ | refine zS rfl ?_)) (by repeat (first | exact zf _ | refine zS rfl ?_)) (by repeat (first | exact zY _ | refine zJ 0 rfl ?_ | refine zJ 1 rfl ?_ | refine zJ 2 rfl ?_ | refine zJ 3 rfl ?_ | refine zJ 4 rfl ?_ | refine zJ 5 rfl ?_ | refine zJ 6 rfl ?_ | refine zJ 7 rfl ?_ | refine SubH.rown ?_))) ?_; rintro m Δ LL ⟨s, hs, q1, ⟨hm16, hL⟩, rfl, rfl⟩; simp only [zA, zB]; refine zM (zK (zH rfl (yP rfl rfl rfl) rfl (zN (zI (zM ?_))))); refine zq rfl (fun hc27 => ?_) (fun hc27 => ?_)
  ·replace hc27 := zy2 hc27
   have hs16 : s < 16 := by omega
   refine zl ?_; refine zI (zM (qA ?_)); refine zM (zK (zH rfl (zL rfl) rfl (zH rfl (zO rfl) rfl (zN (zI ?_))))); refine zM (zK (zH rfl (zL rfl) rfl (zN (zI (qA ?_))))); refine yQ 10 (fun m Δ LL => ∃ (i : Nat) (hs : List Hd) (q1 : R), (i + m = 16 ∧ LD t y.1 (s * 16 + i) hs q1) ∧ Δ = [(29, .int .i64 (i : Nat))] ∧ LL = [oMa b25 t.tb (hs), tree t, St ((hs).map rowN), own pr (.cells [Value.slice p q1.b.length c, .int .i64 q1.pos, .int .i64 q1.why, .int .i64 q1.place].toArray 140 (0, 0)), row 5 1 (.slice p q1.b.length c) q1.b.length (cel q1.b), V]) (m := 16) (zS (k := 0) rfl (zS (k := 4) rfl (zS (k := 7) rfl (zS (k := 8) rfl (zS (k := 26) rfl (zf _)))))) (qn ⟨0, hs, q1, ⟨by omega, hL⟩, rfl, rfl⟩ (by repeat (first | exact zf _ | refine zS rfl ?_)) (by repeat (first | exact zf _ | refine zS rfl ?_)) (by repeat (first | exact zY _ | refine zJ 0 rfl ?_ | refine zJ 1 rfl ?_ | refine zJ 2 rfl ?_ | refine zJ 3 rfl ?_ | refine zJ 4 rfl ?_ | refine zJ 5 rfl ?_ | refine zJ 6 rfl ?_ | refine zJ 7 rfl ?_ | refine SubH.rown ?_))) ?_; rintro mi Δ LL ⟨i, hs, q1, ⟨hmi, hLi⟩, rfl, rfl⟩; simp only [zA, zB]; refine zM (zK (zH rfl (yP rfl rfl rfl) rfl (zN (zI (zM ?_))))); refine zq rfl (fun hc30 => ?_) (fun hc30 => ?_)
   ·replace hc30 := zy2 hc30
    have hi : i < 16 := by omega
    have hk : s * 16 + i < 256 := by omega
    have hl256 := hLi.len
    refine zl ?_; refine zI (zM (qA ?_)); refine zM (zK (zH rfl (zL rfl) rfl (zH rfl (zO rfl) rfl (zN (zI ?_))))); refine zM (zK (zH rfl (zL rfl) rfl (zH rfl (zL rfl) rfl (zT rfl (zy (Pre := [_, _]) Tryz.call52 rfl rfl (by repeat (first | exact zR _ | apply zG 0 rfl | apply zG 1 rfl | apply zG 2 rfl | apply zG 3 rfl | apply zG 4 rfl | apply zG 5 rfl | apply zG 6 rfl | apply zG 7 rfl)) (get16_spec (zy4 0 rfl (Rd.own rfl)) rfl (Tv.pick 1 rfl (qh t)) (wf_dl2 hW) pr p c q1 hLi.good)) rfl ?_)))); rintro _ H' ⟨_, ⟨h, ok, r9, rfl, hG, rfl⟩, hH⟩; simp only [zy7] at hH; subst hH; refine zH rfl (zL rfl) rfl (zH rfl (zu rfl rfl) rfl (zH rfl (zu rfl rfl) rfl (zT rfl (qL z67) rfl ?_))); rintro _ _ ⟨b10, rfl, rfl⟩; refine zo rfl (zm 0 ag67 rfl rfl rfl rfl rfl (zy1 rfl) (zg _)) rfl ?_; rintro _ _ rfl; simp only [zE, zF]; rw [over_hd]; refine zH rfl (zO rfl) rfl (zN (zI (zM (zM (zK ?_))))); refine zH rfl (zL rfl) rfl (zH rfl (qy rfl rfl) rfl (zN (zI (zq rfl (fun hc39 => ?_) (fun hc39 => ?_)))))
    ·simp only [Bool.and_eq_true, decide_eq_true_eq, Bool.not_eq_true', decide_eq_false_iff_not, bne_iff_ne, ne_eq] at hc39; refine zM (q8 (L := [V]) (by repeat (first | exact zY _ | refine zJ 0 rfl ?_ | refine zJ 1 rfl ?_ | refine zJ 2 rfl ?_ | refine zJ 3 rfl ?_ | refine zJ 4 rfl ?_ | refine zJ 5 rfl ?_ | refine zJ 6 rfl ?_ | refine zJ 7 rfl ?_ | refine SubH.rown ?_)) ?_); refine qD (H' := [LoadM none, V]) (fun w F s => loadM_none s) ?_; refine zK (zH rfl (zO rfl) rfl (zH rfl (zO rfl) rfl (zN (zI (zi ?_))))); refine zh ?_; refine zn ?_; refine zh ?_; refine zh ?_; refine zn ?_; refine zn ?_; refine zh ?_; refine zh ?_; refine zn ?_; refine zh ?_; refine' zX (res2 rfl rfl rfl) ?_ ?_
     rotate_left 1
     refine ⟨[LoadM none], ⟨none, rfl, fun s h => (by cases h), fun t0 r0 hs0 sb0 a1 a2 a3 a4 a5 a6 a7 a8 => ?_, rfl⟩, rfl⟩
     exfalso
     obtain ⟨f1, f2⟩ := load_fits ey a5 a8
     subst hc39; obtain ⟨f3, f4⟩ := load_rel hW hS hn hf hm a1 a2 a3 a4 a7 f1
     obtain ⟨j1, _⟩ := ld_fit hLi hk a6 f4 f2 hG
     cases j1
     exact zj _
    ·simp only [Bool.and_eq_false_iff, decide_eq_false_iff_not, Bool.not_eq_false', decide_eq_true_eq] at hc39; obtain rfl : ok = true := by simpa using hc39
     refine zl ?_; refine zI (qZ 7 (by kernel_rfl) (Split.all _) ?_); refine zRO (i := 0) (by kernel_rfl) rfl rfl (zL rfl) rfl (zRO (i := 1) (by kernel_rfl) rfl rfl (zL rfl) rfl (zRO (i := 2) (by kernel_rfl) rfl rfl (zL rfl) rfl (zRO (i := 3) (by kernel_rfl) rfl rfl (qX ag67 rfl (zy6 0 rfl zx) rfl) rfl (zRO (i := 4) (by kernel_rfl) rfl rfl (zU rfl) rfl (zRO (i := 5) (by kernel_rfl) rfl rfl (zP fa71_1 rfl) rfl ?_))))); refine zRO (i := 6) (by kernel_rfl) rfl rfl (xD Tryz.underlying69 (fun w => Tryz.sizeOf68 w) rfl rfl rfl (by omega)) rfl (qR (m' := 9) (L' := []) (by kernel_rfl) qx ?_); simp only [zA, zB, List.append_nil]; refine zRO (i := 7) (by kernel_rfl) rfl rfl (xD Tryz.underlying68 (fun w => Tryz.sizeOf67 w) rfl rfl rfl (by omega)) rfl (qq (i := 8) (by kernel_rfl) rfl rfl (zm 4 ag67 rfl rfl rfl rfl rfl (by simp only [List.length_cons, yh Hd.len, Hd.len, hl256]; omega) (zg _)) rfl ?_); rintro _ _ rfl; simp only [zE, zF]; rw [ma_set (y := h) hl256 hs16 hi]; refine qT (by kernel_rfl) ?_; refine zQ ?_; refine zI (q8 (L := [St (hs.map rowN), rowN h, oMa b25 t.tb (hs.set (s * 16 + i) h), tree t, own pr (.cells [Value.slice p r9.b.length c, .int .i64 r9.pos, .int .i64 r9.why, .int .i64 r9.place].toArray 140 (0, 0)), row 5 1 (.slice p r9.b.length c) r9.b.length (cel r9.b), V]) (by repeat (first | exact zY _ | refine zJ 0 rfl ?_ | refine zJ 1 rfl ?_ | refine zJ 2 rfl ?_ | refine zJ 3 rfl ?_ | refine zJ 4 rfl ?_ | refine zJ 5 rfl ?_ | refine zJ 6 rfl ?_ | refine zJ 7 rfl ?_ | refine SubH.rown ?_)) ?_); refine qD (fun w F s => rows_put (hd_some hl256 hs16 hi) s) ?_; refine zK (zH rfl (ql rfl rfl (qo (by omega))) rfl (zH rfl (zL rfl) rfl (zN (zI (back (mi - 1) (by omega) (qn ⟨i + 1, hs.set (s * 16 + i) h, r9, ⟨by omega, ld_next hLi hk hG⟩, rfl, rfl⟩ ?_ ?_ ?_))))))
     ·exact (by repeat (first | exact zf _ | refine zS rfl ?_))
     ·exact (by repeat (first | exact zf _ | refine zS rfl ?_))
     ·exact (zJ 1 rfl (zJ 1 rfl (zJ 0 rfl (zJ 0 rfl (zJ 0 rfl (zJ 0 rfl (zY _)))))))
   ·replace hc30 := zy3 hc30
    have hi16 : i = 16 := by omega
    refine yJ ?_; refine qV ?_; refine qV ?_; refine qe ?_; refine zQ ?_; refine zI (zK (zH rfl (ql rfl rfl (qo (by omega))) rfl (zH rfl (zL rfl) rfl (zN (zI ?_))))); refine back (m - 1) (by omega) (qn ⟨s + 1, hs, q1, ⟨by omega, by rw [show (s + 1) * 16 = s * 16 + i by omega]; exact hLi⟩, rfl, rfl⟩ ?_ ?_ ?_)
    ·exact (by repeat (first | exact zf _ | refine zS rfl ?_))
    ·exact (by repeat (first | exact zf _ | refine zS rfl ?_))
    ·exact zj _
  ·replace hc27 := zy3 hc27
   have hl256 := hL.len
   rw [show s * 16 = 256 by omega] at hL; refine yJ ?_; refine qV ?_; refine qV ?_; refine qe ?_; refine zI (zM (zM (zK (zH rfl (zL rfl) rfl (zT rfl (zb Tryz.call53 rfl rfl (by repeat (first | exact zR _ | apply zG 0 rfl | apply zG 1 rfl | apply zG 2 rfl | apply zG 3 rfl | apply zG 4 rfl | apply zG 5 rfl | apply zG 6 rfl | apply zG 7 rfl)) (all_spec pr p c q1 hL.good.len hL.good.pos)) rfl ?_))))); rintro _ H' ⟨_, ⟨rfl, rfl⟩, hH⟩; simp only [zy7] at hH; subst hH; refine zH rfl (qy rfl rfl) rfl (qi rfl rfl rfl (fun hg53 => ?_) (fun hg53 => ?_))
   ·simp only [Bool.and_eq_true, decide_eq_true_eq, Bool.not_eq_true', decide_eq_false_iff_not, bne_iff_ne, ne_eq] at hg53; refine zZ rfl rfl (zZ rfl rfl (zZ rfl rfl (zZ rfl rfl (zZ rfl rfl (zH rfl (zr rfl rfl) rfl ?_))))); refine zN (zI (qG rfl ?_)); refine zM (q8 (L := [V]) (by repeat (first | exact zY _ | refine zJ 0 rfl ?_ | refine zJ 1 rfl ?_ | refine zJ 2 rfl ?_ | refine zJ 3 rfl ?_ | refine zJ 4 rfl ?_ | refine zJ 5 rfl ?_ | refine zJ 6 rfl ?_ | refine zJ 7 rfl ?_ | refine SubH.rown ?_)) ?_); refine qD (H' := [LoadM none, V]) (fun w F s => loadM_none s) ?_; refine zK (zH rfl (zO rfl) rfl (zH rfl (zO rfl) rfl (zN (zI (zi ?_))))); refine zh ?_; refine' zX (res2 rfl rfl rfl) ?_ ?_
    rotate_left 1
    refine ⟨[LoadM none], ⟨none, rfl, fun s h => (by cases h), fun t0 r0 hs0 sb0 a1 a2 a3 a4 a5 a6 a7 a8 => ?_, rfl⟩, rfl⟩
    exfalso
    obtain ⟨f1, f2⟩ := load_fits ey a5 a8
    obtain ⟨f3, f4⟩ := load_rel hW hS hn hf hm a1 a2 a3 a4 a7 f1
    obtain ⟨j1, j2, j3⟩ := ld_fin hL a6 f4 f2
    first
     | exact absurd j1 hg53
     | exact absurd (show b = l from hb.trans (by rw [j3, SaveR.same hS2 hS, f1]; exact a8.symm)) (by simpa using hc59)
    exact zj _
   ·simp only [Bool.and_eq_false_iff, decide_eq_false_iff_not, Bool.not_eq_false', decide_eq_true_eq] at hg53; refine zH rfl (zL rfl) rfl (zT rfl (zy (Pre := []) Tryz.call24 rfl rfl (zR _) (xH (Mq.of 2 3 rfl rfl rfl) hW hn hl256 (fun h hh => vd_hds (hL.vd h hh)) (fun h hh => (List.mem_iff_getElem?.1 hh).elim fun j hj => by first | exact zy5 0 rfl (qF hj) | exact zy5 1 rfl (qF hj) | exact zy5 2 rfl (qF hj) | exact zy5 3 rfl (qF hj) | exact zy5 4 rfl (qF hj) | exact zy5 5 rfl (qF hj) | exact zy5 6 rfl (qF hj) | exact zy5 7 rfl (qF hj) | exact zy5 8 rfl (qF hj)))) rfl ?_); rintro _ H' ⟨_, ⟨b, p55, c55, sb2, rfl, hS2, hsl2, hb, hbl, rfl⟩, hH⟩; simp only [zy7] at hH; subst hH; refine zH rfl (zL rfl) rfl (zT rfl (zy (Pre := []) Tryz.call54 rfl rfl (zR _) (equal_spec _ _ _ _ _ b l (zy5 0 rfl Vw.row) ((zy5 6 rfl hV)) rfl rfl)) rfl ?_); rintro _ H' ⟨_, ⟨rfl, rfl⟩, hH⟩; simp only [zy7] at hH; subst hH; refine zH rfl (qy rfl rfl) rfl (zH rfl (zr rfl rfl) rfl (zN (zI (zq rfl (fun hc59 => ?_) (fun hc59 => ?_)))))
    ·simp only [Bool.and_eq_true, decide_eq_true_eq, Bool.not_eq_true', decide_eq_false_iff_not, bne_iff_ne, ne_eq] at hc59; refine zM (q8 (L := [V]) (by repeat (first | exact zY _ | refine zJ 0 rfl ?_ | refine zJ 1 rfl ?_ | refine zJ 2 rfl ?_ | refine zJ 3 rfl ?_ | refine zJ 4 rfl ?_ | refine zJ 5 rfl ?_ | refine zJ 6 rfl ?_ | refine zJ 7 rfl ?_ | refine SubH.rown ?_)) ?_); refine qD (H' := [LoadM none, V]) (fun w F s => loadM_none s) ?_; refine zK (zH rfl (zO rfl) rfl (zH rfl (zO rfl) rfl (zN (zI (zi ?_))))); refine zh ?_; refine' zX (res2 rfl rfl rfl) ?_ ?_
     rotate_left 1
     refine ⟨[LoadM none], ⟨none, rfl, fun s h => (by cases h), fun t0 r0 hs0 sb0 a1 a2 a3 a4 a5 a6 a7 a8 => ?_, rfl⟩, rfl⟩
     exfalso
     obtain ⟨f1, f2⟩ := load_fits ey a5 a8
     obtain ⟨f3, f4⟩ := load_rel hW hS hn hf hm a1 a2 a3 a4 a7 f1
     obtain ⟨j1, j2, j3⟩ := ld_fin hL a6 f4 f2
     first
      | exact absurd j1 hg53
      | exact absurd (show b = l from hb.trans (by rw [j3, SaveR.same hS2 hS, f1]; exact a8.symm)) (by simpa using hc59)
     exact zj _
    ·simp only [Bool.and_eq_false_iff, decide_eq_false_iff_not, Bool.not_eq_false', decide_eq_true_eq] at hc59; refine zl ?_; refine zI (zM (q8 (L := [oMa b25 t.tb (hs), tree t, St ((hs).map rowN), V]) (by repeat (first | exact zY _ | refine zJ 0 rfl ?_ | refine zJ 1 rfl ?_ | refine zJ 2 rfl ?_ | refine zJ 3 rfl ?_ | refine zJ 4 rfl ?_ | refine zJ 5 rfl ?_ | refine zJ 6 rfl ?_ | refine zJ 7 rfl ?_ | refine SubH.rown ?_)) ?_)); refine qD (H' := [LoadM (some ⟨b25, t, r, hs⟩), V]) (fun w F s => loadM_some s) ?_; refine zK (zH rfl (zL rfl) rfl (zH rfl (zO rfl) rfl (zH rfl (zO rfl) rfl (zN (zI ?_))))); refine zi ?_; refine' zX (res2 rfl rfl rfl) ?_ ?_
     rotate_left 1
     refine ⟨[LoadM (some ⟨b25, t, r, hs⟩)], ⟨some ⟨b25, t, r, hs⟩, rfl, fun s h => ?_, fun t0 r0 hs0 sb0 a1 a2 a3 a4 a5 a6 a7 a8 => ?_, rfl⟩, rfl⟩
     ·injection h with h
      subst h; exact ⟨hW, ⟨sb2, hS2, hsl2, (show b = l by simpa using hc59).symm.trans hb⟩, hn, ⟨hf, hm⟩, hl256, hL.vd⟩
     ·obtain ⟨f1, f2⟩ := load_fits ey a5 a8
      obtain ⟨f3, f4⟩ := load_rel hW hS hn hf hm a1 a2 a3 a4 a7 f1
      obtain ⟨j1, j2, j3⟩ := ld_fin hL a6 f4 f2
      exact ⟨_, rfl, f3, j2⟩
     exact zj _
set_option maxHeartbeats 4000000
/-- a machine that was saved and loaded -/
structure SavedL (t : Tr) (hs : List Hd) (s : Ld) : Prop where
 wf : Wf s.t s.r
 f15 : F15 s.t s.r
 nx : s.t.next ≤ 9223372036854775807
 len : s.hs.length = 256
 vd : ∀ h ∈ s.hs, VdH s.t h
 rel : RelW s.t (twin t)
 core : s.hs.map Hd.core = hs.map Hd.core
theorem saved_spec {V : HProp} {mb tb : Nat} {t : Tr} {hs : List Hd} (hM : Mq V mb tb t hs) {r : Nd} (hW : Wf t r) (hF : F15 t r) (hnx : t.next ≤ 9223372036854775807) (hl : hs.length = 256) (hv : ∀ h ∈ hs, VdH t h) (hVn : ∀ h ∈ hs, Vw V (.slice h.np h.names.length h.nc) h.names.length (flat Nm.cs h.names)) :
 Tri Tryz.prog 23 [.pointer (some ⟨mb, 0, none⟩)] [V] (fun v H' => ∃ K, (∃ s : Ld, v = .pointer (some ⟨s.mb, 0, none⟩) ∧ SavedL t hs s ∧ K = [LoadM (some s)]) ∧ H' = K ++ [V]) := by
 refine zt Tryz.func23 rfl Tryz.ntmps23 (by simp) ?_; refine zM (zK (zH rfl (zO rfl) rfl (zN (zI (zM ?_))))); refine zK (zH rfl (zL rfl) rfl (zT rfl (zy (Pre := []) Tryz.call24 rfl rfl (zR _) (xH (Mq.pick 0 rfl hM) hW hnx hl (fun h hh => vd_hds (hv h hh)) (fun h hh => by first | exact zy5 0 rfl (hVn h hh) | exact zy5 1 rfl (hVn h hh) | exact zy5 2 rfl (hVn h hh) | exact zy5 3 rfl (hVn h hh)))) rfl ?_)); rintro _ H' ⟨_, ⟨b, p7, c7, sb, rfl, hS, hsl, hb, hbl, rfl⟩, hH⟩; simp only [zy7] at hH; subst hH; refine zT rfl (zy (Pre := []) Tryz.call25 rfl rfl (zR _) (fload_spec _ _ b (zy5 0 rfl Vw.row) (by omega))) rfl ?_; rintro _ H' ⟨_, ⟨o, rfl, ho, ho2, rfl⟩, hH⟩; simp only [zy7] at hH; subst hH; obtain ⟨s, rfl, hrel, hcore⟩ := ho2 t r hs sb hW hF hnx hS hsl hl hv hb
 have hG := ho s rfl
 simp only [Option.map_some, Option.isSome_some, if_true]; refine zH rfl (zL rfl) rfl (zH rfl (zu rfl rfl) rfl (zH rfl (zu rfl rfl) rfl (zH rfl (zO rfl) rfl (zH rfl (zO rfl) rfl (zN ?_))))); refine zI (zM (zM (zK (zH rfl (zL rfl) rfl (zH rfl (q9 rfl rfl (decide_eq_false (by omega))) rfl ?_))))); refine zN (zI (qC rfl ?_)); refine zl ?_; refine zI (zM (zK (zH rfl (zL rfl) rfl (zH rfl (zO rfl) rfl (zN ?_))))); refine zI (zi ?_); refine' zX (qk rfl rfl) ?_ ?_
 rotate_left 1
 exact ⟨[LoadM (some s)], ⟨s, rfl, ⟨hG.wf, hG.f15, hG.nx, hG.len, hG.vd, hrel, hcore⟩, rfl⟩, rfl⟩
 exact (zJ 0 rfl (zJ 1 rfl (zY _)))
end Go.Proofs.YtlefpllcgcicpaaGreatDoor
