/-
  Law 16: requests made tame, small.
  Law 16: what another session does keeps a file.
-/
import Derived.Test.YtlefpllcgcicpaaGreatDoorFsPu
import Derived.Test.YtlefpllcgcicpaaGreatDoorFsP
import Derived.Test.YtlefpllcgcicpaaGreatDoorFsI
set_option linter.unusedVariables false
set_option linter.unusedSimpArgs false
namespace Go.Proofs.YtlefpllcgcicpaaGreatDoor
open Go.Sx
set_option maxRecDepth 100000
set_option maxHeartbeats 4000000
theorem u64_rem300 (a : Nat) : ((a : Int)).tmod ((300 : Nat) : Int) = ((a % 300 : Nat) : Int) := tmodN
def tmA (a : At) : At := if a.f &&& 1 ≠ 0 then { a with s := a.s % 300 } else a
def tmQ (q : Qr) (p : Option Addr) (c : Nat) : Qr := ⟨q.kind, q.path.take 60, q.dest.take 60, q.handle.take 5, q.off % 300, q.len, p, c, q.data.take 100, q.flags, tmA q.a⟩
theorem tame_spec (V : HProp) (q : Qr) (hf : q.a.f < 4294967296) (hV : Vw V (.slice q.dp q.data.length q.dc) q.data.length (cel q.data)) (hc : q.data.length ≤ q.dc) :
 Tri Tryz.prog 41 [q.v] [V] (fun v H' => ∃ p c, v = (tmQ q p c).v ∧ Vw V (.slice p (q.data.take 100).length c) (q.data.take 100).length (cel (q.data.take 100)) ∧ (q.data.take 100).length ≤ c ∧ H' = [V]) := by
 refine zt Tryz.func41 rfl Tryz.ntmps41 (by simp) ?_; refine zM (zK (zT rfl (qj rfl) rfl ?_)); rintro _ _ ⟨b1, rfl, rfl⟩; refine zT rfl (qL z35) rfl ?_; rintro _ _ ⟨b2, rfl, rfl⟩; refine zN (zI (zM (zK (zH rfl (zP fa35_1 rfl) rfl (zH rfl (zW sc9 rfl (zy4 1 rfl (Rd.own rfl))) rfl ?_))))); refine zT rfl (zb Tryz.call84 rfl rfl (by repeat (first | exact zR _ | apply zG 0 rfl | apply zG 1 rfl | apply zG 2 rfl | apply zG 3 rfl | apply zG 4 rfl | apply zG 5 rfl | apply zG 6 rfl | apply zG 7 rfl)) (kHead q.path 60)) rfl ?_; rintro _ H' ⟨_, ⟨rfl, rfl⟩, hH⟩; simp only [zy7] at hH; subst hH; refine zH rfl (zP fa35_1 rfl) rfl (zo rfl (qP 1 sc9 rfl rfl rfl rfl (zy1 rfl) (zg _)) rfl ?_); rintro _ _ rfl; refine zN (zI (zM (zK (zH rfl (zP fa35_2 rfl) rfl (zH rfl (zW sc9 rfl (zy4 1 rfl (Rd.own rfl))) rfl ?_))))); refine zT rfl (zb Tryz.call84 rfl rfl (by repeat (first | exact zR _ | apply zG 0 rfl | apply zG 1 rfl | apply zG 2 rfl | apply zG 3 rfl | apply zG 4 rfl | apply zG 5 rfl | apply zG 6 rfl | apply zG 7 rfl)) (kHead q.dest 60)) rfl ?_; rintro _ H' ⟨_, ⟨rfl, rfl⟩, hH⟩; simp only [zy7] at hH; subst hH; refine zH rfl (zP fa35_2 rfl) rfl (zo rfl (qP 1 sc9 rfl rfl rfl rfl (zy1 rfl) (zg _)) rfl ?_); rintro _ _ rfl; refine zN (zI (zM (zK (zH rfl (zP fa35_3 rfl) rfl (zH rfl (zW sc9 rfl (zy4 1 rfl (Rd.own rfl))) rfl ?_))))); refine zT rfl (zb Tryz.call84 rfl rfl (by repeat (first | exact zR _ | apply zG 0 rfl | apply zG 1 rfl | apply zG 2 rfl | apply zG 3 rfl | apply zG 4 rfl | apply zG 5 rfl | apply zG 6 rfl | apply zG 7 rfl)) (kHead q.handle 5)) rfl ?_; rintro _ H' ⟨_, ⟨rfl, rfl⟩, hH⟩; simp only [zy7] at hH; subst hH; refine zH rfl (zP fa35_3 rfl) rfl (zo rfl (qP 1 sc9 rfl rfl rfl rfl (zy1 rfl) (zg _)) rfl ?_); rintro _ _ rfl; refine zN (zI (zM (zK (zH rfl (zP fa35_6 rfl) rfl (zH rfl (zW sc25 rfl (zy4 1 rfl (Rd.own rfl))) rfl ?_))))); refine zT rfl (zb Tryz.call16 rfl rfl (by repeat (first | exact zR _ | apply zG 0 rfl | apply zG 1 rfl | apply zG 2 rfl | apply zG 3 rfl | apply zG 4 rfl | apply zG 5 rfl | apply zG 6 rfl | apply zG 7 rfl)) (kCut V q.dp q.dc q.data 100 hV hc)) rfl ?_; rintro _ H' ⟨_, ⟨_, ⟨p17, c17, rfl, hv17, hc17, rfl⟩, rfl⟩, hH⟩; simp only [zy7] at hH; subst hH; refine zH rfl (zP fa35_6 rfl) rfl (zo rfl (qP 2 sc25 rfl rfl rfl rfl (zy1 rfl) (zg _)) rfl ?_); rintro _ _ rfl; refine zN (zI (zM (zK (zH rfl (zP fa35_4 rfl) rfl (zH rfl (zW sc28 rfl (zy4 2 rfl (Rd.own rfl))) rfl ?_))))); refine zH rfl (ro_rem rfl rfl (by omega) (u64_rem300 _)) rfl (zH rfl (zP fa35_4 rfl) rfl (zo rfl (qP 2 sc28 rfl rfl rfl rfl (zy1 rfl) (zg _)) rfl ?_)); rintro _ _ rfl; refine zN (zI (zM (zM (zK (zH rfl (zP fa35_8 rfl) rfl ?_))))); refine zH rfl (zP yg rfl) rfl (zH rfl (zW yB rfl (zy4 2 rfl (Rd.own rfl))) rfl (zH rfl (ya rfl rfl (xE hf (c := 1) (by decide) rfl)) rfl (zH rfl (q9 rfl rfl rfl) rfl (zN (zI ?_))))); refine zq rfl (fun hc27 => ?_) (fun hc27 => ?_)
 ·replace hc27 := zy2 hc27
  refine zK (zH rfl (zP fa35_8 rfl) rfl (zH rfl (zP fa30_1 rfl) rfl (zH rfl (zW sc28 rfl (zy4 2 rfl (Rd.own rfl))) rfl (zH rfl (ro_rem rfl rfl (by omega) (u64_rem300 _)) rfl (zH rfl (zP fa35_8 rfl) rfl ?_))))); refine zH rfl (zP fa30_1 rfl) rfl (zo rfl (qP 2 sc28 rfl rfl rfl rfl (zy1 rfl) (zg _)) rfl ?_); rintro _ _ rfl; refine zN (zI (zM (zK (zH rfl (qX ag35 rfl (zy6 2 rfl zx) rfl) rfl (zo rfl (zm 1 ag35 rfl rfl rfl rfl rfl (zy1 rfl) (zg _)) rfl ?_))))); rintro _ _ rfl; simp only [zE, zF]; refine zN (zI (zi ?_)); refine' zX (qg rfl (qB ag35 rfl (zy6 1 rfl zx) rfl)) ?_ ?_
  rotate_left 1
  exact ⟨p17, c17, (by unfold tmQ tmA; first | (rw [if_pos (by omega)]; rfl) | (rw [if_neg (by omega)]; rfl)), hv17, hc17, rfl⟩
  exact (zJ 0 rfl (zY _))
 ·replace hc27 := zy3 hc27
  refine zl ?_; refine zI (zM (zK (zH rfl (qX ag35 rfl (zy6 2 rfl zx) rfl) rfl (zo rfl (zm 1 ag35 rfl rfl rfl rfl rfl (zy1 rfl) (zg _)) rfl ?_)))); rintro _ _ rfl; simp only [zE, zF]; refine zN (zI (zi ?_)); refine' zX (qg rfl (qB ag35 rfl (zy6 1 rfl zx) rfl)) ?_ ?_
  rotate_left 1
  exact ⟨p17, c17, (by unfold tmQ tmA; first | (rw [if_pos (by omega)]; rfl) | (rw [if_neg (by omega)]; rfl)), hv17, hc17, rfl⟩
  exact (zJ 0 rfl (zY _))
def sm7 : List (List UInt8) := [[97], [98], [97, 47, 98], [97, 47, 99], [47], [98, 47, 46, 46, 47, 97], [99]]
def sm4 : List (List UInt8) := [[104, 48], [104, 49], [104, 50], [120]]
theorem small_spec (V : HProp) (q : Qr) (hf : q.a.f < 4294967296) (hV : Vw V (.slice q.dp q.data.length q.dc) q.data.length (cel q.data)) (hc : q.data.length ≤ q.dc) :
 Tri Tryz.prog 17 [q.v] [V] (fun v H' => ∃ p c q1 x1 x2 x3, q1 = tmQ q p c ∧ sm7[q1.path.length % 7]? = some x1 ∧ sm7[q1.dest.length % 7]? = some x2 ∧ sm4[q1.handle.length % 4]? = some x3 ∧ v = ({ q1 with path := x1, dest := x2, handle := x3 } : Qr).v ∧ Vw V (.slice p (q.data.take 100).length c) (q.data.take 100).length (cel (q.data.take 100)) ∧ (q.data.take 100).length ≤ c ∧ H' = [V]) := by
 refine zt Tryz.func17 rfl Tryz.ntmps17 (by simp) ?_; refine zM (zK (zT rfl (qj rfl) rfl ?_)); rintro _ _ ⟨b1, rfl, rfl⟩; refine zT rfl (qL z35) rfl ?_; rintro _ _ ⟨b2, rfl, rfl⟩; refine zN (zI (zM (zK (zH rfl (qX ag35 rfl (zy6 1 rfl zx) rfl) rfl (zT rfl (zb Tryz.call41 rfl rfl (by repeat (first | exact zR _ | apply zG 0 rfl | apply zG 1 rfl | apply zG 2 rfl | apply zG 3 rfl | apply zG 4 rfl | apply zG 5 rfl | apply zG 6 rfl | apply zG 7 rfl)) (tame_spec V q hf hV hc)) rfl ?_))))); rintro _ H' ⟨_, ⟨p5, c5, rfl, hv5, hc5, rfl⟩, hH⟩; simp only [zy7] at hH; subst hH; obtain ⟨q1, hq1⟩ : ∃ z, z = tmQ q p5 c5 := ⟨_, rfl⟩
 rw [← hq1]; have hl1 : q1.path.length ≤ 60 := by rw [hq1]; show (q.path.take 60).length ≤ 60; rw [List.length_take]; omega
 have hl2 : q1.dest.length ≤ 60 := by rw [hq1]; show (q.dest.take 60).length ≤ 60; rw [List.length_take]; omega
 have hl3 : q1.handle.length ≤ 5 := by rw [hq1]; show (q.handle.take 5).length ≤ 5; rw [List.length_take]; omega
 obtain ⟨x1, hg1⟩ : ∃ x, sm7[q1.path.length % 7]? = some x := ⟨_, List.getElem?_eq_getElem (show _ < 7 from Nat.mod_lt _ (by decide))⟩
 obtain ⟨x2, hg2⟩ : ∃ x, sm7[q1.dest.length % 7]? = some x := ⟨_, List.getElem?_eq_getElem (show _ < 7 from Nat.mod_lt _ (by decide))⟩
 obtain ⟨x3, hg3⟩ : ∃ x, sm4[q1.handle.length % 4]? = some x := ⟨_, List.getElem?_eq_getElem (show _ < 4 from Nat.mod_lt _ (by decide))⟩
 have hm1 := Nat.mod_lt q1.path.length (show 0 < 7 by decide)
 have hm2 := Nat.mod_lt q1.dest.length (show 0 < 7 by decide)
 have hm3 := Nat.mod_lt q1.handle.length (show 0 < 4 by decide)
 refine zo rfl (zm 2 ag35 rfl rfl rfl rfl rfl (zy1 rfl) (zg _)) rfl ?_; rintro _ _ rfl; simp only [zE, zF]; refine zN (zI ?_); refine yO 1003 (fun Δ LL => ∃ (b6 : Nat) (qz : Qr), (True) ∧ Δ = [(3, .slice (some ⟨b6, 0, none⟩) 7 7)] ∧ LL = [row 9 1 (.slice (some ⟨b6, 0, none⟩) 7 7) 7 (txs sm7), own b1 (.cells ((q1 : Qr).cs).toArray 35 (0, 0)), own b2 (.cells (qz.cs).toArray 35 (0, 0)), V]) (zS (k := 1) rfl (zS (k := 2) rfl (zf _))) ?_ ?_
 ·refine zK (zT rfl (eff_lit sl47 rfl (sbld (cs := txs sm7) [(.string ByteArray.empty), (.string ByteArray.empty), (.string ByteArray.empty), (.string ByteArray.empty), (.string ByteArray.empty), (.string ByteArray.empty), (.string ByteArray.empty)] sl47 (by decide) (by kernel_rfl) rfl) rfl (by decide)) rfl ?_); rintro _ _ ⟨b6, rfl, rfl⟩; refine zH rfl (zO rfl) rfl (zN (zI (qc (qn ⟨b6, ⟨0, [], [], [], 0, 0, none, 0, [], 0, At.zero⟩, trivial, rfl, rfl⟩ ?_ ?_ ?_))))
  ·exact (by repeat (first | exact zf _ | refine zS rfl ?_))
  ·exact (by repeat (first | exact zf _ | refine zS rfl ?_))
  ·exact (zJ 0 rfl (zJ 2 rfl (zJ 1 rfl (zJ 0 rfl (zY _)))))
 ·rintro Δ LL ⟨b6, qz, _, rfl, rfl⟩; simp only [zA, zB]; refine yO 1004 (fun Δ LL => Δ = [] ∧ LL = [row 9 1 (.slice (some ⟨b6, 0, none⟩) 7 7) 7 (txs sm7), own b1 (.cells (({ q1 with path := x1 } : Qr).cs).toArray 35 (0, 0)), own b2 (.cells (qz.cs).toArray 35 (0, 0)), V]) (zS (k := 1) rfl (zS (k := 2) rfl (zS (k := 3) rfl (zf _)))) ?_ ?_
  ·refine zK (zH rfl (zL rfl) rfl (zH rfl (zP fa35_1 rfl) rfl (zH rfl (zW sc9 rfl (zy4 1 rfl (Rd.own rfl))) rfl (zH rfl (ro_lenS (t' := 0) Tryz.underlying9 rfl) rfl (zH rfl (ro_rem rfl rfl (by omega) (tmodN (b := 7))) rfl ?_))))); refine zH rfl (qO sl47 rfl rfl rfl (by omega)) rfl (zH rfl (zW sc9 rfl (zy4 0 rfl (Rd.elem (j := 0) RdN.row Tx.len hg1 rfl))) rfl (zH rfl (zP fa35_1 rfl) rfl (zo rfl (qP 1 sc9 rfl rfl rfl rfl (zy1 rfl) (zg _)) rfl ?_))); rintro _ _ rfl; simp only [zE, zF]; refine zN (zI (qc (qn ⟨rfl, rfl⟩ ?_ ?_ ?_)))
   ·exact (by repeat (first | exact zf _ | refine zS rfl ?_))
   ·exact (by repeat (first | exact zf _ | refine zS rfl ?_))
   ·exact zj _
  ·rintro Δ LL ⟨rfl, rfl⟩; simp only [zA, zB]; refine yO 1005 (fun Δ LL => Δ = [] ∧ LL = [own b1 (.cells (({ q1 with path := x1, dest := x2 } : Qr).cs).toArray 35 (0, 0)), own b2 (.cells (qz.cs).toArray 35 (0, 0)), V]) (zS (k := 1) rfl (zS (k := 2) rfl (zf _))) ?_ ?_
   ·refine zK (zH rfl (zL rfl) rfl (zH rfl (zP fa35_2 rfl) rfl (zH rfl (zW sc9 rfl (zy4 1 rfl (Rd.own rfl))) rfl (zH rfl (ro_lenS (t' := 0) Tryz.underlying9 rfl) rfl (zH rfl (ro_rem rfl rfl (by omega) (tmodN (b := 7))) rfl ?_))))); refine zH rfl (qO sl47 rfl rfl rfl (by omega)) rfl (zH rfl (zW sc9 rfl (zy4 0 rfl (Rd.elem (j := 0) RdN.row Tx.len hg2 rfl))) rfl (zH rfl (zP fa35_2 rfl) rfl (zo rfl (qP 1 sc9 rfl rfl rfl rfl (zy1 rfl) (zg _)) rfl ?_))); rintro _ _ rfl; simp only [zE, zF]; refine zN (zI (qc (qn ⟨rfl, rfl⟩ ?_ ?_ ?_)))
    ·exact (by repeat (first | exact zf _ | refine zS rfl ?_))
    ·exact (by repeat (first | exact zf _ | refine zS rfl ?_))
    ·exact (zJ 1 rfl (zJ 1 rfl (zJ 1 rfl (zY _))))
   ·rintro Δ LL ⟨rfl, rfl⟩; simp only [zA, zB]; refine yO 1006 (fun Δ LL => Δ = [] ∧ LL = [own b1 (.cells (({ q1 with path := x1, dest := x2, handle := x3 } : Qr).cs).toArray 35 (0, 0)), own b2 (.cells (qz.cs).toArray 35 (0, 0)), V]) (zS (k := 1) rfl (zS (k := 2) rfl (zf _))) ?_ ?_
    ·refine zK (zT rfl (eff_lit sl47 rfl (sbld (cs := txs sm4) [(.string ByteArray.empty), (.string ByteArray.empty), (.string ByteArray.empty), (.string ByteArray.empty)] sl47 (by decide) (by kernel_rfl) rfl) rfl (by decide)) rfl ?_); rintro _ _ ⟨b23, rfl, rfl⟩; refine zH rfl (zP fa35_3 rfl) rfl (zH rfl (zW sc9 rfl (zy4 1 rfl (Rd.own rfl))) rfl (zH rfl (ro_lenS (t' := 0) Tryz.underlying9 rfl) rfl (zH rfl (ro_rem rfl rfl (by omega) (tmodN (b := 4))) rfl (zH rfl (qO sl47 rfl rfl rfl (by omega)) rfl (zH rfl (zW sc9 rfl (zy4 0 rfl (Rd.elem (j := 0) RdN.row Tx.len hg3 rfl))) rfl ?_))))); refine zH rfl (zP fa35_3 rfl) rfl (zo rfl (qP 1 sc9 rfl rfl rfl rfl (zy1 rfl) (zg _)) rfl ?_); rintro _ _ rfl; simp only [zE, zF]; refine zN (zI (qc (qn ⟨rfl, rfl⟩ ?_ ?_ ?_)))
     ·exact (by repeat (first | exact zf _ | refine zS rfl ?_))
     ·exact (by repeat (first | exact zf _ | refine zS rfl ?_))
     ·exact (zJ 1 rfl (zJ 1 rfl (zJ 1 rfl (zY _))))
    ·rintro Δ LL ⟨rfl, rfl⟩; simp only [zA, zB]; refine zM (zK (zH rfl (qX ag35 rfl (zy6 0 rfl zx) rfl) rfl (zo rfl (zm 1 ag35 rfl rfl rfl rfl rfl (zy1 rfl) (zg _)) rfl ?_))); rintro _ _ rfl; simp only [zE, zF]; refine zN (zI (zi ?_)); refine' zX (qg rfl (qB ag35 rfl (zy6 1 rfl zx) rfl)) ?_ ?_
     rotate_left 1
     exact ⟨p5, c5, q1, x1, x2, x3, hq1, hg1, hg2, hg3, rfl, hv5, hc5, rfl⟩
     exact (zJ 2 rfl (zY _))
def mine : List UInt8 := [109, 105, 110, 101]
/-- the file of number 1 is as it was -/
def Kept1 (t : Tr) (c : Co) : Prop := ∃ u ∈ t.ns, u.co = c
section
variable {t t' : Tr} {r r' : Nd} {c : Co} {e id : Int} {p : List (List UInt8)}
end
/-- other sessions' handles lead elsewhere; the fifth has one -/
structure Ses (hs : List Hd) : Prop where
 ok : HsOk hs
 h0 : hdA hs 5 0 = ⟨true, 1, false, 3, none, 0, []⟩
 no : ∀ j, 0 < j → j < 16 → (hdA hs 5 j).used = false
 el : ∀ s j, s < 5 → j < 16 → (hdA hs s j).used = true → (hdA hs s j).id ≠ 1
theorem Ses.set {hs : List Hd} (h : Ses hs) {s i : Nat} {y : Hd} (h5 : s < 5) (hi : i < 16) (hy : HdP y) (hyi : y.used = true → y.id ≠ 1) : Ses (hs.set (s * 16 + i) y) :=
 ⟨h.ok.set hy, by rw [hdA_set h.ok.len (by omega) hi (by omega) (by omega), if_neg (by omega)]; exact h.h0,
  fun j h1 h2 => by rw [hdA_set h.ok.len (by omega) hi h2 (by omega), if_neg (by omega)]; exact h.no j h1 h2,
  fun s2 j h1 h2 h3 => by
   rw [hdA_set h.ok.len (by omega) hi h2 (by omega)] at h3 ⊢
   split
   ·rename_i h4; rw [if_pos h4] at h3; exact hyi h3
   ·rename_i h4; rw [if_neg h4] at h3; exact h.el s2 j h1 h2 h3⟩
end Go.Proofs.YtlefpllcgcicpaaGreatDoor
