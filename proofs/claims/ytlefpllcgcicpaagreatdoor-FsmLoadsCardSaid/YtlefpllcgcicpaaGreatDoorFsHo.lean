/-
  Law 16: Title; what requests are.
  Law 16: known.
  Names held against one another.
  Package fsm: New anew; Tree.
  Package fsm: Load: what is told of the handles.
  Package fsm: what a step keeps.
-/
import Derived.Test.YtlefpllcgcicpaaGreatDoorFsP
import Derived.Test.YtlefpllcgcicpaaGreatDoorSxRune
import Derived.Test.YtlefpllcgcicpaaGreatDoorSxFork
import Derived.Test.YtlefpllcgcicpaaGreatDoorTrTb
import Derived.Test.YtlefpllcgcicpaaGreatDoorFsPu
import Derived.Test.YtlefpllcgcicpaaGreatDoorFrM
import Derived.Test.YtlefpllcgcicpaaGreatDoorTrSt
set_option linter.unusedVariables false
set_option linter.unusedSimpArgs false
namespace Go.Proofs.YtlefpllcgcicpaaGreatDoor
open Go.Sx
set_option maxRecDepth 100000
set_option maxHeartbeats 4000000
theorem hname_one {n : Nat} (h : n < 10) : hname n = [104, UInt8.ofNat (48 + n)] := by unfold hname; rw [Go.Lib.decDigits_one h]
theorem do16K {V : HProp} {mb tb : Nat} {t : Tr} {hs : List Hd} {r : Nd} (hW : Wf t r) (htb : t.tb = tb) (hH : HsOk hs) (s : Int) (q : Qr) (hq : q.Ok) (hP : Ml V) (hnx : t.next ≤ 9223372036854775806) (hD : Vw V (.slice q.dp q.data.length q.dc) q.data.length (cel q.data)) : Tri Tryz.prog 12 [.pointer (some ⟨mb, 0, none⟩), .int .i64 s, q.v] [oMa mb tb hs, tree t, St (hs.map rowN), V]
 (fun v H' => ∃ K, (∃ t' hs' k dp dc np nc, v = (k.rep dp dc np nc).v ∧ doR t r hs s q t' hs' k ∧ (∃ r', Wf t' r') ∧ t'.tb = tb ∧ t'.next ≤ t.next + 1 ∧ HsOk hs' ∧ K = [rowD dp dc k.data, rowNm np nc k.names, oMa mb tb hs', tree t', St (hs'.map rowN)]) ∧ H' = K ++ [V]) := by
 refine tri_post (do16_spec hW htb hH s q hq hP hnx hD) ?_; rintro v H' ⟨t', hs', k, dp, dc, np, nc, h1, h2, h3, h4, h5, h6, h7⟩; exact ⟨_, ⟨t', hs', k, dp, dc, np, nc, h1, h2, h3, h4, h5, h6, rfl⟩, h7⟩
abbrev qAt (k : Int) (p : List UInt8) (f : Nat) : Qr := ⟨k, p, [], [], 0, 0, none, 0, [], f, At.zero⟩
abbrev qOn (k : Int) (h : List UInt8) (n : Nat) : Qr := ⟨k, [], [], h, 0, n, none, 0, [], 0, At.zero⟩
abbrev qWr (h : List UInt8) (dp : Option Addr) (dc : Nat) (y : List UInt8) : Qr := ⟨6, [], [], h, 0, 0, dp, dc, y, 0, At.zero⟩
theorem qAt_ok {k : Int} {p : List UInt8} {f : Nat} (hp : p.length ≤ 9223372036854775807) (hf : f < 4294967296) : (qAt k p f).Ok := ⟨(by show (0 : Nat) < _; omega), (by show (0 : Nat) < _; omega), hf, At.zero_ok, hp, Nat.zero_le _, Nat.zero_le _⟩
theorem qOn_ok {k : Int} {h : List UInt8} {n : Nat} (hn : n < 4294967296) : (qOn k h n).Ok := ⟨(by show (0 : Nat) < _; omega), hn, (by show (0 : Nat) < _; omega), At.zero_ok, Nat.zero_le _, Nat.zero_le _, Nat.zero_le _⟩
theorem qWr_ok {h : List UInt8} {dp : Option Addr} {dc : Nat} {y : List UInt8} (hy : y.length ≤ 1000000) : (qWr h dp dc y).Ok := ⟨(by show (0 : Nat) < _; omega), (by show (0 : Nat) < _; omega), (by show (0 : Nat) < _; omega), At.zero_ok, Nat.zero_le _, Nat.zero_le _, hy⟩
theorem known16_spec (V : HProp) (hP : Ml V) : Tri Tryz.prog 15 [] [V] (fun v H' => v = .bool true ∧ H' = [V]) := by
 refine zt Tryz.func15 rfl Tryz.ntmps15 (by simp) ?_; refine zM (zK (zH rfl (zO rfl) rfl (zN (zI (zM ?_))))); refine zK (zT rfl (zb Tryz.call11 rfl rfl (by repeat (first | exact zR _ | apply zG 0 rfl | apply zG 1 rfl | apply zG 2 rfl | apply zG 3 rfl | apply zG 4 rfl | apply zG 5 rfl | apply zG 6 rfl | apply zG 7 rfl)) (fnew_spec)) rfl ?_); rintro _ H' ⟨_, ⟨mb, t, r, rfl, hn1, hn2, hW, rfl⟩, hH⟩; simp only [zy7] at hH; subst hH; obtain ⟨hs0, hhs0⟩ : ∃ z, z = List.replicate 256 Hd.zero := ⟨_, rfl⟩
 rw [← hhs0]; have hH0 : HsOk hs0 := by rw [hhs0]; exact hs0_ok
 have hz0 : ∀ s i, hdA hs0 s i = Hd.zero := fun s i => by rw [hhs0]; exact hdA_new s i
 obtain ⟨tb, htb⟩ : ∃ z, t.tb = z := ⟨_, rfl⟩
 rw [htb]; refine zH rfl (zO rfl) rfl (zN (zI (zM (zM (zK ?_))))); refine zH rfl (zL rfl) rfl (zH rfl (qI Tryz.underlying23 rfl rfl rfl) rfl (zN (zI (qC rfl ?_)))); refine zl ?_; refine zI ?_; refine yO 1005 (fun Δ LL => ∃ (t1 : Tr) (r1 : Nd) (b2 : Nat) (dpb2 : Option Addr) (dcb2 : Nat) (npb2 : Option Addr) (ncb2 : Nat), (G1 t1 r1 [97] [] ∧ t1.tb = tb ∧ t1.next ≤ 10 ∧ HsOk (hs0.set (0 * 16 + 0) (⟨true, 1, false, 2, none, 0, []⟩ : Hd))) ∧ Δ = [(2, .pointer (some ⟨b2, 0, none⟩))] ∧ LL = [own b2 (.cells ((⟨2, 0, [104, 48], [], [], At.zero⟩ : Rk).rep dpb2 dcb2 npb2 ncb2).cs.toArray 32 (0, 0)), oMa mb tb (hs0.set (0 * 16 + 0) (⟨true, 1, false, 2, none, 0, []⟩ : Hd)), tree t1, St ((hs0.set (0 * 16 + 0) (⟨true, 1, false, 2, none, 0, []⟩ : Hd)).map rowN), V]) (zS (k := 1) rfl (zf _)) ?_ ?_
 ·refine zK (zH rfl (zL rfl) rfl (zH rfl (qY rfl (qK (cs := (qAt 3 [97] 10).cs) st35 rfl)) rfl (zT rfl (zy (Pre := [_, _, _]) Tryz.call12 rfl rfl (by repeat (first | exact zR _ | apply zG 0 rfl | apply zG 1 rfl | apply zG 2 rfl | apply zG 3 rfl | apply zG 4 rfl | apply zG 5 rfl | apply zG 6 rfl | apply zG 7 rfl)) (do16K hW htb hH0 ((0 : Nat) : Int) (qAt 3 [97] 10) (qAt_ok (by decide) (by decide)) (Ml.pick (H := _) 0 rfl hP) (by omega) (show Vw _ _ 0 (cel []) from Vw.nil _))) rfl ?_))); rintro _ H' ⟨_, ⟨t9, hs9, k9, dp9, dc9, np9, nc9, rfl, hD9, hW9, htb9, hnx9, hH9, rfl⟩, hH⟩; simp only [zy7] at hH; subst hH; obtain ⟨r9, hG, _, hh, rfl⟩ := run_first (s := 0) hW hn1 hn2 (by decide) rfl (nm := [97]) rfl (by decide) rfl (by decide) (by decide) (by decide) (free_zero (by rw [hz0]; rfl)) hD9
  subst hh; rw [show hdlK 0 = (⟨2, 0, [104, 48], [], [], At.zero⟩ : Rk) from by unfold hdlK; rw [hname_one (by decide)]; rfl]; refine zT rfl (qL z32) rfl ?_; rintro _ _ ⟨b2, rfl, rfl⟩; refine zo rfl (zm 0 qW rfl rfl rfl rfl rfl (zy1 rfl) (zg _)) rfl ?_; rintro _ _ rfl; simp only [zE, zF]; refine zN (zI (qc (qn ⟨t9, r9, b2, dp9, dc9, np9, nc9, ⟨hG, htb9, by omega, hH9⟩, rfl, rfl⟩ ?_ ?_ ?_)))
  ·exact (by repeat (first | exact zf _ | refine zS rfl ?_))
  ·exact (by repeat (first | exact zf _ | refine zS rfl ?_))
  ·exact (zJ 0 rfl (zJ 2 rfl (zJ 2 rfl (zJ 2 rfl (zJ 2 rfl (zY _))))))
 ·rintro Δ LL ⟨t1, r1, b2, dpb2, dcb2, npb2, ncb2, ⟨hG1, htb1, hnx1, hH1⟩, rfl, rfl⟩; simp only [zA, zB]; refine yO 1006 (fun Δ LL => ∃ (t2 : Tr) (b3 : Nat) (dpb3 : Option Addr) (dcb3 : Nat) (npb3 : Option Addr) (ncb3 : Nat), (G1 t2 r1 [97] [104, 105] ∧ t2.tb = tb ∧ t2.next ≤ 20) ∧ Δ = [(3, .pointer (some ⟨b3, 0, none⟩))] ∧ LL = [own b3 (.cells ((Rk.stat 0 : Rk).rep dpb3 dcb3 npb3 ncb3).cs.toArray 32 (0, 0)), own b2 (.cells ((⟨2, 0, [104, 48], [], [], At.zero⟩ : Rk).rep dpb2 dcb2 npb2 ncb2).cs.toArray 32 (0, 0)), oMa mb tb (hs0.set (0 * 16 + 0) (⟨true, 1, false, 2, none, 0, []⟩ : Hd)), tree t2, St ((hs0.set (0 * 16 + 0) (⟨true, 1, false, 2, none, 0, []⟩ : Hd)).map rowN), V]) (zS (k := 1) rfl (zS (k := 2) rfl (zf _))) ?_ ?_
  ·refine zK (zH rfl (zL rfl) rfl (zT rfl (xL rfl (sbld (cs := cel [104, 105]) [.int .u8 0, .int .u8 0] sl25 (by decide) (by kernel_rfl) rfl)) rfl ?_)); rintro _ _ ⟨b13, rfl, rfl⟩; refine zT rfl (eff_mark 0 Tryz.underlying25 Tryz.underlying5 rfl rfl rfl (by decide)) rfl ?_; rintro _ _ ⟨rfl, rfl⟩; simp only [zE, zF]; refine zH rfl (qY rfl (qK (cs := (qWr [104, 48] (some ⟨b13, 0, none⟩) 2 [104, 105]).cs) st35 rfl)) rfl (zT rfl (zy (Pre := [_, _, _]) Tryz.call12 rfl rfl (by repeat (first | exact zR _ | apply zG 0 rfl | apply zG 1 rfl | apply zG 2 rfl | apply zG 3 rfl | apply zG 4 rfl | apply zG 5 rfl | apply zG 6 rfl | apply zG 7 rfl)) (do16K hG1.wf htb1 hH1 ((0 : Nat) : Int) (qWr [104, 48] (some ⟨b13, 0, none⟩) 2 [104, 105]) (qWr_ok (by decide)) (Ml.pick (H := _) 2 rfl hP) (by omega) (zy5 0 rfl Vw.row))) rfl ?_); rintro _ H' ⟨_, ⟨t9, hs9, k9, dp9, dc9, np9, nc9, rfl, hD9, hW9, htb9, hnx9, hH9, rfl⟩, hH⟩; simp only [zy7] at hH; subst hH; have hA : hdA (hs0.set (0 * 16 + 0) (⟨true, 1, false, 2, none, 0, []⟩ : Hd)) 0 0 = (⟨true, 1, false, 2, none, 0, []⟩ : Hd) := by rw [hdA_set hH0.len (by decide) (by decide) (by decide) (by decide), if_pos ⟨rfl, rfl⟩]
   obtain ⟨hh, _, hw⟩ := run_write (s := 0) (i := 0) hG1 (by decide) rfl (find_zero (by rw [hA])) (by rw [hA]; exact ⟨rfl, rfl⟩) (by show 2 ≤ 32768; omega) (by show 0 + 2 ≤ 1048576; omega) (by show 0 + 2 ≤ 1048576; omega) hD9
   rw [if_neg (by rw [hA]; decide), hA] at hw; obtain ⟨rfl, hG⟩ := hw
   subst hh; refine zT rfl (qL z32) rfl ?_; rintro _ _ ⟨b3, rfl, rfl⟩; refine zo rfl (zm 0 qW rfl rfl rfl rfl rfl (zy1 rfl) (zg _)) rfl ?_; rintro _ _ rfl; simp only [zE, zF]; refine zN (zI (qc (qn ⟨t9, b3, dp9, dc9, np9, nc9, ⟨hG, htb9, by omega⟩, rfl, rfl⟩ ?_ ?_ ?_)))
   ·exact (by repeat (first | exact zf _ | refine zS rfl ?_))
   ·exact (by repeat (first | exact zf _ | refine zS rfl ?_))
   ·exact (zJ 0 rfl (zJ 6 rfl (zJ 2 rfl (zJ 2 rfl (zJ 2 rfl (zJ 3 rfl (zY _)))))))
  ·rintro Δ LL ⟨t2, b3, dpb3, dcb3, npb3, ncb3, ⟨hG2, htb2, hnx2⟩, rfl, rfl⟩; simp only [zA, zB]; refine yO 1007 (fun Δ LL => ∃ (hs2 : List Hd) (b4 : Nat) (dpb4 : Option Addr) (dcb4 : Nat) (npb4 : Option Addr) (ncb4 : Nat), (HsOk hs2) ∧ Δ = [(4, .pointer (some ⟨b4, 0, none⟩))] ∧ LL = [own b4 (.cells ((Rk.stat 0 : Rk).rep dpb4 dcb4 npb4 ncb4).cs.toArray 32 (0, 0)), own b3 (.cells ((Rk.stat 0 : Rk).rep dpb3 dcb3 npb3 ncb3).cs.toArray 32 (0, 0)), own b2 (.cells ((⟨2, 0, [104, 48], [], [], At.zero⟩ : Rk).rep dpb2 dcb2 npb2 ncb2).cs.toArray 32 (0, 0)), oMa mb tb hs2, tree t2, St (hs2.map rowN), V]) (zS (k := 1) rfl (zS (k := 2) rfl (zS (k := 3) rfl (zf _)))) ?_ ?_
   ·refine zK (zH rfl (zL rfl) rfl (zH rfl (qY rfl (qK (cs := (qOn 4 [104, 48] 0).cs) st35 rfl)) rfl (zT rfl (zy (Pre := [_, _, _]) Tryz.call12 rfl rfl (by repeat (first | exact zR _ | apply zG 0 rfl | apply zG 1 rfl | apply zG 2 rfl | apply zG 3 rfl | apply zG 4 rfl | apply zG 5 rfl | apply zG 6 rfl | apply zG 7 rfl)) (do16K hG2.wf htb2 hH1 ((0 : Nat) : Int) (qOn 4 [104, 48] 0) (qOn_ok (by decide)) (Ml.pick (H := _) 2 rfl hP) (by omega) (show Vw _ _ 0 (cel []) from Vw.nil _))) rfl ?_))); rintro _ H' ⟨_, ⟨t9, hs9, k9, dp9, dc9, np9, nc9, rfl, hD9, hW9, htb9, hnx9, hH9, rfl⟩, hH⟩; simp only [zy7] at hH; subst hH; have hA : hdA (hs0.set (0 * 16 + 0) (⟨true, 1, false, 2, none, 0, []⟩ : Hd)) 0 0 = (⟨true, 1, false, 2, none, 0, []⟩ : Hd) := by rw [hdA_set hH0.len (by decide) (by decide) (by decide) (by decide), if_pos ⟨rfl, rfl⟩]
    obtain ⟨ht, hcl⟩ := run_close (s := 0) (by decide) rfl hD9
    unfold closeR at hcl; rw [find_zero (by rw [hA])] at hcl; obtain ⟨hh, rfl⟩ := hcl
    obtain rfl : t2 = t9 := ht.symm
    refine zT rfl (qL z32) rfl ?_; rintro _ _ ⟨b4, rfl, rfl⟩; refine zo rfl (zm 0 qW rfl rfl rfl rfl rfl (zy1 rfl) (zg _)) rfl ?_; rintro _ _ rfl; simp only [zE, zF]; refine zN (zI (qc (qn ⟨hs9, b4, dp9, dc9, np9, nc9, hH9, rfl, rfl⟩ ?_ ?_ ?_)))
    ·exact (by repeat (first | exact zf _ | refine zS rfl ?_))
    ·exact (by repeat (first | exact zf _ | refine zS rfl ?_))
    ·exact (zJ 0 rfl (zJ 5 rfl (zJ 5 rfl (zJ 2 rfl (zJ 2 rfl (zJ 2 rfl (zJ 2 rfl (zY _))))))))
   ·rintro Δ LL ⟨hs2, b4, dpb4, dcb4, npb4, ncb4, hH2, rfl, rfl⟩; simp only [zA, zB]; refine yO 1008 (fun Δ LL => ∃ (a : At) (b5 : Nat) (dpb5 : Option Addr) (dcb5 : Nat) (npb5 : Option Addr) (ncb5 : Nat), (a.s = 2) ∧ Δ = [(5, .pointer (some ⟨b5, 0, none⟩))] ∧ LL = [own b5 (.cells ((⟨5, 0, [], [], [], a⟩ : Rk).rep dpb5 dcb5 npb5 ncb5).cs.toArray 32 (0, 0)), own b4 (.cells ((Rk.stat 0 : Rk).rep dpb4 dcb4 npb4 ncb4).cs.toArray 32 (0, 0)), own b3 (.cells ((Rk.stat 0 : Rk).rep dpb3 dcb3 npb3 ncb3).cs.toArray 32 (0, 0)), own b2 (.cells ((⟨2, 0, [104, 48], [], [], At.zero⟩ : Rk).rep dpb2 dcb2 npb2 ncb2).cs.toArray 32 (0, 0)), V]) (zS (k := 2) rfl (zS (k := 3) rfl (zS (k := 4) rfl (zf _)))) ?_ ?_
    ·refine zK (zH rfl (zL rfl) rfl (zH rfl (qY rfl (qK (cs := (qAt 17 [97] 0).cs) st35 rfl)) rfl (zT rfl (zy (Pre := [_, _, _]) Tryz.call12 rfl rfl (by repeat (first | exact zR _ | apply zG 0 rfl | apply zG 1 rfl | apply zG 2 rfl | apply zG 3 rfl | apply zG 4 rfl | apply zG 5 rfl | apply zG 6 rfl | apply zG 7 rfl)) (do16K hG2.wf htb2 hH2 ((0 : Nat) : Int) (qAt 17 [97] 0) (qAt_ok (by decide) (by decide)) (Ml.pick (H := _) 3 rfl hP) (by omega) (show Vw _ _ 0 (cel []) from Vw.nil _))) rfl ?_))); rintro _ H' ⟨_, ⟨t9, hs9, k9, dp9, dc9, np9, nc9, rfl, hD9, hW9, htb9, hnx9, hH9, rfl⟩, hH⟩; simp only [zy7] at hH; subst hH; obtain ⟨ht, hh, a, rfl, has⟩ := run_stat (s := 0) hG2 (by decide) rfl rfl hD9
     refine zT rfl (qL z32) rfl ?_; rintro _ _ ⟨b5, rfl, rfl⟩; refine zo rfl (zm 0 qW rfl rfl rfl rfl rfl (zy1 rfl) (zg _)) rfl ?_; rintro _ _ rfl; simp only [zE, zF]; refine zN (zI (qc (qn ⟨a, b5, dp9, dc9, np9, nc9, has, rfl, rfl⟩ ?_ ?_ ?_)))
     ·exact (by repeat (first | exact zf _ | refine zS rfl ?_))
     ·exact (by repeat (first | exact zf _ | refine zS rfl ?_))
     ·exact (zJ 0 rfl (zJ 5 rfl (zJ 5 rfl (zJ 5 rfl (zJ 5 rfl (zY _))))))
    ·rintro Δ LL ⟨a, b5, dpb5, dcb5, npb5, ncb5, has, rfl, rfl⟩; simp only [zA, zB]; refine zM (zK (zH rfl (zP fa32_0 rfl) rfl (zH rfl (zW sc3 rfl (zy4 3 rfl (Rd.own rfl))) rfl (zH rfl (qQ rfl rfl rfl) rfl (zH rfl (zL (v := .bool true) rfl) rfl ?_))))); refine zH rfl (zP fa32_2 rfl) rfl (zH rfl (zW sc9 rfl (zy4 3 rfl (Rd.own rfl))) rfl (zH rfl (ro_eqlS rfl rfl (decide_eq_true rfl)) rfl (zH rfl (zr rfl rfl) rfl (zH rfl (zL (v := .bool true) rfl) rfl (zH rfl (zP fa32_0 rfl) rfl ?_))))); refine zH rfl (zW sc3 rfl (zy4 2 rfl (Rd.own rfl))) rfl (zH rfl (qQ rfl rfl rfl) rfl (zH rfl (zr rfl rfl) rfl (zH rfl (zL (v := .bool true) rfl) rfl (zH rfl (zP fa32_1 rfl) rfl (zH rfl (zW sc3 rfl (zy4 2 rfl (Rd.own rfl))) rfl ?_))))); refine zH rfl (qQ rfl rfl rfl) rfl (zH rfl (zr rfl rfl) rfl (zH rfl (zL (v := .bool true) rfl) rfl (zH rfl (zP fa32_0 rfl) rfl (zH rfl (zW sc3 rfl (zy4 1 rfl (Rd.own rfl))) rfl (zH rfl (qQ rfl rfl rfl) rfl ?_))))); refine zH rfl (zr rfl rfl) rfl (zH rfl (zL (v := .bool true) rfl) rfl (zH rfl (zP fa32_1 rfl) rfl (zH rfl (zW sc3 rfl (zy4 1 rfl (Rd.own rfl))) rfl (zH rfl (qQ rfl rfl rfl) rfl (zH rfl (zr rfl rfl) rfl ?_))))); refine zH rfl (zL (v := .bool true) rfl) rfl (zH rfl (zP fa32_0 rfl) rfl (zH rfl (zW sc3 rfl (zy4 0 rfl (Rd.own rfl))) rfl (zH rfl (qQ rfl rfl rfl) rfl (zH rfl (zr rfl rfl) rfl (zH rfl (zL (v := .bool true) rfl) rfl ?_))))); refine zH rfl (zP fa32_5 rfl) rfl (zH rfl (zP fa30_1 rfl) rfl (zH rfl (zW sc28 rfl (zy4 0 rfl (Rd.own rfl))) rfl (zH rfl (qQ rfl rfl rfl) rfl (zH rfl (zr rfl rfl) rfl (zH rfl (zO rfl) rfl ?_))))); refine zN (zI (zi ?_)); refine' zX (qk rfl rfl) ?_ ?_
     rotate_left 1
     exact ⟨by show Value.bool (decide ((a.s : Int) = 2)) = _; rw [decide_eq_true (by omega)], rfl⟩
     exact (zJ 4 rfl (zY _))
section
variable {n : Nat} {L : HProp} {Γ : Env} {d : Option Tmp} {ty : TypeId} {pos : String} {aft : Array Edge} {g : Option (Nat × Bool)}
end
/-- all is told of all; the root has no name -/
structure F15 (t : Tr) (r : Nd) : Prop where
 f : ∀ u ∈ t.ns, u.a.f = 15
 rn : r.name = []
/-- the document's tree that has the same -/
def twin (t : Tr) : Rt := { tb := 0, p := none, c := 0, L := t.ns.map fun x => ⟨x.id, x.par, x.name, x.dir, none, 0, x.data, x.a⟩, next := t.next }
theorem twin_rel {t : Tr} {r : Nd} (h : F15 t r) (hW : Wf t r := by assumption) : RelW t (twin t) := by
 refine ⟨?_, rfl, fun y hy => ?_, fun y hy h0 => ?_⟩
 ·show (t.ns.map Nd.co).Perm ((t.ns.map _).map Th.co)
  rw [List.map_map]; exact List.Perm.of_eq rfl
 ·obtain ⟨x, hx, rfl⟩ := List.mem_map.1 hy
  exact h.f x hx
 ·obtain ⟨x, hx, rfl⟩ := List.mem_map.1 hy
  have : x = r := nmId hW.ids hx hW.root (by rw [hW.rid]; exact h0)
  show x.name = []
  rw [this]; exact h.rn
theorem fnewc_spec : Tri Tryz.prog 11 [] [] (fun v H' => ∃ mb t b, v = .pointer (some ⟨mb, 0, none⟩) ∧ t.ns = [root0 b] ∧ t.next = 1 ∧ Wf t (root0 b) ∧ H' = [oMa mb t.tb (List.replicate 256 Hd.zero), tree t, St ((List.replicate 256 Hd.zero).map rowN)]) := by
 refine zt Tryz.func11 rfl Tryz.ntmps11 (by simp) ?_; refine zM (zK (zH rfl (zO rfl) rfl (zN (zI (zM ?_))))); refine zK (zT rfl (zb Tryz.call27 rfl rfl (by repeat (first | exact zR _ | apply zG 0 rfl | apply zG 1 rfl | apply zG 2 rfl | apply zG 3 rfl | apply zG 4 rfl | apply zG 5 rfl | apply zG 6 rfl | apply zG 7 rfl)) (newc_spec)) rfl ?_); rintro _ H' ⟨_, ⟨t, b, rfl, hn1, hn2, hW, rfl⟩, hH⟩; simp only [zy7] at hH; subst hH; refine zH rfl (qY rfl (qK (cs := .pointer (some ⟨t.tb, 0, none⟩) :: flat Hd.cs (List.replicate 256 Hd.zero)) st71 (by kernel_rfl))) rfl (zT rfl (qj rfl) rfl ?_); rintro _ _ ⟨b3, rfl, rfl⟩; refine zH rfl (zO rfl) rfl (zN (qD (fun w F sw => rows_new 256 sw) ?_)); refine zi ?_; refine' zX (qk rfl rfl) ?_ ?_
 rotate_left 1
 exact ⟨b3, t, b, rfl, hn1, hn2, hW, rfl⟩
 exact (zJ 1 rfl (zJ 1 rfl (zJ 0 rfl (zY _))))
set_option maxHeartbeats 400000
theorem vd_zero (t : Tr) : VdH t Hd.zero := .inl ⟨rfl, rfl, rfl, rfl, rfl⟩
theorem encH_core {a b : Hd} (h : a.core = b.core) : encH a = encH b := by
 obtain ⟨a1, a2, a3, a4, a5, a6, a7⟩ := a
 obtain ⟨b1, b2, b3, b4, b5, b6, b7⟩ := b
 simp only [Hd.core, Prod.mk.injEq] at h; obtain ⟨rfl, rfl, rfl, rfl, rfl⟩ := h
 rfl
theorem flat_core : ∀ {l m : List Hd}, l.map Hd.core = m.map Hd.core → l.flatMap encH = m.flatMap encH
 | [], [], _ => rfl
 | [], _ :: _, h => by cases h
 | _ :: _, [], h => by cases h
 | a :: l, b :: m, h => by
  simp only [List.map_cons, List.cons.injEq] at h; rw [List.flatMap_cons, List.flatMap_cons, encH_core h.1, flat_core h.2]
theorem vd_hds {t : Tr} {h : Hd} (hv : VdH t h) : HdS h := by
 rcases hv with ⟨h1, h2, h3, h4, h5⟩ | ⟨h1, ⟨h2, h3, h4⟩, h5, ⟨h6, h7, h8, _⟩ | ⟨h6, h7, h8⟩⟩
 ·exact ⟨by omega, by omega, by rw [h5]; exact Nat.zero_le _, by rw [h5]; intro x hx; cases hx⟩
 ·exact ⟨by omega, h8, by rw [h7]; exact Nat.zero_le _, by rw [h7]; intro x hx; cases hx⟩
 ·exact ⟨by omega, by omega, by have := h8.len; omega, fun x hx => ⟨ptOk_len (h8.ok x hx).1, (h8.ok x hx).2.2⟩⟩
/-- k handles were read -/
structure LD (t : Tr) (q0 : R) (k : Nat) (hs : List Hd) (q : R) : Prop where
 good : q.Good
 len : hs.length = 256
 vd : ∀ h ∈ hs, VdH t h
 back : ∀ hs0 : List Hd, hs0.length = 256 → (∀ h ∈ hs0, VdH t h) → Here q0 (hs0.flatMap encH) → (hs.take k).map Hd.core = (hs0.take k).map Hd.core ∧ Here q ((hs0.drop k).flatMap encH)
theorem ld_zero {t : Tr} {q0 : R} (hg : q0.Good) : LD t q0 0 (List.replicate 256 Hd.zero) q0 :=
 ⟨hg, List.length_replicate, fun h hh => by rw [List.eq_of_mem_replicate hh]; exact vd_zero t, fun hs0 _ _ hh => ⟨rfl, hh⟩⟩
theorem ld_fit {t : Tr} {q0 : R} {k : Nat} {hs : List Hd} {q : R} (h : LD t q0 k hs q) (hk : k < 256) {hs0 : List Hd} (hl : hs0.length = 256) (hv : ∀ h ∈ hs0, VdH t h) (hh : Here q0 (hs0.flatMap encH)) {x : Hd} {ok : Bool} {r' : R} (hG : GetP t q x ok r') :
 ok = true ∧ ∃ x0, hs0[k]? = some x0 ∧ x.core = x0.core ∧ Here r' ((hs0.drop (k + 1)).flatMap encH) := by
 obtain ⟨h1, h2⟩ := h.back hs0 hl hv hh
 obtain ⟨x0, hx0⟩ : ∃ x0, hs0[k]? = some x0 := ⟨_, List.getElem?_eq_getElem (by omega)⟩
 obtain ⟨hk1, hk2⟩ := List.getElem?_eq_some_iff.1 hx0
 have e : hs0.drop k = x0 :: hs0.drop (k + 1) := by rw [List.drop_eq_getElem_cons hk1, hk2]
 rw [e, List.flatMap_cons] at h2; obtain ⟨g1, g2, g3⟩ := hG.back x0 _ (hv x0 (List.mem_of_getElem? hx0)) h2
 exact ⟨g1, x0, hx0, g2, by rw [g3]; exact h2.adv rfl⟩
theorem ld_next {t : Tr} {q0 : R} {k : Nat} {hs : List Hd} {q : R} (h : LD t q0 k hs q) (hk : k < 256) {x : Hd} {r' : R} (hG : GetP t q x true r') : LD t q0 (k + 1) (hs.set k x) r' := by
 refine ⟨hG.good, by rw [List.length_set]; exact h.len, fun y hy => ?_, fun hs0 hl hv hh => ?_⟩
 ·rcases List.mem_or_eq_of_mem_set hy with hy | rfl
  ·exact h.vd y hy
  ·exact hG.vd rfl
 ·obtain ⟨h1, h2⟩ := h.back hs0 hl hv hh
  obtain ⟨_, x0, hx0, g2, g3⟩ := ld_fit h hk hl hv hh hG
  obtain ⟨hk1, hk2⟩ := List.getElem?_eq_some_iff.1 hx0
  have hlen := h.len
  refine ⟨?_, g3⟩
  have e1 : (hs.set k x).take (k + 1) = hs.take k ++ [x] := by
   rw [List.take_succ_eq_append_getElem (by rw [List.length_set]; omega), List.getElem_set_self, List.take_set_of_le (Nat.le_refl _)]
  have e2 : hs0.take (k + 1) = hs0.take k ++ [x0] := by rw [List.take_succ_eq_append_getElem hk1, hk2]
  rw [e1, e2, List.map_append, List.map_append, h1, List.map_cons, List.map_cons, g2]
theorem vd_same {t t0 : Tr} {r r0 : Nd} (hW : Wf t r) (hW0 : Wf t0 r0) (hR : RelW t (twin t0)) {h : Hd} (hv : VdH t0 h) : VdH t h := by
 have hn : t.next = t0.next := hR.nx
 rcases hv with hv | ⟨h1, ⟨h2, h3, h4⟩, h5, h6⟩
 ·exact .inl hv
 ·refine .inr ⟨h1, ⟨h2, by omega, h4⟩, fun x hx => ?_, h6⟩; obtain ⟨hx1, hx2⟩ := yD hx
  have hc : x.co ∈ (twin t0).L.map Th.co := hR.pm.mem_iff.1 (List.mem_map.2 ⟨x, hx1, rfl⟩)
  obtain ⟨y, hy, he⟩ := List.mem_map.1 hc
  obtain ⟨z, hz, rfl⟩ := List.mem_map.1 hy
  have e1 : z.id = x.id := congrArg Co.id he
  have e2 : z.dir = x.dir := congrArg Co.dir he
  have := h5 z (by rw [← hx2, ← e1]; exact byId_of hW0.ids hz)
  rw [← e2]; exact this
set_option maxHeartbeats 4000000
set_option maxHeartbeats 400000
/-- what is qn of a tree: things stay what they are -/
structure Hold (t t' : Tr) : Prop where
 nx : t.next ≤ t'.next
 f : (∀ u ∈ t.ns, u.a.f = 15) → ∀ u ∈ t'.ns, u.a.f = 15
 old : ∀ u ∈ t'.ns, (∃ v ∈ t.ns, v.id = u.id ∧ v.dir = u.dir ∧ (u.id = 0 → u.name = v.name)) ∨ t.next ≤ u.id
theorem Hold.refl (t : Tr) : Hold t t := ⟨Nat.le_refl _, fun h => h, fun u hu => .inl ⟨u, hu, rfl, rfl, fun _ => rfl⟩⟩
theorem Hold.trans {a b c : Tr} (h1 : Hold a b) (h2 : Hold b c) : Hold a c := by
 have n1 := h1.nx
 refine ⟨Nat.le_trans h1.nx h2.nx, fun h => h2.f (h1.f h), fun u hu => ?_⟩
 rcases h2.old u hu with ⟨v, hv, e1, e2, e3⟩ | h3
 ·rcases h1.old v hv with ⟨w, hw, f1, f2, f3⟩ | h4
  ·exact .inl ⟨w, hw, f1.trans e1, f2.trans e2, fun h => (e3 h).trans (f3 (by omega))⟩
  ·exact .inr (by omega)
 ·exact .inr (by omega)
theorem hold_f15 {t t' : Tr} {r r' : Nd} (hW : Wf t r) (hW' : Wf t' r') (h : Hold t t') (hF : F15 t r) : F15 t' r' := by
 refine ⟨h.f hF.f, ?_⟩
 rcases h.old r' hW'.root with ⟨v, hv, e1, _, e3⟩ | h3
 ·have : v = r := nmId hW.ids hv hW.root (by rw [e1, hW'.rid, hW.rid])
  rw [e3 hW'.rid, this]; exact hF.rn
 ·have := hW.lt r hW.root
  rw [hW'.rid] at h3; omega
theorem hold_vd {t t' : Tr} {r : Nd} (hW : Wf t r) (h : Hold t t') {x : Hd} (hv : VdH t x) : VdH t' x := by
 have hn := h.nx
 rcases hv with hv | ⟨h1, ⟨h2, h3, h4⟩, h5, h6⟩
 ·exact .inl hv
 ·refine .inr ⟨h1, ⟨h2, by omega, h4⟩, fun u hu => ?_, h6⟩; obtain ⟨hu1, hu2⟩ := yD hu
  rcases h.old u hu1 with ⟨v, hv, e1, e2, _⟩ | h7
  ·rw [← e2]; exact h5 v (by rw [← hu2, ← e1]; exact byId_of hW.ids hv)
  ·omega
theorem hold_map {t t' : Tr} (g : Nd → Nd) (h : t'.ns = t.ns.map g) (hn : t'.next = t.next) (hg : ∀ u ∈ t.ns, (g u).id = u.id ∧ (g u).dir = u.dir ∧ (u.id = 0 → (g u).name = u.name)) (hf : (∀ u ∈ t.ns, u.a.f = 15) → ∀ u ∈ t.ns, (g u).a.f = 15) : Hold t t' := by
 refine ⟨by omega, fun h15 u hu => ?_, fun u hu => ?_⟩
 ·rw [h] at hu; obtain ⟨v, hv, rfl⟩ := List.mem_map.1 hu
  exact hf h15 v hv
 ·rw [h] at hu; obtain ⟨v, hv, rfl⟩ := List.mem_map.1 hu
  obtain ⟨g1, g2, g3⟩ := hg v hv
  exact .inl ⟨v, hv, g1.symm, g2.symm, fun h => g3 (by omega)⟩
theorem hold_data {t : Tr} {x : Nd} {p : Option Addr} {c : Nat} {l : List UInt8} : Hold t (dataT t x p c l) := by
 refine hold_map _ rfl rfl (fun u hu => ?_) (fun h u hu => ?_)
 ·split <;> exact ⟨rfl, rfl, fun _ => rfl⟩
 ·split <;> exact h u hu
theorem hold_att {t : Tr} {x : Nd} {a : At} (ha : (∀ u ∈ t.ns, u.a.f = 15) → a.f = 15) : Hold t (attT t x a) := by
 refine hold_map _ rfl rfl (fun u hu => ?_) (fun h u hu => ?_)
 ·split <;> exact ⟨rfl, rfl, fun _ => rfl⟩
 ·split
  ·exact ha h
  ·exact h u hu
theorem hold_write {t t' : Tr} {id : Int} {a : Nat} {b : List UInt8} {e : Int} (hR : WriteR t id a b t' e) : Hold t t' := by
 rcases hR with ⟨_, _, rfl⟩ | ⟨x, _, ⟨_, _, rfl⟩ | ⟨_, _, _, rfl⟩ | ⟨_, _, ⟨_, _, rfl⟩ | ⟨_, _, b0, rfl⟩⟩⟩
 ·exact Hold.refl _
 ·exact Hold.refl _
 ·exact Hold.refl _
 ·exact Hold.refl _
 ·exact hold_data
theorem hold_set {t t' : Tr} {id : Int} {bw : At} {e : Int} (hR : SetR t id bw t' e) : Hold t t' := by
 rcases hR with ⟨_, _, rfl⟩ | ⟨x, hb, ⟨_, _, rfl⟩ | ⟨_, _, _, _, rfl⟩ | ⟨_, _, _, _, _, rfl⟩ | ⟨hr, _, t1, x1, h1, _, h3, rfl⟩⟩
 ·exact Hold.refl _
 ·exact Hold.refl _
 ·exact Hold.refl _
 ·exact Hold.refl _
 ·have hx := (yD hb).1
  rcases h1 with ⟨_, _, _, b, rfl, _⟩ | ⟨_, rfl, _⟩
  ·refine hold_data.trans (hold_att fun h => ?_); refine merge15 ?_ hr; rw [h3]; have h4 := h (if x.blk = x.blk then datF (some ⟨b, 0, none⟩) bw.s (szd x.data bw.s) x else x) (List.mem_map.2 ⟨x, hx, rfl⟩)
   rw [if_pos rfl] at h4; exact h4
  ·exact hold_att fun h => merge15 (by rw [h3]; exact h x hx) hr
theorem hold_make {t t' : Tr} {r r' : Nd} {p : List (List UInt8)} {dir : Bool} {i e : Int} (hR : MakeR t r p dir t' r' i e) : Hold t t' := by
 rcases hR with ⟨rfl, _⟩ | ⟨_, x, _, _, _, _, b, kp, kc, _, rfl, _⟩
 ·exact Hold.refl _
 ·refine ⟨by show t.next ≤ t.next + 1; omega, fun h u hu => ?_, fun u hu => ?_⟩
  ·rcases List.mem_append.1 hu with hu | hu
   ·obtain ⟨y, hy, rfl⟩ := List.mem_map.1 hu
    split <;> exact h y hy
   ·rw [List.mem_singleton.1 hu]
    show (mkA dir).f = 15
    cases dir <;> rfl
  ·rcases List.mem_append.1 hu with hu | hu
   ·obtain ⟨y, hy, rfl⟩ := List.mem_map.1 hu
    refine .inl ⟨y, hy, ?_⟩
    split <;> exact ⟨rfl, rfl, fun _ => rfl⟩
   ·rw [List.mem_singleton.1 hu]; exact .inr (Nat.le_refl _)
theorem hold_rem {t t' : Tr} {r r' : Nd} {p : List (List UInt8)} {dir : Bool} {e : Int} (hR : RemR t r p dir t' r' e) : Hold t t' := by
 rcases hR with ⟨_, _, rfl, _⟩ | ⟨_, _, x, y, k, kp, kc, _, _, _, _, _, _, _, _, rfl, _⟩
 ·exact Hold.refl _
 ·refine ⟨Nat.le_refl _, fun h u hu => ?_, fun u hu => ?_⟩
  ·obtain ⟨v, hv, rfl⟩ := List.mem_map.1 (List.mem_filter.1 hu).1
   rw [(yl x y kp kc k x.name v).2.2.2.2]; exact h v hv
  ·obtain ⟨hu1, hu2⟩ := List.mem_filter.1 hu
   obtain ⟨v, hv, rfl⟩ := List.mem_map.1 hu1
   obtain ⟨c1, c2, c3, _, _⟩ := yl x y kp kc k x.name v
   have hne : v.blk ≠ x.blk := by rw [← c1]; exact zy2 hu2
   exact .inl ⟨v, hv, c2.symm, c3.symm, fun _ => (cutG_no hne).2⟩
theorem hold_ren {t t' : Tr} {r r' : Nd} {p tq : List (List UInt8)} {e : Int} (hR : RenR t r p tq t' r' e) : Hold t t' := by
 rcases hR with ⟨_, _, rfl, _⟩ | ⟨_, _, _, _, x, y, k, g, _, hx0, _, _, hM, _, _, hn, _⟩
 ·exact Hold.refl _
 ·refine hold_map g hM.lst hn (fun u hu => ⟨hM.id u, hM.dir u, fun h => ?_⟩) (fun h u hu => by rw [hM.a]; exact h u hu); exact (hM.no u hu (fun e => hx0 (by rw [← e]; exact h))).2
theorem hold_openT {t t' : Tr} {hs hs' : List Hd} {s n : Nat} {q : Qr} {id : Int} {k : Rk} (h : openT t hs s n q id t' hs' k) : Hold t t' := by
 obtain ⟨h1, _, _⟩ := h
 split at h1
 ·obtain ⟨e, h2⟩ := h1; exact hold_set h2
 ·rw [h1]; exact Hold.refl _
theorem hold_open {t t' : Tr} {r : Nd} {hs hs' : List Hd} {s : Nat} {q : Qr} {k : Rk} (h : openR t r hs s q t' hs' k) : Hold t t' := by
 unfold openR at h
 split at h
 ·rw [h.1]; exact Hold.refl _
 ·split at h
  ·rw [h.1]; exact Hold.refl _
  ·split at h
   ·split at h
    ·rw [h.1]; exact Hold.refl _
    ·exact hold_openT h
   ·split at h
    ·rw [h.1]; exact Hold.refl _
    ·obtain ⟨t1, r1, i, e, hM, h⟩ := h
     split at h
     ·rw [h.1]; exact hold_make hM
     ·obtain ⟨t2, e2, h2, h3⟩ := h
      exact (hold_make hM).trans ((hold_set h2).trans (hold_openT h3))
theorem hold_by {t t' : Tr} {r : Nd} {hs hs' : List Hd} {s : Nat} {q : Qr} {k : Rk} (h : byR t r hs s q t' hs' k) : Hold t t' := by
 unfold byR at h
 split at h
 ·exact hold_open h
 ·split at h
  ·rw [h.1]; exact Hold.refl _
  ·split at h
   ·rw [h.1]; exact Hold.refl _
   ·split at h
    ·have h2 := h.2
     unfold writeR at h2
     split at h2
     ·rw [h2.1]; exact Hold.refl _
     ·split at h2
      ·rw [h2.1]; exact Hold.refl _
      ·split at h2
       ·rw [h2.1]; exact Hold.refl _
       ·obtain ⟨e, h3, _⟩ := h2; exact hold_write h3
    ·split at h
     ·rw [h.1]; exact Hold.refl _
     ·split at h
      ·have h2 := h.2
       unfold setR at h2
       split at h2
       ·rw [h2.1]; exact Hold.refl _
       ·split at h2
        ·rw [h2.1]; exact Hold.refl _
        ·split at h2
         ·rw [h2.1]; exact Hold.refl _
         ·obtain ⟨e, h3, _⟩ := h2; exact hold_set h3
      ·split at h <;> (rw [h.1]; exact Hold.refl _)
theorem hold_path {t t' : Tr} {r : Nd} {q : Qr} {p : List (List UInt8)} {k : Rk} (h : pathR t r q p t' k) : Hold t t' := by
 unfold pathR at h
 split at h
 ·obtain ⟨_, _, h, _⟩ := h; exact hold_rem h
 ·split at h
  ·obtain ⟨_, _, h, _⟩ := h; exact hold_rem h
  ·split at h
   ·obtain ⟨t1, r1, i, e, h1, _, h2⟩ := h
    split at h2
    ·obtain ⟨e2, h2⟩ := h2; exact (hold_make h1).trans (hold_set h2)
    ·rw [h2]; exact hold_make h1
   ·split at h
    ·split at h
     ·rw [h.1]; exact Hold.refl _
     ·obtain ⟨_, _, h, _⟩ := h; exact hold_ren h
    ·split at h
     ·rw [h.1]; exact Hold.refl _
     ·split at h
      ·split at h
       ·obtain ⟨_, h, _⟩ := h; exact hold_set h
       ·rw [h.1]; exact Hold.refl _
      ·rw [h.1]; exact Hold.refl _
theorem hold_do {t t' : Tr} {r : Nd} {hs hs' : List Hd} {s : Int} {q : Qr} {k : Rk} (h : doR t r hs s q t' hs' k) : Hold t t' := by
 unfold doR at h
 split at h
 ·rw [h.1]; exact Hold.refl _
 ·split at h
  ·exact hold_by h
  ·split at h
   ·rw [h.1]; exact Hold.refl _
   ·split at h
    ·rw [h.1]; exact Hold.refl _
    ·split at h
     ·rw [h.1]; exact Hold.refl _
     ·exact hold_path h.2
theorem hdA_vd {t : Tr} {hs : List Hd} (hv : ∀ h ∈ hs, VdH t h) (s i : Nat) : VdH t (hdA hs s i) := by
 unfold hdA; rw [List.getD_eq_getElem?_getD]
 cases e : hs[s * 16 + i]? with
 | none => exact vd_zero t
 | some x => exact hv x (List.mem_of_getElem? e)
theorem vd_set {t : Tr} {hs : List Hd} (hv : ∀ h ∈ hs, VdH t h) {k : Nat} {x : Hd} (hx : VdH t x) : ∀ h ∈ hs.set k x, VdH t h := fun y hy => by
 rcases List.mem_or_eq_of_mem_set hy with h1 | rfl
 ·exact hv y h1
 ·exact hx
/-- a file's handle that is new -/
theorem vd_file {t t' : Tr} (hid : (t.ns.map Nd.id).Nodup) (hlt : ∀ x ∈ t.ns, x.id < t.next) (h : Hold t t') (hn : t'.next ≤ 9223372036854775807) {x : Nd} (hx : x ∈ t.ns) (hd : x.dir = false) {f : Nat} (hf : f &&& 3 ≠ 0) : VdH t' ⟨true, (x.id : Int), false, f &&& 7, none, 0, []⟩ := by
 have h1 := hlt x hx
 have h2 := h.nx
 refine .inr ⟨rfl, ⟨by show (0 : Int) ≤ (x.id : Int); omega, by show (x.id : Int) < t'.next; omega, by show (x.id : Int) ≤ 9223372036854775807; omega⟩, fun u hu => ?_, .inl ⟨rfl, rfl, ?_, ?_, ?_⟩⟩
 ·obtain ⟨hu1, hu2⟩ := yD hu
  rcases h.old u hu1 with ⟨v, hv, e1, e2, _⟩ | h3
  ·have : v = x := nmId hid hv hx (by have : (u.id : Int) = x.id := hu2; omega)
   show u.dir = false
   rw [← e2, this, hd]
  ·have : (u.id : Int) = x.id := hu2
   omega
 ·exact Nat.lt_of_le_of_lt Nat.and_le_right (by decide)
 ·show f &&& 7 &&& 4294967288 = 0
  rw [Nat.and_assoc]; exact Nat.and_zero f
 ·show f &&& 7 &&& 3 ≠ 0
  rw [Nat.and_assoc]; exact hf
theorem vd_names {t : Tr} {r x : Nd} (hW : Wf t r) (hF : F15 t r) (hx : x ∈ t.ns) : VdN (lsK t.ns x.kids) := by
 have hk : ∀ k ∈ x.kids, ∃ y ∈ t.ns, y.blk = k ∧ y.par = x.id ∧ nmeB t.ns k = ⟨y.name, y.told⟩ := fun k hk => by
  obtain ⟨y, h1, h2, h3⟩ := hW.kd.sub x hx k hk
  refine ⟨y, h1, h2, h3, ?_⟩; unfold nmeB; rw [← h2, yK hW.kd.blks h1]
 refine ⟨?_, fun z hz => ?_, ?_⟩
 ·unfold lsK; rw [List.length_map]; have := kids_le hW.kd hx
  have := hW.few
  omega
 ·obtain ⟨k, h1, rfl⟩ := List.mem_map.1 hz
  obtain ⟨y, h2, h3, h4, h5⟩ := hk k h1
  rw [h5]; have hd := wf_dl hW y h2
  have ha := (hW.a y h2).1
  refine ⟨?_, hF.f y h2, ⟨ha.f, by show y.data.length < 18446744073709551616; omega, ha.u, ha.g, ha.m, ha.a, ha.t⟩⟩
  rcases hW.nm y h2 with h6 | h6
  ·have : y = r := nmId hW.ids h2 hW.root (by rw [h6, hW.rid])
   rw [this, hW.rpar] at h4; omega
  ·exact h6
 ·have h1 := hW.kd.rise x hx
  have e : (lsK t.ns x.kids).map Nm.n = x.kids.map (nmB t.ns) := by
   unfold lsK; rw [List.map_map]; refine List.map_congr_left fun k hk2 => ?_
   obtain ⟨y, h2, h3, _, h5⟩ := hk k hk2
   show (nmeB t.ns k).n = _
   rw [h5, ← h3, xU hW.kd.blks h2]
  rw [e]; exact h1
theorem vdn_drop {l : List Nm} (h : VdN l) (k : Nat) : VdN (l.drop k) := by
 refine ⟨by have := h.len; rw [List.length_drop]; omega, fun x hx => h.ok x (List.mem_of_mem_drop hx), ?_⟩; rw [List.map_drop]; have := h.up
 unfold Rise at this ⊢; exact List.Pairwise.sublist (List.drop_sublist _ _) this
theorem vd_look {t : Tr} {r : Nd} (hW : Wf t r) {p : List (List UInt8)} (h : (lookO (fnd t.ns r p)).2 = 0) : ∃ x ∈ t.ns, (lookO (fnd t.ns r p)).1 = (x.id : Int) ∧ byId t.ns (lookO (fnd t.ns r p)).1 = some x := by
 cases hf : fnd t.ns r p with
 | none => rw [hf] at h; cases h
 | some x =>
  have hx := yu hW.root hf
  exact ⟨x, hx, rfl, byId_of hW.ids hx⟩
theorem vd_openT {t2 t' : Tr} {hs hs' : List Hd} {s n : Nat} {q : Qr} {k : Rk} (hid : (t2.ns.map Nd.id).Nodup) (hlt : ∀ x ∈ t2.ns, x.id < t2.next) (hn : t'.next ≤ 9223372036854775807) {x : Nd} (hx : x ∈ t2.ns) (hd : x.dir = false) (hf : q.flags &&& 3 ≠ 0) (hv : ∀ h ∈ hs, VdH t' h) {t3 : Tr} (h2 : Hold t2 t3) (h : openT t3 hs s n q (x.id : Int) t' hs' k) : ∀ h ∈ hs', VdH t' h := by
 have h3 := h2.trans (hold_openT h)
 obtain ⟨_, rfl, _⟩ := h
 exact vd_set hv (vd_file hid hlt h3 hn hx hd hf)
theorem vd_open {t t' : Tr} {r : Nd} {hs hs' : List Hd} {s : Nat} {q : Qr} {k : Rk} (hW : Wf t r) (hnx : t.next ≤ 9223372036854775806) (hn : t'.next ≤ 9223372036854775807) (hv : ∀ h ∈ hs, VdH t h) (h : openR t r hs s q t' hs' k) : ∀ h ∈ hs', VdH t' h := by
 have hH := hold_open h
 have hv2 : ∀ h ∈ hs, VdH t' h := fun y hy => hold_vd hW hH (hv y hy)
 unfold openR at h
 split at h
 ·rw [h.2.1]; exact hv2
 ·split at h
  ·rw [h.2.1]; exact hv2
  ·rename_i hno
   have hf3 : q.flags &&& 3 ≠ 0 := fun e => hno (.inl e)
   split at h
   ·rename_i hl
    obtain ⟨x, hx, e1, e2⟩ := vd_look hW hl
    split at h
    ·rw [h.2.1]; exact hv2
    ·rename_i hno2
     have hd : x.dir = false := by
      cases hxd : x.dir with
      | false => rfl
      | true => exact absurd (.inl (by rw [e2]; exact hxd)) hno2
     rw [e1] at h; exact vd_openT hW.ids hW.lt hn hx hd hf3 hv2 (Hold.refl _) h
   ·split at h
    ·rw [h.2.1]; exact hv2
    ·obtain ⟨t1, r1, i, e, hM, h⟩ := h
     split at h
     ·rw [h.2.1]; exact hv2
     ·rename_i he
      obtain ⟨t2, e2, h2, h3⟩ := h
      have hW1 := make_wf hW hM
      rcases hM with ⟨_, _, _, ⟨_, h8⟩ | ⟨_, _, _, h8⟩ | ⟨_, _, h8⟩⟩ | ⟨_, x, _, _, rfl, _, b, kp, kc, _, rfl, _⟩
      ·omega
      ·omega
      ·exact absurd h8 he
      ·refine vd_openT (x := newNd b t.ck t.next x.id false (lastN (pSplit q.path).1)) hW1.ids hW1.lt hn (List.mem_append_right _ (List.mem_singleton_self _)) rfl hf3 hv2 (hold_set h2) h3
theorem vd_do {t t' : Tr} {r : Nd} {hs hs' : List Hd} {s : Int} {q : Qr} {k : Rk} (hW : Wf t r) (hF : F15 t r) (hnx : t.next ≤ 9223372036854775806) (hn : t'.next ≤ 9223372036854775807) (hv : ∀ h ∈ hs, VdH t h) (h : doR t r hs s q t' hs' k) : ∀ h ∈ hs', VdH t' h := by
 have hH := hold_do h
 have hv2 : ∀ h ∈ hs, VdH t' h := fun y hy => hold_vd hW hH (hv y hy)
 unfold doR at h
 split at h
 ·rw [h.2.1]; exact hv2
 ·split at h
  ·unfold byR at h
   split at h
   ·exact vd_open hW hnx hn hv h
   ·split at h
    ·obtain ⟨_, h⟩ := h
     unfold closeR at h
     split at h
     ·rw [h.1]; exact hv2
     ·rw [h.1]; exact vd_set hv2 (vd_zero _)
    ·split at h
     ·rw [h.2.1]; exact hv2
     ·split at h
      ·rw [h.1]; exact hv2
      ·split at h
       ·rw [h.2.1]; exact hv2
       ·split at h
        ·rw [h.1]; exact hv2
        ·split at h
         ·obtain ⟨rfl, h⟩ := h
          unfold opendirR at h
          split at h
          ·rw [h.1]; exact hv2
          ·split at h
           ·rw [h.1]; exact hv2
           ·rename_i hl
            split at h
            ·rw [h.1]; exact hv2
            ·rename_i hls
             obtain ⟨np, nc, _, rfl, _⟩ := h
             refine vd_set hv2 ?_
             cases hb : byId t'.ns (look16 t' r q.path).1 with
             | none => rw [hb] at hls; exact absurd (show (22 : Int) ≠ 0 by decide) hls
             | some x =>
              obtain ⟨hx1, hx2⟩ := yD hb
              have hlt := hW.lt x hx1
              cases hxd : x.dir with
              | false => rw [hb] at hls; exact absurd (show (listO t'.ns (some x)).2 ≠ 0 by simp [listO, hxd]) hls
              | true =>
               have e : (listO t'.ns (some x)).1 = lsK t'.ns x.kids := by simp [listO, hxd]
               rw [e]; refine .inr ⟨rfl, ⟨by show (0 : Int) ≤ (look16 t' r q.path).1; omega, by show (look16 t' r q.path).1 < t'.next; omega, by show (look16 t' r q.path).1 ≤ 9223372036854775807; omega⟩, fun u hu => ?_, .inr ⟨rfl, rfl, vd_names hW hF hx1⟩⟩; have hu' : byId t'.ns (look16 t' r q.path).1 = some u := hu
               rw [hb] at hu'
               injection hu' with hu'
               show u.dir = true
               rw [← hu']; exact hxd
         ·obtain ⟨rfl, h⟩ := h
          unfold readdirR at h
          split at h
          ·rw [h.1]; exact hv2
          ·rename_i i hfi
           split at h
           ·rw [h.1]; exact hv2
           ·rename_i hnd
            split at h
            ·rw [h.1]; exact hv2
            ·obtain ⟨np, nc, _, rfl, _⟩ := h
             refine vd_set hv2 ?_
             rcases hdA_vd hv2 s.toNat i with ⟨h1, h2, h3, h4, h5⟩ | ⟨h1, h2, h3, ⟨h6, _⟩ | ⟨h6, h7, h8⟩⟩
             ·exact absurd h3 hnd
             ·exact absurd h6 hnd
             ·exact .inr ⟨h1, h2, h3, .inr ⟨h6, h7, vdn_drop h8 8⟩⟩
  ·split at h
   ·rw [h.2.1]; exact hv2
   ·split at h
    ·rw [h.2.1]; exact hv2
    ·split at h
     ·rw [h.2.1]; exact hv2
     ·rw [h.1]; exact hv2
end Go.Proofs.YtlefpllcgcicpaaGreatDoor
