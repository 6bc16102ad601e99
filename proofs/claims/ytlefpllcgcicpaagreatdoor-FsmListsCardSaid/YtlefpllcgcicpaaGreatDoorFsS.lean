/-
  Law 16: Title; what requests are.
  Law 16: known.
  Package fsm: Open, Drop.
  Names held against one another.
  Package fsm: New anew; Tree.
  Law 16: requests made tame, small.
  Law 16: what another session does keeps a file.
-/
import Derived.Test.YtlefpllcgcicpaaGreatDoorFsP
import Derived.Test.YtlefpllcgcicpaaGreatDoorSxRune
import Derived.Test.YtlefpllcgcicpaaGreatDoorSxFork
import Derived.Test.YtlefpllcgcicpaaGreatDoorWire
import Derived.Test.YtlefpllcgcicpaaGreatDoorTrTb
import Derived.Test.YtlefpllcgcicpaaGreatDoorFrM
import Derived.Test.YtlefpllcgcicpaaGreatDoorTrSt
import Derived.Test.YtlefpllcgcicpaaGreatDoorFsI
set_option linter.unusedVariables false
set_option linter.unusedSimpArgs false
namespace Go.Proofs.YtlefpllcgcicpaaGreatDoor
open Go.Sx
set_option maxRecDepth 100000
set_option maxHeartbeats 4000000
theorem hname_one {n : Nat} (h : n < 10) : hname n = [104, UInt8.ofNat (48 + n)] := by unfold hname; rw [Go.Lib.decDigits_one h]
theorem do16K {V : HProp} {mb tb : Nat} {t : Tr} {hs : List Hd} {r : Nd} (hW : Wf t r) (htb : t.tb = tb) (hH : HsOk hs) (s : Int) (q : Qr) (hq : q.Ok) (hP : Ml V) (hnx : t.next ≤ 9223372036854775806) (hD : Vw V (.slice q.dp q.data.length q.dc) q.data.length (cel q.data)) : Tri Tryz.prog 12 [.pointer (some ⟨mb, 0, none⟩), .int .i64 s, q.v] [oMa mb tb hs, tree t, St (hs.map rowN), V]
    (fun v H' => ∃ K, (∃ t' hs' k dp dc np nc, v = (k.rep dp dc np nc).v ∧ doR t r hs s q t' hs' k ∧ (∃ r', Wf t' r') ∧ t'.tb = tb ∧ t'.next ≤ t.next + 1 ∧ HsOk hs' ∧ K = [rowD dp dc k.data, rowNm np nc k.names, oMa mb tb hs', tree t', St (hs'.map rowN)]) ∧ H' = K ++ [V]) := by
  refine tri_post (do16_spec hW htb hH s q hq hP hnx hD) ?_; rintro v H' ⟨t', hs', k, dp, dc, np, nc, h1, h2, h3, h4, h5, h6, h7⟩; exact ⟨_, ⟨t', hs', k, dp, dc, np, nc, h1, h2, h3, h4, h5, h6, rfl⟩, h7⟩
abbrev qAt (k : Int) (p : List UInt8) (f : Nat) : Qr := ⟨k, p, [], [], 0, 0, none, 0, [], f, At.zero⟩
abbrev qOn (k : Int) (h : List UInt8) (n : Nat) : Qr := ⟨k, [], [], h, 0, n, none, 0, [], 0, At.zero⟩
abbrev qWr (h : List UInt8) (dp : Option Addr) (dc : Nat) (y : List UInt8) : Qr := ⟨6, [], [], h, 0, 0, dp, dc, y, 0, At.zero⟩
theorem qAt_ok {k : Int} {p : List UInt8} {f : Nat} (hp : p.length ≤ 9223372036854775807) (hf : f < 4294967296) : (qAt k p f).Ok := ⟨(by show (0 : Nat) < _; omega), (by show (0 : Nat) < _; omega), hf, At.zero_ok, hp, Nat.zero_le _, Nat.zero_le _⟩
theorem qOn_ok {k : Int} {h : List UInt8} {n : Nat} (hn : n < 4294967296) : (qOn k h n).Ok := ⟨(by show (0 : Nat) < _; omega), hn, (by show (0 : Nat) < _; omega), At.zero_ok, Nat.zero_le _, Nat.zero_le _, Nat.zero_le _⟩
theorem qWr_ok {h : List UInt8} {dp : Option Addr} {dc : Nat} {y : List UInt8} (hy : y.length ≤ 1000000) : (qWr h dp dc y).Ok := ⟨(by show (0 : Nat) < _; omega), (by show (0 : Nat) < _; omega), (by show (0 : Nat) < _; omega), At.zero_ok, Nat.zero_le _, Nat.zero_le _, hy⟩
end Go.Proofs.YtlefpllcgcicpaaGreatDoor
namespace Go.Proofs.YtlefpllcgcicpaaGreatDoor
open Go.Sx
set_option maxRecDepth 100000
set_option maxHeartbeats 4000000
theorem known16_spec (V : HProp) (hP : Ml V) : Tri Tryz.prog 15 [] [V] (fun v H' => v = .bool true ∧ H' = [V]) := by
  refine zu Tryz.func15 rfl Tryz.ntmps15 (by simp) ?_; refine zM (zK (zG rfl (zN rfl) rfl (zO (zI (zM ?_))))); refine zK (zR rfl (zg Tryz.call11 rfl rfl (by repeat (first | exact zS _ | apply zH 0 rfl | apply zH 1 rfl | apply zH 2 rfl | apply zH 3 rfl | apply zH 4 rfl | apply zH 5 rfl | apply zH 6 rfl | apply zH 7 rfl)) (fnew_spec)) rfl ?_); rintro _ H' ⟨_, ⟨mb, t, r, rfl, hn1, hn2, hW, rfl⟩, hH⟩; simp only [zA, zB, zC, zD, zE, zF] at hH; subst hH; obtain ⟨hs0, hhs0⟩ : ∃ z, z = List.replicate 256 Hd.zero := ⟨_, rfl⟩
  rw [← hhs0]; have hH0 : HsOk hs0 := by rw [hhs0]; exact hs0_ok
  have hz0 : ∀ s i, hdA hs0 s i = Hd.zero := fun s i => by rw [hhs0]; exact hdA_new s i
  obtain ⟨tb, htb⟩ : ∃ z, t.tb = z := ⟨_, rfl⟩
  rw [htb]; refine zG rfl (zN rfl) rfl (zO (zI (zM (zM (zK ?_))))); refine zG rfl (zL rfl) rfl (zG rfl (qF Tryz.underlying23 rfl rfl rfl) rfl (zO (zI (qA rfl ?_)))); refine zn ?_; refine zI ?_; refine yS 1005 (fun Δ LL => ∃ (t1 : Tr) (r1 : Nd) (b2 : Nat) (dpb2 : Option Addr) (dcb2 : Nat) (npb2 : Option Addr) (ncb2 : Nat), (G1 t1 r1 [97] [] ∧ t1.tb = tb ∧ t1.next ≤ 10 ∧ HsOk (hs0.set (0 * 16 + 0) (⟨true, 1, false, 2, none, 0, []⟩ : Hd))) ∧ Δ = [(2, .pointer (some ⟨b2, 0, none⟩))] ∧ LL = [own b2 (.cells ((⟨2, 0, [104, 48], [], [], At.zero⟩ : Rk).rep dpb2 dcb2 npb2 ncb2).cs.toArray 32 (0, 0)), oMa mb tb (hs0.set (0 * 16 + 0) (⟨true, 1, false, 2, none, 0, []⟩ : Hd)), tree t1, St ((hs0.set (0 * 16 + 0) (⟨true, 1, false, 2, none, 0, []⟩ : Hd)).map rowN), V]) (zT (k := 1) rfl (zh _)) ?_ ?_
  · refine zK (zG rfl (zL rfl) rfl (zG rfl (qT rfl (qJ (cs := (qAt 3 [97] 10).cs) st35 rfl)) rfl (zR rfl (zy (Pre := [_, _, _]) Tryz.call12 rfl rfl (by repeat (first | exact zS _ | apply zH 0 rfl | apply zH 1 rfl | apply zH 2 rfl | apply zH 3 rfl | apply zH 4 rfl | apply zH 5 rfl | apply zH 6 rfl | apply zH 7 rfl)) (do16K hW htb hH0 ((0 : Nat) : Int) (qAt 3 [97] 10) (qAt_ok (by decide) (by decide)) (Ml.pick (H := _) 0 rfl hP) (by omega) (show Vw _ _ 0 (cel []) from Vw.nil _))) rfl ?_))); rintro _ H' ⟨_, ⟨t9, hs9, k9, dp9, dc9, np9, nc9, rfl, hD9, hW9, htb9, hnx9, hH9, rfl⟩, hH⟩; simp only [zA, zB, zC, zD, zE, zF] at hH; subst hH; obtain ⟨r9, hG, _, hh, rfl⟩ := run_first (s := 0) hW hn1 hn2 (by decide) rfl (nm := [97]) rfl (by decide) rfl (by decide) (by decide) (by decide) (free_zero (by rw [hz0]; rfl)) hD9
    subst hh; rw [show hdlK 0 = (⟨2, 0, [104, 48], [], [], At.zero⟩ : Rk) from by unfold hdlK; rw [hname_one (by decide)]; rfl]; refine zR rfl (qL z32) rfl ?_; rintro _ _ ⟨b2, rfl, rfl⟩; refine zw rfl (zo 0 qM rfl rfl rfl rfl rfl (Nat.le_of_ble_eq_true rfl) (zi _)) rfl ?_; rintro _ _ rfl; simp only [zE, zF]; refine zO (zI (qg (qo ⟨t9, r9, b2, dp9, dc9, np9, nc9, ⟨hG, htb9, by omega, hH9⟩, rfl, rfl⟩ ?_ ?_ ?_)))
    · exact (by repeat (first | exact zh _ | refine zT rfl ?_))
    · exact (by repeat (first | exact zh _ | refine zT rfl ?_))
    · exact (zJ 0 rfl (zJ 2 rfl (zJ 2 rfl (zJ 2 rfl (zJ 2 rfl (zZ _))))))
  · rintro Δ LL ⟨t1, r1, b2, dpb2, dcb2, npb2, ncb2, ⟨hG1, htb1, hnx1, hH1⟩, rfl, rfl⟩; simp only [zA, zB]; refine yS 1006 (fun Δ LL => ∃ (t2 : Tr) (b3 : Nat) (dpb3 : Option Addr) (dcb3 : Nat) (npb3 : Option Addr) (ncb3 : Nat), (G1 t2 r1 [97] [104, 105] ∧ t2.tb = tb ∧ t2.next ≤ 20) ∧ Δ = [(3, .pointer (some ⟨b3, 0, none⟩))] ∧ LL = [own b3 (.cells ((Rk.stat 0 : Rk).rep dpb3 dcb3 npb3 ncb3).cs.toArray 32 (0, 0)), own b2 (.cells ((⟨2, 0, [104, 48], [], [], At.zero⟩ : Rk).rep dpb2 dcb2 npb2 ncb2).cs.toArray 32 (0, 0)), oMa mb tb (hs0.set (0 * 16 + 0) (⟨true, 1, false, 2, none, 0, []⟩ : Hd)), tree t2, St ((hs0.set (0 * 16 + 0) (⟨true, 1, false, 2, none, 0, []⟩ : Hd)).map rowN), V]) (zT (k := 1) rfl (zT (k := 2) rfl (zh _))) ?_ ?_
    · refine zK (zG rfl (zL rfl) rfl (zR rfl (ym rfl (sbld (cs := cel [104, 105]) [.int .u8 0, .int .u8 0] sl25 (by decide) (by kernel_rfl) rfl)) rfl ?_)); rintro _ _ ⟨b13, rfl, rfl⟩; refine zR rfl (eff_mark 0 Tryz.underlying25 Tryz.underlying5 rfl rfl rfl (by decide)) rfl ?_; rintro _ _ ⟨rfl, rfl⟩; simp only [zE, zF]; refine zG rfl (qT rfl (qJ (cs := (qWr [104, 48] (some ⟨b13, 0, none⟩) 2 [104, 105]).cs) st35 rfl)) rfl (zR rfl (zy (Pre := [_, _, _]) Tryz.call12 rfl rfl (by repeat (first | exact zS _ | apply zH 0 rfl | apply zH 1 rfl | apply zH 2 rfl | apply zH 3 rfl | apply zH 4 rfl | apply zH 5 rfl | apply zH 6 rfl | apply zH 7 rfl)) (do16K hG1.wf htb1 hH1 ((0 : Nat) : Int) (qWr [104, 48] (some ⟨b13, 0, none⟩) 2 [104, 105]) (qWr_ok (by decide)) (Ml.pick (H := _) 2 rfl hP) (by omega) (Vw.pick 0 rfl Vw.row))) rfl ?_); rintro _ H' ⟨_, ⟨t9, hs9, k9, dp9, dc9, np9, nc9, rfl, hD9, hW9, htb9, hnx9, hH9, rfl⟩, hH⟩; simp only [zA, zB, zC, zD, zE, zF] at hH; subst hH; have hA : hdA (hs0.set (0 * 16 + 0) (⟨true, 1, false, 2, none, 0, []⟩ : Hd)) 0 0 = (⟨true, 1, false, 2, none, 0, []⟩ : Hd) := by rw [hdA_set hH0.len (by decide) (by decide) (by decide) (by decide), if_pos ⟨rfl, rfl⟩]
      obtain ⟨hh, _, hw⟩ := run_write (s := 0) (i := 0) hG1 (by decide) rfl (find_zero (by rw [hA])) (by rw [hA]; exact ⟨rfl, rfl⟩) (by show 2 ≤ 32768; omega) (by show 0 + 2 ≤ 1048576; omega) (by show 0 + 2 ≤ 1048576; omega) hD9
      rw [if_neg (by rw [hA]; decide), hA] at hw; obtain ⟨rfl, hG⟩ := hw
      subst hh; refine zR rfl (qL z32) rfl ?_; rintro _ _ ⟨b3, rfl, rfl⟩; refine zw rfl (zo 0 qM rfl rfl rfl rfl rfl (Nat.le_of_ble_eq_true rfl) (zi _)) rfl ?_; rintro _ _ rfl; simp only [zE, zF]; refine zO (zI (qg (qo ⟨t9, b3, dp9, dc9, np9, nc9, ⟨hG, htb9, by omega⟩, rfl, rfl⟩ ?_ ?_ ?_)))
      · exact (by repeat (first | exact zh _ | refine zT rfl ?_))
      · exact (by repeat (first | exact zh _ | refine zT rfl ?_))
      · exact (zJ 0 rfl (zJ 6 rfl (zJ 2 rfl (zJ 2 rfl (zJ 2 rfl (zJ 3 rfl (zZ _)))))))
    · rintro Δ LL ⟨t2, b3, dpb3, dcb3, npb3, ncb3, ⟨hG2, htb2, hnx2⟩, rfl, rfl⟩; simp only [zA, zB]; refine yS 1007 (fun Δ LL => ∃ (hs2 : List Hd) (b4 : Nat) (dpb4 : Option Addr) (dcb4 : Nat) (npb4 : Option Addr) (ncb4 : Nat), (HsOk hs2) ∧ Δ = [(4, .pointer (some ⟨b4, 0, none⟩))] ∧ LL = [own b4 (.cells ((Rk.stat 0 : Rk).rep dpb4 dcb4 npb4 ncb4).cs.toArray 32 (0, 0)), own b3 (.cells ((Rk.stat 0 : Rk).rep dpb3 dcb3 npb3 ncb3).cs.toArray 32 (0, 0)), own b2 (.cells ((⟨2, 0, [104, 48], [], [], At.zero⟩ : Rk).rep dpb2 dcb2 npb2 ncb2).cs.toArray 32 (0, 0)), oMa mb tb hs2, tree t2, St (hs2.map rowN), V]) (zT (k := 1) rfl (zT (k := 2) rfl (zT (k := 3) rfl (zh _)))) ?_ ?_
      · refine zK (zG rfl (zL rfl) rfl (zG rfl (qT rfl (qJ (cs := (qOn 4 [104, 48] 0).cs) st35 rfl)) rfl (zR rfl (zy (Pre := [_, _, _]) Tryz.call12 rfl rfl (by repeat (first | exact zS _ | apply zH 0 rfl | apply zH 1 rfl | apply zH 2 rfl | apply zH 3 rfl | apply zH 4 rfl | apply zH 5 rfl | apply zH 6 rfl | apply zH 7 rfl)) (do16K hG2.wf htb2 hH1 ((0 : Nat) : Int) (qOn 4 [104, 48] 0) (qOn_ok (by decide)) (Ml.pick (H := _) 2 rfl hP) (by omega) (show Vw _ _ 0 (cel []) from Vw.nil _))) rfl ?_))); rintro _ H' ⟨_, ⟨t9, hs9, k9, dp9, dc9, np9, nc9, rfl, hD9, hW9, htb9, hnx9, hH9, rfl⟩, hH⟩; simp only [zA, zB, zC, zD, zE, zF] at hH; subst hH; have hA : hdA (hs0.set (0 * 16 + 0) (⟨true, 1, false, 2, none, 0, []⟩ : Hd)) 0 0 = (⟨true, 1, false, 2, none, 0, []⟩ : Hd) := by rw [hdA_set hH0.len (by decide) (by decide) (by decide) (by decide), if_pos ⟨rfl, rfl⟩]
        obtain ⟨ht, hcl⟩ := run_close (s := 0) (by decide) rfl hD9
        unfold closeR at hcl; rw [find_zero (by rw [hA])] at hcl; obtain ⟨hh, rfl⟩ := hcl
        obtain rfl : t2 = t9 := ht.symm
        refine zR rfl (qL z32) rfl ?_; rintro _ _ ⟨b4, rfl, rfl⟩; refine zw rfl (zo 0 qM rfl rfl rfl rfl rfl (Nat.le_of_ble_eq_true rfl) (zi _)) rfl ?_; rintro _ _ rfl; simp only [zE, zF]; refine zO (zI (qg (qo ⟨hs9, b4, dp9, dc9, np9, nc9, hH9, rfl, rfl⟩ ?_ ?_ ?_)))
        · exact (by repeat (first | exact zh _ | refine zT rfl ?_))
        · exact (by repeat (first | exact zh _ | refine zT rfl ?_))
        · exact (zJ 0 rfl (zJ 5 rfl (zJ 5 rfl (zJ 2 rfl (zJ 2 rfl (zJ 2 rfl (zJ 2 rfl (zZ _))))))))
      · rintro Δ LL ⟨hs2, b4, dpb4, dcb4, npb4, ncb4, hH2, rfl, rfl⟩; simp only [zA, zB]; refine yS 1008 (fun Δ LL => ∃ (a : At) (b5 : Nat) (dpb5 : Option Addr) (dcb5 : Nat) (npb5 : Option Addr) (ncb5 : Nat), (a.s = 2) ∧ Δ = [(5, .pointer (some ⟨b5, 0, none⟩))] ∧ LL = [own b5 (.cells ((⟨5, 0, [], [], [], a⟩ : Rk).rep dpb5 dcb5 npb5 ncb5).cs.toArray 32 (0, 0)), own b4 (.cells ((Rk.stat 0 : Rk).rep dpb4 dcb4 npb4 ncb4).cs.toArray 32 (0, 0)), own b3 (.cells ((Rk.stat 0 : Rk).rep dpb3 dcb3 npb3 ncb3).cs.toArray 32 (0, 0)), own b2 (.cells ((⟨2, 0, [104, 48], [], [], At.zero⟩ : Rk).rep dpb2 dcb2 npb2 ncb2).cs.toArray 32 (0, 0)), V]) (zT (k := 2) rfl (zT (k := 3) rfl (zT (k := 4) rfl (zh _)))) ?_ ?_
        · refine zK (zG rfl (zL rfl) rfl (zG rfl (qT rfl (qJ (cs := (qAt 17 [97] 0).cs) st35 rfl)) rfl (zR rfl (zy (Pre := [_, _, _]) Tryz.call12 rfl rfl (by repeat (first | exact zS _ | apply zH 0 rfl | apply zH 1 rfl | apply zH 2 rfl | apply zH 3 rfl | apply zH 4 rfl | apply zH 5 rfl | apply zH 6 rfl | apply zH 7 rfl)) (do16K hG2.wf htb2 hH2 ((0 : Nat) : Int) (qAt 17 [97] 0) (qAt_ok (by decide) (by decide)) (Ml.pick (H := _) 3 rfl hP) (by omega) (show Vw _ _ 0 (cel []) from Vw.nil _))) rfl ?_))); rintro _ H' ⟨_, ⟨t9, hs9, k9, dp9, dc9, np9, nc9, rfl, hD9, hW9, htb9, hnx9, hH9, rfl⟩, hH⟩; simp only [zA, zB, zC, zD, zE, zF] at hH; subst hH; obtain ⟨ht, hh, a, rfl, has⟩ := run_stat (s := 0) hG2 (by decide) rfl rfl hD9
          refine zR rfl (qL z32) rfl ?_; rintro _ _ ⟨b5, rfl, rfl⟩; refine zw rfl (zo 0 qM rfl rfl rfl rfl rfl (Nat.le_of_ble_eq_true rfl) (zi _)) rfl ?_; rintro _ _ rfl; simp only [zE, zF]; refine zO (zI (qg (qo ⟨a, b5, dp9, dc9, np9, nc9, has, rfl, rfl⟩ ?_ ?_ ?_)))
          · exact (by repeat (first | exact zh _ | refine zT rfl ?_))
          · exact (by repeat (first | exact zh _ | refine zT rfl ?_))
          · exact (zJ 0 rfl (zJ 5 rfl (zJ 5 rfl (zJ 5 rfl (zJ 5 rfl (zZ _))))))
        · rintro Δ LL ⟨a, b5, dpb5, dcb5, npb5, ncb5, has, rfl, rfl⟩; simp only [zA, zB]; refine zM (zK (zG rfl (zP fa32_0 rfl) rfl (zG rfl (zW sc3 rfl (Rd.pick 3 rfl (Rd.own rfl))) rfl (zG rfl (qH rfl rfl rfl) rfl (zG rfl (zL (v := .bool true) rfl) rfl ?_))))); refine zG rfl (zP fa32_2 rfl) rfl (zG rfl (zW sc9 rfl (Rd.pick 3 rfl (Rd.own rfl))) rfl (zG rfl (ro_eqlS rfl rfl (decide_eq_true rfl)) rfl (zG rfl (zr rfl rfl) rfl (zG rfl (zL (v := .bool true) rfl) rfl (zG rfl (zP fa32_0 rfl) rfl ?_))))); refine zG rfl (zW sc3 rfl (Rd.pick 2 rfl (Rd.own rfl))) rfl (zG rfl (qH rfl rfl rfl) rfl (zG rfl (zr rfl rfl) rfl (zG rfl (zL (v := .bool true) rfl) rfl (zG rfl (zP fa32_1 rfl) rfl (zG rfl (zW sc3 rfl (Rd.pick 2 rfl (Rd.own rfl))) rfl ?_))))); refine zG rfl (qH rfl rfl rfl) rfl (zG rfl (zr rfl rfl) rfl (zG rfl (zL (v := .bool true) rfl) rfl (zG rfl (zP fa32_0 rfl) rfl (zG rfl (zW sc3 rfl (Rd.pick 1 rfl (Rd.own rfl))) rfl (zG rfl (qH rfl rfl rfl) rfl ?_))))); refine zG rfl (zr rfl rfl) rfl (zG rfl (zL (v := .bool true) rfl) rfl (zG rfl (zP fa32_1 rfl) rfl (zG rfl (zW sc3 rfl (Rd.pick 1 rfl (Rd.own rfl))) rfl (zG rfl (qH rfl rfl rfl) rfl (zG rfl (zr rfl rfl) rfl ?_))))); refine zG rfl (zL (v := .bool true) rfl) rfl (zG rfl (zP fa32_0 rfl) rfl (zG rfl (zW sc3 rfl (Rd.pick 0 rfl (Rd.own rfl))) rfl (zG rfl (qH rfl rfl rfl) rfl (zG rfl (zr rfl rfl) rfl (zG rfl (zL (v := .bool true) rfl) rfl ?_))))); refine zG rfl (zP fa32_5 rfl) rfl (zG rfl (zP fa30_1 rfl) rfl (zG rfl (zW sc28 rfl (Rd.pick 0 rfl (Rd.own rfl))) rfl (zG rfl (qH rfl rfl rfl) rfl (zG rfl (zr rfl rfl) rfl (zG rfl (zN rfl) rfl ?_))))); refine zO (zI (zf ?_)); refine' zY (qd rfl rfl) ?_ ?_
          rotate_left 1
          exact ⟨by show Value.bool (decide ((a.s : Int) = 2)) = _; rw [decide_eq_true (by omega)], rfl⟩
          exact (zJ 4 rfl (zZ _))
end Go.Proofs.YtlefpllcgcicpaaGreatDoor
namespace Go.Proofs.YtlefpllcgcicpaaGreatDoor
open Go.Sx
set_option maxRecDepth 100000
set_option maxHeartbeats 4000000
/-- a session's handles that are used, of the first n -/
def opH (hs : List Hd) (s n : Nat) : List (List UInt8) := ((List.range n).filter fun i => (hdA hs s i).used).map hname
/-- a session's handles are dropped -/
def dropH (hs : List Hd) (s : Nat) : List Hd := hs.take (s * 16) ++ List.replicate 16 Hd.zero ++ hs.drop (s * 16 + 16)
end Go.Proofs.YtlefpllcgcicpaaGreatDoor
namespace Go.Proofs.YtlefpllcgcicpaaGreatDoor
open Go.Sx
set_option maxRecDepth 100000
set_option maxHeartbeats 4000000
theorem run_nameFields (d : Nat) (x y : Nm) (w : World) : (Op.eqFields (d+3) x.cs.toArray y.cs.toArray (Tryz.prog.fieldsOf 87).toList).run Tryz.prog w = .ok (decide (x = y)) w := by
  have h : decide (x = y) = (decide (str x.n = str y.n) && decide (x.at' = y.at')) := by
    cases x; cases y; simp only [Nm.mk.injEq, Bool.decide_and]
    congr 1
    simp only [decide_eq_decide]; exact ⟨fun h => by rw [h], str_inj⟩
  have hl : (Tryz.prog.fieldsOf 87).toList = [⟨ "Name", 9, 0, false, "", "", 0⟩, ⟨ "Attrs", 30, 1, false, "", "", 16⟩] := by kernel_rfl
  have e1 : ∀ (a b : ByteArray) (w : World), (Op.equalIn (d + 3) 9 (.string a) (.string b)).run Tryz.prog w = .ok (decide (a = b)) w := fun a b w => by rw [run_equalIn_string w (d + 2) 9 a b Tryz.underlying9, beqBytes]
  have p1 : ∀ z : Nm, z.cs.toArray[0]? = some (.string (str z.n)) := fun z => rfl
  have p2 : ∀ z : Nm, z.cs.toArray.extract 1 (1 + 7) = z.at'.cs.toArray := fun z => rfl
  rw [h, hl]; simp only [Op.eqFields, Sem.run_bind, Sem.run_ite, part, Tryz.isAgg9, Tryz.isAgg30, Tryz.sizeOf30, Result.andThen_ok, Bool.false_eq_true, if_false, if_true, p1, p2, Sem.run_pure, e1]; have e2 := fun w => run_attrEqIn (d + 1) x.at' y.at' w
  simp only [e2, Result.andThen_ok, Sem.run_bind, Sem.run_ite, Sem.run_pure]
  by_cases h1 : str x.n = str y.n <;> by_cases h2 : x.at' = y.at' <;> simp [h1, h2]
theorem run_nameEqIn (d : Nat) (x y : Nm) (w : World) : (Op.equalIn (d + 4) 87 (.agg x.cs.toArray) (.agg y.cs.toArray)).run Tryz.prog w = .ok (decide (x = y)) w := by
  rw [run_equalIn_agg w (d + 3) 87 _ _ (by kernel_rfl) (by kernel_rfl)]; exact run_nameFields d x y w
theorem run_nameNe (x y : Nm) (w : World) : (binOp .neq 87 (.agg x.cs.toArray) (.agg y.cs.toArray)).run Tryz.prog w = .ok (.bool (!decide (x = y))) w := by
  rw [run_neq_struct]; show ((Op.equalIn (9996 + 4) 87 _ _).run Tryz.prog w).andThen _ = _
  rw [run_nameEqIn]; rfl
theorem nameGuard (op : BinOp) (o1 o2 : Operand) (x y : Nm) (w : World) : (eqGuard op 87 o1 o2 (.agg x.cs.toArray) (.agg y.cs.toArray)).run Tryz.prog w = .ok () w := run_eqGuard_agg w op 87 o1 o2 _ _ (by kernel_rfl)
section
variable {n : Nat} {L : HProp} {Γ : Env} {d : Option Tmp} {ty : TypeId} {pos : String} {aft : Array Edge} {g : Option (Nat × Bool)}
theorem ro_nameNe {ty' : TypeId} {o1 o2 : Operand} {x y : Nm} {c : Bool} (hx : ev Γ o1 = some (.agg x.cs.toArray)) (hy : ev Γ o2 = some (.agg y.cs.toArray)) (hz : (!decide (x = y)) = c) : RO Tryz.prog n L Γ ⟨d, .binOp .neq 87 o1 o2 ty', ty, pos, aft, g⟩ (.bool c) := by
  subst hz; exact ro_cmpOf hx hy (fun w => nameGuard _ _ _ x y w) (fun w => run_nameNe x y w)
end
theorem knames_spec (V : HProp) (a b : List Nm) (p1 p2 : Option Addr) (c1 c2 : Nat) (h1 : Vw V (.slice p1 a.length c1) a.length (flat Nm.cs a)) (h2 : Vw V (.slice p2 b.length c2) b.length (flat Nm.cs b)) (hl : a.length ≤ 140737488355328) :
    Tri Tryz.prog 22 [.slice p1 a.length c1, .slice p2 b.length c2] [V] (fun v H' => ∃ K, (v = .bool (decide (a = b)) ∧ K = []) ∧ H' = K ++ [V]) := by
  refine zu Tryz.func22 rfl Tryz.ntmps22 (by simp) ?_; refine zM (zK (zG rfl (zN rfl) rfl (zO (zI (zM ?_))))); refine zM (zK (zG rfl (zL rfl) rfl (zG rfl (zp Tryz.underlying26 rfl) rfl (zG rfl (zL rfl) rfl (zG rfl (zp Tryz.underlying26 rfl) rfl ?_))))); refine zG rfl (qb rfl rfl rfl) rfl (zO (zI (zt rfl (fun hc10 => ?_) (fun hc10 => ?_))))
  · replace hc10 := of_decide_eq_true hc10
    refine zM (zK (zG rfl (zN rfl) rfl (zO (zI (zf ?_))))); refine zb ?_; refine' zY (qd rfl rfl) ?_ ?_
    rotate_left 1
    exact ⟨_, ⟨by rw [decide_eq_false (fun h => by rw [h] at hc10; exact hc10 rfl)], rfl⟩, rfl⟩
    exact zm _
  · replace hc10 := of_decide_eq_false hc10
    refine zn ?_; refine zI (zM (zM (zK (zG rfl (zN rfl) rfl (zO ?_))))); refine zI (zx ?_); refine yI 4 (fun m Δ LL => ∃ (i : Nat), (i + m = a.length ∧ a.length = b.length ∧ a.take i = b.take i) ∧ Δ = [(5, .int .i64 (i : Nat))] ∧ LL = [V]) (m := a.length) (zT (k := 0) rfl (zT (k := 1) rfl (zh _))) (qo ⟨0, ⟨by omega, by omega, by simp⟩, rfl, rfl⟩ (by repeat (first | exact zh _ | refine zT rfl ?_)) (by repeat (first | exact zh _ | refine zT rfl ?_)) (by repeat (first | exact zZ _ | refine zJ 0 rfl ?_ | refine zJ 1 rfl ?_ | refine zJ 2 rfl ?_ | refine zJ 3 rfl ?_ | refine zJ 4 rfl ?_ | refine zJ 5 rfl ?_ | refine zJ 6 rfl ?_ | refine zJ 7 rfl ?_ | refine SubH.rown ?_))) ?_; rintro m Δ LL ⟨i, ⟨hm, hab, ht⟩, rfl, rfl⟩; simp only [zA, zB]; refine zM (zM (zK (zG rfl (zL rfl) rfl (zG rfl (zL rfl) rfl (zG rfl (zp Tryz.underlying26 rfl) rfl ?_))))); refine zG rfl (yD rfl rfl rfl) rfl (zO (zI (zt rfl (fun hc14 => ?_) (fun hc14 => ?_))))
    · replace hc14 := of_decide_eq_true hc14
      have hi : i < a.length := by omega
      have hj : i < b.length := by omega
      refine yJ (fun w F s => yu (Vw.pick (H := [V]) 0 rfl h1) s (by omega)) ?_; rintro ⟨b1, o1, rfl⟩; refine yJ (fun w F s => yu (Vw.pick (H := [V]) 0 rfl h2) s (by omega)) ?_; rintro ⟨b2, o2, rfl⟩; refine zn ?_; refine zI (zM (zx ?_)); refine zM (qX 9 (by kernel_rfl) (Split.all _) ?_); refine zQ (i := 0) (by kernel_rfl) rfl rfl (zL rfl) rfl (fun _ _ _ h => h) ?_; refine zQ (i := 1) (by kernel_rfl) rfl rfl (zL rfl) rfl (fun _ _ _ h => h) ?_; refine zQ (i := 2) (by kernel_rfl) rfl rfl (qN sl26 rfl rfl rfl (by omega)) rfl (fun _ _ _ h => h) ?_; refine zQ (i := 3) (by kernel_rfl) rfl rfl (qc ag87 rfl (RdN.of_pick 0 rfl (RdN.elem (y5 h1) Nm.len (List.getElem?_eq_getElem hi))) rfl) rfl (fun _ _ _ h => h) ?_; refine zQ (i := 4) (by kernel_rfl) rfl rfl (zL rfl) rfl (fun _ _ _ h => h) ?_; refine zQ (i := 5) (by kernel_rfl) rfl rfl (zL rfl) rfl (fun _ _ _ h => h) ?_; refine zQ (i := 6) (by kernel_rfl) rfl rfl (qN sl26 rfl rfl rfl (by omega)) rfl (fun _ _ _ h => h) ?_; refine zQ (i := 7) (by kernel_rfl) rfl rfl (qc ag87 rfl (RdN.of_pick 0 rfl (RdN.elem (y5 h2) Nm.len (List.getElem?_eq_getElem hj))) rfl) rfl (fun _ _ _ h => h) ?_; refine zQ (i := 8) (by kernel_rfl) rfl rfl (ro_nameNe rfl rfl rfl) rfl (fun _ _ _ h => h) ?_; refine yl (by kernel_rfl) ?_; refine zI (zt rfl (fun hc25 => ?_) (fun hc25 => ?_))
      · simp only [Bool.and_eq_true, decide_eq_true_eq, Bool.not_eq_true', decide_eq_false_iff_not, bne_iff_ne, ne_eq] at hc25
        replace hc25 : a[i] ≠ b[i] := by simpa using hc25
        refine zM (zK (zG rfl (zN rfl) rfl (zO (zI (zf ?_))))); refine zj ?_; refine zb ?_; refine zb ?_; refine zj ?_; refine zb ?_; refine' zY (qd rfl rfl) ?_ ?_
        rotate_left 1
        exact ⟨_, ⟨by rw [decide_eq_false (fun h => by subst h; exact hc25 rfl)], rfl⟩, rfl⟩
        exact zm _
      · simp only [Bool.and_eq_false_iff, decide_eq_false_iff_not, Bool.not_eq_false', decide_eq_true_eq] at hc25
        replace hc25 : a[i] = b[i] := by simpa using hc25
        refine zn ?_; refine zV ?_; refine zI (zK (zG rfl (zL rfl) rfl (zG rfl (qn rfl rfl (qk (by omega))) rfl (zG rfl (zN rfl) rfl (zO ?_))))); refine zI (back (m - 1) (by omega) (qo ⟨i + 1, ⟨by omega, hab, by rw [List.take_succ_eq_append_getElem hi, List.take_succ_eq_append_getElem hj, ht, hc25]⟩, rfl, rfl⟩ ?_ ?_ ?_))
        · exact (by repeat (first | exact zh _ | refine zT rfl ?_))
        · exact (by repeat (first | exact zh _ | refine zT rfl ?_))
        · exact zm _
    · replace hc14 := of_decide_eq_false hc14
      refine yG ?_; refine qP ?_; refine qP ?_; refine qe ?_; refine zI (zM (zK (zG rfl (zN rfl) rfl (zO (zI ?_))))); refine zf ?_; refine' zY (qd rfl rfl) ?_ ?_
      rotate_left 1
      exact ⟨_, ⟨by rw [decide_eq_true (by rw [List.take_of_length_le (by omega), List.take_of_length_le (by omega)] at ht; exact ht)], rfl⟩, rfl⟩
      exact zm _
end Go.Proofs.YtlefpllcgcicpaaGreatDoor
namespace Go.Proofs.YtlefpllcgcicpaaGreatDoor
open Go.Sx
set_option maxRecDepth 100000
set_option maxHeartbeats 4000000
/-- all is told of all; the root has no name -/
structure F15 (t : Tr) (r : Nd) : Prop where
  f : ∀ u ∈ t.ns, u.a.f = 15
  rn : r.name = []
/-- the document's tree that has the same -/
def twin (t : Tr) : Rt := { tb := 0, p := none, c := 0, L := t.ns.map fun x => ⟨x.id, x.par, x.name, x.dir, none, 0, x.data, x.a⟩, next := t.next }
theorem twin_rel {t : Tr} {r : Nd} (h : F15 t r) (hW : Wf t r := by assumption) : RelW t (twin t) := by
  refine ⟨?_, rfl, fun y hy => ?_, fun y hy h0 => ?_⟩
  · show (t.ns.map Nd.co).Perm ((t.ns.map _).map Th.co)
    rw [List.map_map]; exact List.Perm.of_eq rfl
  · obtain ⟨x, hx, rfl⟩ := List.mem_map.1 hy
    exact h.f x hx
  · obtain ⟨x, hx, rfl⟩ := List.mem_map.1 hy
    have : x = r := nmId hW.ids hx hW.root (by rw [hW.rid]; exact h0)
    show x.name = []
    rw [this]; exact h.rn
theorem fnewc_spec : Tri Tryz.prog 11 [] [] (fun v H' => ∃ mb t b, v = .pointer (some ⟨mb, 0, none⟩) ∧ t.ns = [root0 b] ∧ t.next = 1 ∧ Wf t (root0 b) ∧ H' = [oMa mb t.tb (List.replicate 256 Hd.zero), tree t, St ((List.replicate 256 Hd.zero).map rowN)]) := by
  refine zu Tryz.func11 rfl Tryz.ntmps11 (by simp) ?_; refine zM (zK (zG rfl (zN rfl) rfl (zO (zI (zM ?_))))); refine zK (zR rfl (zg Tryz.call27 rfl rfl (by repeat (first | exact zS _ | apply zH 0 rfl | apply zH 1 rfl | apply zH 2 rfl | apply zH 3 rfl | apply zH 4 rfl | apply zH 5 rfl | apply zH 6 rfl | apply zH 7 rfl)) (newc_spec)) rfl ?_); rintro _ H' ⟨_, ⟨t, b, rfl, hn1, hn2, hW, rfl⟩, hH⟩; simp only [zA, zB, zC, zD, zE, zF] at hH; subst hH; refine zG rfl (qT rfl (qJ (cs := .pointer (some ⟨t.tb, 0, none⟩) :: flat Hd.cs (List.replicate 256 Hd.zero)) st71 (by kernel_rfl))) rfl (zR rfl (qj rfl) rfl ?_); rintro _ _ ⟨b3, rfl, rfl⟩; refine zG rfl (zN rfl) rfl (zO (qC (fun w F sw => rows_new 256 sw) ?_)); refine zf ?_; refine' zY (qd rfl rfl) ?_ ?_
  rotate_left 1
  exact ⟨b3, t, b, rfl, hn1, hn2, hW, rfl⟩
  exact (zJ 1 rfl (zJ 1 rfl (zJ 0 rfl (zZ _))))
theorem ftree_spec {V : HProp} {mb tb : Nat} {t : Tr} {hs : List Hd} (hM : Mq V mb tb t hs) {r : Nd} (hW : Wf t r) (hF : F15 t r) (hnx : t.next ≤ 9223372036854775807) : Tri Tryz.prog 20 [.pointer (some ⟨mb, 0, none⟩)] [V] (fun v H' => ∃ K, (∃ t2 r2, v = t2.v ∧ Wf t2 r2 ∧ RelW t2 (twin t) ∧ K = [tree t2]) ∧ H' = K ++ [V]) := by
  refine zu Tryz.func20 rfl Tryz.ntmps20 (by simp) ?_; refine zM (zK (zG rfl (zN rfl) rfl (zO (zI (zM ?_))))); refine zK (zG rfl (zL rfl) rfl (zG rfl (zU rfl) rfl (zG rfl (zP yO rfl) rfl (zG rfl (zW sc51 rfl (Rd.pick 0 rfl (hM.pt))) rfl (zR rfl (zy (Pre := []) Tryz.call44 rfl rfl (zS _) (qi hM.tb (save_spec (Tv.pick 0 rfl hM.tv) hW hnx))) rfl ?_))))); rintro _ H' ⟨_, ⟨sb, p10, c10, rfl, hS, hsl, rfl⟩, hH⟩; simp only [zA, zB, zC, zD, zE, zF] at hH; subst hH; refine zR rfl (zy (Pre := []) Tryz.call43 rfl rfl (zS _) (load_spec _ _ sb (Vw.pick 0 rfl Vw.row) (by omega))) rfl ?_; rintro _ H' ⟨_, ⟨o, rfl, ho, ho2, rfl⟩, hH⟩; simp only [zA, zB, zC, zD, zE, zF] at hH; subst hH; obtain ⟨s, rfl⟩ := ho2 t r hW hnx hS
  obtain ⟨hW2, hS2, hn2, hf2, hm2⟩ := ho s rfl
  have hrel := rel_load hW (twin_rel hF) hnx hS hW2 hS2 hn2 hf2 hm2
  simp only [Option.map_some, Option.isSome_some, if_true]; refine zG rfl (zL rfl) rfl (zG rfl (zv rfl rfl) rfl (zG rfl (zv rfl rfl) rfl (zG rfl (zN rfl) rfl (zG rfl (zN rfl) rfl (zO ?_))))); refine zI (zM (q8 (L := [tree s.1, V]) (zJ 0 rfl (zJ 1 rfl (zZ _))) ?_)); refine zK (zG rfl (zL rfl) rfl (zG rfl (zN rfl) rfl (zO (zI (zf ?_))))); refine' zY (qd rfl rfl) ?_ ?_
  rotate_left 1
  exact ⟨[tree s.1], ⟨s.1, s.2, rfl, hW2, hrel, rfl⟩, rfl⟩
  exact zm _
end Go.Proofs.YtlefpllcgcicpaaGreatDoor
namespace Go.Proofs.YtlefpllcgcicpaaGreatDoor
open Go.Sx
set_option maxRecDepth 100000
set_option maxHeartbeats 4000000
def tmA (a : At) : At := if a.f &&& 1 ≠ 0 then { a with s := a.s % 300 } else a
def tmQ (q : Qr) (p : Option Addr) (c : Nat) : Qr := ⟨q.kind, q.path.take 60, q.dest.take 60, q.handle.take 5, q.off % 300, q.len, p, c, q.data.take 100, q.flags, tmA q.a⟩
def sm7 : List (List UInt8) := [[97], [98], [97, 47, 98], [97, 47, 99], [47], [98, 47, 46, 46, 47, 97], [99]]
def sm4 : List (List UInt8) := [[104, 48], [104, 49], [104, 50], [120]]
end Go.Proofs.YtlefpllcgcicpaaGreatDoor
namespace Go.Proofs.YtlefpllcgcicpaaGreatDoor
open Go.Sx
set_option maxRecDepth 100000
set_option maxHeartbeats 4000000
def mine : List UInt8 := [109, 105, 110, 101]
/-- the file of number 1 is as it was -/
def Kept1 (t : Tr) (c : Co) : Prop := ∃ u ∈ t.ns, u.co = c
section
variable {t t' : Tr} {r r' : Nd} {c : Co} {e id : Int} {p : List (List UInt8)}
end
/-- other sessions' handles lead elsewhere; the fifth has one -/
structure Ses (hs : List Hd) : Prop where
  ok : HsOk hs
  h0 : hdA hs 5 0 = ⟨true, 1, false, 3, none, 0, []⟩
  no : ∀ j, 0 < j → j < 16 → (hdA hs 5 j).used = false
  el : ∀ s j, s < 5 → j < 16 → (hdA hs s j).used = true → (hdA hs s j).id ≠ 1
theorem Ses.set {hs : List Hd} (h : Ses hs) {s i : Nat} {y : Hd} (h5 : s < 5) (hi : i < 16) (hy : HdP y) (hyi : y.used = true → y.id ≠ 1) : Ses (hs.set (s * 16 + i) y) :=
  ⟨h.ok.set hy, by rw [hdA_set h.ok.len (by omega) hi (by omega) (by omega), if_neg (by omega)]; exact h.h0,
   fun j h1 h2 => by rw [hdA_set h.ok.len (by omega) hi h2 (by omega), if_neg (by omega)]; exact h.no j h1 h2,
   fun s2 j h1 h2 h3 => by
    rw [hdA_set h.ok.len (by omega) hi h2 (by omega)] at h3 ⊢
    split
    · rename_i h4; rw [if_pos h4] at h3; exact hyi h3
    · rename_i h4; rw [if_neg h4] at h3; exact h.el s2 j h1 h2 h3⟩
end Go.Proofs.YtlefpllcgcicpaaGreatDoor
