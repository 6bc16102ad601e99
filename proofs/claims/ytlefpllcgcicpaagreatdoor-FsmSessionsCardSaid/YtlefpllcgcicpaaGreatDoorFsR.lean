/-
  Law 16: Title; what requests are.
  Law 16: known.
-/
import Derived.Test.YtlefpllcgcicpaaGreatDoorFsS
import Derived.Test.YtlefpllcgcicpaaGreatDoorSxRune
import Derived.Test.YtlefpllcgcicpaaGreatDoorSxFork
namespace Go.Proofs.YtlefpllcgcicpaaGreatDoor
open Go.Sx
set_option linter.unusedVariables false
set_option linter.unusedSimpArgs false
set_option maxRecDepth 100000
set_option maxHeartbeats 4000000

theorem hname_one {n : Nat} (h : n < 10) : hname n = [104, UInt8.ofNat (48 + n)] := by unfold hname; rw [Go.Lib.decDigits_one h]
theorem do16K {V : HProp} {mb tb : Nat} {t : Tr} {hs : List Hd} {r : Nd} (hW : Wf t r) (htb : t.tb = tb) (hH : HsOk hs) (s : Int) (q : Qr) (hq : q.Ok) (hP : Ml V) (hnx : t.next ≤ 9223372036854775806) (hD : Vw V (.slice q.dp q.data.length q.dc) q.data.length (cel q.data)) : Tri Tryz.prog 12 [.pointer (some ⟨mb, 0, none⟩), .int .i64 s, q.v] [oMa mb tb hs, tree t, St (hs.map rowN), V]
    (fun v H' => ∃ K, (∃ t' hs' k dp dc np nc, v = (k.rep dp dc np nc).v ∧ doR t r hs s q t' hs' k ∧ (∃ r', Wf t' r') ∧ t'.tb = tb ∧ t'.next ≤ t.next + 1 ∧ HsOk hs' ∧ K = [rowD dp dc k.data, rowNm np nc k.names, oMa mb tb hs', tree t', St (hs'.map rowN)]) ∧ H' = K ++ [V]) := by
  refine tri_post (do16_spec hW htb hH s q hq hP hnx hD) ?_
  rintro v H' ⟨t', hs', k, dp, dc, np, nc, h1, h2, h3, h4, h5, h6, h7⟩
  exact ⟨_, ⟨t', hs', k, dp, dc, np, nc, h1, h2, h3, h4, h5, h6, rfl⟩, h7⟩
abbrev qAt (k : Int) (p : List UInt8) (f : Nat) : Qr := ⟨k, p, [], [], 0, 0, none, 0, [], f, At.zero⟩
abbrev qOn (k : Int) (h : List UInt8) (n : Nat) : Qr := ⟨k, [], [], h, 0, n, none, 0, [], 0, At.zero⟩
abbrev qWr (h : List UInt8) (dp : Option Addr) (dc : Nat) (y : List UInt8) : Qr := ⟨6, [], [], h, 0, 0, dp, dc, y, 0, At.zero⟩
theorem qAt_ok {k : Int} {p : List UInt8} {f : Nat} (hp : p.length ≤ 1000) (hf : f < 4294967296) : (qAt k p f).Ok := ⟨(by show (0 : Nat) < _; omega), (by show (0 : Nat) < _; omega), hf, At.zero_ok, (by show p.length ≤ _; omega), Nat.zero_le _, Nat.zero_le _⟩
theorem qOn_ok {k : Int} {h : List UInt8} {n : Nat} (hn : n < 4294967296) : (qOn k h n).Ok := ⟨(by show (0 : Nat) < _; omega), hn, (by show (0 : Nat) < _; omega), At.zero_ok, Nat.zero_le _, Nat.zero_le _, Nat.zero_le _⟩
theorem qWr_ok {h : List UInt8} {dp : Option Addr} {dc : Nat} {y : List UInt8} (hy : y.length ≤ 1000000) : (qWr h dp dc y).Ok := ⟨(by show (0 : Nat) < _; omega), (by show (0 : Nat) < _; omega), (by show (0 : Nat) < _; omega), At.zero_ok, Nat.zero_le _, Nat.zero_le _, hy⟩

end Go.Proofs.YtlefpllcgcicpaaGreatDoor
namespace Go.Proofs.YtlefpllcgcicpaaGreatDoor
open Go.Sx
set_option linter.unusedVariables false
set_option linter.unusedSimpArgs false
set_option maxRecDepth 100000
set_option maxHeartbeats 4000000

theorem known16_spec (V : HProp) (hP : Ml V) : Tri Tryz.prog 15 [] [V] (fun v H' => v = .bool true ∧ H' = [V]) := by
  refine tri_of_wpS Tryz.func15 rfl Tryz.ntmps15 (by simp) ?_
  refine wp_seq' ?_
  refine wp_region' ?_
  refine ops_ro' rfl (ro_assign rfl) rfl ?_
  refine ops_nil ?_
  refine Then_normal ?_
  refine wp_seq' ?_
  refine wp_region' ?_
  refine ops_eff' rfl (eff_call Tryz.call11 rfl rfl (by repeat (first | exact Split.nil _ | apply Split.cons 0 rfl | apply Split.cons 1 rfl | apply Split.cons 2 rfl | apply Split.cons 3 rfl | apply Split.cons 4 rfl | apply Split.cons 5 rfl | apply Split.cons 6 rfl | apply Split.cons 7 rfl | apply Split.cons 8 rfl | apply Split.cons 9 rfl | apply Split.cons 10 rfl | apply Split.cons 11 rfl)) (fnew_spec)) rfl ?_
  rintro _ H' ⟨_, ⟨mb, t, r, rfl, hn1, hn2, hW, rfl⟩, hH⟩
  simp only [List.cons_append, List.nil_append, List.eraseIdx_cons_zero, List.eraseIdx_cons_succ, List.set_cons_zero, List.set_cons_succ] at hH
  subst hH
  obtain ⟨hs0, hhs0⟩ : ∃ z, z = List.replicate 256 Hd.zero := ⟨_, rfl⟩
  rw [← hhs0]
  have hH0 : HsOk hs0 := by rw [hhs0]; exact hs0_ok
  have hz0 : ∀ s i, hdA hs0 s i = Hd.zero := fun s i => by rw [hhs0]; exact hdA_new s i
  obtain ⟨tb, htb⟩ : ∃ z, t.tb = z := ⟨_, rfl⟩
  rw [htb]
  refine ops_ro' rfl (ro_assign rfl) rfl ?_
  refine ops_nil ?_
  refine Then_normal ?_
  refine wp_seq' ?_
  refine wp_seq' ?_
  refine wp_region' ?_
  refine ops_ro' rfl (ro_move rfl) rfl ?_
  refine ops_ro' rfl (ro_ptrEqlNil Tryz.underlying23 rfl rfl rfl) rfl ?_
  refine ops_nil ?_
  refine Then_normal ?_
  refine wp_condF rfl ?_
  refine wp_skip' ?_
  refine Then_normal ?_
  refine wp_cutK 1005 (fun Δ LL => ∃ (t1 : Tr) (r1 : Nd) (b2 : Nat) (dpb2 : Option Addr) (dcb2 : Nat) (npb2 : Option Addr) (ncb2 : Nat), (G1 t1 r1 [97] [] ∧ t1.tb = tb ∧ t1.next ≤ 10 ∧ HsOk (hs0.set (0 * 16 + 0) (⟨true, 1, false, 2, none, 0, []⟩ : Hd))) ∧ Δ = [(2, .pointer (some ⟨b2, 0, none⟩))] ∧ LL = [own b2 (.cells ((⟨2, 0, [104, 48], [], [], At.zero⟩ : Rk).rep dpb2 dcb2 npb2 ncb2).cs.toArray 32 (0, 0)), oMa mb tb (hs0.set (0 * 16 + 0) (⟨true, 1, false, 2, none, 0, []⟩ : Hd)), tree t1, St ((hs0.set (0 * 16 + 0) (⟨true, 1, false, 2, none, 0, []⟩ : Hd)).map rowN), V]) (Has.cons (k := 1) rfl (Has.nil _)) ?_ ?_
  · refine wp_region' ?_
    refine ops_ro' rfl (ro_move rfl) rfl ?_
    refine ops_ro' rfl (ro_build rfl (bld_struct (cs := (qAt 3 [97] 10).cs) st35 rfl)) rfl ?_
    refine ops_eff' rfl (eff_callM (Pre := [_, _, _]) Tryz.call12 rfl rfl (by repeat (first | exact Split.nil _ | apply Split.cons 0 rfl | apply Split.cons 1 rfl | apply Split.cons 2 rfl | apply Split.cons 3 rfl | apply Split.cons 4 rfl | apply Split.cons 5 rfl | apply Split.cons 6 rfl | apply Split.cons 7 rfl | apply Split.cons 8 rfl | apply Split.cons 9 rfl | apply Split.cons 10 rfl | apply Split.cons 11 rfl)) (do16K hW htb hH0 ((0 : Nat) : Int) (qAt 3 [97] 10) (qAt_ok (by decide) (by decide)) (by first | exact Ml.pick (H := _) 0 rfl hP | exact Ml.pick (H := _) 1 rfl hP | exact Ml.pick (H := _) 2 rfl hP | exact Ml.pick (H := _) 3 rfl hP | exact Ml.pick (H := _) 4 rfl hP | exact Ml.pick (H := _) 5 rfl hP | exact Ml.pick (H := _) 6 rfl hP | exact Ml.pick (H := _) 7 rfl hP | exact Ml.pick (H := _) 8 rfl hP) (by omega) (show Vw _ _ 0 (cel []) from Vw.nil _))) rfl ?_
    rintro _ H' ⟨_, ⟨t9, hs9, k9, dp9, dc9, np9, nc9, rfl, hD9, hW9, htb9, hnx9, hH9, rfl⟩, hH⟩
    simp only [List.cons_append, List.nil_append, List.eraseIdx_cons_zero, List.eraseIdx_cons_succ, List.set_cons_zero, List.set_cons_succ] at hH
    subst hH
    obtain ⟨r9, hG, _, hh, rfl⟩ := run_first (s := 0) hW hn1 hn2 (by decide) rfl (nm := [97]) rfl (by decide) rfl (by decide) (by decide) (by decide) (free_zero (by rw [hz0]; rfl)) hD9
    subst hh
    rw [show hdlK 0 = (⟨2, 0, [104, 48], [], [], At.zero⟩ : Rk) from by unfold hdlK; rw [hname_one (by decide)]; rfl]
    refine ops_eff' rfl (eff_alloc z32) rfl ?_
    rintro _ _ ⟨b2, rfl, rfl⟩
    refine ops_eff0 rfl (eff_storeA 0 ag32 rfl rfl rfl rfl rfl (Nat.le_of_ble_eq_true rfl) (warm_zero _)) rfl ?_
    rintro _ _ rfl
    simp only [List.set_cons_zero, List.set_cons_succ]
    refine ops_nil ?_
    refine Then_normal ?_
    refine over_cut (kept ⟨t9, r9, b2, dp9, dc9, np9, nc9, ⟨hG, htb9, by omega, hH9⟩, rfl, rfl⟩ ?_ ?_ ?_)
    · exact (by repeat (first | exact Has.nil _ | refine Has.cons rfl ?_))
    · exact (by repeat (first | exact Has.nil _ | refine Has.cons rfl ?_))
    · exact (SubH.cons 0 rfl (SubH.cons 2 rfl (SubH.cons 2 rfl (SubH.cons 2 rfl (SubH.cons 2 rfl (SubH.nil _))))))
  · rintro Δ LL ⟨t1, r1, b2, dpb2, dcb2, npb2, ncb2, ⟨hG1, htb1, hnx1, hH1⟩, rfl, rfl⟩
    simp only [List.cons_append, List.nil_append]
    refine wp_cutK 1006 (fun Δ LL => ∃ (t2 : Tr) (b3 : Nat) (dpb3 : Option Addr) (dcb3 : Nat) (npb3 : Option Addr) (ncb3 : Nat), (G1 t2 r1 [97] [104, 105] ∧ t2.tb = tb ∧ t2.next ≤ 20) ∧ Δ = [(3, .pointer (some ⟨b3, 0, none⟩))] ∧ LL = [own b3 (.cells ((Rk.stat 0 : Rk).rep dpb3 dcb3 npb3 ncb3).cs.toArray 32 (0, 0)), own b2 (.cells ((⟨2, 0, [104, 48], [], [], At.zero⟩ : Rk).rep dpb2 dcb2 npb2 ncb2).cs.toArray 32 (0, 0)), oMa mb tb (hs0.set (0 * 16 + 0) (⟨true, 1, false, 2, none, 0, []⟩ : Hd)), tree t2, St ((hs0.set (0 * 16 + 0) (⟨true, 1, false, 2, none, 0, []⟩ : Hd)).map rowN), V]) (Has.cons (k := 1) rfl (Has.cons (k := 2) rfl (Has.nil _))) ?_ ?_
    · refine wp_region' ?_
      refine ops_ro' rfl (ro_move rfl) rfl ?_
      refine ops_eff' rfl (eff_buildSlice rfl (sbld (cs := cel [104, 105]) [.int .u8 0, .int .u8 0] sl25 (by decide) (by kernel_rfl) rfl)) rfl ?_
      rintro _ _ ⟨b13, rfl, rfl⟩
      refine ops_eff' rfl (eff_mark 0 Tryz.underlying25 Tryz.underlying5 rfl rfl rfl (by decide)) rfl ?_
      rintro _ _ ⟨rfl, rfl⟩
      simp only [List.set_cons_zero, List.set_cons_succ]
      refine ops_ro' rfl (ro_build rfl (bld_struct (cs := (qWr [104, 48] (some ⟨b13, 0, none⟩) 2 [104, 105]).cs) st35 rfl)) rfl ?_
      refine ops_eff' rfl (eff_callM (Pre := [_, _, _]) Tryz.call12 rfl rfl (by repeat (first | exact Split.nil _ | apply Split.cons 0 rfl | apply Split.cons 1 rfl | apply Split.cons 2 rfl | apply Split.cons 3 rfl | apply Split.cons 4 rfl | apply Split.cons 5 rfl | apply Split.cons 6 rfl | apply Split.cons 7 rfl | apply Split.cons 8 rfl | apply Split.cons 9 rfl | apply Split.cons 10 rfl | apply Split.cons 11 rfl)) (do16K hG1.wf htb1 hH1 ((0 : Nat) : Int) (qWr [104, 48] (some ⟨b13, 0, none⟩) 2 [104, 105]) (qWr_ok (by decide)) (by first | exact Ml.pick (H := _) 0 rfl hP | exact Ml.pick (H := _) 1 rfl hP | exact Ml.pick (H := _) 2 rfl hP | exact Ml.pick (H := _) 3 rfl hP | exact Ml.pick (H := _) 4 rfl hP | exact Ml.pick (H := _) 5 rfl hP | exact Ml.pick (H := _) 6 rfl hP | exact Ml.pick (H := _) 7 rfl hP | exact Ml.pick (H := _) 8 rfl hP) (by omega) (by first | exact Vw.pick 0 rfl Vw.row | exact Vw.pick 1 rfl Vw.row | exact Vw.pick 2 rfl Vw.row | exact Vw.pick 3 rfl Vw.row | exact Vw.pick 4 rfl Vw.row | exact Vw.pick 5 rfl Vw.row | exact Vw.pick 6 rfl Vw.row | exact Vw.pick 7 rfl Vw.row | exact Vw.pick 8 rfl Vw.row | exact Vw.nil _ | exact Vw.empty _ _))) rfl ?_
      rintro _ H' ⟨_, ⟨t9, hs9, k9, dp9, dc9, np9, nc9, rfl, hD9, hW9, htb9, hnx9, hH9, rfl⟩, hH⟩
      simp only [List.cons_append, List.nil_append, List.eraseIdx_cons_zero, List.eraseIdx_cons_succ, List.set_cons_zero, List.set_cons_succ] at hH
      subst hH
      have hA : hdA (hs0.set (0 * 16 + 0) (⟨true, 1, false, 2, none, 0, []⟩ : Hd)) 0 0 = (⟨true, 1, false, 2, none, 0, []⟩ : Hd) := by rw [hdA_set hH0.len (by decide) (by decide) (by decide) (by decide), if_pos ⟨rfl, rfl⟩]
      obtain ⟨hh, _, hw⟩ := run_write (s := 0) (i := 0) hG1 (by decide) rfl (find_zero (by rw [hA])) (by rw [hA]; exact ⟨rfl, rfl⟩) (by show 2 ≤ 32768; omega) (by show 0 + 2 ≤ 1048576; omega) (by show 0 + 2 ≤ 1048576; omega) hD9
      rw [if_neg (by rw [hA]; decide), hA] at hw
      obtain ⟨rfl, hG⟩ := hw
      subst hh
      refine ops_eff' rfl (eff_alloc z32) rfl ?_
      rintro _ _ ⟨b3, rfl, rfl⟩
      refine ops_eff0 rfl (eff_storeA 0 ag32 rfl rfl rfl rfl rfl (Nat.le_of_ble_eq_true rfl) (warm_zero _)) rfl ?_
      rintro _ _ rfl
      simp only [List.set_cons_zero, List.set_cons_succ]
      refine ops_nil ?_
      refine Then_normal ?_
      refine over_cut (kept ⟨t9, b3, dp9, dc9, np9, nc9, ⟨hG, htb9, by omega⟩, rfl, rfl⟩ ?_ ?_ ?_)
      · exact (by repeat (first | exact Has.nil _ | refine Has.cons rfl ?_))
      · exact (by repeat (first | exact Has.nil _ | refine Has.cons rfl ?_))
      · exact (SubH.cons 0 rfl (SubH.cons 6 rfl (SubH.cons 2 rfl (SubH.cons 2 rfl (SubH.cons 2 rfl (SubH.cons 3 rfl (SubH.nil _)))))))
    · rintro Δ LL ⟨t2, b3, dpb3, dcb3, npb3, ncb3, ⟨hG2, htb2, hnx2⟩, rfl, rfl⟩
      simp only [List.cons_append, List.nil_append]
      refine wp_cutK 1007 (fun Δ LL => ∃ (hs2 : List Hd) (b4 : Nat) (dpb4 : Option Addr) (dcb4 : Nat) (npb4 : Option Addr) (ncb4 : Nat), (HsOk hs2) ∧ Δ = [(4, .pointer (some ⟨b4, 0, none⟩))] ∧ LL = [own b4 (.cells ((Rk.stat 0 : Rk).rep dpb4 dcb4 npb4 ncb4).cs.toArray 32 (0, 0)), own b3 (.cells ((Rk.stat 0 : Rk).rep dpb3 dcb3 npb3 ncb3).cs.toArray 32 (0, 0)), own b2 (.cells ((⟨2, 0, [104, 48], [], [], At.zero⟩ : Rk).rep dpb2 dcb2 npb2 ncb2).cs.toArray 32 (0, 0)), oMa mb tb hs2, tree t2, St (hs2.map rowN), V]) (Has.cons (k := 1) rfl (Has.cons (k := 2) rfl (Has.cons (k := 3) rfl (Has.nil _)))) ?_ ?_
      · refine wp_region' ?_
        refine ops_ro' rfl (ro_move rfl) rfl ?_
        refine ops_ro' rfl (ro_build rfl (bld_struct (cs := (qOn 4 [104, 48] 0).cs) st35 rfl)) rfl ?_
        refine ops_eff' rfl (eff_callM (Pre := [_, _, _]) Tryz.call12 rfl rfl (by repeat (first | exact Split.nil _ | apply Split.cons 0 rfl | apply Split.cons 1 rfl | apply Split.cons 2 rfl | apply Split.cons 3 rfl | apply Split.cons 4 rfl | apply Split.cons 5 rfl | apply Split.cons 6 rfl | apply Split.cons 7 rfl | apply Split.cons 8 rfl | apply Split.cons 9 rfl | apply Split.cons 10 rfl | apply Split.cons 11 rfl)) (do16K hG2.wf htb2 hH1 ((0 : Nat) : Int) (qOn 4 [104, 48] 0) (qOn_ok (by decide)) (by first | exact Ml.pick (H := _) 0 rfl hP | exact Ml.pick (H := _) 1 rfl hP | exact Ml.pick (H := _) 2 rfl hP | exact Ml.pick (H := _) 3 rfl hP | exact Ml.pick (H := _) 4 rfl hP | exact Ml.pick (H := _) 5 rfl hP | exact Ml.pick (H := _) 6 rfl hP | exact Ml.pick (H := _) 7 rfl hP | exact Ml.pick (H := _) 8 rfl hP) (by omega) (show Vw _ _ 0 (cel []) from Vw.nil _))) rfl ?_
        rintro _ H' ⟨_, ⟨t9, hs9, k9, dp9, dc9, np9, nc9, rfl, hD9, hW9, htb9, hnx9, hH9, rfl⟩, hH⟩
        simp only [List.cons_append, List.nil_append, List.eraseIdx_cons_zero, List.eraseIdx_cons_succ, List.set_cons_zero, List.set_cons_succ] at hH
        subst hH
        have hA : hdA (hs0.set (0 * 16 + 0) (⟨true, 1, false, 2, none, 0, []⟩ : Hd)) 0 0 = (⟨true, 1, false, 2, none, 0, []⟩ : Hd) := by rw [hdA_set hH0.len (by decide) (by decide) (by decide) (by decide), if_pos ⟨rfl, rfl⟩]
        obtain ⟨ht, hcl⟩ := run_close (s := 0) (by decide) rfl hD9
        unfold closeR at hcl
        rw [find_zero (by rw [hA])] at hcl
        obtain ⟨hh, rfl⟩ := hcl
        obtain rfl : t2 = t9 := ht.symm
        refine ops_eff' rfl (eff_alloc z32) rfl ?_
        rintro _ _ ⟨b4, rfl, rfl⟩
        refine ops_eff0 rfl (eff_storeA 0 ag32 rfl rfl rfl rfl rfl (Nat.le_of_ble_eq_true rfl) (warm_zero _)) rfl ?_
        rintro _ _ rfl
        simp only [List.set_cons_zero, List.set_cons_succ]
        refine ops_nil ?_
        refine Then_normal ?_
        refine over_cut (kept ⟨hs9, b4, dp9, dc9, np9, nc9, hH9, rfl, rfl⟩ ?_ ?_ ?_)
        · exact (by repeat (first | exact Has.nil _ | refine Has.cons rfl ?_))
        · exact (by repeat (first | exact Has.nil _ | refine Has.cons rfl ?_))
        · exact (SubH.cons 0 rfl (SubH.cons 5 rfl (SubH.cons 5 rfl (SubH.cons 2 rfl (SubH.cons 2 rfl (SubH.cons 2 rfl (SubH.cons 2 rfl (SubH.nil _))))))))
      · rintro Δ LL ⟨hs2, b4, dpb4, dcb4, npb4, ncb4, hH2, rfl, rfl⟩
        simp only [List.cons_append, List.nil_append]
        refine wp_cutK 1008 (fun Δ LL => ∃ (a : At) (b5 : Nat) (dpb5 : Option Addr) (dcb5 : Nat) (npb5 : Option Addr) (ncb5 : Nat), (a.s = 2) ∧ Δ = [(5, .pointer (some ⟨b5, 0, none⟩))] ∧ LL = [own b5 (.cells ((⟨5, 0, [], [], [], a⟩ : Rk).rep dpb5 dcb5 npb5 ncb5).cs.toArray 32 (0, 0)), own b4 (.cells ((Rk.stat 0 : Rk).rep dpb4 dcb4 npb4 ncb4).cs.toArray 32 (0, 0)), own b3 (.cells ((Rk.stat 0 : Rk).rep dpb3 dcb3 npb3 ncb3).cs.toArray 32 (0, 0)), own b2 (.cells ((⟨2, 0, [104, 48], [], [], At.zero⟩ : Rk).rep dpb2 dcb2 npb2 ncb2).cs.toArray 32 (0, 0)), V]) (Has.cons (k := 2) rfl (Has.cons (k := 3) rfl (Has.cons (k := 4) rfl (Has.nil _)))) ?_ ?_
        · refine wp_region' ?_
          refine ops_ro' rfl (ro_move rfl) rfl ?_
          refine ops_ro' rfl (ro_build rfl (bld_struct (cs := (qAt 17 [97] 0).cs) st35 rfl)) rfl ?_
          refine ops_eff' rfl (eff_callM (Pre := [_, _, _]) Tryz.call12 rfl rfl (by repeat (first | exact Split.nil _ | apply Split.cons 0 rfl | apply Split.cons 1 rfl | apply Split.cons 2 rfl | apply Split.cons 3 rfl | apply Split.cons 4 rfl | apply Split.cons 5 rfl | apply Split.cons 6 rfl | apply Split.cons 7 rfl | apply Split.cons 8 rfl | apply Split.cons 9 rfl | apply Split.cons 10 rfl | apply Split.cons 11 rfl)) (do16K hG2.wf htb2 hH2 ((0 : Nat) : Int) (qAt 17 [97] 0) (qAt_ok (by decide) (by decide)) (by first | exact Ml.pick (H := _) 0 rfl hP | exact Ml.pick (H := _) 1 rfl hP | exact Ml.pick (H := _) 2 rfl hP | exact Ml.pick (H := _) 3 rfl hP | exact Ml.pick (H := _) 4 rfl hP | exact Ml.pick (H := _) 5 rfl hP | exact Ml.pick (H := _) 6 rfl hP | exact Ml.pick (H := _) 7 rfl hP | exact Ml.pick (H := _) 8 rfl hP) (by omega) (show Vw _ _ 0 (cel []) from Vw.nil _))) rfl ?_
          rintro _ H' ⟨_, ⟨t9, hs9, k9, dp9, dc9, np9, nc9, rfl, hD9, hW9, htb9, hnx9, hH9, rfl⟩, hH⟩
          simp only [List.cons_append, List.nil_append, List.eraseIdx_cons_zero, List.eraseIdx_cons_succ, List.set_cons_zero, List.set_cons_succ] at hH
          subst hH
          obtain ⟨ht, hh, a, rfl, has⟩ := run_stat (s := 0) hG2 (by decide) rfl rfl hD9
          refine ops_eff' rfl (eff_alloc z32) rfl ?_
          rintro _ _ ⟨b5, rfl, rfl⟩
          refine ops_eff0 rfl (eff_storeA 0 ag32 rfl rfl rfl rfl rfl (Nat.le_of_ble_eq_true rfl) (warm_zero _)) rfl ?_
          rintro _ _ rfl
          simp only [List.set_cons_zero, List.set_cons_succ]
          refine ops_nil ?_
          refine Then_normal ?_
          refine over_cut (kept ⟨a, b5, dp9, dc9, np9, nc9, has, rfl, rfl⟩ ?_ ?_ ?_)
          · exact (by repeat (first | exact Has.nil _ | refine Has.cons rfl ?_))
          · exact (by repeat (first | exact Has.nil _ | refine Has.cons rfl ?_))
          · exact (SubH.cons 0 rfl (SubH.cons 5 rfl (SubH.cons 5 rfl (SubH.cons 5 rfl (SubH.cons 5 rfl (SubH.nil _))))))
        · rintro Δ LL ⟨a, b5, dpb5, dcb5, npb5, ncb5, has, rfl, rfl⟩
          simp only [List.cons_append, List.nil_append]
          refine wp_seq' ?_
          refine wp_region' ?_
          refine ops_ro' rfl (ro_fieldAddr fa32_0 rfl) rfl ?_
          refine ops_ro' rfl (ro_load sc3 rfl (Rd.pick 3 rfl (Rd.own rfl))) rfl ?_
          refine ops_ro' rfl (ro_eql rfl rfl rfl) rfl ?_
          refine ops_ro' rfl (ro_move (v := .bool true) rfl) rfl ?_
          refine ops_ro' rfl (ro_fieldAddr fa32_2 rfl) rfl ?_
          refine ops_ro' rfl (ro_load sc9 rfl (Rd.pick 3 rfl (Rd.own rfl))) rfl ?_
          refine ops_ro' rfl (ro_eqlS rfl rfl (decide_eq_true rfl)) rfl ?_
          refine ops_ro' rfl (ro_pick rfl rfl) rfl ?_
          refine ops_ro' rfl (ro_move (v := .bool true) rfl) rfl ?_
          refine ops_ro' rfl (ro_fieldAddr fa32_0 rfl) rfl ?_
          refine ops_ro' rfl (ro_load sc3 rfl (Rd.pick 2 rfl (Rd.own rfl))) rfl ?_
          refine ops_ro' rfl (ro_eql rfl rfl rfl) rfl ?_
          refine ops_ro' rfl (ro_pick rfl rfl) rfl ?_
          refine ops_ro' rfl (ro_move (v := .bool true) rfl) rfl ?_
          refine ops_ro' rfl (ro_fieldAddr fa32_1 rfl) rfl ?_
          refine ops_ro' rfl (ro_load sc3 rfl (Rd.pick 2 rfl (Rd.own rfl))) rfl ?_
          refine ops_ro' rfl (ro_eql rfl rfl rfl) rfl ?_
          refine ops_ro' rfl (ro_pick rfl rfl) rfl ?_
          refine ops_ro' rfl (ro_move (v := .bool true) rfl) rfl ?_
          refine ops_ro' rfl (ro_fieldAddr fa32_0 rfl) rfl ?_
          refine ops_ro' rfl (ro_load sc3 rfl (Rd.pick 1 rfl (Rd.own rfl))) rfl ?_
          refine ops_ro' rfl (ro_eql rfl rfl rfl) rfl ?_
          refine ops_ro' rfl (ro_pick rfl rfl) rfl ?_
          refine ops_ro' rfl (ro_move (v := .bool true) rfl) rfl ?_
          refine ops_ro' rfl (ro_fieldAddr fa32_1 rfl) rfl ?_
          refine ops_ro' rfl (ro_load sc3 rfl (Rd.pick 1 rfl (Rd.own rfl))) rfl ?_
          refine ops_ro' rfl (ro_eql rfl rfl rfl) rfl ?_
          refine ops_ro' rfl (ro_pick rfl rfl) rfl ?_
          refine ops_ro' rfl (ro_move (v := .bool true) rfl) rfl ?_
          refine ops_ro' rfl (ro_fieldAddr fa32_0 rfl) rfl ?_
          refine ops_ro' rfl (ro_load sc3 rfl (Rd.pick 0 rfl (Rd.own rfl))) rfl ?_
          refine ops_ro' rfl (ro_eql rfl rfl rfl) rfl ?_
          refine ops_ro' rfl (ro_pick rfl rfl) rfl ?_
          refine ops_ro' rfl (ro_move (v := .bool true) rfl) rfl ?_
          refine ops_ro' rfl (ro_fieldAddr fa32_5 rfl) rfl ?_
          refine ops_ro' rfl (ro_fieldAddr fa30_1 rfl) rfl ?_
          refine ops_ro' rfl (ro_load sc28 rfl (Rd.pick 0 rfl (Rd.own rfl))) rfl ?_
          refine ops_ro' rfl (ro_eql rfl rfl rfl) rfl ?_
          refine ops_ro' rfl (ro_pick rfl rfl) rfl ?_
          refine ops_ro' rfl (ro_assign rfl) rfl ?_
          refine ops_nil ?_
          refine Then_normal ?_
          refine wp_ret' ?_
          refine' doneS_ret (res1 rfl rfl) ?_ ?_
          rotate_left 1
          exact ⟨by show Value.bool (decide ((a.s : Int) = 2)) = _; rw [decide_eq_true (by omega)], rfl⟩
          exact (SubH.cons 4 rfl (SubH.nil _))

end Go.Proofs.YtlefpllcgcicpaaGreatDoor
