/-
  Law 16: Title; what requests are.
  Law 16: known.
  FsmDenied.
-/
import Derived.Test.YtlefpllcgcicpaaGreatDoorFsP
import Derived.Test.YtlefpllcgcicpaaGreatDoorSxRune
import Derived.Test.YtlefpllcgcicpaaGreatDoorSxFork
import Derived.Test.YtlefpllcgcicpaaGreatDoorTrH
import Derived.Test.YtlefpllcgcicpaaGreatDoorWire
namespace Go.Proofs.YtlefpllcgcicpaaGreatDoor
open Go.Sx
set_option linter.unusedVariables false
set_option linter.unusedSimpArgs false
set_option maxRecDepth 100000
set_option maxHeartbeats 4000000

theorem hname_one {n : Nat} (h : n < 10) : hname n = [104, UInt8.ofNat (48 + n)] := by unfold hname; rw [Go.Lib.decDigits_one h]
theorem do16K {V : HProp} {mb tb : Nat} {t : Tr} {hs : List Hd} {r : Nd} (hW : Wf t r) (htb : t.tb = tb) (hH : HsOk hs) (s : Int) (q : Qr) (hq : q.Ok) (hP : Ml V) (hnx : t.next ≤ 9223372036854775806) (hD : Vw V (.slice q.dp q.data.length q.dc) q.data.length (cel q.data)) : Tri Tryz.prog 12 [.pointer (some ⟨mb, 0, none⟩), .int .i64 s, q.v] [oMa mb tb hs, tree t, St (hs.map rowN), V]
    (fun v H' => ∃ K, (∃ t' hs' k dp dc np nc, v = (k.rep dp dc np nc).v ∧ doR t r hs s q t' hs' k ∧ (∃ r', Wf t' r') ∧ t'.tb = tb ∧ t'.next ≤ t.next + 1 ∧ HsOk hs' ∧ K = [rowD dp dc k.data, rowNm np nc k.names, oMa mb tb hs', tree t', St (hs'.map rowN)]) ∧ H' = K ++ [V]) := by
  refine tri_post (do16_spec hW htb hH s q hq hP hnx hD) ?_
  rintro v H' ⟨t', hs', k, dp, dc, np, nc, h1, h2, h3, h4, h5, h6, h7⟩
  exact ⟨_, ⟨t', hs', k, dp, dc, np, nc, h1, h2, h3, h4, h5, h6, rfl⟩, h7⟩
abbrev qAt (k : Int) (p : List UInt8) (f : Nat) : Qr := ⟨k, p, [], [], 0, 0, none, 0, [], f, At.zero⟩
abbrev qOn (k : Int) (h : List UInt8) (n : Nat) : Qr := ⟨k, [], [], h, 0, n, none, 0, [], 0, At.zero⟩
abbrev qWr (h : List UInt8) (dp : Option Addr) (dc : Nat) (y : List UInt8) : Qr := ⟨6, [], [], h, 0, 0, dp, dc, y, 0, At.zero⟩
theorem qAt_ok {k : Int} {p : List UInt8} {f : Nat} (hp : p.length ≤ 1000) (hf : f < 4294967296) : (qAt k p f).Ok := ⟨(by show (0 : Nat) < _; omega), (by show (0 : Nat) < _; omega), hf, At.zero_ok, (by show p.length ≤ _; omega), Nat.zero_le _, Nat.zero_le _⟩
theorem qOn_ok {k : Int} {h : List UInt8} {n : Nat} (hn : n < 4294967296) : (qOn k h n).Ok := ⟨(by show (0 : Nat) < _; omega), hn, (by show (0 : Nat) < _; omega), At.zero_ok, Nat.zero_le _, Nat.zero_le _, Nat.zero_le _⟩
theorem qWr_ok {h : List UInt8} {dp : Option Addr} {dc : Nat} {y : List UInt8} (hy : y.length ≤ 1000000) : (qWr h dp dc y).Ok := ⟨(by show (0 : Nat) < _; omega), (by show (0 : Nat) < _; omega), (by show (0 : Nat) < _; omega), At.zero_ok, Nat.zero_le _, Nat.zero_le _, hy⟩

end Go.Proofs.YtlefpllcgcicpaaGreatDoor
namespace Go.Proofs.YtlefpllcgcicpaaGreatDoor
open Go.Sx
set_option linter.unusedVariables false
set_option linter.unusedSimpArgs false
set_option maxRecDepth 100000
set_option maxHeartbeats 4000000

theorem known16_spec (V : HProp) (hP : Ml V) : Tri Tryz.prog 15 [] [V] (fun v H' => v = .bool true ∧ H' = [V]) := by
  refine tri_of_wpS Tryz.func15 rfl Tryz.ntmps15 (by simp) ?_
  refine wp_seq' ?_
  refine wp_region' ?_
  refine ops_ro' rfl (ro_assign rfl) rfl ?_
  refine ops_nil ?_
  refine Then_normal ?_
  refine wp_seq' ?_
  refine wp_region' ?_
  refine ops_eff' rfl (eff_call Tryz.call11 rfl rfl (by repeat (first | exact Split.nil _ | apply Split.cons 0 rfl | apply Split.cons 1 rfl | apply Split.cons 2 rfl | apply Split.cons 3 rfl | apply Split.cons 4 rfl | apply Split.cons 5 rfl | apply Split.cons 6 rfl | apply Split.cons 7 rfl | apply Split.cons 8 rfl | apply Split.cons 9 rfl | apply Split.cons 10 rfl | apply Split.cons 11 rfl)) (fnew_spec)) rfl ?_
  rintro _ H' ⟨_, ⟨mb, t, r, rfl, hn1, hn2, hW, rfl⟩, hH⟩
  simp only [List.cons_append, List.nil_append, List.eraseIdx_cons_zero, List.eraseIdx_cons_succ, List.set_cons_zero, List.set_cons_succ] at hH
  subst hH
  obtain ⟨hs0, hhs0⟩ : ∃ z, z = List.replicate 256 Hd.zero := ⟨_, rfl⟩
  rw [← hhs0]
  have hH0 : HsOk hs0 := by rw [hhs0]; exact hs0_ok
  have hz0 : ∀ s i, hdA hs0 s i = Hd.zero := fun s i => by rw [hhs0]; exact hdA_new s i
  obtain ⟨tb, htb⟩ : ∃ z, t.tb = z := ⟨_, rfl⟩
  rw [htb]
  refine ops_ro' rfl (ro_assign rfl) rfl ?_
  refine ops_nil ?_
  refine Then_normal ?_
  refine wp_seq' ?_
  refine wp_seq' ?_
  refine wp_region' ?_
  refine ops_ro' rfl (ro_move rfl) rfl ?_
  refine ops_ro' rfl (ro_ptrEqlNil Tryz.underlying23 rfl rfl rfl) rfl ?_
  refine ops_nil ?_
  refine Then_normal ?_
  refine wp_condF rfl ?_
  refine wp_skip' ?_
  refine Then_normal ?_
  refine wp_cutK 1005 (fun Δ LL => ∃ (t1 : Tr) (r1 : Nd) (b2 : Nat) (dpb2 : Option Addr) (dcb2 : Nat) (npb2 : Option Addr) (ncb2 : Nat), (G1 t1 r1 [97] [] ∧ t1.tb = tb ∧ t1.next ≤ 10 ∧ HsOk (hs0.set (0 * 16 + 0) (⟨true, 1, false, 2, none, 0, []⟩ : Hd))) ∧ Δ = [(2, .pointer (some ⟨b2, 0, none⟩))] ∧ LL = [own b2 (.cells ((⟨2, 0, [104, 48], [], [], At.zero⟩ : Rk).rep dpb2 dcb2 npb2 ncb2).cs.toArray 32 (0, 0)), oMa mb tb (hs0.set (0 * 16 + 0) (⟨true, 1, false, 2, none, 0, []⟩ : Hd)), tree t1, St ((hs0.set (0 * 16 + 0) (⟨true, 1, false, 2, none, 0, []⟩ : Hd)).map rowN), V]) (Has.cons (k := 1) rfl (Has.nil _)) ?_ ?_
  · refine wp_region' ?_
    refine ops_ro' rfl (ro_move rfl) rfl ?_
    refine ops_ro' rfl (ro_build rfl (bld_struct (cs := (qAt 3 [97] 10).cs) st35 rfl)) rfl ?_
    refine ops_eff' rfl (eff_callM (Pre := [_, _, _]) Tryz.call12 rfl rfl (by repeat (first | exact Split.nil _ | apply Split.cons 0 rfl | apply Split.cons 1 rfl | apply Split.cons 2 rfl | apply Split.cons 3 rfl | apply Split.cons 4 rfl | apply Split.cons 5 rfl | apply Split.cons 6 rfl | apply Split.cons 7 rfl | apply Split.cons 8 rfl | apply Split.cons 9 rfl | apply Split.cons 10 rfl | apply Split.cons 11 rfl)) (do16K hW htb hH0 ((0 : Nat) : Int) (qAt 3 [97] 10) (qAt_ok (by decide) (by decide)) (by first | exact Ml.pick (H := _) 0 rfl hP | exact Ml.pick (H := _) 1 rfl hP | exact Ml.pick (H := _) 2 rfl hP | exact Ml.pick (H := _) 3 rfl hP | exact Ml.pick (H := _) 4 rfl hP | exact Ml.pick (H := _) 5 rfl hP | exact Ml.pick (H := _) 6 rfl hP | exact Ml.pick (H := _) 7 rfl hP | exact Ml.pick (H := _) 8 rfl hP) (by omega) (show Vw _ _ 0 (cel []) from Vw.nil _))) rfl ?_
    rintro _ H' ⟨_, ⟨t9, hs9, k9, dp9, dc9, np9, nc9, rfl, hD9, hW9, htb9, hnx9, hH9, rfl⟩, hH⟩
    simp only [List.cons_append, List.nil_append, List.eraseIdx_cons_zero, List.eraseIdx_cons_succ, List.set_cons_zero, List.set_cons_succ] at hH
    subst hH
    obtain ⟨r9, hG, _, hh, rfl⟩ := run_first (s := 0) hW hn1 hn2 (by decide) rfl (nm := [97]) rfl (by decide) rfl (by decide) (by decide) (by decide) (free_zero (by rw [hz0]; rfl)) hD9
    subst hh
    rw [show hdlK 0 = (⟨2, 0, [104, 48], [], [], At.zero⟩ : Rk) from by unfold hdlK; rw [hname_one (by decide)]; rfl]
    refine ops_eff' rfl (eff_alloc z32) rfl ?_
    rintro _ _ ⟨b2, rfl, rfl⟩
    refine ops_eff0 rfl (eff_storeA 0 ag32 rfl rfl rfl rfl rfl (Nat.le_of_ble_eq_true rfl) (warm_zero _)) rfl ?_
    rintro _ _ rfl
    simp only [List.set_cons_zero, List.set_cons_succ]
    refine ops_nil ?_
    refine Then_normal ?_
    refine over_cut (kept ⟨t9, r9, b2, dp9, dc9, np9, nc9, ⟨hG, htb9, by omega, hH9⟩, rfl, rfl⟩ ?_ ?_ ?_)
    · exact (by repeat (first | exact Has.nil _ | refine Has.cons rfl ?_))
    · exact (by repeat (first | exact Has.nil _ | refine Has.cons rfl ?_))
    · exact (SubH.cons 0 rfl (SubH.cons 2 rfl (SubH.cons 2 rfl (SubH.cons 2 rfl (SubH.cons 2 rfl (SubH.nil _))))))
  · rintro Δ LL ⟨t1, r1, b2, dpb2, dcb2, npb2, ncb2, ⟨hG1, htb1, hnx1, hH1⟩, rfl, rfl⟩
    simp only [List.cons_append, List.nil_append]
    refine wp_cutK 1006 (fun Δ LL => ∃ (t2 : Tr) (b3 : Nat) (dpb3 : Option Addr) (dcb3 : Nat) (npb3 : Option Addr) (ncb3 : Nat), (G1 t2 r1 [97] [104, 105] ∧ t2.tb = tb ∧ t2.next ≤ 20) ∧ Δ = [(3, .pointer (some ⟨b3, 0, none⟩))] ∧ LL = [own b3 (.cells ((Rk.stat 0 : Rk).rep dpb3 dcb3 npb3 ncb3).cs.toArray 32 (0, 0)), own b2 (.cells ((⟨2, 0, [104, 48], [], [], At.zero⟩ : Rk).rep dpb2 dcb2 npb2 ncb2).cs.toArray 32 (0, 0)), oMa mb tb (hs0.set (0 * 16 + 0) (⟨true, 1, false, 2, none, 0, []⟩ : Hd)), tree t2, St ((hs0.set (0 * 16 + 0) (⟨true, 1, false, 2, none, 0, []⟩ : Hd)).map rowN), V]) (Has.cons (k := 1) rfl (Has.cons (k := 2) rfl (Has.nil _))) ?_ ?_
    · refine wp_region' ?_
      refine ops_ro' rfl (ro_move rfl) rfl ?_
      refine ops_eff' rfl (eff_buildSlice rfl (sbld (cs := cel [104, 105]) [.int .u8 0, .int .u8 0] sl25 (by decide) (by kernel_rfl) rfl)) rfl ?_
      rintro _ _ ⟨b13, rfl, rfl⟩
      refine ops_eff' rfl (eff_mark 0 Tryz.underlying25 Tryz.underlying5 rfl rfl rfl (by decide)) rfl ?_
      rintro _ _ ⟨rfl, rfl⟩
      simp only [List.set_cons_zero, List.set_cons_succ]
      refine ops_ro' rfl (ro_build rfl (bld_struct (cs := (qWr [104, 48] (some ⟨b13, 0, none⟩) 2 [104, 105]).cs) st35 rfl)) rfl ?_
      refine ops_eff' rfl (eff_callM (Pre := [_, _, _]) Tryz.call12 rfl rfl (by repeat (first | exact Split.nil _ | apply Split.cons 0 rfl | apply Split.cons 1 rfl | apply Split.cons 2 rfl | apply Split.cons 3 rfl | apply Split.cons 4 rfl | apply Split.cons 5 rfl | apply Split.cons 6 rfl | apply Split.cons 7 rfl | apply Split.cons 8 rfl | apply Split.cons 9 rfl | apply Split.cons 10 rfl | apply Split.cons 11 rfl)) (do16K hG1.wf htb1 hH1 ((0 : Nat) : Int) (qWr [104, 48] (some ⟨b13, 0, none⟩) 2 [104, 105]) (qWr_ok (by decide)) (by first | exact Ml.pick (H := _) 0 rfl hP | exact Ml.pick (H := _) 1 rfl hP | exact Ml.pick (H := _) 2 rfl hP | exact Ml.pick (H := _) 3 rfl hP | exact Ml.pick (H := _) 4 rfl hP | exact Ml.pick (H := _) 5 rfl hP | exact Ml.pick (H := _) 6 rfl hP | exact Ml.pick (H := _) 7 rfl hP | exact Ml.pick (H := _) 8 rfl hP) (by omega) (by first | exact Vw.pick 0 rfl Vw.row | exact Vw.pick 1 rfl Vw.row | exact Vw.pick 2 rfl Vw.row | exact Vw.pick 3 rfl Vw.row | exact Vw.pick 4 rfl Vw.row | exact Vw.pick 5 rfl Vw.row | exact Vw.pick 6 rfl Vw.row | exact Vw.pick 7 rfl Vw.row | exact Vw.pick 8 rfl Vw.row | exact Vw.nil _ | exact Vw.empty _ _))) rfl ?_
      rintro _ H' ⟨_, ⟨t9, hs9, k9, dp9, dc9, np9, nc9, rfl, hD9, hW9, htb9, hnx9, hH9, rfl⟩, hH⟩
      simp only [List.cons_append, List.nil_append, List.eraseIdx_cons_zero, List.eraseIdx_cons_succ, List.set_cons_zero, List.set_cons_succ] at hH
      subst hH
      have hA : hdA (hs0.set (0 * 16 + 0) (⟨true, 1, false, 2, none, 0, []⟩ : Hd)) 0 0 = (⟨true, 1, false, 2, none, 0, []⟩ : Hd) := by rw [hdA_set hH0.len (by decide) (by decide) (by decide) (by decide), if_pos ⟨rfl, rfl⟩]
      obtain ⟨hh, _, hw⟩ := run_write (s := 0) (i := 0) hG1 (by decide) rfl (find_zero (by rw [hA])) (by rw [hA]; exact ⟨rfl, rfl⟩) (by show 2 ≤ 32768; omega) (by show 0 + 2 ≤ 1048576; omega) (by show 0 + 2 ≤ 1048576; omega) hD9
      rw [if_neg (by rw [hA]; decide), hA] at hw
      obtain ⟨rfl, hG⟩ := hw
      subst hh
      refine ops_eff' rfl (eff_alloc z32) rfl ?_
      rintro _ _ ⟨b3, rfl, rfl⟩
      refine ops_eff0 rfl (eff_storeA 0 ag32 rfl rfl rfl rfl rfl (Nat.le_of_ble_eq_true rfl) (warm_zero _)) rfl ?_
      rintro _ _ rfl
      simp only [List.set_cons_zero, List.set_cons_succ]
      refine ops_nil ?_
      refine Then_normal ?_
      refine over_cut (kept ⟨t9, b3, dp9, dc9, np9, nc9, ⟨hG, htb9, by omega⟩, rfl, rfl⟩ ?_ ?_ ?_)
      · exact (by repeat (first | exact Has.nil _ | refine Has.cons rfl ?_))
      · exact (by repeat (first | exact Has.nil _ | refine Has.cons rfl ?_))
      · exact (SubH.cons 0 rfl (SubH.cons 6 rfl (SubH.cons 2 rfl (SubH.cons 2 rfl (SubH.cons 2 rfl (SubH.cons 3 rfl (SubH.nil _)))))))
    · rintro Δ LL ⟨t2, b3, dpb3, dcb3, npb3, ncb3, ⟨hG2, htb2, hnx2⟩, rfl, rfl⟩
      simp only [List.cons_append, List.nil_append]
      refine wp_cutK 1007 (fun Δ LL => ∃ (hs2 : List Hd) (b4 : Nat) (dpb4 : Option Addr) (dcb4 : Nat) (npb4 : Option Addr) (ncb4 : Nat), (HsOk hs2) ∧ Δ = [(4, .pointer (some ⟨b4, 0, none⟩))] ∧ LL = [own b4 (.cells ((Rk.stat 0 : Rk).rep dpb4 dcb4 npb4 ncb4).cs.toArray 32 (0, 0)), own b3 (.cells ((Rk.stat 0 : Rk).rep dpb3 dcb3 npb3 ncb3).cs.toArray 32 (0, 0)), own b2 (.cells ((⟨2, 0, [104, 48], [], [], At.zero⟩ : Rk).rep dpb2 dcb2 npb2 ncb2).cs.toArray 32 (0, 0)), oMa mb tb hs2, tree t2, St (hs2.map rowN), V]) (Has.cons (k := 1) rfl (Has.cons (k := 2) rfl (Has.cons (k := 3) rfl (Has.nil _)))) ?_ ?_
      · refine wp_region' ?_
        refine ops_ro' rfl (ro_move rfl) rfl ?_
        refine ops_ro' rfl (ro_build rfl (bld_struct (cs := (qOn 4 [104, 48] 0).cs) st35 rfl)) rfl ?_
        refine ops_eff' rfl (eff_callM (Pre := [_, _, _]) Tryz.call12 rfl rfl (by repeat (first | exact Split.nil _ | apply Split.cons 0 rfl | apply Split.cons 1 rfl | apply Split.cons 2 rfl | apply Split.cons 3 rfl | apply Split.cons 4 rfl | apply Split.cons 5 rfl | apply Split.cons 6 rfl | apply Split.cons 7 rfl | apply Split.cons 8 rfl | apply Split.cons 9 rfl | apply Split.cons 10 rfl | apply Split.cons 11 rfl)) (do16K hG2.wf htb2 hH1 ((0 : Nat) : Int) (qOn 4 [104, 48] 0) (qOn_ok (by decide)) (by first | exact Ml.pick (H := _) 0 rfl hP | exact Ml.pick (H := _) 1 rfl hP | exact Ml.pick (H := _) 2 rfl hP | exact Ml.pick (H := _) 3 rfl hP | exact Ml.pick (H := _) 4 rfl hP | exact Ml.pick (H := _) 5 rfl hP | exact Ml.pick (H := _) 6 rfl hP | exact Ml.pick (H := _) 7 rfl hP | exact Ml.pick (H := _) 8 rfl hP) (by omega) (show Vw _ _ 0 (cel []) from Vw.nil _))) rfl ?_
        rintro _ H' ⟨_, ⟨t9, hs9, k9, dp9, dc9, np9, nc9, rfl, hD9, hW9, htb9, hnx9, hH9, rfl⟩, hH⟩
        simp only [List.cons_append, List.nil_append, List.eraseIdx_cons_zero, List.eraseIdx_cons_succ, List.set_cons_zero, List.set_cons_succ] at hH
        subst hH
        have hA : hdA (hs0.set (0 * 16 + 0) (⟨true, 1, false, 2, none, 0, []⟩ : Hd)) 0 0 = (⟨true, 1, false, 2, none, 0, []⟩ : Hd) := by rw [hdA_set hH0.len (by decide) (by decide) (by decide) (by decide), if_pos ⟨rfl, rfl⟩]
        obtain ⟨ht, hcl⟩ := run_close (s := 0) (by decide) rfl hD9
        unfold closeR at hcl
        rw [find_zero (by rw [hA])] at hcl
        obtain ⟨hh, rfl⟩ := hcl
        obtain rfl : t2 = t9 := ht.symm
        refine ops_eff' rfl (eff_alloc z32) rfl ?_
        rintro _ _ ⟨b4, rfl, rfl⟩
        refine ops_eff0 rfl (eff_storeA 0 ag32 rfl rfl rfl rfl rfl (Nat.le_of_ble_eq_true rfl) (warm_zero _)) rfl ?_
        rintro _ _ rfl
        simp only [List.set_cons_zero, List.set_cons_succ]
        refine ops_nil ?_
        refine Then_normal ?_
        refine over_cut (kept ⟨hs9, b4, dp9, dc9, np9, nc9, hH9, rfl, rfl⟩ ?_ ?_ ?_)
        · exact (by repeat (first | exact Has.nil _ | refine Has.cons rfl ?_))
        · exact (by repeat (first | exact Has.nil _ | refine Has.cons rfl ?_))
        · exact (SubH.cons 0 rfl (SubH.cons 5 rfl (SubH.cons 5 rfl (SubH.cons 2 rfl (SubH.cons 2 rfl (SubH.cons 2 rfl (SubH.cons 2 rfl (SubH.nil _))))))))
      · rintro Δ LL ⟨hs2, b4, dpb4, dcb4, npb4, ncb4, hH2, rfl, rfl⟩
        simp only [List.cons_append, List.nil_append]
        refine wp_cutK 1008 (fun Δ LL => ∃ (a : At) (b5 : Nat) (dpb5 : Option Addr) (dcb5 : Nat) (npb5 : Option Addr) (ncb5 : Nat), (a.s = 2) ∧ Δ = [(5, .pointer (some ⟨b5, 0, none⟩))] ∧ LL = [own b5 (.cells ((⟨5, 0, [], [], [], a⟩ : Rk).rep dpb5 dcb5 npb5 ncb5).cs.toArray 32 (0, 0)), own b4 (.cells ((Rk.stat 0 : Rk).rep dpb4 dcb4 npb4 ncb4).cs.toArray 32 (0, 0)), own b3 (.cells ((Rk.stat 0 : Rk).rep dpb3 dcb3 npb3 ncb3).cs.toArray 32 (0, 0)), own b2 (.cells ((⟨2, 0, [104, 48], [], [], At.zero⟩ : Rk).rep dpb2 dcb2 npb2 ncb2).cs.toArray 32 (0, 0)), V]) (Has.cons (k := 2) rfl (Has.cons (k := 3) rfl (Has.cons (k := 4) rfl (Has.nil _)))) ?_ ?_
        · refine wp_region' ?_
          refine ops_ro' rfl (ro_move rfl) rfl ?_
          refine ops_ro' rfl (ro_build rfl (bld_struct (cs := (qAt 17 [97] 0).cs) st35 rfl)) rfl ?_
          refine ops_eff' rfl (eff_callM (Pre := [_, _, _]) Tryz.call12 rfl rfl (by repeat (first | exact Split.nil _ | apply Split.cons 0 rfl | apply Split.cons 1 rfl | apply Split.cons 2 rfl | apply Split.cons 3 rfl | apply Split.cons 4 rfl | apply Split.cons 5 rfl | apply Split.cons 6 rfl | apply Split.cons 7 rfl | apply Split.cons 8 rfl | apply Split.cons 9 rfl | apply Split.cons 10 rfl | apply Split.cons 11 rfl)) (do16K hG2.wf htb2 hH2 ((0 : Nat) : Int) (qAt 17 [97] 0) (qAt_ok (by decide) (by decide)) (by first | exact Ml.pick (H := _) 0 rfl hP | exact Ml.pick (H := _) 1 rfl hP | exact Ml.pick (H := _) 2 rfl hP | exact Ml.pick (H := _) 3 rfl hP | exact Ml.pick (H := _) 4 rfl hP | exact Ml.pick (H := _) 5 rfl hP | exact Ml.pick (H := _) 6 rfl hP | exact Ml.pick (H := _) 7 rfl hP | exact Ml.pick (H := _) 8 rfl hP) (by omega) (show Vw _ _ 0 (cel []) from Vw.nil _))) rfl ?_
          rintro _ H' ⟨_, ⟨t9, hs9, k9, dp9, dc9, np9, nc9, rfl, hD9, hW9, htb9, hnx9, hH9, rfl⟩, hH⟩
          simp only [List.cons_append, List.nil_append, List.eraseIdx_cons_zero, List.eraseIdx_cons_succ, List.set_cons_zero, List.set_cons_succ] at hH
          subst hH
          obtain ⟨ht, hh, a, rfl, has⟩ := run_stat (s := 0) hG2 (by decide) rfl rfl hD9
          refine ops_eff' rfl (eff_alloc z32) rfl ?_
          rintro _ _ ⟨b5, rfl, rfl⟩
          refine ops_eff0 rfl (eff_storeA 0 ag32 rfl rfl rfl rfl rfl (Nat.le_of_ble_eq_true rfl) (warm_zero _)) rfl ?_
          rintro _ _ rfl
          simp only [List.set_cons_zero, List.set_cons_succ]
          refine ops_nil ?_
          refine Then_normal ?_
          refine over_cut (kept ⟨a, b5, dp9, dc9, np9, nc9, has, rfl, rfl⟩ ?_ ?_ ?_)
          · exact (by repeat (first | exact Has.nil _ | refine Has.cons rfl ?_))
          · exact (by repeat (first | exact Has.nil _ | refine Has.cons rfl ?_))
          · exact (SubH.cons 0 rfl (SubH.cons 5 rfl (SubH.cons 5 rfl (SubH.cons 5 rfl (SubH.cons 5 rfl (SubH.nil _))))))
        · rintro Δ LL ⟨a, b5, dpb5, dcb5, npb5, ncb5, has, rfl, rfl⟩
          simp only [List.cons_append, List.nil_append]
          refine wp_seq' ?_
          refine wp_region' ?_
          refine ops_ro' rfl (ro_fieldAddr fa32_0 rfl) rfl ?_
          refine ops_ro' rfl (ro_load sc3 rfl (Rd.pick 3 rfl (Rd.own rfl))) rfl ?_
          refine ops_ro' rfl (ro_eql rfl rfl rfl) rfl ?_
          refine ops_ro' rfl (ro_move (v := .bool true) rfl) rfl ?_
          refine ops_ro' rfl (ro_fieldAddr fa32_2 rfl) rfl ?_
          refine ops_ro' rfl (ro_load sc9 rfl (Rd.pick 3 rfl (Rd.own rfl))) rfl ?_
          refine ops_ro' rfl (ro_eqlS rfl rfl (decide_eq_true rfl)) rfl ?_
          refine ops_ro' rfl (ro_pick rfl rfl) rfl ?_
          refine ops_ro' rfl (ro_move (v := .bool true) rfl) rfl ?_
          refine ops_ro' rfl (ro_fieldAddr fa32_0 rfl) rfl ?_
          refine ops_ro' rfl (ro_load sc3 rfl (Rd.pick 2 rfl (Rd.own rfl))) rfl ?_
          refine ops_ro' rfl (ro_eql rfl rfl rfl) rfl ?_
          refine ops_ro' rfl (ro_pick rfl rfl) rfl ?_
          refine ops_ro' rfl (ro_move (v := .bool true) rfl) rfl ?_
          refine ops_ro' rfl (ro_fieldAddr fa32_1 rfl) rfl ?_
          refine ops_ro' rfl (ro_load sc3 rfl (Rd.pick 2 rfl (Rd.own rfl))) rfl ?_
          refine ops_ro' rfl (ro_eql rfl rfl rfl) rfl ?_
          refine ops_ro' rfl (ro_pick rfl rfl) rfl ?_
          refine ops_ro' rfl (ro_move (v := .bool true) rfl) rfl ?_
          refine ops_ro' rfl (ro_fieldAddr fa32_0 rfl) rfl ?_
          refine ops_ro' rfl (ro_load sc3 rfl (Rd.pick 1 rfl (Rd.own rfl))) rfl ?_
          refine ops_ro' rfl (ro_eql rfl rfl rfl) rfl ?_
          refine ops_ro' rfl (ro_pick rfl rfl) rfl ?_
          refine ops_ro' rfl (ro_move (v := .bool true) rfl) rfl ?_
          refine ops_ro' rfl (ro_fieldAddr fa32_1 rfl) rfl ?_
          refine ops_ro' rfl (ro_load sc3 rfl (Rd.pick 1 rfl (Rd.own rfl))) rfl ?_
          refine ops_ro' rfl (ro_eql rfl rfl rfl) rfl ?_
          refine ops_ro' rfl (ro_pick rfl rfl) rfl ?_
          refine ops_ro' rfl (ro_move (v := .bool true) rfl) rfl ?_
          refine ops_ro' rfl (ro_fieldAddr fa32_0 rfl) rfl ?_
          refine ops_ro' rfl (ro_load sc3 rfl (Rd.pick 0 rfl (Rd.own rfl))) rfl ?_
          refine ops_ro' rfl (ro_eql rfl rfl rfl) rfl ?_
          refine ops_ro' rfl (ro_pick rfl rfl) rfl ?_
          refine ops_ro' rfl (ro_move (v := .bool true) rfl) rfl ?_
          refine ops_ro' rfl (ro_fieldAddr fa32_5 rfl) rfl ?_
          refine ops_ro' rfl (ro_fieldAddr fa30_1 rfl) rfl ?_
          refine ops_ro' rfl (ro_load sc28 rfl (Rd.pick 0 rfl (Rd.own rfl))) rfl ?_
          refine ops_ro' rfl (ro_eql rfl rfl rfl) rfl ?_
          refine ops_ro' rfl (ro_pick rfl rfl) rfl ?_
          refine ops_ro' rfl (ro_assign rfl) rfl ?_
          refine ops_nil ?_
          refine Then_normal ?_
          refine wp_ret' ?_
          refine' doneS_ret (res1 rfl rfl) ?_ ?_
          rotate_left 1
          exact ⟨by show Value.bool (decide ((a.s : Int) = 2)) = _; rw [decide_eq_true (by omega)], rfl⟩
          exact (SubH.cons 4 rfl (SubH.nil _))

end Go.Proofs.YtlefpllcgcicpaaGreatDoor
namespace Go.Proofs.YtlefpllcgcicpaaGreatDoor
open Go.Sx
set_option linter.unusedVariables false
set_option linter.unusedSimpArgs false
set_option maxRecDepth 100000
set_option maxHeartbeats 4000000

theorem u32_rem (a : Nat) : ((a : Int)).tmod ((64 : Nat) : Int) = ((a % 64 : Nat) : Int) := tmodN
theorem and71 (f : Nat) : f &&& 7 &&& 1 = f &&& 1 := by rw [Nat.and_assoc]; rfl
theorem and72 (f : Nat) : f &&& 7 &&& 2 = f &&& 2 := by rw [Nat.and_assoc]; rfl
theorem and74 (f : Nat) : f &&& 7 &&& 4 = f &&& 4 := by rw [Nat.and_assoc]; rfl
section
variable {t t' : Tr} {r : Nd} {w y nm : List UInt8} {hs hs' : List Hd} {f : Nat} {k : Rk}
theorem den_read (hG : G1 t r nm w) (hw : w.length ≤ 5) (hA : hdA hs 1 0 = (⟨true, 1, false, f &&& 7, none, 0, []⟩ : Hd)) (h : doR t r hs ((1 : Nat) : Int) (qOn 5 [104, 48] 9) t' hs' k) : t' = t ∧ hs' = hs ∧ (f &&& 1 = 0 → k.status = 3) ∧ (f &&& 1 = 1 → k.data.length = w.length) := by
  obtain ⟨h1, h2, h3⟩ := run_read (s := 1) (i := 0) hG (by decide) rfl (find_zero (by rw [hA])) (by rw [hA]; exact ⟨rfl, rfl⟩) h
  rw [hA] at h3
  dsimp only at h3
  rw [and71] at h3
  refine ⟨h1, h2, fun h0 => by rw [h3, if_pos h0]; rfl, fun h0 => ?_⟩
  rw [h3, if_neg (by omega)]
  by_cases h4 : w.length = 0
  · rw [if_pos (.inl (by omega)), h4]; rfl
  · rw [if_neg (by rintro (h5 | h5); exact h4 (by omega); exact absurd h5 (by decide))]
    show ((w.drop 0).take (min (w.drop 0).length (min 9 32768))).length = _
    rw [List.drop_zero, List.length_take]; omega
theorem den_write (hG : G1 t r nm w) (hw : w.length ≤ 5) (hy : y.length ≤ 50) {p : Option Addr} {c : Nat} (hA : hdA hs 1 0 = (⟨true, 1, false, f &&& 7, none, 0, []⟩ : Hd)) (h : doR t r hs ((1 : Nat) : Int) (qWr [104, 48] p c y) t' hs' k) :
    hs' = hs ∧ ∃ w2 r2 aw, G1 t' r2 nm w2 ∧ (f &&& 2 = 0 → w2.length = w.length ∧ k.status = 3) ∧ (f &&& 2 ≠ 0 → k.kind = 1 ∧ k.status = 0 ∧ w2.length = max (aw + y.length) w.length ∧ (f &&& 4 ≠ 0 → aw = w.length) ∧ (f &&& 4 = 0 → aw = 0)) := by
  obtain ⟨h1, _, h3⟩ := run_write (s := 1) (i := 0) hG (by decide) rfl (find_zero (by rw [hA])) (by rw [hA]; exact ⟨rfl, rfl⟩) (by show y.length ≤ 32768; omega) (by show 0 + y.length ≤ 1048576; omega) (by show w.length + y.length ≤ 1048576; omega) h
  rw [hA] at h3
  dsimp only at h3
  rw [and72, and74] at h3
  refine ⟨h1, ?_⟩
  by_cases h2 : f &&& 2 = 0
  · rw [if_pos h2] at h3
    obtain ⟨rfl, rfl⟩ := h3
    exact ⟨w, r, 0, hG, fun _ => ⟨rfl, rfl⟩, fun h => absurd h2 h⟩
  · rw [if_neg h2] at h3
    obtain ⟨rfl, hG2⟩ := h3
    refine ⟨_, r, if f &&& 4 ≠ 0 then w.length else 0, hG2, fun h => absurd h h2, fun _ => ⟨rfl, rfl, ?_, fun h => if_pos h, fun h => if_neg (fun h4 => h4 h)⟩⟩
    rw [put2_len]
    by_cases h5 : y.length = 0
    · rw [if_pos h5]; split <;> omega
    · rw [if_neg h5]
end
theorem fdenied_run (V : HProp) (hP : Ml V) (fl : Nat) (hfl : fl ≤ 4294967295) (p : Option Addr) (c : Nat) (l : List UInt8) (hv : Vw V (.slice p l.length c) l.length (cel l)) (hc : l.length ≤ c) : Tri Tryz.prog 4 [.int .u32 (fl : Int), .slice p l.length c] [V] (fun v H' => v = .bool true ∧ H' = [V]) := by
  by_cases hbad : (fl % 64) &&& 3 = 0 ∨ (fl % 64) &&& 40 = 40
  · skip
    refine tri_of_wpS Tryz.func4 rfl Tryz.ntmps4 (by simp) ?_
    refine wp_seq' ?_
    refine wp_region' ?_
    refine ops_ro' rfl (ro_assign rfl) rfl ?_
    refine ops_nil ?_
    refine Then_normal ?_
    refine wp_seq' ?_
    refine wp_region' ?_
    refine ops_eff' rfl (eff_call Tryz.call11 rfl rfl (by repeat (first | exact Split.nil _ | apply Split.cons 0 rfl | apply Split.cons 1 rfl | apply Split.cons 2 rfl | apply Split.cons 3 rfl | apply Split.cons 4 rfl | apply Split.cons 5 rfl | apply Split.cons 6 rfl | apply Split.cons 7 rfl | apply Split.cons 8 rfl | apply Split.cons 9 rfl | apply Split.cons 10 rfl | apply Split.cons 11 rfl)) (fnew_spec)) rfl ?_
    rintro _ H' ⟨_, ⟨mb, t, r, rfl, hn1, hn2, hW, rfl⟩, hH⟩
    simp only [List.cons_append, List.nil_append, List.eraseIdx_cons_zero, List.eraseIdx_cons_succ, List.set_cons_zero, List.set_cons_succ] at hH
    subst hH
    obtain ⟨hs0, hhs0⟩ : ∃ z, z = List.replicate 256 Hd.zero := ⟨_, rfl⟩
    rw [← hhs0]
    have hH0 : HsOk hs0 := by rw [hhs0]; exact hs0_ok
    have hz0 : ∀ s i, hdA hs0 s i = Hd.zero := fun s i => by rw [hhs0]; exact hdA_new s i
    obtain ⟨tb, htb⟩ : ∃ z, t.tb = z := ⟨_, rfl⟩
    rw [htb]
    refine ops_ro' rfl (ro_assign rfl) rfl ?_
    refine ops_nil ?_
    refine Then_normal ?_
    refine wp_seq' ?_
    refine wp_seq' ?_
    refine wp_region' ?_
    refine ops_ro' rfl (ro_move rfl) rfl ?_
    refine ops_ro' rfl (ro_ptrEqlNil Tryz.underlying23 rfl rfl rfl) rfl ?_
    refine ops_nil ?_
    refine Then_normal ?_
    refine wp_condF rfl ?_
    refine wp_skip' ?_
    refine Then_normal ?_
    refine wp_cutK 1005 (fun Δ LL => ∃ (t1 : Tr) (r1 : Nd), (G1 t1 r1 [102] [] ∧ t1.tb = tb ∧ t1.next ≤ 10 ∧ HsOk (hs0.set (0 * 16 + 0) (⟨true, 1, false, 2, none, 0, []⟩ : Hd))) ∧ Δ = [] ∧ LL = [oMa mb tb (hs0.set (0 * 16 + 0) (⟨true, 1, false, 2, none, 0, []⟩ : Hd)), tree t1, St ((hs0.set (0 * 16 + 0) (⟨true, 1, false, 2, none, 0, []⟩ : Hd)).map rowN), V]) (Has.cons (k := 0) rfl (Has.cons (k := 1) rfl (Has.cons (k := 5) rfl (Has.nil _)))) ?_ ?_
    · refine wp_region' ?_
      refine ops_ro' rfl (ro_move rfl) rfl ?_
      refine ops_ro' rfl (ro_build rfl (bld_struct (cs := (qAt 3 [102] 10).cs) st35 rfl)) rfl ?_
      refine ops_eff' rfl (eff_callM (Pre := [_, _, _]) Tryz.call12 rfl rfl (by repeat (first | exact Split.nil _ | apply Split.cons 0 rfl | apply Split.cons 1 rfl | apply Split.cons 2 rfl | apply Split.cons 3 rfl | apply Split.cons 4 rfl | apply Split.cons 5 rfl | apply Split.cons 6 rfl | apply Split.cons 7 rfl | apply Split.cons 8 rfl | apply Split.cons 9 rfl | apply Split.cons 10 rfl | apply Split.cons 11 rfl)) (do16K hW htb hH0 ((0 : Nat) : Int) (qAt 3 [102] 10) (qAt_ok (by decide) (by decide)) (by first | exact Ml.pick (H := _) 0 rfl hP | exact Ml.pick (H := _) 1 rfl hP | exact Ml.pick (H := _) 2 rfl hP | exact Ml.pick (H := _) 3 rfl hP | exact Ml.pick (H := _) 4 rfl hP | exact Ml.pick (H := _) 5 rfl hP | exact Ml.pick (H := _) 6 rfl hP | exact Ml.pick (H := _) 7 rfl hP | exact Ml.pick (H := _) 8 rfl hP) (by omega) (show Vw _ _ 0 (cel []) from Vw.nil _))) rfl ?_
      rintro _ H' ⟨_, ⟨t9, hs9, k9, dp9, dc9, np9, nc9, rfl, hD9, hW9, htb9, hnx9, hH9, rfl⟩, hH⟩
      simp only [List.cons_append, List.nil_append, List.eraseIdx_cons_zero, List.eraseIdx_cons_succ, List.set_cons_zero, List.set_cons_succ] at hH
      subst hH
      obtain ⟨r9, hG, _, hh, rfl⟩ := run_first (s := 0) hW hn1 hn2 (by decide) rfl (nm := [102]) rfl (by decide) rfl (by decide) (by decide) (by decide) (free_zero (by rw [hz0]; rfl)) hD9
      subst hh
      refine ops_nil ?_
      refine Then_normal ?_
      refine over_cut (kept ⟨t9, r9, ⟨hG, htb9, by omega, hH9⟩, rfl, rfl⟩ ?_ ?_ ?_)
      · exact (by repeat (first | exact Has.nil _ | refine Has.cons rfl ?_))
      · exact (by repeat (first | exact Has.nil _ | refine Has.cons rfl ?_))
      · exact (SubH.cons 2 rfl (SubH.cons 2 rfl (SubH.cons 2 rfl (SubH.cons 2 rfl (SubH.nil _)))))
    · rintro Δ LL ⟨t1, r1, ⟨hG1, htb1, hnx1, hH1⟩, rfl, rfl⟩
      simp only [List.cons_append, List.nil_append]
      refine wp_cutK 1006 (fun Δ LL => ∃ (t2 : Tr) (r2 : Nd), (G1 t2 r2 [102] [102, 105, 114, 115, 116] ∧ t2.tb = tb ∧ t2.next ≤ 20) ∧ Δ = [] ∧ LL = [oMa mb tb (hs0.set (0 * 16 + 0) (⟨true, 1, false, 2, none, 0, []⟩ : Hd)), tree t2, St ((hs0.set (0 * 16 + 0) (⟨true, 1, false, 2, none, 0, []⟩ : Hd)).map rowN), V]) (Has.cons (k := 0) rfl (Has.cons (k := 1) rfl (Has.cons (k := 5) rfl (Has.nil _)))) ?_ ?_
      · refine wp_region' ?_
        refine ops_ro' rfl (ro_move rfl) rfl ?_
        refine ops_eff' rfl (eff_buildSlice rfl (sbld (cs := cel [102, 105, 114, 115, 116]) [.int .u8 0, .int .u8 0, .int .u8 0, .int .u8 0, .int .u8 0] sl25 (by decide) (by kernel_rfl) rfl)) rfl ?_
        rintro _ _ ⟨b20, rfl, rfl⟩
        refine ops_eff' rfl (eff_mark 0 Tryz.underlying25 Tryz.underlying5 rfl rfl rfl (by decide)) rfl ?_
        rintro _ _ ⟨rfl, rfl⟩
        simp only [List.set_cons_zero, List.set_cons_succ]
        refine ops_ro' rfl (ro_build rfl (bld_struct (cs := (qWr [104, 48] (some ⟨b20, 0, none⟩) 5 [102, 105, 114, 115, 116]).cs) st35 rfl)) rfl ?_
        refine ops_eff' rfl (eff_callM (Pre := [_, _, _]) Tryz.call12 rfl rfl (by repeat (first | exact Split.nil _ | apply Split.cons 0 rfl | apply Split.cons 1 rfl | apply Split.cons 2 rfl | apply Split.cons 3 rfl | apply Split.cons 4 rfl | apply Split.cons 5 rfl | apply Split.cons 6 rfl | apply Split.cons 7 rfl | apply Split.cons 8 rfl | apply Split.cons 9 rfl | apply Split.cons 10 rfl | apply Split.cons 11 rfl)) (do16K hG1.wf htb1 hH1 ((0 : Nat) : Int) (qWr [104, 48] (some ⟨b20, 0, none⟩) 5 [102, 105, 114, 115, 116]) (qWr_ok (by decide)) (by first | exact Ml.pick (H := _) 0 rfl hP | exact Ml.pick (H := _) 1 rfl hP | exact Ml.pick (H := _) 2 rfl hP | exact Ml.pick (H := _) 3 rfl hP | exact Ml.pick (H := _) 4 rfl hP | exact Ml.pick (H := _) 5 rfl hP | exact Ml.pick (H := _) 6 rfl hP | exact Ml.pick (H := _) 7 rfl hP | exact Ml.pick (H := _) 8 rfl hP) (by omega) (by first | exact Vw.pick 0 rfl Vw.row | exact Vw.pick 1 rfl Vw.row | exact Vw.pick 2 rfl Vw.row | exact Vw.pick 3 rfl Vw.row | exact Vw.pick 4 rfl Vw.row | exact Vw.pick 5 rfl Vw.row | exact Vw.pick 6 rfl Vw.row | exact Vw.pick 7 rfl Vw.row | exact Vw.pick 8 rfl Vw.row | exact Vw.pick 9 rfl Vw.row | exact Vw.nil _ | exact Vw.empty _ _))) rfl ?_
        rintro _ H' ⟨_, ⟨t9, hs9, k9, dp9, dc9, np9, nc9, rfl, hD9, hW9, htb9, hnx9, hH9, rfl⟩, hH⟩
        simp only [List.cons_append, List.nil_append, List.eraseIdx_cons_zero, List.eraseIdx_cons_succ, List.set_cons_zero, List.set_cons_succ] at hH
        subst hH
        have hA : hdA (hs0.set (0 * 16 + 0) (⟨true, 1, false, 2, none, 0, []⟩ : Hd)) 0 0 = (⟨true, 1, false, 2, none, 0, []⟩ : Hd) := by rw [hdA_set hH0.len (by decide) (by decide) (by decide) (by decide), if_pos ⟨rfl, rfl⟩]
        obtain ⟨hh, _, hw⟩ := run_write (s := 0) (i := 0) hG1 (by decide) rfl (find_zero (by rw [hA])) (by rw [hA]; exact ⟨rfl, rfl⟩) (by show 5 ≤ 32768; omega) (by show 0 + 5 ≤ 1048576; omega) (by show 0 + 5 ≤ 1048576; omega) hD9
        rw [if_neg (by rw [hA]; decide), hA] at hw
        obtain ⟨rfl, hG⟩ := hw
        subst hh
        refine ops_nil ?_
        refine Then_normal ?_
        refine over_cut (kept ⟨t9, r1, ⟨hG, htb9, by omega⟩, rfl, rfl⟩ ?_ ?_ ?_)
        · exact (by repeat (first | exact Has.nil _ | refine Has.cons rfl ?_))
        · exact (by repeat (first | exact Has.nil _ | refine Has.cons rfl ?_))
        · exact (SubH.cons 2 rfl (SubH.cons 2 rfl (SubH.cons 2 rfl (SubH.cons 3 rfl (SubH.nil _)))))
      · rintro Δ LL ⟨t2, r2, ⟨hG2, htb2, hnx2⟩, rfl, rfl⟩
        simp only [List.cons_append, List.nil_append]
        refine wp_seq' ?_
        refine wp_region' ?_
        refine ops_ro' rfl (ro_move rfl) rfl ?_
        refine ops_ro' rfl (ro_rem rfl rfl (by omega) (u32_rem _)) rfl ?_
        obtain ⟨f, hf⟩ : ∃ f, f = fl % 64 := ⟨_, rfl⟩
        rw [← hf] at hbad ⊢
        refine ops_ro' rfl (ro_assign rfl) rfl ?_
        refine ops_nil ?_
        refine Then_normal ?_
        refine wp_seq' ?_
        refine wp_region' ?_
        refine ops_ro' rfl (ro_move rfl) rfl ?_
        refine ops_ro' rfl (ro_move rfl) rfl ?_
        refine ops_ro' rfl (ro_build rfl (bld_struct (cs := (qAt 3 [102] f).cs) st35 rfl)) rfl ?_
        refine ops_eff' rfl (eff_callM (Pre := [_, _, _]) Tryz.call12 rfl rfl (by repeat (first | exact Split.nil _ | apply Split.cons 0 rfl | apply Split.cons 1 rfl | apply Split.cons 2 rfl | apply Split.cons 3 rfl | apply Split.cons 4 rfl | apply Split.cons 5 rfl | apply Split.cons 6 rfl | apply Split.cons 7 rfl | apply Split.cons 8 rfl | apply Split.cons 9 rfl | apply Split.cons 10 rfl | apply Split.cons 11 rfl)) (do16K hG2.wf htb2 hH1 ((1 : Nat) : Int) (qAt 3 [102] f) (qAt_ok (by decide) (by omega)) (by first | exact Ml.pick (H := _) 0 rfl hP | exact Ml.pick (H := _) 1 rfl hP | exact Ml.pick (H := _) 2 rfl hP | exact Ml.pick (H := _) 3 rfl hP | exact Ml.pick (H := _) 4 rfl hP | exact Ml.pick (H := _) 5 rfl hP | exact Ml.pick (H := _) 6 rfl hP | exact Ml.pick (H := _) 7 rfl hP | exact Ml.pick (H := _) 8 rfl hP) (by omega) (show Vw _ _ 0 (cel []) from Vw.nil _))) rfl ?_
        rintro _ H' ⟨_, ⟨t9, hs9, k9, dp9, dc9, np9, nc9, rfl, hD9, hW9, htb9, hnx9, hH9, rfl⟩, hH⟩
        simp only [List.cons_append, List.nil_append, List.eraseIdx_cons_zero, List.eraseIdx_cons_succ, List.set_cons_zero, List.set_cons_succ] at hH
        subst hH
        have hB : hdA (hs0.set (0 * 16 + 0) (⟨true, 1, false, 2, none, 0, []⟩ : Hd)) 1 0 = Hd.zero := by rw [hdA_set hH0.len (by decide) (by decide) (by decide) (by decide), if_neg (by decide), hz0]
        have ho := run_open (s := 1) hG2 (by decide) rfl rfl rfl (free_zero (by rw [hB]; rfl)) hD9
        rw [if_pos hbad] at ho
        obtain ⟨_, _, rfl⟩ := ho
        refine ops_eff' rfl (eff_alloc z32) rfl ?_
        rintro _ _ ⟨b7, rfl, rfl⟩
        refine ops_eff0 rfl (eff_storeA 0 ag32 rfl rfl rfl rfl rfl (Nat.le_of_ble_eq_true rfl) (warm_zero _)) rfl ?_
        rintro _ _ rfl
        simp only [List.set_cons_zero, List.set_cons_succ]
        refine ops_nil ?_
        refine Then_normal ?_
        refine wp_seq' ?_
        refine wp_seq' ?_
        refine wp_region' ?_
        refine ops_ro' rfl (ro_move rfl) rfl ?_
        refine ops_ro' rfl (ro_and rfl rfl (and32 (by omega) (c := 3) (by decide) rfl)) rfl ?_
        refine ops_ro' rfl (ro_eql rfl rfl rfl) rfl ?_
        refine ops_split rfl rfl rfl (fun hg33 => ?_) (fun hg33 => ?_)
        · replace hg33 := of_decide_eq_true hg33
          refine ops_skip' rfl rfl ?_
          refine ops_skip' rfl rfl ?_
          refine ops_skip' rfl rfl ?_
          refine ops_ro' rfl (ro_pick rfl rfl) rfl ?_
          refine ops_nil ?_
          refine Then_normal ?_
          refine wp_condT rfl ?_
          refine wp_seq' ?_
          refine wp_region' ?_
          refine ops_ro' rfl (ro_fieldAddr fa32_0 rfl) rfl ?_
          refine ops_ro' rfl (ro_load sc3 rfl (Rd.pick 0 rfl (Rd.own rfl))) rfl ?_
          refine ops_ro' rfl (ro_eql rfl rfl rfl) rfl ?_
          refine ops_ro' rfl (ro_move (v := .bool true) rfl) rfl ?_
          refine ops_ro' rfl (ro_fieldAddr fa32_1 rfl) rfl ?_
          refine ops_ro' rfl (ro_load sc3 rfl (Rd.pick 0 rfl (Rd.own rfl))) rfl ?_
          refine ops_ro' rfl (ro_eql rfl rfl rfl) rfl ?_
          refine ops_ro' rfl (ro_pick rfl rfl) rfl ?_
          refine ops_ro' rfl (ro_move (v := .bool true) rfl) rfl ?_
          refine ops_eff' rfl (eff_call Tryz.call15 rfl rfl (by repeat (first | exact Split.nil _ | apply Split.cons 0 rfl | apply Split.cons 1 rfl | apply Split.cons 2 rfl | apply Split.cons 3 rfl | apply Split.cons 4 rfl | apply Split.cons 5 rfl | apply Split.cons 6 rfl | apply Split.cons 7 rfl | apply Split.cons 8 rfl | apply Split.cons 9 rfl | apply Split.cons 10 rfl | apply Split.cons 11 rfl)) (known16_spec V hP)) rfl ?_
          rintro _ H' ⟨_, ⟨rfl, rfl⟩, hH⟩
          simp only [List.cons_append, List.nil_append, List.eraseIdx_cons_zero, List.eraseIdx_cons_succ, List.set_cons_zero, List.set_cons_succ] at hH
          subst hH
          refine ops_ro' rfl (ro_pick rfl rfl) rfl ?_
          refine ops_ro' rfl (ro_assign rfl) rfl ?_
          refine ops_nil ?_
          refine Then_normal ?_
          refine wp_ret' ?_
          refine Then_ret ?_
          refine' doneS_ret (res1 rfl rfl) ?_ ?_
          rotate_left 1
          exact ⟨rfl, rfl⟩
          exact (SubH.cons 0 rfl (SubH.nil _))
        · replace hg33 := of_decide_eq_false hg33
          refine ops_ro' rfl (ro_move rfl) rfl ?_
          refine ops_ro' rfl (ro_and rfl rfl (and32 (by omega) (c := 40) (by decide) rfl)) rfl ?_
          refine ops_ro' rfl (ro_eql rfl rfl (decide_eq_true (by omega))) rfl ?_
          refine ops_ro' rfl (ro_pick rfl rfl) rfl ?_
          refine ops_nil ?_
          refine Then_normal ?_
          refine wp_condT rfl ?_
          refine wp_seq' ?_
          refine wp_region' ?_
          refine ops_ro' rfl (ro_fieldAddr fa32_0 rfl) rfl ?_
          refine ops_ro' rfl (ro_load sc3 rfl (Rd.pick 0 rfl (Rd.own rfl))) rfl ?_
          refine ops_ro' rfl (ro_eql rfl rfl rfl) rfl ?_
          refine ops_ro' rfl (ro_move (v := .bool true) rfl) rfl ?_
          refine ops_ro' rfl (ro_fieldAddr fa32_1 rfl) rfl ?_
          refine ops_ro' rfl (ro_load sc3 rfl (Rd.pick 0 rfl (Rd.own rfl))) rfl ?_
          refine ops_ro' rfl (ro_eql rfl rfl rfl) rfl ?_
          refine ops_ro' rfl (ro_pick rfl rfl) rfl ?_
          refine ops_ro' rfl (ro_move (v := .bool true) rfl) rfl ?_
          refine ops_eff' rfl (eff_call Tryz.call15 rfl rfl (by repeat (first | exact Split.nil _ | apply Split.cons 0 rfl | apply Split.cons 1 rfl | apply Split.cons 2 rfl | apply Split.cons 3 rfl | apply Split.cons 4 rfl | apply Split.cons 5 rfl | apply Split.cons 6 rfl | apply Split.cons 7 rfl | apply Split.cons 8 rfl | apply Split.cons 9 rfl | apply Split.cons 10 rfl | apply Split.cons 11 rfl)) (known16_spec V hP)) rfl ?_
          rintro _ H' ⟨_, ⟨rfl, rfl⟩, hH⟩
          simp only [List.cons_append, List.nil_append, List.eraseIdx_cons_zero, List.eraseIdx_cons_succ, List.set_cons_zero, List.set_cons_succ] at hH
          subst hH
          refine ops_ro' rfl (ro_pick rfl rfl) rfl ?_
          refine ops_ro' rfl (ro_assign rfl) rfl ?_
          refine ops_nil ?_
          refine Then_normal ?_
          refine wp_ret' ?_
          refine Then_ret ?_
          refine' doneS_ret (res1 rfl rfl) ?_ ?_
          rotate_left 1
          exact ⟨rfl, rfl⟩
          exact (SubH.cons 0 rfl (SubH.nil _))
  · skip
    refine tri_of_wpS Tryz.func4 rfl Tryz.ntmps4 (by simp) ?_
    refine wp_seq' ?_
    refine wp_region' ?_
    refine ops_ro' rfl (ro_assign rfl) rfl ?_
    refine ops_nil ?_
    refine Then_normal ?_
    refine wp_seq' ?_
    refine wp_region' ?_
    refine ops_eff' rfl (eff_call Tryz.call11 rfl rfl (by repeat (first | exact Split.nil _ | apply Split.cons 0 rfl | apply Split.cons 1 rfl | apply Split.cons 2 rfl | apply Split.cons 3 rfl | apply Split.cons 4 rfl | apply Split.cons 5 rfl | apply Split.cons 6 rfl | apply Split.cons 7 rfl | apply Split.cons 8 rfl | apply Split.cons 9 rfl | apply Split.cons 10 rfl | apply Split.cons 11 rfl)) (fnew_spec)) rfl ?_
    rintro _ H' ⟨_, ⟨mb, t, r, rfl, hn1, hn2, hW, rfl⟩, hH⟩
    simp only [List.cons_append, List.nil_append, List.eraseIdx_cons_zero, List.eraseIdx_cons_succ, List.set_cons_zero, List.set_cons_succ] at hH
    subst hH
    obtain ⟨hs0, hhs0⟩ : ∃ z, z = List.replicate 256 Hd.zero := ⟨_, rfl⟩
    rw [← hhs0]
    have hH0 : HsOk hs0 := by rw [hhs0]; exact hs0_ok
    have hz0 : ∀ s i, hdA hs0 s i = Hd.zero := fun s i => by rw [hhs0]; exact hdA_new s i
    obtain ⟨tb, htb⟩ : ∃ z, t.tb = z := ⟨_, rfl⟩
    rw [htb]
    refine ops_ro' rfl (ro_assign rfl) rfl ?_
    refine ops_nil ?_
    refine Then_normal ?_
    refine wp_seq' ?_
    refine wp_seq' ?_
    refine wp_region' ?_
    refine ops_ro' rfl (ro_move rfl) rfl ?_
    refine ops_ro' rfl (ro_ptrEqlNil Tryz.underlying23 rfl rfl rfl) rfl ?_
    refine ops_nil ?_
    refine Then_normal ?_
    refine wp_condF rfl ?_
    refine wp_skip' ?_
    refine Then_normal ?_
    refine wp_cutK 1005 (fun Δ LL => ∃ (t1 : Tr) (r1 : Nd), (G1 t1 r1 [102] [] ∧ t1.tb = tb ∧ t1.next ≤ 10 ∧ HsOk (hs0.set (0 * 16 + 0) (⟨true, 1, false, 2, none, 0, []⟩ : Hd))) ∧ Δ = [] ∧ LL = [oMa mb tb (hs0.set (0 * 16 + 0) (⟨true, 1, false, 2, none, 0, []⟩ : Hd)), tree t1, St ((hs0.set (0 * 16 + 0) (⟨true, 1, false, 2, none, 0, []⟩ : Hd)).map rowN), V]) (Has.cons (k := 0) rfl (Has.cons (k := 1) rfl (Has.cons (k := 5) rfl (Has.nil _)))) ?_ ?_
    · refine wp_region' ?_
      refine ops_ro' rfl (ro_move rfl) rfl ?_
      refine ops_ro' rfl (ro_build rfl (bld_struct (cs := (qAt 3 [102] 10).cs) st35 rfl)) rfl ?_
      refine ops_eff' rfl (eff_callM (Pre := [_, _, _]) Tryz.call12 rfl rfl (by repeat (first | exact Split.nil _ | apply Split.cons 0 rfl | apply Split.cons 1 rfl | apply Split.cons 2 rfl | apply Split.cons 3 rfl | apply Split.cons 4 rfl | apply Split.cons 5 rfl | apply Split.cons 6 rfl | apply Split.cons 7 rfl | apply Split.cons 8 rfl | apply Split.cons 9 rfl | apply Split.cons 10 rfl | apply Split.cons 11 rfl)) (do16K hW htb hH0 ((0 : Nat) : Int) (qAt 3 [102] 10) (qAt_ok (by decide) (by decide)) (by first | exact Ml.pick (H := _) 0 rfl hP | exact Ml.pick (H := _) 1 rfl hP | exact Ml.pick (H := _) 2 rfl hP | exact Ml.pick (H := _) 3 rfl hP | exact Ml.pick (H := _) 4 rfl hP | exact Ml.pick (H := _) 5 rfl hP | exact Ml.pick (H := _) 6 rfl hP | exact Ml.pick (H := _) 7 rfl hP | exact Ml.pick (H := _) 8 rfl hP) (by omega) (show Vw _ _ 0 (cel []) from Vw.nil _))) rfl ?_
      rintro _ H' ⟨_, ⟨t9, hs9, k9, dp9, dc9, np9, nc9, rfl, hD9, hW9, htb9, hnx9, hH9, rfl⟩, hH⟩
      simp only [List.cons_append, List.nil_append, List.eraseIdx_cons_zero, List.eraseIdx_cons_succ, List.set_cons_zero, List.set_cons_succ] at hH
      subst hH
      obtain ⟨r9, hG, _, hh, rfl⟩ := run_first (s := 0) hW hn1 hn2 (by decide) rfl (nm := [102]) rfl (by decide) rfl (by decide) (by decide) (by decide) (free_zero (by rw [hz0]; rfl)) hD9
      subst hh
      refine ops_nil ?_
      refine Then_normal ?_
      refine over_cut (kept ⟨t9, r9, ⟨hG, htb9, by omega, hH9⟩, rfl, rfl⟩ ?_ ?_ ?_)
      · exact (by repeat (first | exact Has.nil _ | refine Has.cons rfl ?_))
      · exact (by repeat (first | exact Has.nil _ | refine Has.cons rfl ?_))
      · exact (SubH.cons 2 rfl (SubH.cons 2 rfl (SubH.cons 2 rfl (SubH.cons 2 rfl (SubH.nil _)))))
    · rintro Δ LL ⟨t1, r1, ⟨hG1, htb1, hnx1, hH1⟩, rfl, rfl⟩
      simp only [List.cons_append, List.nil_append]
      refine wp_cutK 1006 (fun Δ LL => ∃ (t2 : Tr) (r2 : Nd), (G1 t2 r2 [102] [102, 105, 114, 115, 116] ∧ t2.tb = tb ∧ t2.next ≤ 20) ∧ Δ = [] ∧ LL = [oMa mb tb (hs0.set (0 * 16 + 0) (⟨true, 1, false, 2, none, 0, []⟩ : Hd)), tree t2, St ((hs0.set (0 * 16 + 0) (⟨true, 1, false, 2, none, 0, []⟩ : Hd)).map rowN), V]) (Has.cons (k := 0) rfl (Has.cons (k := 1) rfl (Has.cons (k := 5) rfl (Has.nil _)))) ?_ ?_
      · refine wp_region' ?_
        refine ops_ro' rfl (ro_move rfl) rfl ?_
        refine ops_eff' rfl (eff_buildSlice rfl (sbld (cs := cel [102, 105, 114, 115, 116]) [.int .u8 0, .int .u8 0, .int .u8 0, .int .u8 0, .int .u8 0] sl25 (by decide) (by kernel_rfl) rfl)) rfl ?_
        rintro _ _ ⟨b20, rfl, rfl⟩
        refine ops_eff' rfl (eff_mark 0 Tryz.underlying25 Tryz.underlying5 rfl rfl rfl (by decide)) rfl ?_
        rintro _ _ ⟨rfl, rfl⟩
        simp only [List.set_cons_zero, List.set_cons_succ]
        refine ops_ro' rfl (ro_build rfl (bld_struct (cs := (qWr [104, 48] (some ⟨b20, 0, none⟩) 5 [102, 105, 114, 115, 116]).cs) st35 rfl)) rfl ?_
        refine ops_eff' rfl (eff_callM (Pre := [_, _, _]) Tryz.call12 rfl rfl (by repeat (first | exact Split.nil _ | apply Split.cons 0 rfl | apply Split.cons 1 rfl | apply Split.cons 2 rfl | apply Split.cons 3 rfl | apply Split.cons 4 rfl | apply Split.cons 5 rfl | apply Split.cons 6 rfl | apply Split.cons 7 rfl | apply Split.cons 8 rfl | apply Split.cons 9 rfl | apply Split.cons 10 rfl | apply Split.cons 11 rfl)) (do16K hG1.wf htb1 hH1 ((0 : Nat) : Int) (qWr [104, 48] (some ⟨b20, 0, none⟩) 5 [102, 105, 114, 115, 116]) (qWr_ok (by decide)) (by first | exact Ml.pick (H := _) 0 rfl hP | exact Ml.pick (H := _) 1 rfl hP | exact Ml.pick (H := _) 2 rfl hP | exact Ml.pick (H := _) 3 rfl hP | exact Ml.pick (H := _) 4 rfl hP | exact Ml.pick (H := _) 5 rfl hP | exact Ml.pick (H := _) 6 rfl hP | exact Ml.pick (H := _) 7 rfl hP | exact Ml.pick (H := _) 8 rfl hP) (by omega) (by first | exact (Vw.pick 0 rfl hv79) | exact (Vw.pick 1 rfl hv79) | exact (Vw.pick 2 rfl hv79) | exact (Vw.pick 3 rfl hv79) | exact (Vw.pick 4 rfl hv79) | exact (Vw.pick 5 rfl hv79) | exact (Vw.pick 6 rfl hv79) | exact (Vw.pick 7 rfl hv79) | exact (Vw.pick 8 rfl hv79) | exact (Vw.pick 9 rfl hv79) | exact Vw.pick 0 rfl Vw.row | exact Vw.pick 1 rfl Vw.row | exact Vw.pick 2 rfl Vw.row | exact Vw.pick 3 rfl Vw.row | exact Vw.pick 4 rfl Vw.row | exact Vw.pick 5 rfl Vw.row | exact Vw.pick 6 rfl Vw.row | exact Vw.pick 7 rfl Vw.row | exact Vw.pick 8 rfl Vw.row | exact Vw.pick 9 rfl Vw.row | exact Vw.nil _ | exact Vw.empty _ _))) rfl ?_
        rintro _ H' ⟨_, ⟨t9, hs9, k9, dp9, dc9, np9, nc9, rfl, hD9, hW9, htb9, hnx9, hH9, rfl⟩, hH⟩
        simp only [List.cons_append, List.nil_append, List.eraseIdx_cons_zero, List.eraseIdx_cons_succ, List.set_cons_zero, List.set_cons_succ] at hH
        subst hH
        have hA : hdA (hs0.set (0 * 16 + 0) (⟨true, 1, false, 2, none, 0, []⟩ : Hd)) 0 0 = (⟨true, 1, false, 2, none, 0, []⟩ : Hd) := by rw [hdA_set hH0.len (by decide) (by decide) (by decide) (by decide), if_pos ⟨rfl, rfl⟩]
        obtain ⟨hh, _, hw⟩ := run_write (s := 0) (i := 0) hG1 (by decide) rfl (find_zero (by rw [hA])) (by rw [hA]; exact ⟨rfl, rfl⟩) (by show 5 ≤ 32768; omega) (by show 0 + 5 ≤ 1048576; omega) (by show 0 + 5 ≤ 1048576; omega) hD9
        rw [if_neg (by rw [hA]; decide), hA] at hw
        obtain ⟨rfl, hG⟩ := hw
        subst hh
        refine ops_nil ?_
        refine Then_normal ?_
        refine over_cut (kept ⟨t9, r1, ⟨hG, htb9, by omega⟩, rfl, rfl⟩ ?_ ?_ ?_)
        · exact (by repeat (first | exact Has.nil _ | refine Has.cons rfl ?_))
        · exact (by repeat (first | exact Has.nil _ | refine Has.cons rfl ?_))
        · exact (SubH.cons 2 rfl (SubH.cons 2 rfl (SubH.cons 2 rfl (SubH.cons 3 rfl (SubH.nil _)))))
      · rintro Δ LL ⟨t2, r2, ⟨hG2, htb2, hnx2⟩, rfl, rfl⟩
        simp only [List.cons_append, List.nil_append]
        refine wp_seq' ?_
        refine wp_region' ?_
        refine ops_ro' rfl (ro_move rfl) rfl ?_
        refine ops_ro' rfl (ro_rem rfl rfl (by omega) (u32_rem _)) rfl ?_
        obtain ⟨f, hf⟩ : ∃ f, f = fl % 64 := ⟨_, rfl⟩
        rw [← hf] at hbad ⊢
        refine ops_ro' rfl (ro_assign rfl) rfl ?_
        refine ops_nil ?_
        refine Then_normal ?_
        refine wp_seq' ?_
        refine wp_region' ?_
        refine ops_ro' rfl (ro_move rfl) rfl ?_
        refine ops_ro' rfl (ro_move rfl) rfl ?_
        refine ops_ro' rfl (ro_build rfl (bld_struct (cs := (qAt 3 [102] f).cs) st35 rfl)) rfl ?_
        refine ops_eff' rfl (eff_callM (Pre := [_, _, _]) Tryz.call12 rfl rfl (by repeat (first | exact Split.nil _ | apply Split.cons 0 rfl | apply Split.cons 1 rfl | apply Split.cons 2 rfl | apply Split.cons 3 rfl | apply Split.cons 4 rfl | apply Split.cons 5 rfl | apply Split.cons 6 rfl | apply Split.cons 7 rfl | apply Split.cons 8 rfl | apply Split.cons 9 rfl | apply Split.cons 10 rfl | apply Split.cons 11 rfl)) (do16K hG2.wf htb2 hH1 ((1 : Nat) : Int) (qAt 3 [102] f) (qAt_ok (by decide) (by omega)) (by first | exact Ml.pick (H := _) 0 rfl hP | exact Ml.pick (H := _) 1 rfl hP | exact Ml.pick (H := _) 2 rfl hP | exact Ml.pick (H := _) 3 rfl hP | exact Ml.pick (H := _) 4 rfl hP | exact Ml.pick (H := _) 5 rfl hP | exact Ml.pick (H := _) 6 rfl hP | exact Ml.pick (H := _) 7 rfl hP | exact Ml.pick (H := _) 8 rfl hP) (by omega) (show Vw _ _ 0 (cel []) from Vw.nil _))) rfl ?_
        rintro _ H' ⟨_, ⟨t9, hs9, k9, dp9, dc9, np9, nc9, rfl, hD9, hW9, htb9, hnx9, hH9, rfl⟩, hH⟩
        simp only [List.cons_append, List.nil_append, List.eraseIdx_cons_zero, List.eraseIdx_cons_succ, List.set_cons_zero, List.set_cons_succ] at hH
        subst hH
        have hB : hdA (hs0.set (0 * 16 + 0) (⟨true, 1, false, 2, none, 0, []⟩ : Hd)) 1 0 = Hd.zero := by rw [hdA_set hH0.len (by decide) (by decide) (by decide) (by decide), if_neg (by decide), hz0]
        have ho := run_open (s := 1) hG2 (by decide) rfl rfl rfl (free_zero (by rw [hB]; rfl)) hD9
        rw [if_neg hbad] at ho
        obtain ⟨hG, _, hh, rfl⟩ := ho
        subst hh
        refine ops_eff' rfl (eff_alloc z32) rfl ?_
        rintro _ _ ⟨b7, rfl, rfl⟩
        refine ops_eff0 rfl (eff_storeA 0 ag32 rfl rfl rfl rfl rfl (Nat.le_of_ble_eq_true rfl) (warm_zero _)) rfl ?_
        rintro _ _ rfl
        simp only [List.set_cons_zero, List.set_cons_succ]
        refine ops_nil ?_
        refine Then_normal ?_
        refine wp_seq' ?_
        refine wp_seq' ?_
        obtain ⟨w, hw⟩ : ∃ w : List UInt8, w = (if f &&& 18 = 18 then [] else [102, 105, 114, 115, 116]) := ⟨_, rfl⟩
        have hG3 : G1 t9 r2 [102] w := by rw [hw]; exact hG
        refine wp_region' ?_
        refine ops_ro' rfl (ro_move rfl) rfl ?_
        refine ops_ro' rfl (ro_and rfl rfl (and32 (by omega) (c := 3) (by decide) rfl)) rfl ?_
        refine ops_ro' rfl (ro_eql rfl rfl (decide_eq_false (by omega))) rfl ?_
        refine ops_ro' rfl (ro_move (v := .bool false) rfl) rfl ?_
        refine ops_ro' rfl (ro_move rfl) rfl ?_
        refine ops_ro' rfl (ro_and rfl rfl (and32 (by omega) (c := 40) (by decide) rfl)) rfl ?_
        refine ops_ro' rfl (ro_eql rfl rfl (decide_eq_false (by omega))) rfl ?_
        refine ops_ro' rfl (ro_pick rfl rfl) rfl ?_
        refine ops_nil ?_
        refine Then_normal ?_
        refine wp_condF rfl ?_
        refine wp_skip' ?_
        refine Then_normal ?_
        refine wp_seq' ?_
        refine wp_seq' ?_
        refine wp_region' ?_
        refine ops_ro' rfl (ro_fieldAddr fa32_0 rfl) rfl ?_
        refine ops_ro' rfl (ro_load sc3 rfl (Rd.pick 0 rfl (Rd.own rfl))) rfl ?_
        refine ops_ro' rfl (ro_neq rfl rfl rfl) rfl ?_
        refine ops_nil ?_
        refine Then_normal ?_
        refine wp_condF rfl ?_
        refine wp_skip' ?_
        refine Then_normal ?_
        refine wp_seq' ?_
        refine wp_region' ?_
        refine ops_ro' rfl (ro_assign rfl) rfl ?_
        refine ops_nil ?_
        refine Then_normal ?_
        refine wp_cutK 1015 (fun Δ LL => ∃ (t3 : Tr) (r3 : Nd) (w : List UInt8), (G1 t3 r3 [102] w ∧ w.length ≤ 5 ∧ t3.tb = tb ∧ t3.next ≤ 30 ∧ HsOk ((hs0.set (0 * 16 + 0) (⟨true, 1, false, 2, none, 0, []⟩ : Hd)).set (1 * 16 + 0) (⟨true, 1, false, f &&& 7, none, 0, []⟩ : Hd))) ∧ Δ = [(8, .int .i64 (w.length : Int))] ∧ LL = [oMa mb tb ((hs0.set (0 * 16 + 0) (⟨true, 1, false, 2, none, 0, []⟩ : Hd)).set (1 * 16 + 0) (⟨true, 1, false, f &&& 7, none, 0, []⟩ : Hd)), tree t3, St (((hs0.set (0 * 16 + 0) (⟨true, 1, false, 2, none, 0, []⟩ : Hd)).set (1 * 16 + 0) (⟨true, 1, false, f &&& 7, none, 0, []⟩ : Hd)).map rowN), V]) (Has.cons (k := 1) rfl (Has.cons (k := 5) rfl (Has.cons (k := 6) rfl (Has.nil _)))) ?_ ?_
        · refine wp_seq' ?_
          refine wp_region' ?_
          refine ops_ro' rfl (ro_move rfl) rfl ?_
          refine ops_ro' rfl (ro_and rfl rfl (and32 (by omega) (c := 18) (by decide) rfl)) rfl ?_
          refine ops_ro' rfl (ro_eql rfl rfl rfl) rfl ?_
          refine ops_nil ?_
          refine Then_normal ?_
          refine wp_cond' rfl (fun hc54 => ?_) (fun hc54 => ?_)
          · replace hc54 := of_decide_eq_true hc54
            refine wp_region' ?_
            refine ops_ro' rfl (ro_assign rfl) rfl ?_
            refine ops_nil ?_
            refine Then_normal ?_
            refine over_cut (kept ⟨t9, r2, [], ⟨by rw [if_pos (by omega)] at hw; exact hw ▸ hG3, by decide, htb9, by omega, hH9⟩, rfl, rfl⟩ ?_ ?_ ?_)
            · exact (by repeat (first | exact Has.nil _ | refine Has.cons rfl ?_))
            · exact (by repeat (first | exact Has.nil _ | refine Has.cons rfl ?_))
            · exact (SubH.cons 3 rfl (SubH.cons 3 rfl (SubH.cons 3 rfl (SubH.cons 3 rfl (SubH.nil _)))))
          · replace hc54 := of_decide_eq_false hc54
            refine wp_skip' ?_
            refine Then_normal ?_
            refine over_cut (kept ⟨t9, r2, [102, 105, 114, 115, 116], ⟨by rw [if_neg (by omega)] at hw; exact hw ▸ hG3, by decide, htb9, by omega, hH9⟩, rfl, rfl⟩ ?_ ?_ ?_)
            · exact (by repeat (first | exact Has.nil _ | refine Has.cons rfl ?_))
            · exact (by repeat (first | exact Has.nil _ | refine Has.cons rfl ?_))
            · exact (SubH.cons 3 rfl (SubH.cons 3 rfl (SubH.cons 3 rfl (SubH.cons 3 rfl (SubH.nil _)))))
        · rintro Δ LL ⟨t3, r3, w, ⟨hG3, hw5, htb3, hnx3, hH3⟩, rfl, rfl⟩
          simp only [List.cons_append, List.nil_append]
          refine wp_cutK 1016 (fun Δ LL => ∃ (k1 : Rk) (b9 : Nat) (dpb9 : Option Addr) (dcb9 : Nat) (npb9 : Option Addr) (ncb9 : Nat), ((f &&& 1 = 0 → k1.status = 3) ∧ (f &&& 1 = 1 → k1.data.length = w.length)) ∧ Δ = [(9, .pointer (some ⟨b9, 0, none⟩))] ∧ LL = [own b9 (.cells (((k1) : Rk).rep dpb9 dcb9 npb9 ncb9).cs.toArray 32 (0, 0)), oMa mb tb ((hs0.set (0 * 16 + 0) (⟨true, 1, false, 2, none, 0, []⟩ : Hd)).set (1 * 16 + 0) (⟨true, 1, false, f &&& 7, none, 0, []⟩ : Hd)), tree t3, St (((hs0.set (0 * 16 + 0) (⟨true, 1, false, 2, none, 0, []⟩ : Hd)).set (1 * 16 + 0) (⟨true, 1, false, f &&& 7, none, 0, []⟩ : Hd)).map rowN), V]) (Has.cons (k := 1) rfl (Has.cons (k := 5) rfl (Has.cons (k := 6) rfl (Has.cons (k := 8) rfl (Has.nil _))))) ?_ ?_
          · have hA : hdA ((hs0.set (0 * 16 + 0) (⟨true, 1, false, 2, none, 0, []⟩ : Hd)).set (1 * 16 + 0) (⟨true, 1, false, f &&& 7, none, 0, []⟩ : Hd)) 1 0 = (⟨true, 1, false, f &&& 7, none, 0, []⟩ : Hd) := by rw [hdA_set hH1.len (by decide) (by decide) (by decide) (by decide), if_pos ⟨rfl, rfl⟩]
            refine wp_region' ?_
            refine ops_ro' rfl (ro_move rfl) rfl ?_
            refine ops_ro' rfl (ro_build rfl (bld_struct (cs := (qOn 5 [104, 48] 9).cs) st35 rfl)) rfl ?_
            refine ops_eff' rfl (eff_callM (Pre := [_, _, _]) Tryz.call12 rfl rfl (by repeat (first | exact Split.nil _ | apply Split.cons 0 rfl | apply Split.cons 1 rfl | apply Split.cons 2 rfl | apply Split.cons 3 rfl | apply Split.cons 4 rfl | apply Split.cons 5 rfl | apply Split.cons 6 rfl | apply Split.cons 7 rfl | apply Split.cons 8 rfl | apply Split.cons 9 rfl | apply Split.cons 10 rfl | apply Split.cons 11 rfl)) (do16K hG3.wf htb3 hH3 ((1 : Nat) : Int) (qOn 5 [104, 48] 9) (qOn_ok (by decide)) (by first | exact Ml.pick (H := _) 0 rfl hP | exact Ml.pick (H := _) 1 rfl hP | exact Ml.pick (H := _) 2 rfl hP | exact Ml.pick (H := _) 3 rfl hP | exact Ml.pick (H := _) 4 rfl hP | exact Ml.pick (H := _) 5 rfl hP | exact Ml.pick (H := _) 6 rfl hP | exact Ml.pick (H := _) 7 rfl hP | exact Ml.pick (H := _) 8 rfl hP) (by omega) (show Vw _ _ 0 (cel []) from Vw.nil _))) rfl ?_
            rintro _ H' ⟨_, ⟨t9, hs9, k9, dp9, dc9, np9, nc9, rfl, hD9, hW9, htb9, hnx9, hH9, rfl⟩, hH⟩
            simp only [List.cons_append, List.nil_append, List.eraseIdx_cons_zero, List.eraseIdx_cons_succ, List.set_cons_zero, List.set_cons_succ] at hH
            subst hH
            obtain ⟨ht, hh, hkA, hkB⟩ := den_read hG3 hw5 hA hD9
            obtain rfl : t3 = t9 := ht.symm
            subst hh
            refine ops_eff' rfl (eff_alloc z32) rfl ?_
            rintro _ _ ⟨b9, rfl, rfl⟩
            refine ops_eff0 rfl (eff_storeA 0 ag32 rfl rfl rfl rfl rfl (Nat.le_of_ble_eq_true rfl) (warm_zero _)) rfl ?_
            rintro _ _ rfl
            simp only [List.set_cons_zero, List.set_cons_succ]
            refine ops_nil ?_
            refine Then_normal ?_
            refine over_cut (kept ⟨k9, b9, dp9, dc9, np9, nc9, ⟨hkA, hkB⟩, rfl, rfl⟩ ?_ ?_ ?_)
            · exact (by repeat (first | exact Has.nil _ | refine Has.cons rfl ?_))
            · exact (by repeat (first | exact Has.nil _ | refine Has.cons rfl ?_))
            · exact (SubH.cons 0 rfl (SubH.cons 2 rfl (SubH.cons 2 rfl (SubH.cons 2 rfl (SubH.cons 2 rfl (SubH.nil _))))))
          · rintro Δ LL ⟨k1, b9, dpb9, dcb9, npb9, ncb9, ⟨hkA, hkB⟩, rfl, rfl⟩
            simp only [List.cons_append, List.nil_append]
            refine wp_seq' ?_
            refine wp_seq' ?_
            have hf1 : f &&& 1 = 0 ∨ f &&& 1 = 1 := by rw [Nat.and_one_is_mod]; omega
            refine wp_region' ?_
            refine ops_ro' rfl (ro_move rfl) rfl ?_
            refine ops_ro' rfl (ro_and rfl rfl (and32 (by omega) (c := 1) (by decide) rfl)) rfl ?_
            refine ops_ro' rfl (ro_eql rfl rfl rfl) rfl ?_
            skip
            refine ops_split rfl rfl rfl (fun hg61 => ?_) (fun hg61 => ?_)
            · replace hg61 := of_decide_eq_true hg61
              have hkA2 := hkA (by omega)
              refine ops_ro' rfl (ro_fieldAddr fa32_1 rfl) rfl ?_
              refine ops_ro' rfl (ro_load sc3 rfl (Rd.pick 0 rfl (Rd.own rfl))) rfl ?_
              refine ops_ro' rfl (ro_neq rfl rfl (decide_eq_false (by show ¬ (k1.status ≠ 3); omega))) rfl ?_
              refine ops_ro' rfl (ro_pick rfl rfl) rfl ?_
              refine ops_ro' rfl (ro_move (v := .bool false) rfl) rfl ?_
              refine ops_ro' rfl (ro_move rfl) rfl ?_
              refine ops_ro' rfl (ro_and rfl rfl (and32 (by omega) (c := 1) (by decide) rfl)) rfl ?_
              refine ops_ro' rfl (ro_eql rfl rfl (decide_eq_false (by omega))) rfl ?_
              refine ops_ro' rfl (ro_move (v := .bool false) rfl) rfl ?_
              refine ops_skip' rfl rfl ?_
              refine ops_skip' rfl rfl ?_
              refine ops_skip' rfl rfl ?_
              refine ops_skip' rfl rfl ?_
              refine ops_skip' rfl rfl ?_
              refine ops_ro' rfl (ro_pick rfl rfl) rfl ?_
              refine ops_ro' rfl (ro_pick rfl rfl) rfl ?_
              refine ops_nil ?_
              refine Then_normal ?_
              refine wp_condF rfl ?_
              refine wp_skip' ?_
              refine Then_normal ?_
              refine wp_seq' ?_
              refine wp_region' ?_
              refine ops_ro' rfl (ro_move rfl) rfl ?_
              refine ops_eff' rfl (eff_call Tryz.call16 rfl rfl (by repeat (first | exact Split.nil _ | apply Split.cons 0 rfl | apply Split.cons 1 rfl | apply Split.cons 2 rfl | apply Split.cons 3 rfl | apply Split.cons 4 rfl | apply Split.cons 5 rfl | apply Split.cons 6 rfl | apply Split.cons 7 rfl | apply Split.cons 8 rfl | apply Split.cons 9 rfl | apply Split.cons 10 rfl | apply Split.cons 11 rfl)) (kCut V p c l 50 hv hc)) rfl ?_
              rintro _ H' ⟨_, ⟨_, ⟨p79, c79, rfl, hv79, hc79, rfl⟩, rfl⟩, hH⟩
              simp only [List.cons_append, List.nil_append, List.eraseIdx_cons_zero, List.eraseIdx_cons_succ, List.set_cons_zero, List.set_cons_succ] at hH
              subst hH
              obtain ⟨y, hy⟩ : ∃ y, y = l.take 50 := ⟨_, rfl⟩
              have hy50 : y.length ≤ 50 := by rw [hy, List.length_take]; omega
              rw [← hy] at hv79 hc79 ⊢
              refine ops_ro' rfl (ro_assign rfl) rfl ?_
              refine ops_nil ?_
              refine Then_normal ?_
              refine wp_cutK 1020 (fun Δ LL => ∃ (k2 : Rk) (t4 : Tr) (r4 : Nd) (w2 : List UInt8) (aw : Nat) (b10 : Nat) (dpb10 : Option Addr) (dcb10 : Nat) (npb10 : Option Addr) (ncb10 : Nat), (G1 t4 r4 [102] w2 ∧ t4.tb = tb ∧ t4.next ≤ 40 ∧ (f &&& 2 = 0 → w2.length = w.length ∧ k2.status = 3) ∧ (f &&& 2 ≠ 0 → k2.kind = 1 ∧ k2.status = 0 ∧ w2.length = max (aw + y.length) w.length ∧ (f &&& 4 ≠ 0 → aw = w.length) ∧ (f &&& 4 = 0 → aw = 0))) ∧ Δ = [(10, .pointer (some ⟨b10, 0, none⟩))] ∧ LL = [own b10 (.cells (((k2) : Rk).rep dpb10 dcb10 npb10 ncb10).cs.toArray 32 (0, 0)), oMa mb tb ((hs0.set (0 * 16 + 0) (⟨true, 1, false, 2, none, 0, []⟩ : Hd)).set (1 * 16 + 0) (⟨true, 1, false, f &&& 7, none, 0, []⟩ : Hd)), tree t4, St (((hs0.set (0 * 16 + 0) (⟨true, 1, false, 2, none, 0, []⟩ : Hd)).set (1 * 16 + 0) (⟨true, 1, false, f &&& 7, none, 0, []⟩ : Hd)).map rowN), V]) (Has.cons (k := 1) rfl (Has.cons (k := 5) rfl (Has.cons (k := 6) rfl (Has.cons (k := 8) rfl (Has.nil _))))) ?_ ?_
              · have hA : hdA ((hs0.set (0 * 16 + 0) (⟨true, 1, false, 2, none, 0, []⟩ : Hd)).set (1 * 16 + 0) (⟨true, 1, false, f &&& 7, none, 0, []⟩ : Hd)) 1 0 = (⟨true, 1, false, f &&& 7, none, 0, []⟩ : Hd) := by rw [hdA_set hH1.len (by decide) (by decide) (by decide) (by decide), if_pos ⟨rfl, rfl⟩]
                refine wp_region' ?_
                refine ops_ro' rfl (ro_move rfl) rfl ?_
                refine ops_ro' rfl (ro_move rfl) rfl ?_
                refine ops_ro' rfl (ro_build rfl (bld_struct (cs := (qWr [104, 48] p79 c79 y).cs) st35 rfl)) rfl ?_
                refine ops_eff' rfl (eff_callM (Pre := [_, _, _]) Tryz.call12 rfl rfl (by repeat (first | exact Split.nil _ | apply Split.cons 0 rfl | apply Split.cons 1 rfl | apply Split.cons 2 rfl | apply Split.cons 3 rfl | apply Split.cons 4 rfl | apply Split.cons 5 rfl | apply Split.cons 6 rfl | apply Split.cons 7 rfl | apply Split.cons 8 rfl | apply Split.cons 9 rfl | apply Split.cons 10 rfl | apply Split.cons 11 rfl)) (do16K hG3.wf htb3 hH3 ((1 : Nat) : Int) (qWr [104, 48] p79 c79 y) (qWr_ok (by omega)) (by first | exact Ml.pick (H := _) 0 rfl hP | exact Ml.pick (H := _) 1 rfl hP | exact Ml.pick (H := _) 2 rfl hP | exact Ml.pick (H := _) 3 rfl hP | exact Ml.pick (H := _) 4 rfl hP | exact Ml.pick (H := _) 5 rfl hP | exact Ml.pick (H := _) 6 rfl hP | exact Ml.pick (H := _) 7 rfl hP | exact Ml.pick (H := _) 8 rfl hP) (by omega) (by first | exact (Vw.pick 0 rfl hv79) | exact (Vw.pick 1 rfl hv79) | exact (Vw.pick 2 rfl hv79) | exact (Vw.pick 3 rfl hv79) | exact (Vw.pick 4 rfl hv79) | exact (Vw.pick 5 rfl hv79) | exact (Vw.pick 6 rfl hv79) | exact (Vw.pick 7 rfl hv79) | exact (Vw.pick 8 rfl hv79) | exact (Vw.pick 9 rfl hv79) | exact Vw.pick 0 rfl Vw.row | exact Vw.pick 1 rfl Vw.row | exact Vw.pick 2 rfl Vw.row | exact Vw.pick 3 rfl Vw.row | exact Vw.pick 4 rfl Vw.row | exact Vw.pick 5 rfl Vw.row | exact Vw.pick 6 rfl Vw.row | exact Vw.pick 7 rfl Vw.row | exact Vw.pick 8 rfl Vw.row | exact Vw.pick 9 rfl Vw.row | exact Vw.nil _ | exact Vw.empty _ _))) rfl ?_
                rintro _ H' ⟨_, ⟨t9, hs9, k9, dp9, dc9, np9, nc9, rfl, hD9, hW9, htb9, hnx9, hH9, rfl⟩, hH⟩
                simp only [List.cons_append, List.nil_append, List.eraseIdx_cons_zero, List.eraseIdx_cons_succ, List.set_cons_zero, List.set_cons_succ] at hH
                subst hH
                obtain ⟨hh, w2, r4, aw, hG4, hkC, hkD⟩ := den_write hG3 hw5 hy50 hA hD9
                subst hh
                refine ops_eff' rfl (eff_alloc z32) rfl ?_
                rintro _ _ ⟨b10, rfl, rfl⟩
                refine ops_eff0 rfl (eff_storeA 0 ag32 rfl rfl rfl rfl rfl (Nat.le_of_ble_eq_true rfl) (warm_zero _)) rfl ?_
                rintro _ _ rfl
                simp only [List.set_cons_zero, List.set_cons_succ]
                refine ops_nil ?_
                refine Then_normal ?_
                refine over_cut (kept ⟨k9, t9, r4, w2, aw, b10, dp9, dc9, np9, nc9, ⟨hG4, htb9, by omega, hkC, hkD⟩, rfl, rfl⟩ ?_ ?_ ?_)
                · exact (by repeat (first | exact Has.nil _ | refine Has.cons rfl ?_))
                · exact (by repeat (first | exact Has.nil _ | refine Has.cons rfl ?_))
                · exact (SubH.cons 0 rfl (SubH.cons 2 rfl (SubH.cons 2 rfl (SubH.cons 2 rfl (SubH.cons 2 rfl (SubH.nil _))))))
              · rintro Δ LL ⟨k2, t4, r4, w2, aw, b10, dpb10, dcb10, npb10, ncb10, ⟨hG4, htb4, hnx4, hkC, hkD⟩, rfl, rfl⟩
                simp only [List.cons_append, List.nil_append]
                refine wp_cutK 1021 (fun Δ LL => ∃ (a : At) (b11 : Nat) (dpb11 : Option Addr) (dcb11 : Nat) (npb11 : Option Addr) (ncb11 : Nat), (a.s = w2.length ∧ w2.length ≤ 1048576) ∧ Δ = [(11, .pointer (some ⟨b11, 0, none⟩))] ∧ LL = [own b11 (.cells (((⟨5, 0, [], [], [], a⟩) : Rk).rep dpb11 dcb11 npb11 ncb11).cs.toArray 32 (0, 0)), own b10 (.cells (((k2) : Rk).rep dpb10 dcb10 npb10 ncb10).cs.toArray 32 (0, 0)), V]) (Has.cons (k := 1) rfl (Has.cons (k := 6) rfl (Has.cons (k := 8) rfl (Has.cons (k := 10) rfl (Has.nil _))))) ?_ ?_
                · refine wp_region' ?_
                  refine ops_ro' rfl (ro_move rfl) rfl ?_
                  refine ops_ro' rfl (ro_build rfl (bld_struct (cs := (qAt 17 [102] 0).cs) st35 rfl)) rfl ?_
                  refine ops_eff' rfl (eff_callM (Pre := [_, _, _]) Tryz.call12 rfl rfl (by repeat (first | exact Split.nil _ | apply Split.cons 0 rfl | apply Split.cons 1 rfl | apply Split.cons 2 rfl | apply Split.cons 3 rfl | apply Split.cons 4 rfl | apply Split.cons 5 rfl | apply Split.cons 6 rfl | apply Split.cons 7 rfl | apply Split.cons 8 rfl | apply Split.cons 9 rfl | apply Split.cons 10 rfl | apply Split.cons 11 rfl)) (do16K hG4.wf htb4 hH3 ((1 : Nat) : Int) (qAt 17 [102] 0) (qAt_ok (by decide) (by decide)) (by first | exact Ml.pick (H := _) 0 rfl hP | exact Ml.pick (H := _) 1 rfl hP | exact Ml.pick (H := _) 2 rfl hP | exact Ml.pick (H := _) 3 rfl hP | exact Ml.pick (H := _) 4 rfl hP | exact Ml.pick (H := _) 5 rfl hP | exact Ml.pick (H := _) 6 rfl hP | exact Ml.pick (H := _) 7 rfl hP | exact Ml.pick (H := _) 8 rfl hP) (by omega) (show Vw _ _ 0 (cel []) from Vw.nil _))) rfl ?_
                  rintro _ H' ⟨_, ⟨t9, hs9, k9, dp9, dc9, np9, nc9, rfl, hD9, hW9, htb9, hnx9, hH9, rfl⟩, hH⟩
                  simp only [List.cons_append, List.nil_append, List.eraseIdx_cons_zero, List.eraseIdx_cons_succ, List.set_cons_zero, List.set_cons_succ] at hH
                  subst hH
                  obtain ⟨ht, hh, a, rfl, has⟩ := run_stat (s := 1) hG4 (by decide) rfl rfl hD9
                  have hle := hG4.le
                  refine ops_eff' rfl (eff_alloc z32) rfl ?_
                  rintro _ _ ⟨b11, rfl, rfl⟩
                  refine ops_eff0 rfl (eff_storeA 0 ag32 rfl rfl rfl rfl rfl (Nat.le_of_ble_eq_true rfl) (warm_zero _)) rfl ?_
                  rintro _ _ rfl
                  simp only [List.set_cons_zero, List.set_cons_succ]
                  refine ops_nil ?_
                  refine Then_normal ?_
                  refine over_cut (kept ⟨a, b11, dp9, dc9, np9, nc9, ⟨has, hle⟩, rfl, rfl⟩ ?_ ?_ ?_)
                  · exact (by repeat (first | exact Has.nil _ | refine Has.cons rfl ?_))
                  · exact (by repeat (first | exact Has.nil _ | refine Has.cons rfl ?_))
                  · exact (SubH.cons 0 rfl (SubH.cons 5 rfl (SubH.cons 5 rfl (SubH.nil _))))
                · rintro Δ LL ⟨a, b11, dpb11, dcb11, npb11, ncb11, ⟨has, hle⟩, rfl, rfl⟩
                  simp only [List.cons_append, List.nil_append]
                  refine wp_seq' ?_
                  refine wp_seq' ?_
                  refine wp_region' ?_
                  refine ops_ro' rfl (ro_move rfl) rfl ?_
                  refine ops_ro' rfl (ro_and rfl rfl (and32 (by omega) (c := 2) (by decide) rfl)) rfl ?_
                  refine ops_ro' rfl (ro_eql rfl rfl rfl) rfl ?_
                  refine ops_nil ?_
                  refine Then_normal ?_
                  refine wp_cond' rfl (fun hc89 => ?_) (fun hc89 => ?_)
                  · replace hc89 := of_decide_eq_true hc89
                    obtain ⟨hC1, hC2⟩ := hkC (by omega)
                    refine wp_seq' ?_
                    refine wp_region' ?_
                    refine ops_ro' rfl (ro_fieldAddr fa32_1 rfl) rfl ?_
                    refine ops_ro' rfl (ro_load sc3 rfl (Rd.pick 1 rfl (Rd.own rfl))) rfl ?_
                    refine ops_ro' rfl (ro_eql rfl rfl (decide_eq_true (by show k2.status = 3; omega))) rfl ?_
                    refine ops_ro' rfl (ro_move (v := .bool true) rfl) rfl ?_
                    refine ops_ro' rfl (ro_fieldAddr fa32_5 rfl) rfl ?_
                    refine ops_ro' rfl (ro_fieldAddr fa30_1 rfl) rfl ?_
                    refine ops_ro' rfl (ro_load sc28 rfl (Rd.pick 0 rfl (Rd.own rfl))) rfl ?_
                    refine ops_ro' rfl (ro_conv Tryz.underlying28 Tryz.underlying3 rfl (show IntKind.i64.wrap (a.s : Int) = (a.s : Int) from wrap_natN (by omega))) rfl ?_
                    refine ops_ro' rfl (ro_move rfl) rfl ?_
                    refine ops_ro' rfl (ro_eql rfl rfl (decide_eq_true (by show (a.s : Int) = (w.length : Int); omega))) rfl ?_
                    refine ops_ro' rfl (ro_pick rfl rfl) rfl ?_
                    refine ops_ro' rfl (ro_move (v := .bool true) rfl) rfl ?_
                    refine ops_eff' rfl (eff_call Tryz.call15 rfl rfl (by repeat (first | exact Split.nil _ | apply Split.cons 0 rfl | apply Split.cons 1 rfl | apply Split.cons 2 rfl | apply Split.cons 3 rfl | apply Split.cons 4 rfl | apply Split.cons 5 rfl | apply Split.cons 6 rfl | apply Split.cons 7 rfl | apply Split.cons 8 rfl | apply Split.cons 9 rfl | apply Split.cons 10 rfl | apply Split.cons 11 rfl)) (known16_spec V hP)) rfl ?_
                    rintro _ H' ⟨_, ⟨rfl, rfl⟩, hH⟩
                    simp only [List.cons_append, List.nil_append, List.eraseIdx_cons_zero, List.eraseIdx_cons_succ, List.set_cons_zero, List.set_cons_succ] at hH
                    subst hH
                    refine ops_ro' rfl (ro_pick rfl rfl) rfl ?_
                    refine ops_ro' rfl (ro_assign rfl) rfl ?_
                    refine ops_nil ?_
                    refine Then_normal ?_
                    refine wp_ret' ?_
                    refine Then_ret ?_
                    refine' doneS_ret (res1 rfl rfl) ?_ ?_
                    rotate_left 1
                    exact ⟨rfl, rfl⟩
                    exact (SubH.cons 0 rfl (SubH.nil _))
                  · replace hc89 := of_decide_eq_false hc89
                    obtain ⟨hD1, hD2, hD3, hD4, hD5⟩ := hkD (by omega)
                    refine wp_skip' ?_
                    refine Then_normal ?_
                    refine wp_seq' ?_
                    refine wp_region' ?_
                    refine ops_ro' rfl (ro_move rfl) rfl ?_
                    refine ops_ro' rfl (ro_sliceLen Tryz.underlying25 rfl) rfl ?_
                    refine ops_ro' rfl (ro_assign rfl) rfl ?_
                    refine ops_nil ?_
                    refine Then_normal ?_
                    refine wp_seq' ?_
                    refine wp_seq' ?_
                    refine wp_region' ?_
                    refine ops_ro' rfl (ro_move rfl) rfl ?_
                    refine ops_ro' rfl (ro_and rfl rfl (and32 (by omega) (c := 4) (by decide) rfl)) rfl ?_
                    refine ops_ro' rfl (ro_neq rfl rfl rfl) rfl ?_
                    refine ops_nil ?_
                    refine Then_normal ?_
                    refine wp_cond' rfl (fun hc108 => ?_) (fun hc108 => ?_)
                    · replace hc108 := of_decide_eq_true hc108
                      have hD6 := hD4 (by omega)
                      refine wp_region' ?_
                      refine ops_ro' rfl (ro_move rfl) rfl ?_
                      refine ops_ro' rfl (ro_move rfl) rfl ?_
                      refine ops_ro' rfl (ro_sliceLen Tryz.underlying25 rfl) rfl ?_
                      refine ops_ro' rfl (ro_add rfl rfl (wrap_addN (by omega))) rfl ?_
                      refine ops_ro' rfl (ro_assign rfl) rfl ?_
                      refine ops_nil ?_
                      refine Then_normal ?_
                      refine wp_cutK 1028 (fun Δ LL => ∃ (en : Int), (en = (w2.length : Int)) ∧ Δ = [(12, .int .i64 en)] ∧ LL = [own b11 (.cells (((⟨5, 0, [], [], [], a⟩) : Rk).rep dpb11 dcb11 npb11 ncb11).cs.toArray 32 (0, 0)), own b10 (.cells (((k2) : Rk).rep dpb10 dcb10 npb10 ncb10).cs.toArray 32 (0, 0)), V]) (Has.cons (k := 10) rfl (Has.cons (k := 11) rfl (Has.nil _))) ?_ ?_
                      · refine wp_seq' ?_
                        refine wp_region' ?_
                        refine ops_ro' rfl (ro_move rfl) rfl ?_
                        refine ops_ro' rfl (ro_move rfl) rfl ?_
                        refine ops_ro' rfl (ro_lss rfl rfl (decide_eq_false (by omega))) rfl ?_
                        refine ops_nil ?_
                        refine Then_normal ?_
                        refine wp_condF rfl ?_
                        refine wp_skip' ?_
                        refine Then_normal ?_
                        refine over_cut (kept ⟨((w.length + y.length : Nat) : Int), (by omega), rfl, rfl⟩ ?_ ?_ ?_)
                        · exact (by repeat (first | exact Has.nil _ | refine Has.cons rfl ?_))
                        · exact (by repeat (first | exact Has.nil _ | refine Has.cons rfl ?_))
                        · exact SubH.refl _
                      · rintro Δ LL ⟨en, hen, rfl, rfl⟩
                        simp only [List.cons_append, List.nil_append]
                        refine wp_seq' ?_
                        refine wp_region' ?_
                        refine ops_ro' rfl (ro_fieldAddr fa32_0 rfl) rfl ?_
                        refine ops_ro' rfl (ro_load sc3 rfl (Rd.pick 1 rfl (Rd.own rfl))) rfl ?_
                        refine ops_ro' rfl (ro_eql rfl rfl (decide_eq_true (by show k2.kind = 1; omega))) rfl ?_
                        refine ops_ro' rfl (ro_move (v := .bool true) rfl) rfl ?_
                        refine ops_ro' rfl (ro_fieldAddr fa32_1 rfl) rfl ?_
                        refine ops_ro' rfl (ro_load sc3 rfl (Rd.pick 1 rfl (Rd.own rfl))) rfl ?_
                        refine ops_ro' rfl (ro_eql rfl rfl (decide_eq_true (by show k2.status = 0; omega))) rfl ?_
                        refine ops_ro' rfl (ro_pick rfl rfl) rfl ?_
                        refine ops_ro' rfl (ro_move (v := .bool true) rfl) rfl ?_
                        refine ops_ro' rfl (ro_fieldAddr fa32_5 rfl) rfl ?_
                        refine ops_ro' rfl (ro_fieldAddr fa30_1 rfl) rfl ?_
                        refine ops_ro' rfl (ro_load sc28 rfl (Rd.pick 0 rfl (Rd.own rfl))) rfl ?_
                        refine ops_ro' rfl (ro_conv Tryz.underlying28 Tryz.underlying3 rfl (show IntKind.i64.wrap (a.s : Int) = (a.s : Int) from wrap_natN (by omega))) rfl ?_
                        refine ops_ro' rfl (ro_move rfl) rfl ?_
                        refine ops_ro' rfl (ro_eql rfl rfl (decide_eq_true (by show (a.s : Int) = en; omega))) rfl ?_
                        refine ops_ro' rfl (ro_pick rfl rfl) rfl ?_
                        refine ops_ro' rfl (ro_move (v := .bool true) rfl) rfl ?_
                        refine ops_eff' rfl (eff_call Tryz.call15 rfl rfl (by repeat (first | exact Split.nil _ | apply Split.cons 0 rfl | apply Split.cons 1 rfl | apply Split.cons 2 rfl | apply Split.cons 3 rfl | apply Split.cons 4 rfl | apply Split.cons 5 rfl | apply Split.cons 6 rfl | apply Split.cons 7 rfl | apply Split.cons 8 rfl | apply Split.cons 9 rfl | apply Split.cons 10 rfl | apply Split.cons 11 rfl)) (known16_spec V hP)) rfl ?_
                        rintro _ H' ⟨_, ⟨rfl, rfl⟩, hH⟩
                        simp only [List.cons_append, List.nil_append, List.eraseIdx_cons_zero, List.eraseIdx_cons_succ, List.set_cons_zero, List.set_cons_succ] at hH
                        subst hH
                        refine ops_ro' rfl (ro_pick rfl rfl) rfl ?_
                        refine ops_ro' rfl (ro_assign rfl) rfl ?_
                        refine ops_nil ?_
                        refine Then_normal ?_
                        refine wp_ret' ?_
                        refine' doneS_ret (res1 rfl rfl) ?_ ?_
                        rotate_left 1
                        exact ⟨rfl, rfl⟩
                        exact (SubH.cons 0 rfl (SubH.nil _))
                    · replace hc108 := of_decide_eq_false hc108
                      have hD6 := hD5 (by omega)
                      refine wp_skip' ?_
                      refine Then_normal ?_
                      refine wp_cutK 1028 (fun Δ LL => ∃ (en : Int), (en = (w2.length : Int)) ∧ Δ = [(12, .int .i64 en)] ∧ LL = [own b11 (.cells (((⟨5, 0, [], [], [], a⟩) : Rk).rep dpb11 dcb11 npb11 ncb11).cs.toArray 32 (0, 0)), own b10 (.cells (((k2) : Rk).rep dpb10 dcb10 npb10 ncb10).cs.toArray 32 (0, 0)), V]) (Has.cons (k := 10) rfl (Has.cons (k := 11) rfl (Has.nil _))) ?_ ?_
                      · refine wp_seq' ?_
                        refine wp_region' ?_
                        refine ops_ro' rfl (ro_move rfl) rfl ?_
                        refine ops_ro' rfl (ro_move rfl) rfl ?_
                        refine ops_ro' rfl (ro_lss rfl rfl rfl) rfl ?_
                        refine ops_nil ?_
                        refine Then_normal ?_
                        refine wp_cond' rfl (fun hc115 => ?_) (fun hc115 => ?_)
                        · replace hc115 := of_decide_eq_true hc115
                          refine wp_region' ?_
                          refine ops_ro' rfl (ro_move rfl) rfl ?_
                          refine ops_ro' rfl (ro_assign rfl) rfl ?_
                          refine ops_nil ?_
                          refine Then_normal ?_
                          refine over_cut (kept ⟨(w.length : Int), (by omega), rfl, rfl⟩ ?_ ?_ ?_)
                          · exact (by repeat (first | exact Has.nil _ | refine Has.cons rfl ?_))
                          · exact (by repeat (first | exact Has.nil _ | refine Has.cons rfl ?_))
                          · exact SubH.refl _
                        · replace hc115 := of_decide_eq_false hc115
                          refine wp_skip' ?_
                          refine Then_normal ?_
                          refine over_cut (kept ⟨(y.length : Int), (by omega), rfl, rfl⟩ ?_ ?_ ?_)
                          · exact (by repeat (first | exact Has.nil _ | refine Has.cons rfl ?_))
                          · exact (by repeat (first | exact Has.nil _ | refine Has.cons rfl ?_))
                          · exact SubH.refl _
                      · rintro Δ LL ⟨en, hen, rfl, rfl⟩
                        simp only [List.cons_append, List.nil_append]
                        refine wp_seq' ?_
                        refine wp_region' ?_
                        refine ops_ro' rfl (ro_fieldAddr fa32_0 rfl) rfl ?_
                        refine ops_ro' rfl (ro_load sc3 rfl (Rd.pick 1 rfl (Rd.own rfl))) rfl ?_
                        refine ops_ro' rfl (ro_eql rfl rfl (decide_eq_true (by show k2.kind = 1; omega))) rfl ?_
                        refine ops_ro' rfl (ro_move (v := .bool true) rfl) rfl ?_
                        refine ops_ro' rfl (ro_fieldAddr fa32_1 rfl) rfl ?_
                        refine ops_ro' rfl (ro_load sc3 rfl (Rd.pick 1 rfl (Rd.own rfl))) rfl ?_
                        refine ops_ro' rfl (ro_eql rfl rfl (decide_eq_true (by show k2.status = 0; omega))) rfl ?_
                        refine ops_ro' rfl (ro_pick rfl rfl) rfl ?_
                        refine ops_ro' rfl (ro_move (v := .bool true) rfl) rfl ?_
                        refine ops_ro' rfl (ro_fieldAddr fa32_5 rfl) rfl ?_
                        refine ops_ro' rfl (ro_fieldAddr fa30_1 rfl) rfl ?_
                        refine ops_ro' rfl (ro_load sc28 rfl (Rd.pick 0 rfl (Rd.own rfl))) rfl ?_
                        refine ops_ro' rfl (ro_conv Tryz.underlying28 Tryz.underlying3 rfl (show IntKind.i64.wrap (a.s : Int) = (a.s : Int) from wrap_natN (by omega))) rfl ?_
                        refine ops_ro' rfl (ro_move rfl) rfl ?_
                        refine ops_ro' rfl (ro_eql rfl rfl (decide_eq_true (by show (a.s : Int) = en; omega))) rfl ?_
                        refine ops_ro' rfl (ro_pick rfl rfl) rfl ?_
                        refine ops_ro' rfl (ro_move (v := .bool true) rfl) rfl ?_
                        refine ops_eff' rfl (eff_call Tryz.call15 rfl rfl (by repeat (first | exact Split.nil _ | apply Split.cons 0 rfl | apply Split.cons 1 rfl | apply Split.cons 2 rfl | apply Split.cons 3 rfl | apply Split.cons 4 rfl | apply Split.cons 5 rfl | apply Split.cons 6 rfl | apply Split.cons 7 rfl | apply Split.cons 8 rfl | apply Split.cons 9 rfl | apply Split.cons 10 rfl | apply Split.cons 11 rfl)) (known16_spec V hP)) rfl ?_
                        rintro _ H' ⟨_, ⟨rfl, rfl⟩, hH⟩
                        simp only [List.cons_append, List.nil_append, List.eraseIdx_cons_zero, List.eraseIdx_cons_succ, List.set_cons_zero, List.set_cons_succ] at hH
                        subst hH
                        refine ops_ro' rfl (ro_pick rfl rfl) rfl ?_
                        refine ops_ro' rfl (ro_assign rfl) rfl ?_
                        refine ops_nil ?_
                        refine Then_normal ?_
                        refine wp_ret' ?_
                        refine' doneS_ret (res1 rfl rfl) ?_ ?_
                        rotate_left 1
                        exact ⟨rfl, rfl⟩
                        exact (SubH.cons 0 rfl (SubH.nil _))
            · replace hg61 := of_decide_eq_false hg61
              have hkB2 := hkB (by omega)
              refine ops_skip' rfl rfl ?_
              refine ops_skip' rfl rfl ?_
              refine ops_skip' rfl rfl ?_
              refine ops_ro' rfl (ro_pick rfl rfl) rfl ?_
              refine ops_ro' rfl (ro_move (v := .bool false) rfl) rfl ?_
              refine ops_ro' rfl (ro_move rfl) rfl ?_
              refine ops_ro' rfl (ro_and rfl rfl (and32 (by omega) (c := 1) (by decide) rfl)) rfl ?_
              refine ops_ro' rfl (ro_eql rfl rfl (decide_eq_true (by omega))) rfl ?_
              refine ops_ro' rfl (ro_move (v := .bool true) rfl) rfl ?_
              refine ops_ro' rfl (ro_fieldAddr fa32_3 rfl) rfl ?_
              refine ops_ro' rfl (ro_load sc25 rfl (Rd.pick 0 rfl (Rd.own rfl))) rfl ?_
              refine ops_ro' rfl (ro_sliceLen Tryz.underlying25 rfl) rfl ?_
              refine ops_ro' rfl (ro_move rfl) rfl ?_
              refine ops_ro' rfl (ro_neq rfl rfl (decide_eq_false (by show ¬ ((k1.data.length : Int) ≠ (w.length : Int)); omega))) rfl ?_
              refine ops_ro' rfl (ro_pick rfl rfl) rfl ?_
              refine ops_ro' rfl (ro_pick rfl rfl) rfl ?_
              refine ops_nil ?_
              refine Then_normal ?_
              refine wp_condF rfl ?_
              refine wp_skip' ?_
              refine Then_normal ?_
              refine wp_seq' ?_
              refine wp_region' ?_
              refine ops_ro' rfl (ro_move rfl) rfl ?_
              refine ops_eff' rfl (eff_call Tryz.call16 rfl rfl (by repeat (first | exact Split.nil _ | apply Split.cons 0 rfl | apply Split.cons 1 rfl | apply Split.cons 2 rfl | apply Split.cons 3 rfl | apply Split.cons 4 rfl | apply Split.cons 5 rfl | apply Split.cons 6 rfl | apply Split.cons 7 rfl | apply Split.cons 8 rfl | apply Split.cons 9 rfl | apply Split.cons 10 rfl | apply Split.cons 11 rfl)) (kCut V p c l 50 hv hc)) rfl ?_
              rintro _ H' ⟨_, ⟨_, ⟨p79, c79, rfl, hv79, hc79, rfl⟩, rfl⟩, hH⟩
              simp only [List.cons_append, List.nil_append, List.eraseIdx_cons_zero, List.eraseIdx_cons_succ, List.set_cons_zero, List.set_cons_succ] at hH
              subst hH
              obtain ⟨y, hy⟩ : ∃ y, y = l.take 50 := ⟨_, rfl⟩
              have hy50 : y.length ≤ 50 := by rw [hy, List.length_take]; omega
              rw [← hy] at hv79 hc79 ⊢
              refine ops_ro' rfl (ro_assign rfl) rfl ?_
              refine ops_nil ?_
              refine Then_normal ?_
              refine wp_cutK 1020 (fun Δ LL => ∃ (k2 : Rk) (t4 : Tr) (r4 : Nd) (w2 : List UInt8) (aw : Nat) (b10 : Nat) (dpb10 : Option Addr) (dcb10 : Nat) (npb10 : Option Addr) (ncb10 : Nat), (G1 t4 r4 [102] w2 ∧ t4.tb = tb ∧ t4.next ≤ 40 ∧ (f &&& 2 = 0 → w2.length = w.length ∧ k2.status = 3) ∧ (f &&& 2 ≠ 0 → k2.kind = 1 ∧ k2.status = 0 ∧ w2.length = max (aw + y.length) w.length ∧ (f &&& 4 ≠ 0 → aw = w.length) ∧ (f &&& 4 = 0 → aw = 0))) ∧ Δ = [(10, .pointer (some ⟨b10, 0, none⟩))] ∧ LL = [own b10 (.cells (((k2) : Rk).rep dpb10 dcb10 npb10 ncb10).cs.toArray 32 (0, 0)), oMa mb tb ((hs0.set (0 * 16 + 0) (⟨true, 1, false, 2, none, 0, []⟩ : Hd)).set (1 * 16 + 0) (⟨true, 1, false, f &&& 7, none, 0, []⟩ : Hd)), tree t4, St (((hs0.set (0 * 16 + 0) (⟨true, 1, false, 2, none, 0, []⟩ : Hd)).set (1 * 16 + 0) (⟨true, 1, false, f &&& 7, none, 0, []⟩ : Hd)).map rowN), V]) (Has.cons (k := 1) rfl (Has.cons (k := 5) rfl (Has.cons (k := 6) rfl (Has.cons (k := 8) rfl (Has.nil _))))) ?_ ?_
              · have hA : hdA ((hs0.set (0 * 16 + 0) (⟨true, 1, false, 2, none, 0, []⟩ : Hd)).set (1 * 16 + 0) (⟨true, 1, false, f &&& 7, none, 0, []⟩ : Hd)) 1 0 = (⟨true, 1, false, f &&& 7, none, 0, []⟩ : Hd) := by rw [hdA_set hH1.len (by decide) (by decide) (by decide) (by decide), if_pos ⟨rfl, rfl⟩]
                refine wp_region' ?_
                refine ops_ro' rfl (ro_move rfl) rfl ?_
                refine ops_ro' rfl (ro_move rfl) rfl ?_
                refine ops_ro' rfl (ro_build rfl (bld_struct (cs := (qWr [104, 48] p79 c79 y).cs) st35 rfl)) rfl ?_
                refine ops_eff' rfl (eff_callM (Pre := [_, _, _]) Tryz.call12 rfl rfl (by repeat (first | exact Split.nil _ | apply Split.cons 0 rfl | apply Split.cons 1 rfl | apply Split.cons 2 rfl | apply Split.cons 3 rfl | apply Split.cons 4 rfl | apply Split.cons 5 rfl | apply Split.cons 6 rfl | apply Split.cons 7 rfl | apply Split.cons 8 rfl | apply Split.cons 9 rfl | apply Split.cons 10 rfl | apply Split.cons 11 rfl)) (do16K hG3.wf htb3 hH3 ((1 : Nat) : Int) (qWr [104, 48] p79 c79 y) (qWr_ok (by omega)) (by first | exact Ml.pick (H := _) 0 rfl hP | exact Ml.pick (H := _) 1 rfl hP | exact Ml.pick (H := _) 2 rfl hP | exact Ml.pick (H := _) 3 rfl hP | exact Ml.pick (H := _) 4 rfl hP | exact Ml.pick (H := _) 5 rfl hP | exact Ml.pick (H := _) 6 rfl hP | exact Ml.pick (H := _) 7 rfl hP | exact Ml.pick (H := _) 8 rfl hP) (by omega) (by first | exact (Vw.pick 0 rfl hv79) | exact (Vw.pick 1 rfl hv79) | exact (Vw.pick 2 rfl hv79) | exact (Vw.pick 3 rfl hv79) | exact (Vw.pick 4 rfl hv79) | exact (Vw.pick 5 rfl hv79) | exact (Vw.pick 6 rfl hv79) | exact (Vw.pick 7 rfl hv79) | exact (Vw.pick 8 rfl hv79) | exact (Vw.pick 9 rfl hv79) | exact Vw.pick 0 rfl Vw.row | exact Vw.pick 1 rfl Vw.row | exact Vw.pick 2 rfl Vw.row | exact Vw.pick 3 rfl Vw.row | exact Vw.pick 4 rfl Vw.row | exact Vw.pick 5 rfl Vw.row | exact Vw.pick 6 rfl Vw.row | exact Vw.pick 7 rfl Vw.row | exact Vw.pick 8 rfl Vw.row | exact Vw.pick 9 rfl Vw.row | exact Vw.nil _ | exact Vw.empty _ _))) rfl ?_
                rintro _ H' ⟨_, ⟨t9, hs9, k9, dp9, dc9, np9, nc9, rfl, hD9, hW9, htb9, hnx9, hH9, rfl⟩, hH⟩
                simp only [List.cons_append, List.nil_append, List.eraseIdx_cons_zero, List.eraseIdx_cons_succ, List.set_cons_zero, List.set_cons_succ] at hH
                subst hH
                obtain ⟨hh, w2, r4, aw, hG4, hkC, hkD⟩ := den_write hG3 hw5 hy50 hA hD9
                subst hh
                refine ops_eff' rfl (eff_alloc z32) rfl ?_
                rintro _ _ ⟨b10, rfl, rfl⟩
                refine ops_eff0 rfl (eff_storeA 0 ag32 rfl rfl rfl rfl rfl (Nat.le_of_ble_eq_true rfl) (warm_zero _)) rfl ?_
                rintro _ _ rfl
                simp only [List.set_cons_zero, List.set_cons_succ]
                refine ops_nil ?_
                refine Then_normal ?_
                refine over_cut (kept ⟨k9, t9, r4, w2, aw, b10, dp9, dc9, np9, nc9, ⟨hG4, htb9, by omega, hkC, hkD⟩, rfl, rfl⟩ ?_ ?_ ?_)
                · exact (by repeat (first | exact Has.nil _ | refine Has.cons rfl ?_))
                · exact (by repeat (first | exact Has.nil _ | refine Has.cons rfl ?_))
                · exact (SubH.cons 0 rfl (SubH.cons 2 rfl (SubH.cons 2 rfl (SubH.cons 2 rfl (SubH.cons 2 rfl (SubH.nil _))))))
              · rintro Δ LL ⟨k2, t4, r4, w2, aw, b10, dpb10, dcb10, npb10, ncb10, ⟨hG4, htb4, hnx4, hkC, hkD⟩, rfl, rfl⟩
                simp only [List.cons_append, List.nil_append]
                refine wp_cutK 1021 (fun Δ LL => ∃ (a : At) (b11 : Nat) (dpb11 : Option Addr) (dcb11 : Nat) (npb11 : Option Addr) (ncb11 : Nat), (a.s = w2.length ∧ w2.length ≤ 1048576) ∧ Δ = [(11, .pointer (some ⟨b11, 0, none⟩))] ∧ LL = [own b11 (.cells (((⟨5, 0, [], [], [], a⟩) : Rk).rep dpb11 dcb11 npb11 ncb11).cs.toArray 32 (0, 0)), own b10 (.cells (((k2) : Rk).rep dpb10 dcb10 npb10 ncb10).cs.toArray 32 (0, 0)), V]) (Has.cons (k := 1) rfl (Has.cons (k := 6) rfl (Has.cons (k := 8) rfl (Has.cons (k := 10) rfl (Has.nil _))))) ?_ ?_
                · refine wp_region' ?_
                  refine ops_ro' rfl (ro_move rfl) rfl ?_
                  refine ops_ro' rfl (ro_build rfl (bld_struct (cs := (qAt 17 [102] 0).cs) st35 rfl)) rfl ?_
                  refine ops_eff' rfl (eff_callM (Pre := [_, _, _]) Tryz.call12 rfl rfl (by repeat (first | exact Split.nil _ | apply Split.cons 0 rfl | apply Split.cons 1 rfl | apply Split.cons 2 rfl | apply Split.cons 3 rfl | apply Split.cons 4 rfl | apply Split.cons 5 rfl | apply Split.cons 6 rfl | apply Split.cons 7 rfl | apply Split.cons 8 rfl | apply Split.cons 9 rfl | apply Split.cons 10 rfl | apply Split.cons 11 rfl)) (do16K hG4.wf htb4 hH3 ((1 : Nat) : Int) (qAt 17 [102] 0) (qAt_ok (by decide) (by decide)) (by first | exact Ml.pick (H := _) 0 rfl hP | exact Ml.pick (H := _) 1 rfl hP | exact Ml.pick (H := _) 2 rfl hP | exact Ml.pick (H := _) 3 rfl hP | exact Ml.pick (H := _) 4 rfl hP | exact Ml.pick (H := _) 5 rfl hP | exact Ml.pick (H := _) 6 rfl hP | exact Ml.pick (H := _) 7 rfl hP | exact Ml.pick (H := _) 8 rfl hP) (by omega) (show Vw _ _ 0 (cel []) from Vw.nil _))) rfl ?_
                  rintro _ H' ⟨_, ⟨t9, hs9, k9, dp9, dc9, np9, nc9, rfl, hD9, hW9, htb9, hnx9, hH9, rfl⟩, hH⟩
                  simp only [List.cons_append, List.nil_append, List.eraseIdx_cons_zero, List.eraseIdx_cons_succ, List.set_cons_zero, List.set_cons_succ] at hH
                  subst hH
                  obtain ⟨ht, hh, a, rfl, has⟩ := run_stat (s := 1) hG4 (by decide) rfl rfl hD9
                  have hle := hG4.le
                  refine ops_eff' rfl (eff_alloc z32) rfl ?_
                  rintro _ _ ⟨b11, rfl, rfl⟩
                  refine ops_eff0 rfl (eff_storeA 0 ag32 rfl rfl rfl rfl rfl (Nat.le_of_ble_eq_true rfl) (warm_zero _)) rfl ?_
                  rintro _ _ rfl
                  simp only [List.set_cons_zero, List.set_cons_succ]
                  refine ops_nil ?_
                  refine Then_normal ?_
                  refine over_cut (kept ⟨a, b11, dp9, dc9, np9, nc9, ⟨has, hle⟩, rfl, rfl⟩ ?_ ?_ ?_)
                  · exact (by repeat (first | exact Has.nil _ | refine Has.cons rfl ?_))
                  · exact (by repeat (first | exact Has.nil _ | refine Has.cons rfl ?_))
                  · exact (SubH.cons 0 rfl (SubH.cons 5 rfl (SubH.cons 5 rfl (SubH.nil _))))
                · rintro Δ LL ⟨a, b11, dpb11, dcb11, npb11, ncb11, ⟨has, hle⟩, rfl, rfl⟩
                  simp only [List.cons_append, List.nil_append]
                  refine wp_seq' ?_
                  refine wp_seq' ?_
                  refine wp_region' ?_
                  refine ops_ro' rfl (ro_move rfl) rfl ?_
                  refine ops_ro' rfl (ro_and rfl rfl (and32 (by omega) (c := 2) (by decide) rfl)) rfl ?_
                  refine ops_ro' rfl (ro_eql rfl rfl rfl) rfl ?_
                  refine ops_nil ?_
                  refine Then_normal ?_
                  refine wp_cond' rfl (fun hc89 => ?_) (fun hc89 => ?_)
                  · replace hc89 := of_decide_eq_true hc89
                    obtain ⟨hC1, hC2⟩ := hkC (by omega)
                    refine wp_seq' ?_
                    refine wp_region' ?_
                    refine ops_ro' rfl (ro_fieldAddr fa32_1 rfl) rfl ?_
                    refine ops_ro' rfl (ro_load sc3 rfl (Rd.pick 1 rfl (Rd.own rfl))) rfl ?_
                    refine ops_ro' rfl (ro_eql rfl rfl (decide_eq_true (by show k2.status = 3; omega))) rfl ?_
                    refine ops_ro' rfl (ro_move (v := .bool true) rfl) rfl ?_
                    refine ops_ro' rfl (ro_fieldAddr fa32_5 rfl) rfl ?_
                    refine ops_ro' rfl (ro_fieldAddr fa30_1 rfl) rfl ?_
                    refine ops_ro' rfl (ro_load sc28 rfl (Rd.pick 0 rfl (Rd.own rfl))) rfl ?_
                    refine ops_ro' rfl (ro_conv Tryz.underlying28 Tryz.underlying3 rfl (show IntKind.i64.wrap (a.s : Int) = (a.s : Int) from wrap_natN (by omega))) rfl ?_
                    refine ops_ro' rfl (ro_move rfl) rfl ?_
                    refine ops_ro' rfl (ro_eql rfl rfl (decide_eq_true (by show (a.s : Int) = (w.length : Int); omega))) rfl ?_
                    refine ops_ro' rfl (ro_pick rfl rfl) rfl ?_
                    refine ops_ro' rfl (ro_move (v := .bool true) rfl) rfl ?_
                    refine ops_eff' rfl (eff_call Tryz.call15 rfl rfl (by repeat (first | exact Split.nil _ | apply Split.cons 0 rfl | apply Split.cons 1 rfl | apply Split.cons 2 rfl | apply Split.cons 3 rfl | apply Split.cons 4 rfl | apply Split.cons 5 rfl | apply Split.cons 6 rfl | apply Split.cons 7 rfl | apply Split.cons 8 rfl | apply Split.cons 9 rfl | apply Split.cons 10 rfl | apply Split.cons 11 rfl)) (known16_spec V hP)) rfl ?_
                    rintro _ H' ⟨_, ⟨rfl, rfl⟩, hH⟩
                    simp only [List.cons_append, List.nil_append, List.eraseIdx_cons_zero, List.eraseIdx_cons_succ, List.set_cons_zero, List.set_cons_succ] at hH
                    subst hH
                    refine ops_ro' rfl (ro_pick rfl rfl) rfl ?_
                    refine ops_ro' rfl (ro_assign rfl) rfl ?_
                    refine ops_nil ?_
                    refine Then_normal ?_
                    refine wp_ret' ?_
                    refine Then_ret ?_
                    refine' doneS_ret (res1 rfl rfl) ?_ ?_
                    rotate_left 1
                    exact ⟨rfl, rfl⟩
                    exact (SubH.cons 0 rfl (SubH.nil _))
                  · replace hc89 := of_decide_eq_false hc89
                    obtain ⟨hD1, hD2, hD3, hD4, hD5⟩ := hkD (by omega)
                    refine wp_skip' ?_
                    refine Then_normal ?_
                    refine wp_seq' ?_
                    refine wp_region' ?_
                    refine ops_ro' rfl (ro_move rfl) rfl ?_
                    refine ops_ro' rfl (ro_sliceLen Tryz.underlying25 rfl) rfl ?_
                    refine ops_ro' rfl (ro_assign rfl) rfl ?_
                    refine ops_nil ?_
                    refine Then_normal ?_
                    refine wp_seq' ?_
                    refine wp_seq' ?_
                    refine wp_region' ?_
                    refine ops_ro' rfl (ro_move rfl) rfl ?_
                    refine ops_ro' rfl (ro_and rfl rfl (and32 (by omega) (c := 4) (by decide) rfl)) rfl ?_
                    refine ops_ro' rfl (ro_neq rfl rfl rfl) rfl ?_
                    refine ops_nil ?_
                    refine Then_normal ?_
                    refine wp_cond' rfl (fun hc108 => ?_) (fun hc108 => ?_)
                    · replace hc108 := of_decide_eq_true hc108
                      have hD6 := hD4 (by omega)
                      refine wp_region' ?_
                      refine ops_ro' rfl (ro_move rfl) rfl ?_
                      refine ops_ro' rfl (ro_move rfl) rfl ?_
                      refine ops_ro' rfl (ro_sliceLen Tryz.underlying25 rfl) rfl ?_
                      refine ops_ro' rfl (ro_add rfl rfl (wrap_addN (by omega))) rfl ?_
                      refine ops_ro' rfl (ro_assign rfl) rfl ?_
                      refine ops_nil ?_
                      refine Then_normal ?_
                      refine wp_cutK 1028 (fun Δ LL => ∃ (en : Int), (en = (w2.length : Int)) ∧ Δ = [(12, .int .i64 en)] ∧ LL = [own b11 (.cells (((⟨5, 0, [], [], [], a⟩) : Rk).rep dpb11 dcb11 npb11 ncb11).cs.toArray 32 (0, 0)), own b10 (.cells (((k2) : Rk).rep dpb10 dcb10 npb10 ncb10).cs.toArray 32 (0, 0)), V]) (Has.cons (k := 10) rfl (Has.cons (k := 11) rfl (Has.nil _))) ?_ ?_
                      · refine wp_seq' ?_
                        refine wp_region' ?_
                        refine ops_ro' rfl (ro_move rfl) rfl ?_
                        refine ops_ro' rfl (ro_move rfl) rfl ?_
                        refine ops_ro' rfl (ro_lss rfl rfl (decide_eq_false (by omega))) rfl ?_
                        refine ops_nil ?_
                        refine Then_normal ?_
                        refine wp_condF rfl ?_
                        refine wp_skip' ?_
                        refine Then_normal ?_
                        refine over_cut (kept ⟨((w.length + y.length : Nat) : Int), (by omega), rfl, rfl⟩ ?_ ?_ ?_)
                        · exact (by repeat (first | exact Has.nil _ | refine Has.cons rfl ?_))
                        · exact (by repeat (first | exact Has.nil _ | refine Has.cons rfl ?_))
                        · exact SubH.refl _
                      · rintro Δ LL ⟨en, hen, rfl, rfl⟩
                        simp only [List.cons_append, List.nil_append]
                        refine wp_seq' ?_
                        refine wp_region' ?_
                        refine ops_ro' rfl (ro_fieldAddr fa32_0 rfl) rfl ?_
                        refine ops_ro' rfl (ro_load sc3 rfl (Rd.pick 1 rfl (Rd.own rfl))) rfl ?_
                        refine ops_ro' rfl (ro_eql rfl rfl (decide_eq_true (by show k2.kind = 1; omega))) rfl ?_
                        refine ops_ro' rfl (ro_move (v := .bool true) rfl) rfl ?_
                        refine ops_ro' rfl (ro_fieldAddr fa32_1 rfl) rfl ?_
                        refine ops_ro' rfl (ro_load sc3 rfl (Rd.pick 1 rfl (Rd.own rfl))) rfl ?_
                        refine ops_ro' rfl (ro_eql rfl rfl (decide_eq_true (by show k2.status = 0; omega))) rfl ?_
                        refine ops_ro' rfl (ro_pick rfl rfl) rfl ?_
                        refine ops_ro' rfl (ro_move (v := .bool true) rfl) rfl ?_
                        refine ops_ro' rfl (ro_fieldAddr fa32_5 rfl) rfl ?_
                        refine ops_ro' rfl (ro_fieldAddr fa30_1 rfl) rfl ?_
                        refine ops_ro' rfl (ro_load sc28 rfl (Rd.pick 0 rfl (Rd.own rfl))) rfl ?_
                        refine ops_ro' rfl (ro_conv Tryz.underlying28 Tryz.underlying3 rfl (show IntKind.i64.wrap (a.s : Int) = (a.s : Int) from wrap_natN (by omega))) rfl ?_
                        refine ops_ro' rfl (ro_move rfl) rfl ?_
                        refine ops_ro' rfl (ro_eql rfl rfl (decide_eq_true (by show (a.s : Int) = en; omega))) rfl ?_
                        refine ops_ro' rfl (ro_pick rfl rfl) rfl ?_
                        refine ops_ro' rfl (ro_move (v := .bool true) rfl) rfl ?_
                        refine ops_eff' rfl (eff_call Tryz.call15 rfl rfl (by repeat (first | exact Split.nil _ | apply Split.cons 0 rfl | apply Split.cons 1 rfl | apply Split.cons 2 rfl | apply Split.cons 3 rfl | apply Split.cons 4 rfl | apply Split.cons 5 rfl | apply Split.cons 6 rfl | apply Split.cons 7 rfl | apply Split.cons 8 rfl | apply Split.cons 9 rfl | apply Split.cons 10 rfl | apply Split.cons 11 rfl)) (known16_spec V hP)) rfl ?_
                        rintro _ H' ⟨_, ⟨rfl, rfl⟩, hH⟩
                        simp only [List.cons_append, List.nil_append, List.eraseIdx_cons_zero, List.eraseIdx_cons_succ, List.set_cons_zero, List.set_cons_succ] at hH
                        subst hH
                        refine ops_ro' rfl (ro_pick rfl rfl) rfl ?_
                        refine ops_ro' rfl (ro_assign rfl) rfl ?_
                        refine ops_nil ?_
                        refine Then_normal ?_
                        refine wp_ret' ?_
                        refine' doneS_ret (res1 rfl rfl) ?_ ?_
                        rotate_left 1
                        exact ⟨rfl, rfl⟩
                        exact (SubH.cons 0 rfl (SubH.nil _))
                    · replace hc108 := of_decide_eq_false hc108
                      have hD6 := hD5 (by omega)
                      refine wp_skip' ?_
                      refine Then_normal ?_
                      refine wp_cutK 1028 (fun Δ LL => ∃ (en : Int), (en = (w2.length : Int)) ∧ Δ = [(12, .int .i64 en)] ∧ LL = [own b11 (.cells (((⟨5, 0, [], [], [], a⟩) : Rk).rep dpb11 dcb11 npb11 ncb11).cs.toArray 32 (0, 0)), own b10 (.cells (((k2) : Rk).rep dpb10 dcb10 npb10 ncb10).cs.toArray 32 (0, 0)), V]) (Has.cons (k := 10) rfl (Has.cons (k := 11) rfl (Has.nil _))) ?_ ?_
                      · refine wp_seq' ?_
                        refine wp_region' ?_
                        refine ops_ro' rfl (ro_move rfl) rfl ?_
                        refine ops_ro' rfl (ro_move rfl) rfl ?_
                        refine ops_ro' rfl (ro_lss rfl rfl rfl) rfl ?_
                        refine ops_nil ?_
                        refine Then_normal ?_
                        refine wp_cond' rfl (fun hc115 => ?_) (fun hc115 => ?_)
                        · replace hc115 := of_decide_eq_true hc115
                          refine wp_region' ?_
                          refine ops_ro' rfl (ro_move rfl) rfl ?_
                          refine ops_ro' rfl (ro_assign rfl) rfl ?_
                          refine ops_nil ?_
                          refine Then_normal ?_
                          refine over_cut (kept ⟨(w.length : Int), (by omega), rfl, rfl⟩ ?_ ?_ ?_)
                          · exact (by repeat (first | exact Has.nil _ | refine Has.cons rfl ?_))
                          · exact (by repeat (first | exact Has.nil _ | refine Has.cons rfl ?_))
                          · exact SubH.refl _
                        · replace hc115 := of_decide_eq_false hc115
                          refine wp_skip' ?_
                          refine Then_normal ?_
                          refine over_cut (kept ⟨(y.length : Int), (by omega), rfl, rfl⟩ ?_ ?_ ?_)
                          · exact (by repeat (first | exact Has.nil _ | refine Has.cons rfl ?_))
                          · exact (by repeat (first | exact Has.nil _ | refine Has.cons rfl ?_))
                          · exact SubH.refl _
                      · rintro Δ LL ⟨en, hen, rfl, rfl⟩
                        simp only [List.cons_append, List.nil_append]
                        refine wp_seq' ?_
                        refine wp_region' ?_
                        refine ops_ro' rfl (ro_fieldAddr fa32_0 rfl) rfl ?_
                        refine ops_ro' rfl (ro_load sc3 rfl (Rd.pick 1 rfl (Rd.own rfl))) rfl ?_
                        refine ops_ro' rfl (ro_eql rfl rfl (decide_eq_true (by show k2.kind = 1; omega))) rfl ?_
                        refine ops_ro' rfl (ro_move (v := .bool true) rfl) rfl ?_
                        refine ops_ro' rfl (ro_fieldAddr fa32_1 rfl) rfl ?_
                        refine ops_ro' rfl (ro_load sc3 rfl (Rd.pick 1 rfl (Rd.own rfl))) rfl ?_
                        refine ops_ro' rfl (ro_eql rfl rfl (decide_eq_true (by show k2.status = 0; omega))) rfl ?_
                        refine ops_ro' rfl (ro_pick rfl rfl) rfl ?_
                        refine ops_ro' rfl (ro_move (v := .bool true) rfl) rfl ?_
                        refine ops_ro' rfl (ro_fieldAddr fa32_5 rfl) rfl ?_
                        refine ops_ro' rfl (ro_fieldAddr fa30_1 rfl) rfl ?_
                        refine ops_ro' rfl (ro_load sc28 rfl (Rd.pick 0 rfl (Rd.own rfl))) rfl ?_
                        refine ops_ro' rfl (ro_conv Tryz.underlying28 Tryz.underlying3 rfl (show IntKind.i64.wrap (a.s : Int) = (a.s : Int) from wrap_natN (by omega))) rfl ?_
                        refine ops_ro' rfl (ro_move rfl) rfl ?_
                        refine ops_ro' rfl (ro_eql rfl rfl (decide_eq_true (by show (a.s : Int) = en; omega))) rfl ?_
                        refine ops_ro' rfl (ro_pick rfl rfl) rfl ?_
                        refine ops_ro' rfl (ro_move (v := .bool true) rfl) rfl ?_
                        refine ops_eff' rfl (eff_call Tryz.call15 rfl rfl (by repeat (first | exact Split.nil _ | apply Split.cons 0 rfl | apply Split.cons 1 rfl | apply Split.cons 2 rfl | apply Split.cons 3 rfl | apply Split.cons 4 rfl | apply Split.cons 5 rfl | apply Split.cons 6 rfl | apply Split.cons 7 rfl | apply Split.cons 8 rfl | apply Split.cons 9 rfl | apply Split.cons 10 rfl | apply Split.cons 11 rfl)) (known16_spec V hP)) rfl ?_
                        rintro _ H' ⟨_, ⟨rfl, rfl⟩, hH⟩
                        simp only [List.cons_append, List.nil_append, List.eraseIdx_cons_zero, List.eraseIdx_cons_succ, List.set_cons_zero, List.set_cons_succ] at hH
                        subst hH
                        refine ops_ro' rfl (ro_pick rfl rfl) rfl ?_
                        refine ops_ro' rfl (ro_assign rfl) rfl ?_
                        refine ops_nil ?_
                        refine Then_normal ?_
                        refine wp_ret' ?_
                        refine' doneS_ret (res1 rfl rfl) ?_ ?_
                        rotate_left 1
                        exact ⟨rfl, rfl⟩
                        exact (SubH.cons 0 rfl (SubH.nil _))

end Go.Proofs.YtlefpllcgcicpaaGreatDoor
