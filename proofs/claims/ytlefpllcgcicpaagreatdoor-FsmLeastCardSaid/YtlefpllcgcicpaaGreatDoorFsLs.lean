/-
  Law 16: Title; what requests are.
  Law 16: known.
  FsmLeast.
-/
import Derived.Test.YtlefpllcgcicpaaGreatDoorFsP
import Derived.Test.YtlefpllcgcicpaaGreatDoorSxRune
import Derived.Test.YtlefpllcgcicpaaGreatDoorSxFork
import Derived.Test.YtlefpllcgcicpaaGreatDoorTrH
namespace Go.Proofs.YtlefpllcgcicpaaGreatDoor
open Go.Sx
set_option linter.unusedVariables false
set_option linter.unusedSimpArgs false
set_option maxRecDepth 100000
set_option maxHeartbeats 4000000

theorem hname_one {n : Nat} (h : n < 10) : hname n = [104, UInt8.ofNat (48 + n)] := by unfold hname; rw [Go.Lib.decDigits_one h]
theorem hname_two {n : Nat} (h : n < 16) (h10 : 10 ≤ n) : hname n = [104, 49, UInt8.ofNat (n + 38)] := by
  unfold hname; rw [Go.Lib.decDigits_two (by omega) (by omega), show 48 + n / 10 = 49 by omega, show 48 + n % 10 = n + 38 by omega]; rfl
theorem title_spec (n : Nat) (hn : n < 16) : Tri Tryz.prog 14 [.int .i64 (n : Int)] [] (fun v H' => v = .string (str (hname n)) ∧ H' = []) := by
  refine tri_of_wpS Tryz.func14 rfl Tryz.ntmps14 (by simp) ?_
  refine wp_seq' ?_
  refine wp_region' ?_
  refine ops_ro' rfl (ro_assign rfl) rfl ?_
  refine ops_nil ?_
  refine Then_normal ?_
  refine wp_seq' ?_
  refine wp_seq' ?_
  refine wp_region' ?_
  refine ops_ro' rfl (ro_move rfl) rfl ?_
  refine ops_ro' rfl (ro_geq rfl rfl rfl) rfl ?_
  refine ops_nil ?_
  refine Then_normal ?_
  refine wp_cond' rfl (fun hc4 => ?_) (fun hc4 => ?_)
  · replace hc4 := of_decide_eq_true hc4
    refine wp_seq' ?_
    refine wp_region' ?_
    refine ops_ro' rfl (ro_move rfl) rfl ?_
    refine ops_ro' rfl (ro_add rfl rfl (wrap_i64_in (by omega) (by omega))) rfl ?_
    refine ops_ro' rfl (ro_sub rfl rfl (wrap_i64_in (by omega) (by omega))) rfl ?_
    refine ops_ro' rfl (ro_conv Tryz.underlying3 Tryz.underlying21 rfl (wrap_i32_in (by omega) (by omega))) rfl ?_
    refine ops_ro' rfl (ro_runeStr (n + 38) Tryz.underlying21 Tryz.underlying9 rfl (by omega) (by omega)) rfl ?_
    refine ops_ro' rfl (ro_addS (a := [104, 49]) rfl rfl (by simp only [List.length_cons, List.length_nil]; omega)) rfl ?_
    refine ops_ro' rfl (ro_assign rfl) rfl ?_
    refine ops_nil ?_
    refine Then_normal ?_
    refine wp_ret' ?_
    refine Then_ret ?_
    refine' doneS_ret (res1 rfl rfl) ?_ ?_
    rotate_left 1
    exact ⟨by rw [hname_two hn (by omega)]; rfl, rfl⟩
    exact SubH.refl _
  · replace hc4 := of_decide_eq_false hc4
    refine wp_skip' ?_
    refine Then_normal ?_
    refine wp_seq' ?_
    refine wp_region' ?_
    refine ops_ro' rfl (ro_move rfl) rfl ?_
    refine ops_ro' rfl (ro_add rfl rfl (wrap_i64_in (by omega) (by omega))) rfl ?_
    refine ops_ro' rfl (ro_conv Tryz.underlying3 Tryz.underlying21 rfl (wrap_i32_in (by omega) (by omega))) rfl ?_
    refine ops_ro' rfl (ro_runeStr (48 + n) Tryz.underlying21 Tryz.underlying9 rfl (by omega) (by omega)) rfl ?_
    refine ops_ro' rfl (ro_addS (a := [104]) rfl rfl (by simp only [List.length_cons, List.length_nil]; omega)) rfl ?_
    refine ops_ro' rfl (ro_assign rfl) rfl ?_
    refine ops_nil ?_
    refine Then_normal ?_
    refine wp_ret' ?_
    refine' doneS_ret (res1 rfl rfl) ?_ ?_
    rotate_left 1
    exact ⟨by rw [hname_one (by omega)]; rfl, rfl⟩
    exact SubH.refl _
theorem do16K {V : HProp} {mb tb : Nat} {t : Tr} {hs : List Hd} {r : Nd} (hW : Wf t r) (htb : t.tb = tb) (hH : HsOk hs) (s : Int) (q : Qr) (hq : q.Ok) (hP : Ml V) (hnx : t.next ≤ 9223372036854775806) (hD : Vw V (.slice q.dp q.data.length q.dc) q.data.length (cel q.data)) : Tri Tryz.prog 12 [.pointer (some ⟨mb, 0, none⟩), .int .i64 s, q.v] [oMa mb tb hs, tree t, St (hs.map rowN), V]
    (fun v H' => ∃ K, (∃ t' hs' k dp dc np nc, v = (k.rep dp dc np nc).v ∧ doR t r hs s q t' hs' k ∧ (∃ r', Wf t' r') ∧ t'.tb = tb ∧ t'.next ≤ t.next + 1 ∧ HsOk hs' ∧ K = [rowD dp dc k.data, rowNm np nc k.names, oMa mb tb hs', tree t', St (hs'.map rowN)]) ∧ H' = K ++ [V]) := by
  refine tri_post (do16_spec hW htb hH s q hq hP hnx hD) ?_
  rintro v H' ⟨t', hs', k, dp, dc, np, nc, h1, h2, h3, h4, h5, h6, h7⟩
  exact ⟨_, ⟨t', hs', k, dp, dc, np, nc, h1, h2, h3, h4, h5, h6, rfl⟩, h7⟩
abbrev qAt (k : Int) (p : List UInt8) (f : Nat) : Qr := ⟨k, p, [], [], 0, 0, none, 0, [], f, At.zero⟩
abbrev qOn (k : Int) (h : List UInt8) (n : Nat) : Qr := ⟨k, [], [], h, 0, n, none, 0, [], 0, At.zero⟩
abbrev qWr (h : List UInt8) (dp : Option Addr) (dc : Nat) (y : List UInt8) : Qr := ⟨6, [], [], h, 0, 0, dp, dc, y, 0, At.zero⟩
theorem qAt_ok {k : Int} {p : List UInt8} {f : Nat} (hp : p.length ≤ 1000) (hf : f < 4294967296) : (qAt k p f).Ok := ⟨(by show (0 : Nat) < _; omega), (by show (0 : Nat) < _; omega), hf, At.zero_ok, (by show p.length ≤ _; omega), Nat.zero_le _, Nat.zero_le _⟩
theorem qOn_ok {k : Int} {h : List UInt8} {n : Nat} (hn : n < 4294967296) : (qOn k h n).Ok := ⟨(by show (0 : Nat) < _; omega), hn, (by show (0 : Nat) < _; omega), At.zero_ok, Nat.zero_le _, Nat.zero_le _, Nat.zero_le _⟩
theorem qWr_ok {h : List UInt8} {dp : Option Addr} {dc : Nat} {y : List UInt8} (hy : y.length ≤ 1000000) : (qWr h dp dc y).Ok := ⟨(by show (0 : Nat) < _; omega), (by show (0 : Nat) < _; omega), (by show (0 : Nat) < _; omega), At.zero_ok, Nat.zero_le _, Nat.zero_le _, hy⟩

end Go.Proofs.YtlefpllcgcicpaaGreatDoor
namespace Go.Proofs.YtlefpllcgcicpaaGreatDoor
open Go.Sx
set_option linter.unusedVariables false
set_option linter.unusedSimpArgs false
set_option maxRecDepth 100000
set_option maxHeartbeats 4000000

theorem known16_spec (V : HProp) (hP : Ml V) : Tri Tryz.prog 15 [] [V] (fun v H' => v = .bool true ∧ H' = [V]) := by
  refine tri_of_wpS Tryz.func15 rfl Tryz.ntmps15 (by simp) ?_
  refine wp_seq' ?_
  refine wp_region' ?_
  refine ops_ro' rfl (ro_assign rfl) rfl ?_
  refine ops_nil ?_
  refine Then_normal ?_
  refine wp_seq' ?_
  refine wp_region' ?_
  refine ops_eff' rfl (eff_call Tryz.call11 rfl rfl (by repeat (first | exact Split.nil _ | apply Split.cons 0 rfl | apply Split.cons 1 rfl | apply Split.cons 2 rfl | apply Split.cons 3 rfl | apply Split.cons 4 rfl | apply Split.cons 5 rfl | apply Split.cons 6 rfl | apply Split.cons 7 rfl | apply Split.cons 8 rfl | apply Split.cons 9 rfl | apply Split.cons 10 rfl | apply Split.cons 11 rfl)) (fnew_spec)) rfl ?_
  rintro _ H' ⟨_, ⟨mb, t, r, rfl, hn1, hn2, hW, rfl⟩, hH⟩
  simp only [List.cons_append, List.nil_append, List.eraseIdx_cons_zero, List.eraseIdx_cons_succ, List.set_cons_zero, List.set_cons_succ] at hH
  subst hH
  obtain ⟨hs0, hhs0⟩ : ∃ z, z = List.replicate 256 Hd.zero := ⟨_, rfl⟩
  rw [← hhs0]
  have hH0 : HsOk hs0 := by rw [hhs0]; exact hs0_ok
  have hz0 : ∀ s i, hdA hs0 s i = Hd.zero := fun s i => by rw [hhs0]; exact hdA_new s i
  obtain ⟨tb, htb⟩ : ∃ z, t.tb = z := ⟨_, rfl⟩
  rw [htb]
  refine ops_ro' rfl (ro_assign rfl) rfl ?_
  refine ops_nil ?_
  refine Then_normal ?_
  refine wp_seq' ?_
  refine wp_seq' ?_
  refine wp_region' ?_
  refine ops_ro' rfl (ro_move rfl) rfl ?_
  refine ops_ro' rfl (ro_ptrEqlNil Tryz.underlying23 rfl rfl rfl) rfl ?_
  refine ops_nil ?_
  refine Then_normal ?_
  refine wp_condF rfl ?_
  refine wp_skip' ?_
  refine Then_normal ?_
  refine wp_cutK 1005 (fun Δ LL => ∃ (t1 : Tr) (r1 : Nd) (b2 : Nat) (dpb2 : Option Addr) (dcb2 : Nat) (npb2 : Option Addr) (ncb2 : Nat), (G1 t1 r1 [97] [] ∧ t1.tb = tb ∧ t1.next ≤ 10 ∧ HsOk (hs0.set (0 * 16 + 0) (⟨true, 1, false, 2, none, 0, []⟩ : Hd))) ∧ Δ = [(2, .pointer (some ⟨b2, 0, none⟩))] ∧ LL = [own b2 (.cells ((⟨2, 0, [104, 48], [], [], At.zero⟩ : Rk).rep dpb2 dcb2 npb2 ncb2).cs.toArray 32 (0, 0)), oMa mb tb (hs0.set (0 * 16 + 0) (⟨true, 1, false, 2, none, 0, []⟩ : Hd)), tree t1, St ((hs0.set (0 * 16 + 0) (⟨true, 1, false, 2, none, 0, []⟩ : Hd)).map rowN), V]) (Has.cons (k := 1) rfl (Has.nil _)) ?_ ?_
  · refine wp_region' ?_
    refine ops_ro' rfl (ro_move rfl) rfl ?_
    refine ops_ro' rfl (ro_build rfl (bld_struct (cs := (qAt 3 [97] 10).cs) st35 rfl)) rfl ?_
    refine ops_eff' rfl (eff_callM (Pre := [_, _, _]) Tryz.call12 rfl rfl (by repeat (first | exact Split.nil _ | apply Split.cons 0 rfl | apply Split.cons 1 rfl | apply Split.cons 2 rfl | apply Split.cons 3 rfl | apply Split.cons 4 rfl | apply Split.cons 5 rfl | apply Split.cons 6 rfl | apply Split.cons 7 rfl | apply Split.cons 8 rfl | apply Split.cons 9 rfl | apply Split.cons 10 rfl | apply Split.cons 11 rfl)) (do16K hW htb hH0 ((0 : Nat) : Int) (qAt 3 [97] 10) (qAt_ok (by decide) (by decide)) (by first | exact Ml.pick (H := _) 0 rfl hP | exact Ml.pick (H := _) 1 rfl hP | exact Ml.pick (H := _) 2 rfl hP | exact Ml.pick (H := _) 3 rfl hP | exact Ml.pick (H := _) 4 rfl hP | exact Ml.pick (H := _) 5 rfl hP | exact Ml.pick (H := _) 6 rfl hP | exact Ml.pick (H := _) 7 rfl hP | exact Ml.pick (H := _) 8 rfl hP) (by omega) (show Vw _ _ 0 (cel []) from Vw.nil _))) rfl ?_
    rintro _ H' ⟨_, ⟨t9, hs9, k9, dp9, dc9, np9, nc9, rfl, hD9, hW9, htb9, hnx9, hH9, rfl⟩, hH⟩
    simp only [List.cons_append, List.nil_append, List.eraseIdx_cons_zero, List.eraseIdx_cons_succ, List.set_cons_zero, List.set_cons_succ] at hH
    subst hH
    obtain ⟨r9, hG, _, hh, rfl⟩ := run_first (s := 0) hW hn1 hn2 (by decide) rfl (nm := [97]) rfl (by decide) rfl (by decide) (by decide) (by decide) (free_zero (by rw [hz0]; rfl)) hD9
    subst hh
    rw [show hdlK 0 = (⟨2, 0, [104, 48], [], [], At.zero⟩ : Rk) from by unfold hdlK; rw [hname_one (by decide)]; rfl]
    refine ops_eff' rfl (eff_alloc z32) rfl ?_
    rintro _ _ ⟨b2, rfl, rfl⟩
    refine ops_eff0 rfl (eff_storeA 0 ag32 rfl rfl rfl rfl rfl (Nat.le_of_ble_eq_true rfl) (warm_zero _)) rfl ?_
    rintro _ _ rfl
    simp only [List.set_cons_zero, List.set_cons_succ]
    refine ops_nil ?_
    refine Then_normal ?_
    refine over_cut (kept ⟨t9, r9, b2, dp9, dc9, np9, nc9, ⟨hG, htb9, by omega, hH9⟩, rfl, rfl⟩ ?_ ?_ ?_)
    · exact (by repeat (first | exact Has.nil _ | refine Has.cons rfl ?_))
    · exact (by repeat (first | exact Has.nil _ | refine Has.cons rfl ?_))
    · exact (SubH.cons 0 rfl (SubH.cons 2 rfl (SubH.cons 2 rfl (SubH.cons 2 rfl (SubH.cons 2 rfl (SubH.nil _))))))
  · rintro Δ LL ⟨t1, r1, b2, dpb2, dcb2, npb2, ncb2, ⟨hG1, htb1, hnx1, hH1⟩, rfl, rfl⟩
    simp only [List.cons_append, List.nil_append]
    refine wp_cutK 1006 (fun Δ LL => ∃ (t2 : Tr) (b3 : Nat) (dpb3 : Option Addr) (dcb3 : Nat) (npb3 : Option Addr) (ncb3 : Nat), (G1 t2 r1 [97] [104, 105] ∧ t2.tb = tb ∧ t2.next ≤ 20) ∧ Δ = [(3, .pointer (some ⟨b3, 0, none⟩))] ∧ LL = [own b3 (.cells ((Rk.stat 0 : Rk).rep dpb3 dcb3 npb3 ncb3).cs.toArray 32 (0, 0)), own b2 (.cells ((⟨2, 0, [104, 48], [], [], At.zero⟩ : Rk).rep dpb2 dcb2 npb2 ncb2).cs.toArray 32 (0, 0)), oMa mb tb (hs0.set (0 * 16 + 0) (⟨true, 1, false, 2, none, 0, []⟩ : Hd)), tree t2, St ((hs0.set (0 * 16 + 0) (⟨true, 1, false, 2, none, 0, []⟩ : Hd)).map rowN), V]) (Has.cons (k := 1) rfl (Has.cons (k := 2) rfl (Has.nil _))) ?_ ?_
    · refine wp_region' ?_
      refine ops_ro' rfl (ro_move rfl) rfl ?_
      refine ops_eff' rfl (eff_buildSlice rfl (sbld (cs := cel [104, 105]) [.int .u8 0, .int .u8 0] sl25 (by decide) (by kernel_rfl) rfl)) rfl ?_
      rintro _ _ ⟨b13, rfl, rfl⟩
      refine ops_eff' rfl (eff_mark 0 Tryz.underlying25 Tryz.underlying5 rfl rfl rfl (by decide)) rfl ?_
      rintro _ _ ⟨rfl, rfl⟩
      simp only [List.set_cons_zero, List.set_cons_succ]
      refine ops_ro' rfl (ro_build rfl (bld_struct (cs := (qWr [104, 48] (some ⟨b13, 0, none⟩) 2 [104, 105]).cs) st35 rfl)) rfl ?_
      refine ops_eff' rfl (eff_callM (Pre := [_, _, _]) Tryz.call12 rfl rfl (by repeat (first | exact Split.nil _ | apply Split.cons 0 rfl | apply Split.cons 1 rfl | apply Split.cons 2 rfl | apply Split.cons 3 rfl | apply Split.cons 4 rfl | apply Split.cons 5 rfl | apply Split.cons 6 rfl | apply Split.cons 7 rfl | apply Split.cons 8 rfl | apply Split.cons 9 rfl | apply Split.cons 10 rfl | apply Split.cons 11 rfl)) (do16K hG1.wf htb1 hH1 ((0 : Nat) : Int) (qWr [104, 48] (some ⟨b13, 0, none⟩) 2 [104, 105]) (qWr_ok (by decide)) (by first | exact Ml.pick (H := _) 0 rfl hP | exact Ml.pick (H := _) 1 rfl hP | exact Ml.pick (H := _) 2 rfl hP | exact Ml.pick (H := _) 3 rfl hP | exact Ml.pick (H := _) 4 rfl hP | exact Ml.pick (H := _) 5 rfl hP | exact Ml.pick (H := _) 6 rfl hP | exact Ml.pick (H := _) 7 rfl hP | exact Ml.pick (H := _) 8 rfl hP) (by omega) (by first | exact Vw.pick 0 rfl Vw.row | exact Vw.pick 1 rfl Vw.row | exact Vw.pick 2 rfl Vw.row | exact Vw.pick 3 rfl Vw.row | exact Vw.pick 4 rfl Vw.row | exact Vw.pick 5 rfl Vw.row | exact Vw.pick 6 rfl Vw.row | exact Vw.pick 7 rfl Vw.row | exact Vw.pick 8 rfl Vw.row | exact Vw.nil _ | exact Vw.empty _ _))) rfl ?_
      rintro _ H' ⟨_, ⟨t9, hs9, k9, dp9, dc9, np9, nc9, rfl, hD9, hW9, htb9, hnx9, hH9, rfl⟩, hH⟩
      simp only [List.cons_append, List.nil_append, List.eraseIdx_cons_zero, List.eraseIdx_cons_succ, List.set_cons_zero, List.set_cons_succ] at hH
      subst hH
      have hA : hdA (hs0.set (0 * 16 + 0) (⟨true, 1, false, 2, none, 0, []⟩ : Hd)) 0 0 = (⟨true, 1, false, 2, none, 0, []⟩ : Hd) := by rw [hdA_set hH0.len (by decide) (by decide) (by decide) (by decide), if_pos ⟨rfl, rfl⟩]
      obtain ⟨hh, _, hw⟩ := run_write (s := 0) (i := 0) hG1 (by decide) rfl (find_zero (by rw [hA])) (by rw [hA]; exact ⟨rfl, rfl⟩) (by show 2 ≤ 32768; omega) (by show 0 + 2 ≤ 1048576; omega) (by show 0 + 2 ≤ 1048576; omega) hD9
      rw [if_neg (by rw [hA]; decide), hA] at hw
      obtain ⟨rfl, hG⟩ := hw
      subst hh
      refine ops_eff' rfl (eff_alloc z32) rfl ?_
      rintro _ _ ⟨b3, rfl, rfl⟩
      refine ops_eff0 rfl (eff_storeA 0 ag32 rfl rfl rfl rfl rfl (Nat.le_of_ble_eq_true rfl) (warm_zero _)) rfl ?_
      rintro _ _ rfl
      simp only [List.set_cons_zero, List.set_cons_succ]
      refine ops_nil ?_
      refine Then_normal ?_
      refine over_cut (kept ⟨t9, b3, dp9, dc9, np9, nc9, ⟨hG, htb9, by omega⟩, rfl, rfl⟩ ?_ ?_ ?_)
      · exact (by repeat (first | exact Has.nil _ | refine Has.cons rfl ?_))
      · exact (by repeat (first | exact Has.nil _ | refine Has.cons rfl ?_))
      · exact (SubH.cons 0 rfl (SubH.cons 6 rfl (SubH.cons 2 rfl (SubH.cons 2 rfl (SubH.cons 2 rfl (SubH.cons 3 rfl (SubH.nil _)))))))
    · rintro Δ LL ⟨t2, b3, dpb3, dcb3, npb3, ncb3, ⟨hG2, htb2, hnx2⟩, rfl, rfl⟩
      simp only [List.cons_append, List.nil_append]
      refine wp_cutK 1007 (fun Δ LL => ∃ (hs2 : List Hd) (b4 : Nat) (dpb4 : Option Addr) (dcb4 : Nat) (npb4 : Option Addr) (ncb4 : Nat), (HsOk hs2) ∧ Δ = [(4, .pointer (some ⟨b4, 0, none⟩))] ∧ LL = [own b4 (.cells ((Rk.stat 0 : Rk).rep dpb4 dcb4 npb4 ncb4).cs.toArray 32 (0, 0)), own b3 (.cells ((Rk.stat 0 : Rk).rep dpb3 dcb3 npb3 ncb3).cs.toArray 32 (0, 0)), own b2 (.cells ((⟨2, 0, [104, 48], [], [], At.zero⟩ : Rk).rep dpb2 dcb2 npb2 ncb2).cs.toArray 32 (0, 0)), oMa mb tb hs2, tree t2, St (hs2.map rowN), V]) (Has.cons (k := 1) rfl (Has.cons (k := 2) rfl (Has.cons (k := 3) rfl (Has.nil _)))) ?_ ?_
      · refine wp_region' ?_
        refine ops_ro' rfl (ro_move rfl) rfl ?_
        refine ops_ro' rfl (ro_build rfl (bld_struct (cs := (qOn 4 [104, 48] 0).cs) st35 rfl)) rfl ?_
        refine ops_eff' rfl (eff_callM (Pre := [_, _, _]) Tryz.call12 rfl rfl (by repeat (first | exact Split.nil _ | apply Split.cons 0 rfl | apply Split.cons 1 rfl | apply Split.cons 2 rfl | apply Split.cons 3 rfl | apply Split.cons 4 rfl | apply Split.cons 5 rfl | apply Split.cons 6 rfl | apply Split.cons 7 rfl | apply Split.cons 8 rfl | apply Split.cons 9 rfl | apply Split.cons 10 rfl | apply Split.cons 11 rfl)) (do16K hG2.wf htb2 hH1 ((0 : Nat) : Int) (qOn 4 [104, 48] 0) (qOn_ok (by decide)) (by first | exact Ml.pick (H := _) 0 rfl hP | exact Ml.pick (H := _) 1 rfl hP | exact Ml.pick (H := _) 2 rfl hP | exact Ml.pick (H := _) 3 rfl hP | exact Ml.pick (H := _) 4 rfl hP | exact Ml.pick (H := _) 5 rfl hP | exact Ml.pick (H := _) 6 rfl hP | exact Ml.pick (H := _) 7 rfl hP | exact Ml.pick (H := _) 8 rfl hP) (by omega) (show Vw _ _ 0 (cel []) from Vw.nil _))) rfl ?_
        rintro _ H' ⟨_, ⟨t9, hs9, k9, dp9, dc9, np9, nc9, rfl, hD9, hW9, htb9, hnx9, hH9, rfl⟩, hH⟩
        simp only [List.cons_append, List.nil_append, List.eraseIdx_cons_zero, List.eraseIdx_cons_succ, List.set_cons_zero, List.set_cons_succ] at hH
        subst hH
        have hA : hdA (hs0.set (0 * 16 + 0) (⟨true, 1, false, 2, none, 0, []⟩ : Hd)) 0 0 = (⟨true, 1, false, 2, none, 0, []⟩ : Hd) := by rw [hdA_set hH0.len (by decide) (by decide) (by decide) (by decide), if_pos ⟨rfl, rfl⟩]
        obtain ⟨ht, hcl⟩ := run_close (s := 0) (by decide) rfl hD9
        unfold closeR at hcl
        rw [find_zero (by rw [hA])] at hcl
        obtain ⟨hh, rfl⟩ := hcl
        obtain rfl : t2 = t9 := ht.symm
        refine ops_eff' rfl (eff_alloc z32) rfl ?_
        rintro _ _ ⟨b4, rfl, rfl⟩
        refine ops_eff0 rfl (eff_storeA 0 ag32 rfl rfl rfl rfl rfl (Nat.le_of_ble_eq_true rfl) (warm_zero _)) rfl ?_
        rintro _ _ rfl
        simp only [List.set_cons_zero, List.set_cons_succ]
        refine ops_nil ?_
        refine Then_normal ?_
        refine over_cut (kept ⟨hs9, b4, dp9, dc9, np9, nc9, hH9, rfl, rfl⟩ ?_ ?_ ?_)
        · exact (by repeat (first | exact Has.nil _ | refine Has.cons rfl ?_))
        · exact (by repeat (first | exact Has.nil _ | refine Has.cons rfl ?_))
        · exact (SubH.cons 0 rfl (SubH.cons 5 rfl (SubH.cons 5 rfl (SubH.cons 2 rfl (SubH.cons 2 rfl (SubH.cons 2 rfl (SubH.cons 2 rfl (SubH.nil _))))))))
      · rintro Δ LL ⟨hs2, b4, dpb4, dcb4, npb4, ncb4, hH2, rfl, rfl⟩
        simp only [List.cons_append, List.nil_append]
        refine wp_cutK 1008 (fun Δ LL => ∃ (a : At) (b5 : Nat) (dpb5 : Option Addr) (dcb5 : Nat) (npb5 : Option Addr) (ncb5 : Nat), (a.s = 2) ∧ Δ = [(5, .pointer (some ⟨b5, 0, none⟩))] ∧ LL = [own b5 (.cells ((⟨5, 0, [], [], [], a⟩ : Rk).rep dpb5 dcb5 npb5 ncb5).cs.toArray 32 (0, 0)), own b4 (.cells ((Rk.stat 0 : Rk).rep dpb4 dcb4 npb4 ncb4).cs.toArray 32 (0, 0)), own b3 (.cells ((Rk.stat 0 : Rk).rep dpb3 dcb3 npb3 ncb3).cs.toArray 32 (0, 0)), own b2 (.cells ((⟨2, 0, [104, 48], [], [], At.zero⟩ : Rk).rep dpb2 dcb2 npb2 ncb2).cs.toArray 32 (0, 0)), V]) (Has.cons (k := 2) rfl (Has.cons (k := 3) rfl (Has.cons (k := 4) rfl (Has.nil _)))) ?_ ?_
        · refine wp_region' ?_
          refine ops_ro' rfl (ro_move rfl) rfl ?_
          refine ops_ro' rfl (ro_build rfl (bld_struct (cs := (qAt 17 [97] 0).cs) st35 rfl)) rfl ?_
          refine ops_eff' rfl (eff_callM (Pre := [_, _, _]) Tryz.call12 rfl rfl (by repeat (first | exact Split.nil _ | apply Split.cons 0 rfl | apply Split.cons 1 rfl | apply Split.cons 2 rfl | apply Split.cons 3 rfl | apply Split.cons 4 rfl | apply Split.cons 5 rfl | apply Split.cons 6 rfl | apply Split.cons 7 rfl | apply Split.cons 8 rfl | apply Split.cons 9 rfl | apply Split.cons 10 rfl | apply Split.cons 11 rfl)) (do16K hG2.wf htb2 hH2 ((0 : Nat) : Int) (qAt 17 [97] 0) (qAt_ok (by decide) (by decide)) (by first | exact Ml.pick (H := _) 0 rfl hP | exact Ml.pick (H := _) 1 rfl hP | exact Ml.pick (H := _) 2 rfl hP | exact Ml.pick (H := _) 3 rfl hP | exact Ml.pick (H := _) 4 rfl hP | exact Ml.pick (H := _) 5 rfl hP | exact Ml.pick (H := _) 6 rfl hP | exact Ml.pick (H := _) 7 rfl hP | exact Ml.pick (H := _) 8 rfl hP) (by omega) (show Vw _ _ 0 (cel []) from Vw.nil _))) rfl ?_
          rintro _ H' ⟨_, ⟨t9, hs9, k9, dp9, dc9, np9, nc9, rfl, hD9, hW9, htb9, hnx9, hH9, rfl⟩, hH⟩
          simp only [List.cons_append, List.nil_append, List.eraseIdx_cons_zero, List.eraseIdx_cons_succ, List.set_cons_zero, List.set_cons_succ] at hH
          subst hH
          obtain ⟨ht, hh, a, rfl, has⟩ := run_stat (s := 0) hG2 (by decide) rfl rfl hD9
          refine ops_eff' rfl (eff_alloc z32) rfl ?_
          rintro _ _ ⟨b5, rfl, rfl⟩
          refine ops_eff0 rfl (eff_storeA 0 ag32 rfl rfl rfl rfl rfl (Nat.le_of_ble_eq_true rfl) (warm_zero _)) rfl ?_
          rintro _ _ rfl
          simp only [List.set_cons_zero, List.set_cons_succ]
          refine ops_nil ?_
          refine Then_normal ?_
          refine over_cut (kept ⟨a, b5, dp9, dc9, np9, nc9, has, rfl, rfl⟩ ?_ ?_ ?_)
          · exact (by repeat (first | exact Has.nil _ | refine Has.cons rfl ?_))
          · exact (by repeat (first | exact Has.nil _ | refine Has.cons rfl ?_))
          · exact (SubH.cons 0 rfl (SubH.cons 5 rfl (SubH.cons 5 rfl (SubH.cons 5 rfl (SubH.cons 5 rfl (SubH.nil _))))))
        · rintro Δ LL ⟨a, b5, dpb5, dcb5, npb5, ncb5, has, rfl, rfl⟩
          simp only [List.cons_append, List.nil_append]
          refine wp_seq' ?_
          refine wp_region' ?_
          refine ops_ro' rfl (ro_fieldAddr fa32_0 rfl) rfl ?_
          refine ops_ro' rfl (ro_load sc3 rfl (Rd.pick 3 rfl (Rd.own rfl))) rfl ?_
          refine ops_ro' rfl (ro_eql rfl rfl rfl) rfl ?_
          refine ops_ro' rfl (ro_move (v := .bool true) rfl) rfl ?_
          refine ops_ro' rfl (ro_fieldAddr fa32_2 rfl) rfl ?_
          refine ops_ro' rfl (ro_load sc9 rfl (Rd.pick 3 rfl (Rd.own rfl))) rfl ?_
          refine ops_ro' rfl (ro_eqlS rfl rfl (decide_eq_true rfl)) rfl ?_
          refine ops_ro' rfl (ro_pick rfl rfl) rfl ?_
          refine ops_ro' rfl (ro_move (v := .bool true) rfl) rfl ?_
          refine ops_ro' rfl (ro_fieldAddr fa32_0 rfl) rfl ?_
          refine ops_ro' rfl (ro_load sc3 rfl (Rd.pick 2 rfl (Rd.own rfl))) rfl ?_
          refine ops_ro' rfl (ro_eql rfl rfl rfl) rfl ?_
          refine ops_ro' rfl (ro_pick rfl rfl) rfl ?_
          refine ops_ro' rfl (ro_move (v := .bool true) rfl) rfl ?_
          refine ops_ro' rfl (ro_fieldAddr fa32_1 rfl) rfl ?_
          refine ops_ro' rfl (ro_load sc3 rfl (Rd.pick 2 rfl (Rd.own rfl))) rfl ?_
          refine ops_ro' rfl (ro_eql rfl rfl rfl) rfl ?_
          refine ops_ro' rfl (ro_pick rfl rfl) rfl ?_
          refine ops_ro' rfl (ro_move (v := .bool true) rfl) rfl ?_
          refine ops_ro' rfl (ro_fieldAddr fa32_0 rfl) rfl ?_
          refine ops_ro' rfl (ro_load sc3 rfl (Rd.pick 1 rfl (Rd.own rfl))) rfl ?_
          refine ops_ro' rfl (ro_eql rfl rfl rfl) rfl ?_
          refine ops_ro' rfl (ro_pick rfl rfl) rfl ?_
          refine ops_ro' rfl (ro_move (v := .bool true) rfl) rfl ?_
          refine ops_ro' rfl (ro_fieldAddr fa32_1 rfl) rfl ?_
          refine ops_ro' rfl (ro_load sc3 rfl (Rd.pick 1 rfl (Rd.own rfl))) rfl ?_
          refine ops_ro' rfl (ro_eql rfl rfl rfl) rfl ?_
          refine ops_ro' rfl (ro_pick rfl rfl) rfl ?_
          refine ops_ro' rfl (ro_move (v := .bool true) rfl) rfl ?_
          refine ops_ro' rfl (ro_fieldAddr fa32_0 rfl) rfl ?_
          refine ops_ro' rfl (ro_load sc3 rfl (Rd.pick 0 rfl (Rd.own rfl))) rfl ?_
          refine ops_ro' rfl (ro_eql rfl rfl rfl) rfl ?_
          refine ops_ro' rfl (ro_pick rfl rfl) rfl ?_
          refine ops_ro' rfl (ro_move (v := .bool true) rfl) rfl ?_
          refine ops_ro' rfl (ro_fieldAddr fa32_5 rfl) rfl ?_
          refine ops_ro' rfl (ro_fieldAddr fa30_1 rfl) rfl ?_
          refine ops_ro' rfl (ro_load sc28 rfl (Rd.pick 0 rfl (Rd.own rfl))) rfl ?_
          refine ops_ro' rfl (ro_eql rfl rfl rfl) rfl ?_
          refine ops_ro' rfl (ro_pick rfl rfl) rfl ?_
          refine ops_ro' rfl (ro_assign rfl) rfl ?_
          refine ops_nil ?_
          refine Then_normal ?_
          refine wp_ret' ?_
          refine' doneS_ret (res1 rfl rfl) ?_ ?_
          rotate_left 1
          exact ⟨by show Value.bool (decide ((a.s : Int) = 2)) = _; rw [decide_eq_true (by omega)], rfl⟩
          exact (SubH.cons 4 rfl (SubH.nil _))

end Go.Proofs.YtlefpllcgcicpaaGreatDoor
namespace Go.Proofs.YtlefpllcgcicpaaGreatDoor
open Go.Sx
set_option linter.unusedVariables false
set_option linter.unusedSimpArgs false
set_option maxRecDepth 100000
set_option maxHeartbeats 4000000

def In.cs (k : Int) : List Value := [.int .i64 k]
theorem In.len (k : Int) : (In.cs k).length = 1 := rfl
/-- the tree has a directory nm of number 1, and nothing else -/
structure GD (t : Tr) (r : Nd) (nm : List UInt8) : Prop where
  wf : Wf t r
  ns : ∃ x, t.ns = [r, x] ∧ x.id = 1 ∧ x.par = 0 ∧ x.dir = true ∧ x.name = nm ∧ x.kids = []
section
variable {t t' : Tr} {r r' : Nd} {nm : List UInt8} {hs hs' : List Hd} {s n i : Nat} {q : Qr} {k : Rk} {e : Int}
theorem GD.thing (h : GD t r nm) : ∃ x, t.ns = [r, x] ∧ r.blk ≠ x.blk ∧ byId t.ns 1 = some x ∧ fnd t.ns r [nm] = some x ∧ x.id = 1 ∧ x.par = 0 ∧ x.dir = true ∧ x.name = nm ∧ x.kids = [] := by
  obtain ⟨x, hx, h1, h2, h3, h4, h5⟩ := h.ns
  have hb := h.wf.kd.blks
  have hr := h.wf.rid
  have hp := h.wf.rpar
  rw [hx] at hb
  simp at hb
  refine ⟨x, hx, hb, ?_, ?_, h1, h2, h3, h4, h5⟩
  · rw [hx, byId_cons, if_neg (by omega), byId_cons, if_pos (by omega)]
  · show (match kid t.ns r.id nm with | some y => fnd t.ns y [] | none => none) = _
    rw [hx, kid_cons, if_neg (fun h => by have := h.1; omega), kid_cons, if_pos ⟨by omega, h4⟩]; rfl
theorem GD.look (h : GD t r nm) {p : List UInt8} (hp : pSplit p = ([nm], 0)) : look16 t r p = (1, 0) := by
  obtain ⟨x, hx, hb, hi, hf, h1, _⟩ := h.thing
  unfold look16
  rw [hp, if_neg (fun h => h rfl)]
  show lookO (fnd t.ns r [nm]) = _
  rw [hf]; show ((x.id : Int), (0 : Int)) = _; rw [h1]; rfl
theorem GD.list (h : GD t r nm) : listO t.ns (byId t.ns 1) = ([], 0) := by
  obtain ⟨x, hx, hb, hi, hf, h1, h2, h3, h4, h5⟩ := h.thing
  rw [hi]; unfold listO
  dsimp only
  rw [if_pos h3, h5]; rfl
theorem gd_set (h : GD t r nm) (hR : SetR t 1 At.zero t' e) : e = 0 ∧ GD t' r nm ∧ t'.tb = t.tb := by
  obtain ⟨x, hx, hb, hi, hf, h1, h2, h3, h4, h5⟩ := h.thing
  have hxm : x ∈ t.ns := by rw [hx]; simp
  rcases hR with ⟨h6, _⟩ | ⟨x2, h6, h7⟩
  · rw [hi] at h6; cases h6
  · rw [hi] at h6
    injection h6 with h6; subst h6
    rcases h7 with ⟨h8, _⟩ | ⟨_, h8, _⟩ | ⟨_, h8, _⟩ | ⟨_, rfl, t1, x1, h8, h9, h10, rfl⟩
    · exact absurd h8 (by decide)
    · exact absurd (show At.zero.f &&& 1 = 0 from rfl) h8
    · exact absurd (show At.zero.f &&& 1 = 0 from rfl) h8
    · rcases h8 with ⟨h11, _⟩ | ⟨_, rfl, rfl⟩
      · exact absurd (show At.zero.f &&& 1 = 0 from rfl) h11
      · have ha := merge_ok (h.wf.a x1 hxm).1 At.zero_ok
        refine ⟨rfl, ⟨?_, attF { x1.a.merge At.zero with s := 0 } x1, ?_, h1, h2, h3, h4, h5⟩, rfl⟩
        · have hw := wf_att (x := x1) h.wf (a := { x1.a.merge At.zero with s := 0 }) ⟨⟨ha.f, (by show (0 : Nat) < 18446744073709551616; decide), ha.u, ha.g, ha.m, ha.a, ha.t⟩, rfl⟩
          rw [if_neg hb] at hw
          exact hw
        · show turnB x1.blk _ t1.ns = _
          rw [hx]
          show [if r.blk = x1.blk then _ else _, if x1.blk = x1.blk then _ else _] = _
          rw [if_neg hb, if_pos rfl]
theorem run_mkdir (hW : Wf t r) (hns : t.ns = [r]) (hn : t.next = 1) (h16 : s < 16) (hk : q.kind = 14) (hp : pSplit q.path = ([nm], 0)) (hok : ptOk nm = true) (ha : q.a = At.zero) (h : doR t r hs (s : Int) q t' hs' k) : ∃ r', GD t' r' nm ∧ t'.tb = t.tb ∧ hs' = hs := by
  obtain ⟨rfl, h2⟩ := do_of_path h16 (by unfold byH; omega) (by omega) (by rintro ⟨_, h1⟩; rw [ha] at h1; exact absurd h1 (by decide)) (by rw [hp]) h
  unfold pathR at h2
  rw [if_neg (by omega), if_neg (by omega), if_pos hk, hp] at h2
  obtain ⟨t1, r1, i, e, hM, rfl, h3⟩ := h2
  have hW1 := make_wf hW hM
  obtain ⟨h4, h5, _, _, h6, b, _, _, _, h7⟩ := mk_first hW hns hok hM
  rw [if_pos h5] at h3
  obtain ⟨e2, hS⟩ := h3
  rw [h4, hn, ha] at hS
  have hG : GD t1 r1 nm := ⟨hW1, _, h7, hn, rfl, rfl, rfl, rfl⟩
  obtain ⟨_, hG2, htb⟩ := gd_set hG hS
  exact ⟨r1, hG2, by rw [htb, h6], rfl⟩
theorem run_opendir (hG : GD t r nm) (h16 : s < 16) (hk : q.kind = 11) (hp : pSplit q.path = ([nm], 0)) (h : doR t r hs (s : Int) q t' hs' k) : t' = t ∧ (match freeH hs s with
    | none => hs' = hs ∧ k = Rk.stat 4
    | some n => ∃ np nc, hs' = hs.set (s * 16 + n) ⟨true, 1, true, 0, np, nc, []⟩ ∧ k = hdlK n) := by
  have h := do_of_by h16 (by unfold byH; omega) h
  unfold byR at h
  rw [if_neg (by omega), if_neg (by omega), if_neg (by omega), if_neg (by omega), if_neg (by omega), if_neg (by omega), if_pos hk] at h
  refine ⟨h.1, ?_⟩
  have h := h.2
  unfold opendirR at h
  cases hf : freeH hs s with
  | none => rw [hf] at h; exact h
  | some n =>
    rw [hf] at h
    dsimp only at h ⊢
    rw [hG.look hp, if_neg (by decide)] at h
    dsimp only at h
    rw [hG.list, if_neg (by decide)] at h
    obtain ⟨np, nc, _, h1, h2⟩ := h
    exact ⟨np, nc, h1, h2⟩
theorem hname_inj {i j : Nat} (hi : i < 16) (hj : j < 16) (h : hname i = hname j) : i = j := by
  by_cases h1 : i < 10 <;> by_cases h2 : j < 10
  · rw [hname_one h1, hname_one h2] at h
    have := congrArg UInt8.toNat (by simpa using h : UInt8.ofNat (48 + i) = UInt8.ofNat (48 + j))
    rw [UInt8.toNat_ofNat', UInt8.toNat_ofNat'] at this; omega
  · rw [hname_one h1, hname_two hj (by omega)] at h; simp at h
  · rw [hname_two hi (by omega), hname_one h2] at h; simp at h
  · rw [hname_two hi (by omega), hname_two hj (by omega)] at h
    have := congrArg UInt8.toNat (by simpa using h : UInt8.ofNat (i + 38) = UInt8.ofNat (j + 38))
    rw [UInt8.toNat_ofNat', UInt8.toNat_ofNat'] at this; omega
theorem find_k (hi : i < 16) (h : (hdA hs s i).used = true) : findH hs s (hname i) = some i := by
  refine find_hit (i := i) (fun j hj => ?_) hi ⟨h, rfl⟩
  rintro ⟨_, h2⟩
  exact absurd (hname_inj (by omega) hi h2) (by omega)
end
theorem bools_rd {b k : Nat} {bl : List Bool} (h : k < bl.length) : Rd (own b (.cells (bl.map Value.bool).toArray 36 (0, 0))) b (0 + k * 1) (.bool bl[k]) :=
  Rd.own (by rw [Nat.zero_add, Nat.mul_one, List.getElem?_map, List.getElem?_eq_getElem h]; rfl)
theorem bools_set {k : Nat} {bl : List Bool} {b : Bool} : (bl.map Value.bool).set (0 + k * 1) (.bool b) = (bl.set k b).map Value.bool := by rw [Nat.zero_add, Nat.mul_one, List.map_set]
theorem least_set {hs : List Hd} {bl : List Bool} {k : Nat} {y : Hd} {b : Bool} (hl : hs.length = 256) (hb : bl.length = 16) (hk : k < 16) (hu : ∀ j, j < 16 → (hdA hs 0 j).used = bl.getD j false) (hy : y.used = b) : ∀ j, j < 16 → (hdA (hs.set (0 * 16 + k) y) 0 j).used = (bl.set k b).getD j false := fun j hj => by
  rw [hdA_set hl (by decide) hk hj (by decide), List.getD_eq_getElem?_getD, List.getElem?_set]
  by_cases h : j = k
  · subst h
    rw [if_pos ⟨rfl, rfl⟩, if_pos rfl, if_pos (by omega)]; exact hy
  · rw [if_neg (fun h2 => h h2.2), if_neg (fun h2 => h h2.symm), hu j hj, List.getD_eq_getElem?_getD]
theorem least_step {bl : List Bool} {f : Nat} (h : ∀ j, j < f → bl.getD j false = true) (hf : f < bl.length) (hb : bl[f] = true) : ∀ j, j < f + 1 → bl.getD j false = true := fun j hj => by
  by_cases e : j = f
  · subst e; rw [List.getD_eq_getElem?_getD, List.getElem?_eq_getElem hf]; exact hb
  · exact h j (by omega)
theorem fleast_run (V : HProp) (hP : Ml V) (q : Option Addr) (cq : Nat) (l : List Int) (hL : Vw V (.slice q l.length cq) l.length (flat In.cs l)) (hl : l.length ≤ 9223372036854775807) : Tri Tryz.prog 3 [.slice q l.length cq] [V] (fun v H' => v = .bool true ∧ H' = [V]) := by
  refine tri_of_wpS Tryz.func3 rfl Tryz.ntmps3 (by simp) ?_
  refine wp_seq' ?_
  refine wp_region' ?_
  refine ops_ro' rfl (ro_assign rfl) rfl ?_
  refine ops_nil ?_
  refine Then_normal ?_
  refine wp_seq' ?_
  refine wp_region' ?_
  refine ops_eff' rfl (eff_call Tryz.call11 rfl rfl (by repeat (first | exact Split.nil _ | apply Split.cons 0 rfl | apply Split.cons 1 rfl | apply Split.cons 2 rfl | apply Split.cons 3 rfl | apply Split.cons 4 rfl | apply Split.cons 5 rfl | apply Split.cons 6 rfl | apply Split.cons 7 rfl | apply Split.cons 8 rfl | apply Split.cons 9 rfl | apply Split.cons 10 rfl | apply Split.cons 11 rfl)) (fnew_spec)) rfl ?_
  rintro _ H' ⟨_, ⟨mb, t, r, rfl, hn1, hn2, hW, rfl⟩, hH⟩
  simp only [List.cons_append, List.nil_append, List.eraseIdx_cons_zero, List.eraseIdx_cons_succ, List.set_cons_zero, List.set_cons_succ] at hH
  subst hH
  obtain ⟨hs0, hhs0⟩ : ∃ z, z = List.replicate 256 Hd.zero := ⟨_, rfl⟩
  rw [← hhs0]
  have hH0 : HsOk hs0 := by rw [hhs0]; exact hs0_ok
  have hz0 : ∀ s i, hdA hs0 s i = Hd.zero := fun s i => by rw [hhs0]; exact hdA_new s i
  obtain ⟨tb, htb⟩ : ∃ z, t.tb = z := ⟨_, rfl⟩
  rw [htb]
  refine ops_ro' rfl (ro_assign rfl) rfl ?_
  refine ops_nil ?_
  refine Then_normal ?_
  refine wp_seq' ?_
  refine wp_seq' ?_
  refine wp_region' ?_
  refine ops_ro' rfl (ro_move rfl) rfl ?_
  refine ops_ro' rfl (ro_ptrEqlNil Tryz.underlying23 rfl rfl rfl) rfl ?_
  refine ops_nil ?_
  refine Then_normal ?_
  refine wp_condF rfl ?_
  refine wp_skip' ?_
  refine Then_normal ?_
  refine wp_cutK 1005 (fun Δ LL => ∃ (t1 : Tr) (r1 : Nd), (GD t1 r1 [100] ∧ t1.tb = tb ∧ t1.next ≤ 10) ∧ Δ = [] ∧ LL = [oMa mb tb (hs0), tree t1, St ((hs0).map rowN), V]) (Has.cons (k := 0) rfl (Has.cons (k := 3) rfl (Has.nil _))) ?_ ?_
  · refine wp_region' ?_
    refine ops_ro' rfl (ro_move rfl) rfl ?_
    refine ops_ro' rfl (ro_build rfl (bld_struct (cs := (qAt 14 [100] 0).cs) st35 rfl)) rfl ?_
    refine ops_eff' rfl (eff_callM (Pre := [_, _, _]) Tryz.call12 rfl rfl (by repeat (first | exact Split.nil _ | apply Split.cons 0 rfl | apply Split.cons 1 rfl | apply Split.cons 2 rfl | apply Split.cons 3 rfl | apply Split.cons 4 rfl | apply Split.cons 5 rfl | apply Split.cons 6 rfl | apply Split.cons 7 rfl | apply Split.cons 8 rfl | apply Split.cons 9 rfl | apply Split.cons 10 rfl | apply Split.cons 11 rfl)) (do16K hW htb hH0 ((0 : Nat) : Int) (qAt 14 [100] 0) (qAt_ok (by decide) (by decide)) (by first | exact Ml.pick (H := _) 0 rfl hP | exact Ml.pick (H := _) 1 rfl hP | exact Ml.pick (H := _) 2 rfl hP | exact Ml.pick (H := _) 3 rfl hP | exact Ml.pick (H := _) 4 rfl hP | exact Ml.pick (H := _) 5 rfl hP | exact Ml.pick (H := _) 6 rfl hP | exact Ml.pick (H := _) 7 rfl hP | exact Ml.pick (H := _) 8 rfl hP) (by omega) (show Vw _ _ 0 (cel []) from Vw.nil _))) rfl ?_
    rintro _ H' ⟨_, ⟨t9, hs9, k9, dp9, dc9, np9, nc9, rfl, hD9, hW9, htb9, hnx9, hH9, rfl⟩, hH⟩
    simp only [List.cons_append, List.nil_append, List.eraseIdx_cons_zero, List.eraseIdx_cons_succ, List.set_cons_zero, List.set_cons_succ] at hH
    subst hH
    obtain ⟨r9, hG, _, hh⟩ := run_mkdir (s := 0) hW hn1 hn2 (by decide) rfl (nm := [100]) rfl (by decide) rfl hD9
    subst hh
    refine ops_nil ?_
    refine Then_normal ?_
    refine over_cut (kept ⟨t9, r9, ⟨hG, htb9, by omega⟩, rfl, rfl⟩ ?_ ?_ ?_)
    · exact (by repeat (first | exact Has.nil _ | refine Has.cons rfl ?_))
    · exact (by repeat (first | exact Has.nil _ | refine Has.cons rfl ?_))
    · exact (SubH.cons 2 rfl (SubH.cons 2 rfl (SubH.cons 2 rfl (SubH.cons 2 rfl (SubH.nil _)))))
  · rintro Δ LL ⟨t1, r1, ⟨hG1, htb1, hnx1⟩, rfl, rfl⟩
    simp only [List.cons_append, List.nil_append]
    refine wp_seq' ?_
    refine wp_region' ?_
    refine ops_eff' rfl (eff_alloc z36) rfl ?_
    rintro _ _ ⟨b4, rfl, rfl⟩
    refine ops_nil ?_
    refine Then_normal ?_
    refine wp_seq' ?_
    refine wp_seq' ?_
    refine wp_region' ?_
    refine ops_ro' rfl (ro_assign rfl) rfl ?_
    refine ops_nil ?_
    refine Then_normal ?_
    refine wp_block' ?_
    refine wp_loopK 7 (fun m Δ LL => ∃ (i : Nat) (hs : List Hd) (bl : List Bool), (i + m = l.length ∧ HsOk hs ∧ bl.length = 16 ∧ (∀ j, j < 16 → (hdA hs 0 j).used = bl.getD j false)) ∧ Δ = [(5, .int .i64 (i : Nat))] ∧ LL = [own b4 (.cells ((bl).map Value.bool).toArray 36 (0, 0)), oMa mb tb (hs), tree t1, St ((hs).map rowN), V]) (m := l.length) (Has.cons (k := 0) rfl (Has.cons (k := 3) rfl (Has.cons (k := 4) rfl (Has.nil _)))) (kept ⟨0, hs0, List.replicate 16 false, ⟨by omega, hH0, rfl, fun j hj => by rw [hz0, List.getD_eq_getElem?_getD, List.getElem?_replicate, if_pos hj]; rfl⟩, rfl, rfl⟩ (by repeat (first | exact Has.nil _ | refine Has.cons rfl ?_)) (by repeat (first | exact Has.nil _ | refine Has.cons rfl ?_)) (by repeat (first | exact SubH.nil _ | refine SubH.cons 0 rfl ?_ | refine SubH.cons 1 rfl ?_ | refine SubH.cons 2 rfl ?_ | refine SubH.cons 3 rfl ?_ | refine SubH.cons 4 rfl ?_ | refine SubH.cons 5 rfl ?_ | refine SubH.cons 6 rfl ?_ | refine SubH.cons 7 rfl ?_ | refine SubH.cons 8 rfl ?_ | refine SubH.cons 9 rfl ?_ | refine SubH.cons 10 rfl ?_ | refine SubH.cons 11 rfl ?_ | refine SubH.cons 12 rfl ?_ | refine SubH.cons 13 rfl ?_ | refine SubH.rown ?_))) ?_
    rintro m Δ LL ⟨i, hs, bl, ⟨hm, hH, hbl, hu⟩, rfl, rfl⟩
    simp only [List.cons_append, List.nil_append]
    refine wp_seq' ?_
    refine wp_seq' ?_
    refine wp_region' ?_
    refine ops_ro' rfl (ro_move rfl) rfl ?_
    refine ops_ro' rfl (ro_move rfl) rfl ?_
    refine ops_ro' rfl (ro_sliceLen Tryz.underlying22 rfl) rfl ?_
    refine ops_ro' rfl (ro_lss rfl rfl rfl) rfl ?_
    refine ops_split rfl rfl rfl (fun hg20 => ?_) (fun hg20 => ?_)
    · replace hg20 := of_decide_eq_true hg20
      refine ops_ro' rfl (ro_move rfl) rfl ?_
      refine ops_ro' rfl (ro_lss rfl rfl rfl) rfl ?_
      refine ops_ro' rfl (ro_pick rfl rfl) rfl ?_
      refine ops_nil ?_
      refine Then_normal ?_
      refine wp_cond' rfl (fun hc23 => ?_) (fun hc23 => ?_)
      · replace hc23 := of_decide_eq_true hc23
        have hi : i < l.length := by omega
        refine wp_know (fun w F s => vw_ptr (Vw.pick (H := [_, _, _, _, V]) 4 rfl hL) s (by omega)) ?_
        rintro ⟨b0, o0, rfl⟩
        refine wp_skip' ?_
        refine Then_normal ?_
        refine wp_seq' ?_
        refine wp_block' ?_
        refine wp_seq' ?_
        refine wp_region' ?_
        refine ops_ro' rfl (ro_move rfl) rfl ?_
        refine ops_ro' rfl (ro_move rfl) rfl ?_
        refine ops_ro' rfl (ro_indexSlice sl22 rfl rfl rfl (by omega)) rfl ?_
        refine ops_ro' rfl (ro_load sc3 rfl (Rd.pick 4 rfl (Rd.elem (j := 0) (vw_rdn hL) In.len (List.getElem?_eq_getElem hi) rfl))) rfl ?_
        refine ops_eff' rfl (eff_call Tryz.call13 rfl rfl (by repeat (first | exact Split.nil _ | apply Split.cons 0 rfl | apply Split.cons 1 rfl | apply Split.cons 2 rfl | apply Split.cons 3 rfl | apply Split.cons 4 rfl | apply Split.cons 5 rfl | apply Split.cons 6 rfl | apply Split.cons 7 rfl | apply Split.cons 8 rfl | apply Split.cons 9 rfl | apply Split.cons 10 rfl | apply Split.cons 11 rfl)) (within_spec l[i] 0 31 (by omega) (by omega) (by omega))) rfl ?_
        rintro _ H' ⟨_, ⟨rfl, rfl⟩, hH⟩
        simp only [List.cons_append, List.nil_append, List.eraseIdx_cons_zero, List.eraseIdx_cons_succ, List.set_cons_zero, List.set_cons_succ] at hH
        subst hH
        obtain ⟨k, hk, hk31⟩ : ∃ k : Nat, 0 + l[i] % (31 - 0 + 1) = (k : Int) ∧ k ≤ 31 := ⟨(l[i] % (31 - 0 + 1)).toNat, by omega, by omega⟩
        rw [hk]
        refine ops_ro' rfl (ro_assign rfl) rfl ?_
        refine ops_nil ?_
        refine Then_normal ?_
        refine wp_seq' ?_
        refine wp_seq' ?_
        refine wp_region' ?_
        refine ops_ro' rfl (ro_move rfl) rfl ?_
        refine ops_ro' rfl (ro_lss rfl rfl rfl) rfl ?_
        refine ops_split rfl rfl rfl (fun hg33 => ?_) (fun hg33 => ?_)
        · replace hg33 := of_decide_eq_true hg33
          have hk16 : k < 16 := by omega
          have hkb : k < bl.length := by omega
          refine ops_ro' rfl (ro_move rfl) rfl ?_
          refine ops_ro' rfl (ro_indexArr Tryz.underlying36 (fun w => Tryz.sizeOf4 w) rfl rfl rfl (by omega)) rfl ?_
          refine ops_ro' rfl (ro_load sc4 rfl (Rd.pick 0 rfl ((bools_rd hkb)))) rfl ?_
          refine ops_ro' rfl (ro_pick rfl rfl) rfl ?_
          refine ops_nil ?_
          refine Then_normal ?_
          refine wp_cond' rfl (fun hc37 => ?_) (fun hc37 => ?_)
          · skip
            refine wp_cutK 1012 (fun Δ LL => ∃ (b7 : Nat) (dpb7 : Option Addr) (dcb7 : Nat) (npb7 : Option Addr) (ncb7 : Nat), (HsOk (hs.set (0 * 16 + k) Hd.zero)) ∧ Δ = [(7, .pointer (some ⟨b7, 0, none⟩))] ∧ LL = [own b7 (.cells (((Rk.stat 0) : Rk).rep dpb7 dcb7 npb7 ncb7).cs.toArray 32 (0, 0)), own b4 (.cells ((bl).map Value.bool).toArray 36 (0, 0)), oMa mb tb (hs.set (0 * 16 + k) Hd.zero), tree t1, St ((hs.set (0 * 16 + k) Hd.zero).map rowN), V]) (Has.cons (k := 0) rfl (Has.cons (k := 3) rfl (Has.cons (k := 4) rfl (Has.cons (k := 5) rfl (Has.cons (k := 6) rfl (Has.nil _)))))) ?_ ?_
            · refine wp_region' ?_
              refine ops_ro' rfl (ro_move rfl) rfl ?_
              refine ops_ro' rfl (ro_move rfl) rfl ?_
              refine ops_eff' rfl (eff_call Tryz.call14 rfl rfl (by repeat (first | exact Split.nil _ | apply Split.cons 0 rfl | apply Split.cons 1 rfl | apply Split.cons 2 rfl | apply Split.cons 3 rfl | apply Split.cons 4 rfl | apply Split.cons 5 rfl | apply Split.cons 6 rfl | apply Split.cons 7 rfl | apply Split.cons 8 rfl | apply Split.cons 9 rfl | apply Split.cons 10 rfl | apply Split.cons 11 rfl)) (title_spec k hk16)) rfl ?_
              rintro _ H' ⟨_, ⟨rfl, rfl⟩, hH⟩
              simp only [List.cons_append, List.nil_append, List.eraseIdx_cons_zero, List.eraseIdx_cons_succ, List.set_cons_zero, List.set_cons_succ] at hH
              subst hH
              refine ops_ro' rfl (ro_build rfl (bld_struct (cs := (qOn 4 (hname k) 0).cs) st35 rfl)) rfl ?_
              refine ops_eff' rfl (eff_callM (Pre := [_, _, _]) Tryz.call12 rfl rfl (by repeat (first | exact Split.nil _ | apply Split.cons 0 rfl | apply Split.cons 1 rfl | apply Split.cons 2 rfl | apply Split.cons 3 rfl | apply Split.cons 4 rfl | apply Split.cons 5 rfl | apply Split.cons 6 rfl | apply Split.cons 7 rfl | apply Split.cons 8 rfl | apply Split.cons 9 rfl | apply Split.cons 10 rfl | apply Split.cons 11 rfl)) (do16K hG1.wf htb1 hH ((0 : Nat) : Int) (qOn 4 (hname k) 0) (qOn_ok (by decide)) (by first | exact Ml.pick (H := _) 0 rfl hP | exact Ml.pick (H := _) 1 rfl hP | exact Ml.pick (H := _) 2 rfl hP | exact Ml.pick (H := _) 3 rfl hP | exact Ml.pick (H := _) 4 rfl hP | exact Ml.pick (H := _) 5 rfl hP | exact Ml.pick (H := _) 6 rfl hP | exact Ml.pick (H := _) 7 rfl hP | exact Ml.pick (H := _) 8 rfl hP) (by omega) (show Vw _ _ 0 (cel []) from Vw.nil _))) rfl ?_
              rintro _ H' ⟨_, ⟨t9, hs9, k9, dp9, dc9, np9, nc9, rfl, hD9, hW9, htb9, hnx9, hH9, rfl⟩, hH⟩
              simp only [List.cons_append, List.nil_append, List.eraseIdx_cons_zero, List.eraseIdx_cons_succ, List.set_cons_zero, List.set_cons_succ] at hH
              subst hH
              obtain ⟨ht, hcl⟩ := run_close (s := 0) (by decide) rfl hD9
              unfold closeR at hcl
              rw [find_k hk16 (by rw [hu k hk16, List.getD_eq_getElem?_getD, List.getElem?_eq_getElem hkb]; exact hc37)] at hcl
              obtain ⟨hh, rfl⟩ := hcl
              obtain rfl : t1 = t9 := ht.symm
              subst hh
              refine ops_eff' rfl (eff_alloc z32) rfl ?_
              rintro _ _ ⟨b7, rfl, rfl⟩
              refine ops_eff0 rfl (eff_storeA 0 ag32 rfl rfl rfl rfl rfl (Nat.le_of_ble_eq_true rfl) (warm_zero _)) rfl ?_
              rintro _ _ rfl
              simp only [List.set_cons_zero, List.set_cons_succ]
              refine ops_nil ?_
              refine Then_normal ?_
              refine over_cut (kept ⟨b7, dp9, dc9, np9, nc9, hH9, rfl, rfl⟩ ?_ ?_ ?_)
              · exact (by repeat (first | exact Has.nil _ | refine Has.cons rfl ?_))
              · exact (by repeat (first | exact Has.nil _ | refine Has.cons rfl ?_))
              · exact (SubH.cons 0 rfl (SubH.cons 5 rfl (SubH.cons 2 rfl (SubH.cons 2 rfl (SubH.cons 2 rfl (SubH.cons 2 rfl (SubH.nil _)))))))
            · rintro Δ LL ⟨b7, dpb7, dcb7, npb7, ncb7, hH3, rfl, rfl⟩
              simp only [List.cons_append, List.nil_append]
              refine wp_seq' ?_
              refine wp_seq' ?_
              refine wp_region' ?_
              refine ops_ro' rfl (ro_fieldAddr fa32_0 rfl) rfl ?_
              refine ops_ro' rfl (ro_load sc3 rfl (Rd.pick 0 rfl (Rd.own rfl))) rfl ?_
              refine ops_ro' rfl (ro_neq rfl rfl rfl) rfl ?_
              refine ops_ro' rfl (ro_move (v := .bool false) rfl) rfl ?_
              refine ops_ro' rfl (ro_fieldAddr fa32_1 rfl) rfl ?_
              refine ops_ro' rfl (ro_load sc3 rfl (Rd.pick 0 rfl (Rd.own rfl))) rfl ?_
              refine ops_ro' rfl (ro_neq rfl rfl rfl) rfl ?_
              refine ops_ro' rfl (ro_pick rfl rfl) rfl ?_
              refine ops_nil ?_
              refine Then_normal ?_
              refine wp_condF rfl ?_
              refine wp_skip' ?_
              refine Then_normal ?_
              refine wp_seq' ?_
              refine wp_region' ?_
              refine ops_ro' rfl (ro_move rfl) rfl ?_
              refine ops_ro' rfl (ro_indexArr Tryz.underlying36 (fun w => Tryz.sizeOf4 w) rfl rfl rfl (by omega)) rfl ?_
              refine ops_eff0 rfl (eff_store 1 sc4 rfl rfl rfl rfl (by simp only [List.length_map]; omega) (warm_zero _)) rfl ?_
              rintro _ _ rfl
              simp only [List.cons_append, List.nil_append, List.set_cons_zero, List.set_cons_succ]
              rw [bools_set]
              refine ops_nil ?_
              refine Then_normal ?_
              refine wp_exit' ?_
              refine Then_exit ?_
              refine InBlock_here ?_
              refine Then_normal ?_
              refine wp_region' ?_
              refine ops_ro' rfl (ro_move rfl) rfl ?_
              refine ops_ro' rfl (ro_add rfl rfl (wrap_inc (by omega))) rfl ?_
              refine ops_ro' rfl (ro_assign rfl) rfl ?_
              refine ops_nil ?_
              refine Then_normal ?_
              refine back (m - 1) (by omega) (kept ⟨i + 1, hs.set (0 * 16 + k) Hd.zero, bl.set k false, ⟨by omega, hH3, by rw [List.length_set]; exact hbl, least_set hH.len hbl hk16 hu rfl⟩, rfl, rfl⟩ ?_ ?_ ?_)
              · exact (by repeat (first | exact Has.nil _ | refine Has.cons rfl ?_))
              · exact (by repeat (first | exact Has.nil _ | refine Has.cons rfl ?_))
              · exact (SubH.cons 1 rfl (SubH.cons 1 rfl (SubH.cons 1 rfl (SubH.cons 1 rfl (SubH.cons 1 rfl (SubH.nil _))))))
          · skip
            refine wp_skip' ?_
            refine Then_normal ?_
            refine wp_seq' ?_
            refine wp_region' ?_
            refine ops_ro' rfl (ro_assign rfl) rfl ?_
            refine ops_nil ?_
            refine Then_normal ?_
            refine wp_seq' ?_
            refine wp_block' ?_
            refine wp_loopK 16 (fun m Δ LL => ∃ (f : Nat), (f + m = 16 ∧ (∀ j, j < f → bl.getD j false = true)) ∧ Δ = [(8, .int .i64 (f : Nat))] ∧ LL = [own b4 (.cells ((bl).map Value.bool).toArray 36 (0, 0)), oMa mb tb (hs), tree t1, St ((hs).map rowN), V]) (m := 16) (Has.cons (k := 0) rfl (Has.cons (k := 3) rfl (Has.cons (k := 4) rfl (Has.cons (k := 5) rfl (Has.nil _))))) (kept ⟨0, ⟨by omega, fun j hj => by omega⟩, rfl, rfl⟩ (by repeat (first | exact Has.nil _ | refine Has.cons rfl ?_)) (by repeat (first | exact Has.nil _ | refine Has.cons rfl ?_)) (by repeat (first | exact SubH.nil _ | refine SubH.cons 0 rfl ?_ | refine SubH.cons 1 rfl ?_ | refine SubH.cons 2 rfl ?_ | refine SubH.cons 3 rfl ?_ | refine SubH.cons 4 rfl ?_ | refine SubH.cons 5 rfl ?_ | refine SubH.cons 6 rfl ?_ | refine SubH.cons 7 rfl ?_ | refine SubH.cons 8 rfl ?_ | refine SubH.cons 9 rfl ?_ | refine SubH.cons 10 rfl ?_ | refine SubH.cons 11 rfl ?_ | refine SubH.cons 12 rfl ?_ | refine SubH.cons 13 rfl ?_ | refine SubH.rown ?_))) ?_
            rintro mf Δ LL ⟨f, ⟨hmf, hall⟩, rfl, rfl⟩
            simp only [List.cons_append, List.nil_append]
            refine wp_seq' ?_
            refine wp_seq' ?_
            refine wp_region' ?_
            refine ops_ro' rfl (ro_move rfl) rfl ?_
            refine ops_ro' rfl (ro_lss rfl rfl rfl) rfl ?_
            refine ops_split rfl rfl rfl (fun hg55 => ?_) (fun hg55 => ?_)
            · replace hg55 := of_decide_eq_true hg55
              have hfl : f < 16 := by omega
              have hfb : f < bl.length := by omega
              refine ops_ro' rfl (ro_move rfl) rfl ?_
              refine ops_ro' rfl (ro_indexArr Tryz.underlying36 (fun w => Tryz.sizeOf4 w) rfl rfl rfl (by omega)) rfl ?_
              refine ops_ro' rfl (ro_load sc4 rfl (Rd.pick 0 rfl ((bools_rd hfb)))) rfl ?_
              refine ops_ro' rfl (ro_pick rfl rfl) rfl ?_
              refine ops_nil ?_
              refine Then_normal ?_
              refine wp_cond' rfl (fun hc59 => ?_) (fun hc59 => ?_)
              · skip
                refine wp_skip' ?_
                refine Then_normal ?_
                refine wp_block' ?_
                refine wp_region' ?_
                refine ops_ro' rfl (ro_move rfl) rfl ?_
                refine ops_ro' rfl (ro_add rfl rfl (wrap_inc (by omega))) rfl ?_
                refine ops_ro' rfl (ro_assign rfl) rfl ?_
                refine ops_nil ?_
                refine InBlock_normal ?_
                refine Then_normal ?_
                refine back (mf - 1) (by omega) (kept ⟨f + 1, ⟨by omega, least_step hall hfb hc59⟩, rfl, rfl⟩ ?_ ?_ ?_)
                · exact (by repeat (first | exact Has.nil _ | refine Has.cons rfl ?_))
                · exact (by repeat (first | exact Has.nil _ | refine Has.cons rfl ?_))
                · exact SubH.refl _
              · skip
                refine wp_exit' ?_
                refine Then_exit ?_
                refine Then_exit ?_
                refine InBlock_here ?_
                refine Then_normal ?_
                refine wp_seq' ?_
                refine wp_region' ?_
                refine ops_ro' rfl (ro_move rfl) rfl ?_
                refine ops_ro' rfl (ro_build rfl (bld_struct (cs := (qAt 11 [100] 0).cs) st35 rfl)) rfl ?_
                refine ops_eff' rfl (eff_callM (Pre := [_, _, _]) Tryz.call12 rfl rfl (by repeat (first | exact Split.nil _ | apply Split.cons 0 rfl | apply Split.cons 1 rfl | apply Split.cons 2 rfl | apply Split.cons 3 rfl | apply Split.cons 4 rfl | apply Split.cons 5 rfl | apply Split.cons 6 rfl | apply Split.cons 7 rfl | apply Split.cons 8 rfl | apply Split.cons 9 rfl | apply Split.cons 10 rfl | apply Split.cons 11 rfl)) (do16K hG1.wf htb1 hH ((0 : Nat) : Int) (qAt 11 [100] 0) (qAt_ok (by decide) (by decide)) (by first | exact Ml.pick (H := _) 0 rfl hP | exact Ml.pick (H := _) 1 rfl hP | exact Ml.pick (H := _) 2 rfl hP | exact Ml.pick (H := _) 3 rfl hP | exact Ml.pick (H := _) 4 rfl hP | exact Ml.pick (H := _) 5 rfl hP | exact Ml.pick (H := _) 6 rfl hP | exact Ml.pick (H := _) 7 rfl hP | exact Ml.pick (H := _) 8 rfl hP) (by omega) (show Vw _ _ 0 (cel []) from Vw.nil _))) rfl ?_
                rintro _ H' ⟨_, ⟨t9, hs9, k9, dp9, dc9, np9, nc9, rfl, hD9, hW9, htb9, hnx9, hH9, rfl⟩, hH⟩
                simp only [List.cons_append, List.nil_append, List.eraseIdx_cons_zero, List.eraseIdx_cons_succ, List.set_cons_zero, List.set_cons_succ] at hH
                subst hH
                obtain ⟨ht, ho⟩ := run_opendir (s := 0) hG1 (by decide) rfl rfl hD9
                obtain rfl : t1 = t9 := ht.symm
                first | (have hfree : freeH hs 0 = some f := free_hit (fun j hj => by rw [hu j (by omega)]; exact hall j hj) hfl (by rw [hu f hfl, List.getD_eq_getElem?_getD, List.getElem?_eq_getElem hfb]; exact hc59)) | (have hfree : freeH hs 0 = none := free_miss (fun j hj => by rw [hu j hj]; exact hall j (by omega)))
                rw [hfree] at ho
                dsimp only at ho
                first | (obtain ⟨hh, rfl⟩ := ho; obtain rfl : hs = hs9 := hh.symm) | (obtain ⟨np8, nc8, hh, rfl⟩ := ho; subst hh)
                have hH3 := hH9
                refine ops_eff' rfl (eff_alloc z32) rfl ?_
                rintro _ _ ⟨b9, rfl, rfl⟩
                refine ops_eff0 rfl (eff_storeA 0 ag32 rfl rfl rfl rfl rfl (Nat.le_of_ble_eq_true rfl) (warm_zero _)) rfl ?_
                rintro _ _ rfl
                simp only [List.set_cons_zero, List.set_cons_succ]
                refine ops_nil ?_
                refine Then_normal ?_
                refine wp_seq' ?_
                refine wp_seq' ?_
                refine wp_region' ?_
                refine ops_ro' rfl (ro_fieldAddr fa32_0 rfl) rfl ?_
                refine ops_ro' rfl (ro_load sc3 rfl (Rd.pick 0 rfl (Rd.own rfl))) rfl ?_
                refine ops_ro' rfl (ro_eql rfl rfl rfl) rfl ?_
                refine ops_ro' rfl (ro_move rfl) rfl ?_
                refine ops_ro' rfl (ro_lss rfl rfl (decide_eq_true (by omega))) rfl ?_
                refine ops_ro' rfl (ro_neq_bool Tryz.underlying4 rfl rfl (c := false) (by first | rfl | decide | simp)) rfl ?_
                refine ops_nil ?_
                refine Then_normal ?_
                refine wp_condF rfl ?_
                refine wp_skip' ?_
                refine Then_normal ?_
                refine wp_seq' ?_
                refine wp_region' ?_
                refine ops_ro' rfl (ro_move rfl) rfl ?_
                refine ops_ro' rfl (ro_lss rfl rfl (decide_eq_true (by omega))) rfl ?_
                refine ops_nil ?_
                refine Then_normal ?_
                refine wp_condT rfl ?_
                refine wp_seq' ?_
                refine wp_seq' ?_
                refine wp_draw 5 (by kernel_rfl) (Split.cons 0 rfl (Split.nil _)) ?_
                refine any_ro' (i := 0) (by kernel_rfl) rfl rfl (ro_fieldAddr fa32_2 rfl) rfl (fun _ _ _ h => h) ?_
                refine any_ro' (i := 1) (by kernel_rfl) rfl rfl (ro_load sc9 rfl (Rd.pick 0 rfl (Rd.own rfl))) rfl (fun _ _ _ h => h) ?_
                refine any_ro' (i := 2) (by kernel_rfl) rfl rfl (ro_move rfl) rfl (fun _ _ _ h => h) ?_
                refine any_eff' (i := 3) (by kernel_rfl) rfl rfl (eff_call Tryz.call14 rfl rfl (by repeat (first | exact Split.nil _ | apply Split.cons 0 rfl | apply Split.cons 1 rfl | apply Split.cons 2 rfl | apply Split.cons 3 rfl | apply Split.cons 4 rfl | apply Split.cons 5 rfl | apply Split.cons 6 rfl | apply Split.cons 7 rfl | apply Split.cons 8 rfl | apply Split.cons 9 rfl | apply Split.cons 10 rfl | apply Split.cons 11 rfl)) (title_spec f hfl)) rfl ?_
                rintro _ H' ⟨_, ⟨rfl, rfl⟩, hH⟩
                simp only [List.cons_append, List.nil_append, List.eraseIdx_cons_zero, List.eraseIdx_cons_succ, List.set_cons_zero, List.set_cons_succ] at hH
                subst hH
                refine any_ro' (i := 4) (by kernel_rfl) rfl rfl (ro_neqS rfl rfl (decide_eq_false (fun h => h rfl))) rfl (fun _ _ _ h => h) ?_
                refine any_done (by kernel_rfl) ?_
                refine Then_normal ?_
                refine wp_condF rfl ?_
                refine wp_skip' ?_
                refine Then_normal ?_
                refine wp_region' ?_
                refine ops_ro' rfl (ro_move rfl) rfl ?_
                refine ops_ro' rfl (ro_indexArr Tryz.underlying36 (fun w => Tryz.sizeOf4 w) rfl rfl rfl (by omega)) rfl ?_
                refine ops_eff0 rfl (eff_store 6 sc4 rfl rfl rfl rfl (by simp only [List.length_map]; omega) (warm_zero _)) rfl ?_
                rintro _ _ rfl
                simp only [List.cons_append, List.nil_append, List.set_cons_zero, List.set_cons_succ]
                rw [bools_set]
                refine ops_nil ?_
                refine InBlock_normal ?_
                refine Then_normal ?_
                refine wp_region' ?_
                refine ops_ro' rfl (ro_move rfl) rfl ?_
                refine ops_ro' rfl (ro_add rfl rfl (wrap_inc (by omega))) rfl ?_
                refine ops_ro' rfl (ro_assign rfl) rfl ?_
                refine ops_nil ?_
                refine Then_normal ?_
                refine back (m - 1) (by omega) (kept ⟨i + 1, hs.set (0 * 16 + f) ⟨true, 1, true, 0, np8, nc8, []⟩, bl.set f true, ⟨by omega, hH3, by rw [List.length_set]; exact hbl, least_set hH.len hbl hfl hu rfl⟩, rfl, rfl⟩ ?_ ?_ ?_)
                · exact (by repeat (first | exact Has.nil _ | refine Has.cons rfl ?_))
                · exact (by repeat (first | exact Has.nil _ | refine Has.cons rfl ?_))
                · exact (SubH.cons 6 rfl (SubH.cons 3 rfl (SubH.cons 3 rfl (SubH.cons 3 rfl (SubH.cons 3 rfl (SubH.nil _))))))
            · replace hg55 := of_decide_eq_false hg55
              refine ops_skip' rfl rfl ?_
              refine ops_skip' rfl rfl ?_
              refine ops_skip' rfl rfl ?_
              refine ops_ro' rfl (ro_pick rfl rfl) rfl ?_
              refine ops_nil ?_
              refine Then_normal ?_
              refine wp_condF rfl ?_
              refine wp_exit' ?_
              refine Then_exit ?_
              refine Then_exit ?_
              refine InBlock_here ?_
              refine Then_normal ?_
              refine wp_seq' ?_
              refine wp_region' ?_
              refine ops_ro' rfl (ro_move rfl) rfl ?_
              refine ops_ro' rfl (ro_build rfl (bld_struct (cs := (qAt 11 [100] 0).cs) st35 rfl)) rfl ?_
              refine ops_eff' rfl (eff_callM (Pre := [_, _, _]) Tryz.call12 rfl rfl (by repeat (first | exact Split.nil _ | apply Split.cons 0 rfl | apply Split.cons 1 rfl | apply Split.cons 2 rfl | apply Split.cons 3 rfl | apply Split.cons 4 rfl | apply Split.cons 5 rfl | apply Split.cons 6 rfl | apply Split.cons 7 rfl | apply Split.cons 8 rfl | apply Split.cons 9 rfl | apply Split.cons 10 rfl | apply Split.cons 11 rfl)) (do16K hG1.wf htb1 hH ((0 : Nat) : Int) (qAt 11 [100] 0) (qAt_ok (by decide) (by decide)) (by first | exact Ml.pick (H := _) 0 rfl hP | exact Ml.pick (H := _) 1 rfl hP | exact Ml.pick (H := _) 2 rfl hP | exact Ml.pick (H := _) 3 rfl hP | exact Ml.pick (H := _) 4 rfl hP | exact Ml.pick (H := _) 5 rfl hP | exact Ml.pick (H := _) 6 rfl hP | exact Ml.pick (H := _) 7 rfl hP | exact Ml.pick (H := _) 8 rfl hP) (by omega) (show Vw _ _ 0 (cel []) from Vw.nil _))) rfl ?_
              rintro _ H' ⟨_, ⟨t9, hs9, k9, dp9, dc9, np9, nc9, rfl, hD9, hW9, htb9, hnx9, hH9, rfl⟩, hH⟩
              simp only [List.cons_append, List.nil_append, List.eraseIdx_cons_zero, List.eraseIdx_cons_succ, List.set_cons_zero, List.set_cons_succ] at hH
              subst hH
              obtain ⟨ht, ho⟩ := run_opendir (s := 0) hG1 (by decide) rfl rfl hD9
              obtain rfl : t1 = t9 := ht.symm
              first | (have hfree : freeH hs 0 = some f := free_hit (fun j hj => by rw [hu j (by omega)]; exact hall j hj) hfl (by rw [hu f hfl, List.getD_eq_getElem?_getD, List.getElem?_eq_getElem hfb]; exact hc59)) | (have hfree : freeH hs 0 = none := free_miss (fun j hj => by rw [hu j hj]; exact hall j (by omega)))
              rw [hfree] at ho
              dsimp only at ho
              first | (obtain ⟨hh, rfl⟩ := ho; obtain rfl : hs = hs9 := hh.symm) | (obtain ⟨np8, nc8, hh, rfl⟩ := ho; subst hh)
              have hH3 := hH9
              refine ops_eff' rfl (eff_alloc z32) rfl ?_
              rintro _ _ ⟨b9, rfl, rfl⟩
              refine ops_eff0 rfl (eff_storeA 0 ag32 rfl rfl rfl rfl rfl (Nat.le_of_ble_eq_true rfl) (warm_zero _)) rfl ?_
              rintro _ _ rfl
              simp only [List.set_cons_zero, List.set_cons_succ]
              refine ops_nil ?_
              refine Then_normal ?_
              refine wp_seq' ?_
              refine wp_seq' ?_
              refine wp_region' ?_
              refine ops_ro' rfl (ro_fieldAddr fa32_0 rfl) rfl ?_
              refine ops_ro' rfl (ro_load sc3 rfl (Rd.pick 0 rfl (Rd.own rfl))) rfl ?_
              refine ops_ro' rfl (ro_eql rfl rfl rfl) rfl ?_
              refine ops_ro' rfl (ro_move rfl) rfl ?_
              refine ops_ro' rfl (ro_lss rfl rfl (decide_eq_false (by omega))) rfl ?_
              refine ops_ro' rfl (ro_neq_bool Tryz.underlying4 rfl rfl (c := false) (by first | rfl | decide | simp)) rfl ?_
              refine ops_nil ?_
              refine Then_normal ?_
              refine wp_condF rfl ?_
              refine wp_skip' ?_
              refine Then_normal ?_
              refine wp_seq' ?_
              refine wp_region' ?_
              refine ops_ro' rfl (ro_move rfl) rfl ?_
              refine ops_ro' rfl (ro_lss rfl rfl (decide_eq_false (by omega))) rfl ?_
              refine ops_nil ?_
              refine Then_normal ?_
              refine wp_condF rfl ?_
              refine wp_seq' ?_
              refine wp_region' ?_
              refine ops_ro' rfl (ro_fieldAddr fa32_0 rfl) rfl ?_
              refine ops_ro' rfl (ro_load sc3 rfl (Rd.pick 0 rfl (Rd.own rfl))) rfl ?_
              refine ops_ro' rfl (ro_neq rfl rfl rfl) rfl ?_
              refine ops_ro' rfl (ro_move (v := .bool false) rfl) rfl ?_
              refine ops_ro' rfl (ro_fieldAddr fa32_1 rfl) rfl ?_
              refine ops_ro' rfl (ro_load sc3 rfl (Rd.pick 0 rfl (Rd.own rfl))) rfl ?_
              refine ops_ro' rfl (ro_neq rfl rfl rfl) rfl ?_
              refine ops_ro' rfl (ro_pick rfl rfl) rfl ?_
              refine ops_nil ?_
              refine Then_normal ?_
              refine wp_condF rfl ?_
              refine wp_skip' ?_
              refine InBlock_normal ?_
              refine Then_normal ?_
              refine wp_region' ?_
              refine ops_ro' rfl (ro_move rfl) rfl ?_
              refine ops_ro' rfl (ro_add rfl rfl (wrap_inc (by omega))) rfl ?_
              refine ops_ro' rfl (ro_assign rfl) rfl ?_
              refine ops_nil ?_
              refine Then_normal ?_
              refine back (m - 1) (by omega) (kept ⟨i + 1, hs, bl, ⟨by omega, hH, hbl, hu⟩, rfl, rfl⟩ ?_ ?_ ?_)
              · exact (by repeat (first | exact Has.nil _ | refine Has.cons rfl ?_))
              · exact (by repeat (first | exact Has.nil _ | refine Has.cons rfl ?_))
              · exact (SubH.cons 6 rfl (SubH.cons 3 rfl (SubH.cons 3 rfl (SubH.cons 3 rfl (SubH.cons 3 rfl (SubH.nil _))))))
        · replace hg33 := of_decide_eq_false hg33
          refine ops_skip' rfl rfl ?_
          refine ops_skip' rfl rfl ?_
          refine ops_skip' rfl rfl ?_
          refine ops_ro' rfl (ro_pick rfl rfl) rfl ?_
          refine ops_nil ?_
          refine Then_normal ?_
          refine wp_condF rfl ?_
          refine wp_skip' ?_
          refine Then_normal ?_
          refine wp_seq' ?_
          refine wp_region' ?_
          refine ops_ro' rfl (ro_assign rfl) rfl ?_
          refine ops_nil ?_
          refine Then_normal ?_
          refine wp_seq' ?_
          refine wp_block' ?_
          refine wp_loopK 16 (fun m Δ LL => ∃ (f : Nat), (f + m = 16 ∧ (∀ j, j < f → bl.getD j false = true)) ∧ Δ = [(8, .int .i64 (f : Nat))] ∧ LL = [own b4 (.cells ((bl).map Value.bool).toArray 36 (0, 0)), oMa mb tb (hs), tree t1, St ((hs).map rowN), V]) (m := 16) (Has.cons (k := 0) rfl (Has.cons (k := 3) rfl (Has.cons (k := 4) rfl (Has.cons (k := 5) rfl (Has.nil _))))) (kept ⟨0, ⟨by omega, fun j hj => by omega⟩, rfl, rfl⟩ (by repeat (first | exact Has.nil _ | refine Has.cons rfl ?_)) (by repeat (first | exact Has.nil _ | refine Has.cons rfl ?_)) (by repeat (first | exact SubH.nil _ | refine SubH.cons 0 rfl ?_ | refine SubH.cons 1 rfl ?_ | refine SubH.cons 2 rfl ?_ | refine SubH.cons 3 rfl ?_ | refine SubH.cons 4 rfl ?_ | refine SubH.cons 5 rfl ?_ | refine SubH.cons 6 rfl ?_ | refine SubH.cons 7 rfl ?_ | refine SubH.cons 8 rfl ?_ | refine SubH.cons 9 rfl ?_ | refine SubH.cons 10 rfl ?_ | refine SubH.cons 11 rfl ?_ | refine SubH.cons 12 rfl ?_ | refine SubH.cons 13 rfl ?_ | refine SubH.rown ?_))) ?_
          rintro mf Δ LL ⟨f, ⟨hmf, hall⟩, rfl, rfl⟩
          simp only [List.cons_append, List.nil_append]
          refine wp_seq' ?_
          refine wp_seq' ?_
          refine wp_region' ?_
          refine ops_ro' rfl (ro_move rfl) rfl ?_
          refine ops_ro' rfl (ro_lss rfl rfl rfl) rfl ?_
          refine ops_split rfl rfl rfl (fun hg55 => ?_) (fun hg55 => ?_)
          · replace hg55 := of_decide_eq_true hg55
            have hfl : f < 16 := by omega
            have hfb : f < bl.length := by omega
            refine ops_ro' rfl (ro_move rfl) rfl ?_
            refine ops_ro' rfl (ro_indexArr Tryz.underlying36 (fun w => Tryz.sizeOf4 w) rfl rfl rfl (by omega)) rfl ?_
            refine ops_ro' rfl (ro_load sc4 rfl (Rd.pick 0 rfl ((bools_rd hfb)))) rfl ?_
            refine ops_ro' rfl (ro_pick rfl rfl) rfl ?_
            refine ops_nil ?_
            refine Then_normal ?_
            refine wp_cond' rfl (fun hc59 => ?_) (fun hc59 => ?_)
            · skip
              refine wp_skip' ?_
              refine Then_normal ?_
              refine wp_block' ?_
              refine wp_region' ?_
              refine ops_ro' rfl (ro_move rfl) rfl ?_
              refine ops_ro' rfl (ro_add rfl rfl (wrap_inc (by omega))) rfl ?_
              refine ops_ro' rfl (ro_assign rfl) rfl ?_
              refine ops_nil ?_
              refine InBlock_normal ?_
              refine Then_normal ?_
              refine back (mf - 1) (by omega) (kept ⟨f + 1, ⟨by omega, least_step hall hfb hc59⟩, rfl, rfl⟩ ?_ ?_ ?_)
              · exact (by repeat (first | exact Has.nil _ | refine Has.cons rfl ?_))
              · exact (by repeat (first | exact Has.nil _ | refine Has.cons rfl ?_))
              · exact SubH.refl _
            · skip
              refine wp_exit' ?_
              refine Then_exit ?_
              refine Then_exit ?_
              refine InBlock_here ?_
              refine Then_normal ?_
              refine wp_seq' ?_
              refine wp_region' ?_
              refine ops_ro' rfl (ro_move rfl) rfl ?_
              refine ops_ro' rfl (ro_build rfl (bld_struct (cs := (qAt 11 [100] 0).cs) st35 rfl)) rfl ?_
              refine ops_eff' rfl (eff_callM (Pre := [_, _, _]) Tryz.call12 rfl rfl (by repeat (first | exact Split.nil _ | apply Split.cons 0 rfl | apply Split.cons 1 rfl | apply Split.cons 2 rfl | apply Split.cons 3 rfl | apply Split.cons 4 rfl | apply Split.cons 5 rfl | apply Split.cons 6 rfl | apply Split.cons 7 rfl | apply Split.cons 8 rfl | apply Split.cons 9 rfl | apply Split.cons 10 rfl | apply Split.cons 11 rfl)) (do16K hG1.wf htb1 hH ((0 : Nat) : Int) (qAt 11 [100] 0) (qAt_ok (by decide) (by decide)) (by first | exact Ml.pick (H := _) 0 rfl hP | exact Ml.pick (H := _) 1 rfl hP | exact Ml.pick (H := _) 2 rfl hP | exact Ml.pick (H := _) 3 rfl hP | exact Ml.pick (H := _) 4 rfl hP | exact Ml.pick (H := _) 5 rfl hP | exact Ml.pick (H := _) 6 rfl hP | exact Ml.pick (H := _) 7 rfl hP | exact Ml.pick (H := _) 8 rfl hP) (by omega) (show Vw _ _ 0 (cel []) from Vw.nil _))) rfl ?_
              rintro _ H' ⟨_, ⟨t9, hs9, k9, dp9, dc9, np9, nc9, rfl, hD9, hW9, htb9, hnx9, hH9, rfl⟩, hH⟩
              simp only [List.cons_append, List.nil_append, List.eraseIdx_cons_zero, List.eraseIdx_cons_succ, List.set_cons_zero, List.set_cons_succ] at hH
              subst hH
              obtain ⟨ht, ho⟩ := run_opendir (s := 0) hG1 (by decide) rfl rfl hD9
              obtain rfl : t1 = t9 := ht.symm
              first | (have hfree : freeH hs 0 = some f := free_hit (fun j hj => by rw [hu j (by omega)]; exact hall j hj) hfl (by rw [hu f hfl, List.getD_eq_getElem?_getD, List.getElem?_eq_getElem hfb]; exact hc59)) | (have hfree : freeH hs 0 = none := free_miss (fun j hj => by rw [hu j hj]; exact hall j (by omega)))
              rw [hfree] at ho
              dsimp only at ho
              first | (obtain ⟨hh, rfl⟩ := ho; obtain rfl : hs = hs9 := hh.symm) | (obtain ⟨np8, nc8, hh, rfl⟩ := ho; subst hh)
              have hH3 := hH9
              refine ops_eff' rfl (eff_alloc z32) rfl ?_
              rintro _ _ ⟨b9, rfl, rfl⟩
              refine ops_eff0 rfl (eff_storeA 0 ag32 rfl rfl rfl rfl rfl (Nat.le_of_ble_eq_true rfl) (warm_zero _)) rfl ?_
              rintro _ _ rfl
              simp only [List.set_cons_zero, List.set_cons_succ]
              refine ops_nil ?_
              refine Then_normal ?_
              refine wp_seq' ?_
              refine wp_seq' ?_
              refine wp_region' ?_
              refine ops_ro' rfl (ro_fieldAddr fa32_0 rfl) rfl ?_
              refine ops_ro' rfl (ro_load sc3 rfl (Rd.pick 0 rfl (Rd.own rfl))) rfl ?_
              refine ops_ro' rfl (ro_eql rfl rfl rfl) rfl ?_
              refine ops_ro' rfl (ro_move rfl) rfl ?_
              refine ops_ro' rfl (ro_lss rfl rfl (decide_eq_true (by omega))) rfl ?_
              refine ops_ro' rfl (ro_neq_bool Tryz.underlying4 rfl rfl (c := false) (by first | rfl | decide | simp)) rfl ?_
              refine ops_nil ?_
              refine Then_normal ?_
              refine wp_condF rfl ?_
              refine wp_skip' ?_
              refine Then_normal ?_
              refine wp_seq' ?_
              refine wp_region' ?_
              refine ops_ro' rfl (ro_move rfl) rfl ?_
              refine ops_ro' rfl (ro_lss rfl rfl (decide_eq_true (by omega))) rfl ?_
              refine ops_nil ?_
              refine Then_normal ?_
              refine wp_condT rfl ?_
              refine wp_seq' ?_
              refine wp_seq' ?_
              refine wp_draw 5 (by kernel_rfl) (Split.cons 0 rfl (Split.nil _)) ?_
              refine any_ro' (i := 0) (by kernel_rfl) rfl rfl (ro_fieldAddr fa32_2 rfl) rfl (fun _ _ _ h => h) ?_
              refine any_ro' (i := 1) (by kernel_rfl) rfl rfl (ro_load sc9 rfl (Rd.pick 0 rfl (Rd.own rfl))) rfl (fun _ _ _ h => h) ?_
              refine any_ro' (i := 2) (by kernel_rfl) rfl rfl (ro_move rfl) rfl (fun _ _ _ h => h) ?_
              refine any_eff' (i := 3) (by kernel_rfl) rfl rfl (eff_call Tryz.call14 rfl rfl (by repeat (first | exact Split.nil _ | apply Split.cons 0 rfl | apply Split.cons 1 rfl | apply Split.cons 2 rfl | apply Split.cons 3 rfl | apply Split.cons 4 rfl | apply Split.cons 5 rfl | apply Split.cons 6 rfl | apply Split.cons 7 rfl | apply Split.cons 8 rfl | apply Split.cons 9 rfl | apply Split.cons 10 rfl | apply Split.cons 11 rfl)) (title_spec f hfl)) rfl ?_
              rintro _ H' ⟨_, ⟨rfl, rfl⟩, hH⟩
              simp only [List.cons_append, List.nil_append, List.eraseIdx_cons_zero, List.eraseIdx_cons_succ, List.set_cons_zero, List.set_cons_succ] at hH
              subst hH
              refine any_ro' (i := 4) (by kernel_rfl) rfl rfl (ro_neqS rfl rfl (decide_eq_false (fun h => h rfl))) rfl (fun _ _ _ h => h) ?_
              refine any_done (by kernel_rfl) ?_
              refine Then_normal ?_
              refine wp_condF rfl ?_
              refine wp_skip' ?_
              refine Then_normal ?_
              refine wp_region' ?_
              refine ops_ro' rfl (ro_move rfl) rfl ?_
              refine ops_ro' rfl (ro_indexArr Tryz.underlying36 (fun w => Tryz.sizeOf4 w) rfl rfl rfl (by omega)) rfl ?_
              refine ops_eff0 rfl (eff_store 6 sc4 rfl rfl rfl rfl (by simp only [List.length_map]; omega) (warm_zero _)) rfl ?_
              rintro _ _ rfl
              simp only [List.cons_append, List.nil_append, List.set_cons_zero, List.set_cons_succ]
              rw [bools_set]
              refine ops_nil ?_
              refine InBlock_normal ?_
              refine Then_normal ?_
              refine wp_region' ?_
              refine ops_ro' rfl (ro_move rfl) rfl ?_
              refine ops_ro' rfl (ro_add rfl rfl (wrap_inc (by omega))) rfl ?_
              refine ops_ro' rfl (ro_assign rfl) rfl ?_
              refine ops_nil ?_
              refine Then_normal ?_
              refine back (m - 1) (by omega) (kept ⟨i + 1, hs.set (0 * 16 + f) ⟨true, 1, true, 0, np8, nc8, []⟩, bl.set f true, ⟨by omega, hH3, by rw [List.length_set]; exact hbl, least_set hH.len hbl hfl hu rfl⟩, rfl, rfl⟩ ?_ ?_ ?_)
              · exact (by repeat (first | exact Has.nil _ | refine Has.cons rfl ?_))
              · exact (by repeat (first | exact Has.nil _ | refine Has.cons rfl ?_))
              · exact (SubH.cons 6 rfl (SubH.cons 3 rfl (SubH.cons 3 rfl (SubH.cons 3 rfl (SubH.cons 3 rfl (SubH.nil _))))))
          · replace hg55 := of_decide_eq_false hg55
            refine ops_skip' rfl rfl ?_
            refine ops_skip' rfl rfl ?_
            refine ops_skip' rfl rfl ?_
            refine ops_ro' rfl (ro_pick rfl rfl) rfl ?_
            refine ops_nil ?_
            refine Then_normal ?_
            refine wp_condF rfl ?_
            refine wp_exit' ?_
            refine Then_exit ?_
            refine Then_exit ?_
            refine InBlock_here ?_
            refine Then_normal ?_
            refine wp_seq' ?_
            refine wp_region' ?_
            refine ops_ro' rfl (ro_move rfl) rfl ?_
            refine ops_ro' rfl (ro_build rfl (bld_struct (cs := (qAt 11 [100] 0).cs) st35 rfl)) rfl ?_
            refine ops_eff' rfl (eff_callM (Pre := [_, _, _]) Tryz.call12 rfl rfl (by repeat (first | exact Split.nil _ | apply Split.cons 0 rfl | apply Split.cons 1 rfl | apply Split.cons 2 rfl | apply Split.cons 3 rfl | apply Split.cons 4 rfl | apply Split.cons 5 rfl | apply Split.cons 6 rfl | apply Split.cons 7 rfl | apply Split.cons 8 rfl | apply Split.cons 9 rfl | apply Split.cons 10 rfl | apply Split.cons 11 rfl)) (do16K hG1.wf htb1 hH ((0 : Nat) : Int) (qAt 11 [100] 0) (qAt_ok (by decide) (by decide)) (by first | exact Ml.pick (H := _) 0 rfl hP | exact Ml.pick (H := _) 1 rfl hP | exact Ml.pick (H := _) 2 rfl hP | exact Ml.pick (H := _) 3 rfl hP | exact Ml.pick (H := _) 4 rfl hP | exact Ml.pick (H := _) 5 rfl hP | exact Ml.pick (H := _) 6 rfl hP | exact Ml.pick (H := _) 7 rfl hP | exact Ml.pick (H := _) 8 rfl hP) (by omega) (show Vw _ _ 0 (cel []) from Vw.nil _))) rfl ?_
            rintro _ H' ⟨_, ⟨t9, hs9, k9, dp9, dc9, np9, nc9, rfl, hD9, hW9, htb9, hnx9, hH9, rfl⟩, hH⟩
            simp only [List.cons_append, List.nil_append, List.eraseIdx_cons_zero, List.eraseIdx_cons_succ, List.set_cons_zero, List.set_cons_succ] at hH
            subst hH
            obtain ⟨ht, ho⟩ := run_opendir (s := 0) hG1 (by decide) rfl rfl hD9
            obtain rfl : t1 = t9 := ht.symm
            first | (have hfree : freeH hs 0 = some f := free_hit (fun j hj => by rw [hu j (by omega)]; exact hall j hj) hfl (by rw [hu f hfl, List.getD_eq_getElem?_getD, List.getElem?_eq_getElem hfb]; exact hc59)) | (have hfree : freeH hs 0 = none := free_miss (fun j hj => by rw [hu j hj]; exact hall j (by omega)))
            rw [hfree] at ho
            dsimp only at ho
            first | (obtain ⟨hh, rfl⟩ := ho; obtain rfl : hs = hs9 := hh.symm) | (obtain ⟨np8, nc8, hh, rfl⟩ := ho; subst hh)
            have hH3 := hH9
            refine ops_eff' rfl (eff_alloc z32) rfl ?_
            rintro _ _ ⟨b9, rfl, rfl⟩
            refine ops_eff0 rfl (eff_storeA 0 ag32 rfl rfl rfl rfl rfl (Nat.le_of_ble_eq_true rfl) (warm_zero _)) rfl ?_
            rintro _ _ rfl
            simp only [List.set_cons_zero, List.set_cons_succ]
            refine ops_nil ?_
            refine Then_normal ?_
            refine wp_seq' ?_
            refine wp_seq' ?_
            refine wp_region' ?_
            refine ops_ro' rfl (ro_fieldAddr fa32_0 rfl) rfl ?_
            refine ops_ro' rfl (ro_load sc3 rfl (Rd.pick 0 rfl (Rd.own rfl))) rfl ?_
            refine ops_ro' rfl (ro_eql rfl rfl rfl) rfl ?_
            refine ops_ro' rfl (ro_move rfl) rfl ?_
            refine ops_ro' rfl (ro_lss rfl rfl (decide_eq_false (by omega))) rfl ?_
            refine ops_ro' rfl (ro_neq_bool Tryz.underlying4 rfl rfl (c := false) (by first | rfl | decide | simp)) rfl ?_
            refine ops_nil ?_
            refine Then_normal ?_
            refine wp_condF rfl ?_
            refine wp_skip' ?_
            refine Then_normal ?_
            refine wp_seq' ?_
            refine wp_region' ?_
            refine ops_ro' rfl (ro_move rfl) rfl ?_
            refine ops_ro' rfl (ro_lss rfl rfl (decide_eq_false (by omega))) rfl ?_
            refine ops_nil ?_
            refine Then_normal ?_
            refine wp_condF rfl ?_
            refine wp_seq' ?_
            refine wp_region' ?_
            refine ops_ro' rfl (ro_fieldAddr fa32_0 rfl) rfl ?_
            refine ops_ro' rfl (ro_load sc3 rfl (Rd.pick 0 rfl (Rd.own rfl))) rfl ?_
            refine ops_ro' rfl (ro_neq rfl rfl rfl) rfl ?_
            refine ops_ro' rfl (ro_move (v := .bool false) rfl) rfl ?_
            refine ops_ro' rfl (ro_fieldAddr fa32_1 rfl) rfl ?_
            refine ops_ro' rfl (ro_load sc3 rfl (Rd.pick 0 rfl (Rd.own rfl))) rfl ?_
            refine ops_ro' rfl (ro_neq rfl rfl rfl) rfl ?_
            refine ops_ro' rfl (ro_pick rfl rfl) rfl ?_
            refine ops_nil ?_
            refine Then_normal ?_
            refine wp_condF rfl ?_
            refine wp_skip' ?_
            refine InBlock_normal ?_
            refine Then_normal ?_
            refine wp_region' ?_
            refine ops_ro' rfl (ro_move rfl) rfl ?_
            refine ops_ro' rfl (ro_add rfl rfl (wrap_inc (by omega))) rfl ?_
            refine ops_ro' rfl (ro_assign rfl) rfl ?_
            refine ops_nil ?_
            refine Then_normal ?_
            refine back (m - 1) (by omega) (kept ⟨i + 1, hs, bl, ⟨by omega, hH, hbl, hu⟩, rfl, rfl⟩ ?_ ?_ ?_)
            · exact (by repeat (first | exact Has.nil _ | refine Has.cons rfl ?_))
            · exact (by repeat (first | exact Has.nil _ | refine Has.cons rfl ?_))
            · exact (SubH.cons 6 rfl (SubH.cons 3 rfl (SubH.cons 3 rfl (SubH.cons 3 rfl (SubH.cons 3 rfl (SubH.nil _))))))
      · replace hc23 := of_decide_eq_false hc23
        refine wp_exit' ?_
        refine Then_exit ?_
        refine Then_exit ?_
        refine InBlock_here ?_
        refine Then_normal ?_
        refine wp_seq' ?_
        refine wp_region' ?_
        refine ops_eff' rfl (eff_call Tryz.call15 rfl rfl (by repeat (first | exact Split.nil _ | apply Split.cons 0 rfl | apply Split.cons 1 rfl | apply Split.cons 2 rfl | apply Split.cons 3 rfl | apply Split.cons 4 rfl | apply Split.cons 5 rfl | apply Split.cons 6 rfl | apply Split.cons 7 rfl | apply Split.cons 8 rfl | apply Split.cons 9 rfl | apply Split.cons 10 rfl | apply Split.cons 11 rfl)) (known16_spec V hP)) rfl ?_
        rintro _ H' ⟨_, ⟨rfl, rfl⟩, hH⟩
        simp only [List.cons_append, List.nil_append, List.eraseIdx_cons_zero, List.eraseIdx_cons_succ, List.set_cons_zero, List.set_cons_succ] at hH
        subst hH
        refine ops_ro' rfl (ro_assign rfl) rfl ?_
        refine ops_nil ?_
        refine Then_normal ?_
        refine wp_ret' ?_
        refine' doneS_ret (res1 rfl rfl) ?_ ?_
        rotate_left 1
        exact ⟨rfl, rfl⟩
        exact (SubH.cons 0 rfl (SubH.nil _))
    · replace hg20 := of_decide_eq_false hg20
      refine ops_skip' rfl rfl ?_
      refine ops_skip' rfl rfl ?_
      refine ops_ro' rfl (ro_pick rfl rfl) rfl ?_
      refine ops_nil ?_
      refine Then_normal ?_
      refine wp_condF rfl ?_
      refine wp_exit' ?_
      refine Then_exit ?_
      refine Then_exit ?_
      refine InBlock_here ?_
      refine Then_normal ?_
      refine wp_seq' ?_
      refine wp_region' ?_
      refine ops_eff' rfl (eff_call Tryz.call15 rfl rfl (by repeat (first | exact Split.nil _ | apply Split.cons 0 rfl | apply Split.cons 1 rfl | apply Split.cons 2 rfl | apply Split.cons 3 rfl | apply Split.cons 4 rfl | apply Split.cons 5 rfl | apply Split.cons 6 rfl | apply Split.cons 7 rfl | apply Split.cons 8 rfl | apply Split.cons 9 rfl | apply Split.cons 10 rfl | apply Split.cons 11 rfl)) (known16_spec V hP)) rfl ?_
      rintro _ H' ⟨_, ⟨rfl, rfl⟩, hH⟩
      simp only [List.cons_append, List.nil_append, List.eraseIdx_cons_zero, List.eraseIdx_cons_succ, List.set_cons_zero, List.set_cons_succ] at hH
      subst hH
      refine ops_ro' rfl (ro_assign rfl) rfl ?_
      refine ops_nil ?_
      refine Then_normal ?_
      refine wp_ret' ?_
      refine' doneS_ret (res1 rfl rfl) ?_ ?_
      rotate_left 1
      exact ⟨rfl, rfl⟩
      exact (SubH.cons 0 rfl (SubH.nil _))

end Go.Proofs.YtlefpllcgcicpaaGreatDoor
