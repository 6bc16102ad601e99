/-
  The walk of SftpOne.
-/
import Derived.Test.YtigaolglnnjnmaaSfC
import Derived.Test.YtigaolglnnjnmaaSfD
import Derived.Test.YtigaolglnnjnmaaTxt
namespace Go.Proofs.Ytigaolglnnjnmaa
open Go.Sx
set_option linter.unusedVariables false
set_option linter.unusedSimpArgs false
set_option maxRecDepth 100000
set_option maxHeartbeats 4000000

theorem shl24 (v : UInt8) : IntKind.u32.wrap ((v.toNat : Int) * 2 ^ (min (24 : Int).toNat 32)) = ((v.toNat * 16777216 : Nat) : Int) := by
  have h := UInt8.toNat_lt v
  rw [wrap_u32_mod]
  have : (2 : Int) ^ (min (24 : Int).toNat 32) = 16777216 := by decide
  rw [this]; omega
theorem shl16 (v : UInt8) : IntKind.u32.wrap ((v.toNat : Int) * 2 ^ (min (16 : Int).toNat 32)) = ((v.toNat * 65536 : Nat) : Int) := by
  have h := UInt8.toNat_lt v
  rw [wrap_u32_mod]
  have : (2 : Int) ^ (min (16 : Int).toNat 32) = 65536 := by decide
  rw [this]; omega
theorem shl08 (v : UInt8) : IntKind.u32.wrap ((v.toNat : Int) * 2 ^ (min (8 : Int).toNat 32)) = ((v.toNat * 256 : Nat) : Int) := by
  have h := UInt8.toNat_lt v
  rw [wrap_u32_mod]
  have : (2 : Int) ^ (min (8 : Int).toNat 32) = 256 := by decide
  rw [this]; omega
theorem orw {a k x y : Nat} (hx : x = a * 2 ^ k) (hb : y < 2 ^ k) (h1 : x < 4294967296) (h2 : y < 4294967296) : bits .or .u32 (x : Int) (y : Int) = ((x + y : Nat) : Int) := by
  rw [or32 h1 h2]
  have h3 := Nat.shiftLeft_add_eq_or_of_lt (i := k) (b := y) hb a
  rw [Nat.shiftLeft_eq, ← hx] at h3
  rw [h3]
theorem cel_at {l : List UInt8} {i : Nat} {x : UInt8} (h : i < l.length) (hx : l[i] = x) : (cel l)[i]? = some (byteV x) := by rw [← hx]; exact cel_get h
theorem orw24 (x y : UInt8) : bits .or .u32 ((x.toNat * 16777216 : Nat) : Int) ((y.toNat * 65536 : Nat) : Int) = ((x.toNat * 16777216 + y.toNat * 65536 : Nat) : Int) := by
  have h1 := UInt8.toNat_lt x
  have h2 := UInt8.toNat_lt y
  exact orw (a := x.toNat) (k := 24) (by omega) (by omega) (by omega) (by omega)
theorem orw16 (x y z : UInt8) : bits .or .u32 ((x.toNat * 16777216 + y.toNat * 65536 : Nat) : Int) ((z.toNat * 256 : Nat) : Int) = ((x.toNat * 16777216 + y.toNat * 65536 + z.toNat * 256 : Nat) : Int) := by
  have h1 := UInt8.toNat_lt x
  have h2 := UInt8.toNat_lt y
  have h3 := UInt8.toNat_lt z
  exact orw (a := x.toNat * 256 + y.toNat) (k := 16) (by omega) (by omega) (by omega) (by omega)
theorem orw08 (x y z t : UInt8) : bits .or .u32 ((x.toNat * 16777216 + y.toNat * 65536 + z.toNat * 256 : Nat) : Int) ((t.toNat : Nat) : Int) = ((x.toNat * 16777216 + y.toNat * 65536 + z.toNat * 256 + t.toNat : Nat) : Int) := by
  have h1 := UInt8.toNat_lt x
  have h2 := UInt8.toNat_lt y
  have h3 := UInt8.toNat_lt z
  have h4 := UInt8.toNat_lt t
  exact orw (a := x.toNat * 65536 + y.toNat * 256 + z.toNat) (k := 8) (by omega) (by omega) (by omega) (by omega)
/-- bytes 1 to 4 -/
theorem want_eq {b : List UInt8} (h : 5 ≤ b.length) : (((R.new b).get 1).1.get 4).2 = b[1].toNat * 16777216 + b[2].toNat * 65536 + b[3].toNat * 256 + b[4].toNat := by
  obtain ⟨x0, x1, x2, x3, x4, rest, rfl⟩ : ∃ x0 x1 x2 x3 x4 rest, b = x0 :: x1 :: x2 :: x3 :: x4 :: rest := by
    match b, h with
    | x0 :: x1 :: x2 :: x3 :: x4 :: rest, _ => exact ⟨_, _, _, _, _, _, rfl⟩
  have e1 : ((R.new (x0 :: x1 :: x2 :: x3 :: x4 :: rest)).get 1).1 = ⟨x0 :: x1 :: x2 :: x3 :: x4 :: rest, 1, 0, 0⟩ := by
    unfold R.get R.take R.new
    rw [if_neg (by simp), if_neg (by simp; omega), if_neg (by simp)]
    simp
  rw [e1]
  unfold R.get R.take
  rw [if_neg (by simp), if_neg (by simp; omega), if_neg (by simp)]
  simp [val]
  omega


theorem sftpone_run (V : HProp) (p : Option Addr) (c : Nat) (b : List UInt8) (hV : Vw V (.slice p b.length c) b.length (cel b)) (hc : b.length ≤ c) : Tri Try.prog 9 [.slice p b.length c] [V] (fun v H' => v = .bool true ∧ H' = [V]) := by
  refine tri_of_wpS Try.func9 rfl Try.ntmps9 (by simp) ?_
  refine wp_seq' ?_
  refine wp_region' ?_
  refine ops_ro' rfl (ro_assign rfl) rfl ?_
  refine ops_nil ?_
  refine Then_normal ?_
  refine wp_seq' ?_
  refine wp_region' ?_
  refine ops_ro' rfl (ro_move rfl) rfl ?_
  refine ops_eff' rfl (eff_call Try.call22 rfl rfl (by repeat (first | exact Split.nil _ | apply Split.cons 0 rfl | apply Split.cons 1 rfl | apply Split.cons 2 rfl | apply Split.cons 3 rfl | apply Split.cons 4 rfl | apply Split.cons 5 rfl | apply Split.cons 6 rfl | apply Split.cons 7 rfl | apply Split.cons 8 rfl | apply Split.cons 9 rfl | apply Split.cons 10 rfl | apply Split.cons 11 rfl)) (kCut V p c b 600 hV hc)) rfl ?_
  rintro _ H' ⟨_, ⟨_, ⟨p10, c10, rfl, hv, hcz, rfl⟩, rfl⟩, hH⟩
  simp only [List.cons_append, List.nil_append, List.eraseIdx_cons_zero, List.eraseIdx_cons_succ, List.set_cons_zero, List.set_cons_succ] at hH
  subst hH
  have hzl : (b.take 600).length ≤ 600 := by rw [List.length_take]; omega
  generalize b.take 600 = z at *
  refine ops_ro' rfl (ro_assign rfl) rfl ?_
  refine ops_nil ?_
  refine Then_normal ?_
  refine wp_seq' ?_
  refine wp_region' ?_
  refine ops_ro' rfl (ro_move rfl) rfl ?_
  refine ops_eff' rfl (eff_call Try.call28 rfl rfl (by repeat (first | exact Split.nil _ | apply Split.cons 0 rfl | apply Split.cons 1 rfl | apply Split.cons 2 rfl | apply Split.cons 3 rfl | apply Split.cons 4 rfl | apply Split.cons 5 rfl | apply Split.cons 6 rfl | apply Split.cons 7 rfl | apply Split.cons 8 rfl | apply Split.cons 9 rfl | apply Split.cons 10 rfl | apply Split.cons 11 rfl)) (sfDec_spec V p10 c10 z hv (by omega))) rfl ?_
  rintro _ H' ⟨_, ⟨dp, dn, rfl, rfl⟩, hH⟩
  simp only [List.cons_append, List.nil_append, List.eraseIdx_cons_zero, List.eraseIdx_cons_succ, List.set_cons_zero, List.set_cons_succ] at hH
  subst hH
  have hok := dec_ok (b := z) (by omega)
  have hbad := dec_bad (b := z)
  generalize decQ z = t at *
  obtain ⟨id, q, e⟩ := t
  simp only at hok hbad ⊢
  refine ops_ro' rfl (ro_move rfl) rfl ?_
  refine ops_ro' rfl (ro_extract rfl rfl) rfl ?_
  refine ops_ro' rfl (ro_extract rfl rfl) rfl ?_
  refine ops_ro' rfl (ro_extract rfl rfl) rfl ?_
  refine ops_eff' rfl (eff_alloc z56) rfl ?_
  rintro _ _ ⟨b4, rfl, rfl⟩
  refine ops_ro' rfl (ro_assign rfl) rfl ?_
  refine ops_eff0 rfl (eff_storeA 0 ag56 rfl rfl rfl rfl rfl (Nat.le_of_ble_eq_true rfl) (warm_zero _)) rfl ?_
  rintro _ _ rfl
  refine ops_ro' rfl (ro_assign rfl) rfl ?_
  refine ops_nil ?_
  refine Then_normal ?_
  refine wp_seq' ?_
  refine wp_seq' ?_
  refine wp_region' ?_
  refine ops_ro' rfl (ro_move rfl) rfl ?_
  refine ops_ro' rfl (ro_eql rfl rfl rfl) rfl ?_
  refine ops_nil ?_
  refine Then_normal ?_
  refine wp_cond' rfl (fun hc18 => ?_) (fun hc18 => ?_)
  · replace hc18 := of_decide_eq_true hc18
    refine wp_seq' ?_
    obtain ⟨hE, hB, hid, hk⟩ := hok (by omega)
    refine wp_region' ?_
    refine ops_ro' rfl (ro_move rfl) rfl ?_
    refine ops_ro' rfl (ro_loadA ag56 rfl (RdN.of_pick 0 rfl rdn_all) rfl) rfl ?_
    refine ops_eff' rfl (eff_callM (Pre := []) Try.call29 rfl rfl (Split.nil _) (sfEnc_spec _ id hid q hk dp dn (by first | exact (Vw.pick 0 rfl hv) | exact (Vw.pick 1 rfl hv) | exact (Vw.pick 2 rfl hv) | exact (Vw.pick 3 rfl hv) | exact (Vw.pick 4 rfl hv) | exact (Vw.pick 5 rfl hv) | exact (Vw.pick 6 rfl hv) | exact (Vw.pick 7 rfl hv) | exact (Vw.pick 8 rfl hv) | exact Vw.pick 0 rfl Vw.row | exact Vw.pick 1 rfl Vw.row | exact Vw.pick 2 rfl Vw.row | exact Vw.pick 3 rfl Vw.row | exact Vw.pick 4 rfl Vw.row | exact Vw.pick 5 rfl Vw.row | exact Vw.pick 6 rfl Vw.row | exact Vw.pick 7 rfl Vw.row | exact Vw.pick 8 rfl Vw.row | exact Vw.nil _ | exact Vw.empty _ _))) rfl ?_
    rintro _ H' ⟨_, ⟨p22, c22, rfl, rfl⟩, hH⟩
    simp only [List.cons_append, List.nil_append, List.eraseIdx_cons_zero, List.eraseIdx_cons_succ, List.set_cons_zero, List.set_cons_succ] at hH
    subst hH
    rw [hE, hB]
    refine ops_ro' rfl (ro_move rfl) rfl ?_
    refine ops_ro' rfl (ro_extract rfl rfl) rfl ?_
    refine ops_ro' rfl (ro_extract rfl rfl) rfl ?_
    refine ops_ro' rfl (ro_assign rfl) rfl ?_
    refine ops_ro' rfl (ro_assign rfl) rfl ?_
    refine ops_nil ?_
    refine Then_normal ?_
    refine wp_seq' ?_
    refine wp_region' ?_
    refine ops_ro' rfl (ro_move rfl) rfl ?_
    refine ops_ro' rfl (ro_eql rfl rfl (decide_eq_true (by omega))) rfl ?_
    refine ops_ro' rfl (ro_move (v := .bool true) rfl) rfl ?_
    refine ops_ro' rfl (ro_move rfl) rfl ?_
    refine ops_ro' rfl (ro_toStr Try.underlying32 Try.underlying5 Try.underlying9 rfl (Vw.pick 0 rfl Vw.row) rfl) rfl ?_
    refine ops_ro' rfl (ro_move rfl) rfl ?_
    refine ops_ro' rfl (ro_toStr Try.underlying32 Try.underlying5 Try.underlying9 rfl (Vw.pick 3 rfl hv) rfl) rfl ?_
    refine ops_ro' rfl (ro_eqlS rfl rfl (decide_eq_true rfl)) rfl ?_
    refine ops_ro' rfl (ro_pick rfl rfl) rfl ?_
    refine ops_ro' rfl (ro_move (v := .bool true) rfl) rfl ?_
    refine ops_eff' rfl (eff_call Try.call30 rfl rfl (by repeat (first | exact Split.nil _ | apply Split.cons 0 rfl | apply Split.cons 1 rfl | apply Split.cons 2 rfl | apply Split.cons 3 rfl | apply Split.cons 4 rfl | apply Split.cons 5 rfl | apply Split.cons 6 rfl | apply Split.cons 7 rfl | apply Split.cons 8 rfl | apply Split.cons 9 rfl | apply Split.cons 10 rfl | apply Split.cons 11 rfl)) (known17_spec V)) rfl ?_
    rintro _ H' ⟨_, ⟨rfl, rfl⟩, hH⟩
    simp only [List.cons_append, List.nil_append, List.eraseIdx_cons_zero, List.eraseIdx_cons_succ, List.set_cons_zero, List.set_cons_succ] at hH
    subst hH
    refine ops_ro' rfl (ro_pick rfl rfl) rfl ?_
    refine ops_ro' rfl (ro_assign rfl) rfl ?_
    refine ops_nil ?_
    refine Then_normal ?_
    refine wp_ret' ?_
    refine Then_ret ?_
    refine' doneS_ret (res1 rfl rfl) ?_ ?_
    rotate_left 1
    exact ⟨rfl, rfl⟩
    exact (SubH.cons 0 rfl (SubH.nil _))
  · replace hc18 := of_decide_eq_false hc18
    refine wp_skip' ?_
    refine Then_normal ?_
    refine wp_seq' ?_
    have hne : e ≠ 0 := by omega
    obtain ⟨hq, hcase⟩ := hbad hne
    clear hok hbad
    subst hq
    refine wp_region' ?_
    refine ops_ro' rfl (ro_assign rfl) rfl ?_
    refine ops_nil ?_
    refine Then_normal ?_
    refine wp_seq' ?_
    refine wp_seq' ?_
    refine wp_region' ?_
    refine ops_ro' rfl (ro_move rfl) rfl ?_
    refine ops_ro' rfl (ro_sliceLen Try.underlying32 rfl) rfl ?_
    refine ops_ro' rfl (ro_geq rfl rfl rfl) rfl ?_
    refine ops_nil ?_
    refine Then_normal ?_
    refine wp_cond' rfl (fun hc39 => ?_) (fun hc39 => ?_)
    · replace hc39 := of_decide_eq_true hc39
      have hl5 : 5 ≤ z.length := by omega
      have hl1 : 1 < z.length := by omega
      have hl2 : 2 < z.length := by omega
      have hl3 : 3 < z.length := by omega
      have hl4 : 4 < z.length := by omega
      obtain ⟨he, hid⟩ : (e = 23 ∨ e = 12) ∧ id = z[1].toNat * 16777216 + z[2].toNat * 65536 + z[3].toNat * 256 + z[4].toNat := by
        rcases hcase with ⟨h, _⟩ | ⟨_, h1, h2⟩
        · omega
        · exact ⟨h1, h2.trans (want_eq hl5)⟩
      obtain ⟨x1, k1⟩ : ∃ x, z[1] = x := ⟨_, rfl⟩
      obtain ⟨x2, k2⟩ : ∃ x, z[2] = x := ⟨_, rfl⟩
      obtain ⟨x3, k3⟩ : ∃ x, z[3] = x := ⟨_, rfl⟩
      obtain ⟨x4, k4⟩ : ∃ x, z[4] = x := ⟨_, rfl⟩
      rw [k1, k2, k3, k4] at hid
      replace k1 := cel_at hl1 k1
      replace k2 := cel_at hl2 k2
      replace k3 := cel_at hl3 k3
      replace k4 := cel_at hl4 k4
      have g1 := UInt8.toNat_lt x1
      have g2 := UInt8.toNat_lt x2
      have g3 := UInt8.toNat_lt x3
      have g4 := UInt8.toNat_lt x4
      refine wp_know (fun w F s => vw_ptr (Vw.pick (H := [_, _, V]) 2 rfl hv) s (by omega)) ?_
      rintro ⟨bz, oz, rfl⟩
      refine wp_draw 22 (by kernel_rfl) (Split.all _) ?_
      refine any_ro' (i := 0) (by kernel_rfl) rfl rfl (ro_move rfl) rfl (fun _ _ _ h => h) ?_
      refine any_ro' (i := 1) (by kernel_rfl) rfl rfl (ro_indexSlice sl32 rfl rfl rfl (by omega)) rfl (fun _ _ _ h => h) ?_
      refine any_ro' (i := 2) (by kernel_rfl) rfl rfl (ro_load sc5 rfl (Rd.pick 2 rfl (Rd.of_n (vw_rdn hv) (j := 1) (by first | rfl | omega) k1))) rfl (fun _ _ _ h => h) ?_
      refine any_ro' (i := 3) (by kernel_rfl) rfl rfl (ro_conv Try.underlying5 Try.underlying40 rfl (wrap_u32_in (by omega) (by omega))) rfl (fun _ _ _ h => h) ?_
      refine any_ro' (i := 4) (by kernel_rfl) rfl rfl (ro_shl rfl rfl (by omega) (shl24 _)) rfl (fun _ _ _ h => h) ?_
      refine any_ro' (i := 5) (by kernel_rfl) rfl rfl (ro_move rfl) rfl (fun _ _ _ h => h) ?_
      refine any_ro' (i := 6) (by kernel_rfl) rfl rfl (ro_indexSlice sl32 rfl rfl rfl (by omega)) rfl (fun _ _ _ h => h) ?_
      refine any_ro' (i := 7) (by kernel_rfl) rfl rfl (ro_load sc5 rfl (Rd.pick 2 rfl (Rd.of_n (vw_rdn hv) (j := 2) (by first | rfl | omega) k2))) rfl (fun _ _ _ h => h) ?_
      refine any_ro' (i := 8) (by kernel_rfl) rfl rfl (ro_conv Try.underlying5 Try.underlying40 rfl (wrap_u32_in (by omega) (by omega))) rfl (fun _ _ _ h => h) ?_
      refine any_ro' (i := 9) (by kernel_rfl) rfl rfl (ro_shl rfl rfl (by omega) (shl16 _)) rfl (fun _ _ _ h => h) ?_
      refine any_ro' (i := 10) (by kernel_rfl) rfl rfl (ro_or rfl rfl (orw24 _ _)) rfl (fun _ _ _ h => h) ?_
      refine any_ro' (i := 11) (by kernel_rfl) rfl rfl (ro_move rfl) rfl (fun _ _ _ h => h) ?_
      refine any_ro' (i := 12) (by kernel_rfl) rfl rfl (ro_indexSlice sl32 rfl rfl rfl (by omega)) rfl (fun _ _ _ h => h) ?_
      refine any_ro' (i := 13) (by kernel_rfl) rfl rfl (ro_load sc5 rfl (Rd.pick 2 rfl (Rd.of_n (vw_rdn hv) (j := 3) (by first | rfl | omega) k3))) rfl (fun _ _ _ h => h) ?_
      refine any_ro' (i := 14) (by kernel_rfl) rfl rfl (ro_conv Try.underlying5 Try.underlying40 rfl (wrap_u32_in (by omega) (by omega))) rfl (fun _ _ _ h => h) ?_
      refine any_ro' (i := 15) (by kernel_rfl) rfl rfl (ro_shl rfl rfl (by omega) (shl08 _)) rfl (fun _ _ _ h => h) ?_
      refine any_ro' (i := 16) (by kernel_rfl) rfl rfl (ro_or rfl rfl (orw16 _ _ _)) rfl (fun _ _ _ h => h) ?_
      refine any_ro' (i := 17) (by kernel_rfl) rfl rfl (ro_move rfl) rfl (fun _ _ _ h => h) ?_
      refine any_ro' (i := 18) (by kernel_rfl) rfl rfl (ro_indexSlice sl32 rfl rfl rfl (by omega)) rfl (fun _ _ _ h => h) ?_
      refine any_ro' (i := 19) (by kernel_rfl) rfl rfl (ro_load sc5 rfl (Rd.pick 2 rfl (Rd.of_n (vw_rdn hv) (j := 4) (by first | rfl | omega) k4))) rfl (fun _ _ _ h => h) ?_
      refine any_ro' (i := 20) (by kernel_rfl) rfl rfl (ro_conv Try.underlying5 Try.underlying40 rfl (wrap_u32_in (by omega) (by omega))) rfl (fun _ _ _ h => h) ?_
      refine any_ro' (i := 21) (by kernel_rfl) rfl rfl (ro_or rfl rfl (orw08 _ _ _ _)) rfl (fun _ _ _ h => h) ?_
      refine any_unlock (m' := 23) (L' := []) (by kernel_rfl) unlock ?_
      simp only [List.cons_append, List.nil_append, List.append_nil]
      refine any_ro' (i := 22) (by kernel_rfl) rfl rfl (ro_assign rfl) rfl (fun _ _ _ h => h) ?_
      refine any_doneH (by kernel_rfl) ?_
      refine Then_normal ?_
      refine wp_seq' ?_
      refine wp_seq' ?_
      have hcs : (z.length < 5 ∧ e = 10 ∧ id = 0) ∨ (5 ≤ z.length ∧ (e = 23 ∨ e = 12)) := by rcases hcase with h | ⟨h1, h2, _⟩; exact .inl h; exact .inr ⟨h1, h2⟩
      refine wp_region' ?_
      refine ops_ro' rfl (ro_move rfl) rfl ?_
      refine ops_ro' rfl (ro_eql rfl rfl (decide_eq_false (by omega))) rfl ?_
      refine ops_ro' rfl (ro_move rfl) rfl ?_
      refine ops_ro' rfl (ro_sliceLen Try.underlying32 rfl) rfl ?_
      refine ops_ro' rfl (ro_lss rfl rfl (decide_eq_false (by omega))) rfl ?_
      refine ops_ro' rfl (ro_neq_bool Try.underlying4 rfl rfl (c := false) rfl) rfl ?_
      refine ops_ro' rfl (ro_move (v := .bool false) rfl) rfl ?_
      refine ops_ro' rfl (ro_move rfl) rfl ?_
      refine ops_ro' rfl (ro_neq rfl rfl (decide_eq_true (by omega))) rfl ?_
      refine ops_ro' rfl (ro_move (v := .bool true) rfl) rfl ?_
      refine ops_ro' rfl (ro_move rfl) rfl ?_
      refine ops_ro' rfl (ro_neq rfl rfl rfl) rfl ?_
      refine ops_ro' rfl (ro_pick rfl rfl) rfl ?_
      refine ops_split rfl rfl rfl (fun hg75 => ?_) (fun hg75 => ?_)
      · replace hg75 := of_decide_eq_true hg75
        refine ops_ro' rfl (ro_move rfl) rfl ?_
        refine ops_ro' rfl (ro_neq rfl rfl (decide_eq_false (by omega))) rfl ?_
        refine ops_ro' rfl (ro_pick rfl rfl) rfl ?_
        refine ops_ro' rfl (ro_pick rfl rfl) rfl ?_
        refine ops_ro' rfl (ro_move (v := .bool false) rfl) rfl ?_
        refine ops_ro' rfl (ro_move rfl) rfl ?_
        refine ops_ro' rfl (ro_move rfl) rfl ?_
        refine ops_ro' rfl (ro_neq rfl rfl (decide_eq_false (by omega))) rfl ?_
        refine ops_ro' rfl (ro_pick rfl rfl) rfl ?_
        refine ops_ro' rfl (ro_move (v := .bool false) rfl) rfl ?_
        refine ops_ro' rfl (ro_loadA ag56 rfl (RdN.of_pick 0 rfl rdn_all) rfl) rfl ?_
        refine ops_ro' rfl (ro_build rfl (bld_struct (cs := Rc.zero.cs none 0) st56 rfl)) rfl ?_
        refine ops_eff' rfl (eff_callM (Pre := []) Try.call31 rfl rfl (Split.nil _) (kReq_spec _ Rc.zero Rc.zero dp none dn 0 (by first | exact (Vw.pick 0 rfl hv) | exact (Vw.pick 1 rfl hv) | exact (Vw.pick 2 rfl hv) | exact (Vw.pick 3 rfl hv) | exact (Vw.pick 4 rfl hv) | exact (Vw.pick 5 rfl hv) | exact (Vw.pick 6 rfl hv) | exact (Vw.pick 7 rfl hv) | exact (Vw.pick 8 rfl hv) | exact Vw.pick 0 rfl Vw.row | exact Vw.pick 1 rfl Vw.row | exact Vw.pick 2 rfl Vw.row | exact Vw.pick 3 rfl Vw.row | exact Vw.pick 4 rfl Vw.row | exact Vw.pick 5 rfl Vw.row | exact Vw.pick 6 rfl Vw.row | exact Vw.pick 7 rfl Vw.row | exact Vw.pick 8 rfl Vw.row | exact Vw.nil _ | exact Vw.empty _ _) (Vw.nil _))) rfl ?_
        rintro _ H' ⟨_, ⟨rfl, rfl⟩, hH⟩
        simp only [List.cons_append, List.nil_append, List.eraseIdx_cons_zero, List.eraseIdx_cons_succ, List.set_cons_zero, List.set_cons_succ] at hH
        subst hH
        rw [show decide (Rc.zero = Rc.zero) = true from decide_eq_true rfl]
        refine ops_ro' rfl (ro_not rfl rfl) rfl ?_
        refine ops_ro' rfl (ro_pick rfl rfl) rfl ?_
        refine ops_nil ?_
        refine Then_normal ?_
        refine wp_condF rfl ?_
        refine wp_skip' ?_
        refine Then_normal ?_
        refine wp_seq' ?_
        refine wp_region' ?_
        refine ops_eff' rfl (eff_call Try.call30 rfl rfl (by repeat (first | exact Split.nil _ | apply Split.cons 0 rfl | apply Split.cons 1 rfl | apply Split.cons 2 rfl | apply Split.cons 3 rfl | apply Split.cons 4 rfl | apply Split.cons 5 rfl | apply Split.cons 6 rfl | apply Split.cons 7 rfl | apply Split.cons 8 rfl | apply Split.cons 9 rfl | apply Split.cons 10 rfl | apply Split.cons 11 rfl)) (known17_spec V)) rfl ?_
        rintro _ H' ⟨_, ⟨rfl, rfl⟩, hH⟩
        simp only [List.cons_append, List.nil_append, List.eraseIdx_cons_zero, List.eraseIdx_cons_succ, List.set_cons_zero, List.set_cons_succ] at hH
        subst hH
        refine ops_ro' rfl (ro_assign rfl) rfl ?_
        refine ops_nil ?_
        refine Then_normal ?_
        refine wp_ret' ?_
        refine' doneS_ret (res1 rfl rfl) ?_ ?_
        rotate_left 1
        exact ⟨rfl, rfl⟩
        exact (SubH.cons 0 rfl (SubH.nil _))
      · replace hg75 := of_decide_eq_false hg75
        refine ops_skip' rfl rfl ?_
        refine ops_skip' rfl rfl ?_
        refine ops_ro' rfl (ro_pick rfl rfl) rfl ?_
        refine ops_ro' rfl (ro_pick rfl rfl) rfl ?_
        refine ops_ro' rfl (ro_move (v := .bool false) rfl) rfl ?_
        refine ops_ro' rfl (ro_move rfl) rfl ?_
        refine ops_ro' rfl (ro_move rfl) rfl ?_
        refine ops_ro' rfl (ro_neq rfl rfl (decide_eq_false (by omega))) rfl ?_
        refine ops_ro' rfl (ro_pick rfl rfl) rfl ?_
        refine ops_ro' rfl (ro_move (v := .bool false) rfl) rfl ?_
        refine ops_ro' rfl (ro_loadA ag56 rfl (RdN.of_pick 0 rfl rdn_all) rfl) rfl ?_
        refine ops_ro' rfl (ro_build rfl (bld_struct (cs := Rc.zero.cs none 0) st56 rfl)) rfl ?_
        refine ops_eff' rfl (eff_callM (Pre := []) Try.call31 rfl rfl (Split.nil _) (kReq_spec _ Rc.zero Rc.zero dp none dn 0 (by first | exact (Vw.pick 0 rfl hv) | exact (Vw.pick 1 rfl hv) | exact (Vw.pick 2 rfl hv) | exact (Vw.pick 3 rfl hv) | exact (Vw.pick 4 rfl hv) | exact (Vw.pick 5 rfl hv) | exact (Vw.pick 6 rfl hv) | exact (Vw.pick 7 rfl hv) | exact (Vw.pick 8 rfl hv) | exact Vw.pick 0 rfl Vw.row | exact Vw.pick 1 rfl Vw.row | exact Vw.pick 2 rfl Vw.row | exact Vw.pick 3 rfl Vw.row | exact Vw.pick 4 rfl Vw.row | exact Vw.pick 5 rfl Vw.row | exact Vw.pick 6 rfl Vw.row | exact Vw.pick 7 rfl Vw.row | exact Vw.pick 8 rfl Vw.row | exact Vw.nil _ | exact Vw.empty _ _) (Vw.nil _))) rfl ?_
        rintro _ H' ⟨_, ⟨rfl, rfl⟩, hH⟩
        simp only [List.cons_append, List.nil_append, List.eraseIdx_cons_zero, List.eraseIdx_cons_succ, List.set_cons_zero, List.set_cons_succ] at hH
        subst hH
        rw [show decide (Rc.zero = Rc.zero) = true from decide_eq_true rfl]
        refine ops_ro' rfl (ro_not rfl rfl) rfl ?_
        refine ops_ro' rfl (ro_pick rfl rfl) rfl ?_
        refine ops_nil ?_
        refine Then_normal ?_
        refine wp_condF rfl ?_
        refine wp_skip' ?_
        refine Then_normal ?_
        refine wp_seq' ?_
        refine wp_region' ?_
        refine ops_eff' rfl (eff_call Try.call30 rfl rfl (by repeat (first | exact Split.nil _ | apply Split.cons 0 rfl | apply Split.cons 1 rfl | apply Split.cons 2 rfl | apply Split.cons 3 rfl | apply Split.cons 4 rfl | apply Split.cons 5 rfl | apply Split.cons 6 rfl | apply Split.cons 7 rfl | apply Split.cons 8 rfl | apply Split.cons 9 rfl | apply Split.cons 10 rfl | apply Split.cons 11 rfl)) (known17_spec V)) rfl ?_
        rintro _ H' ⟨_, ⟨rfl, rfl⟩, hH⟩
        simp only [List.cons_append, List.nil_append, List.eraseIdx_cons_zero, List.eraseIdx_cons_succ, List.set_cons_zero, List.set_cons_succ] at hH
        subst hH
        refine ops_ro' rfl (ro_assign rfl) rfl ?_
        refine ops_nil ?_
        refine Then_normal ?_
        refine wp_ret' ?_
        refine' doneS_ret (res1 rfl rfl) ?_ ?_
        rotate_left 1
        exact ⟨rfl, rfl⟩
        exact (SubH.cons 0 rfl (SubH.nil _))
    · replace hc39 := of_decide_eq_false hc39
      refine wp_skip' ?_
      refine Then_normal ?_
      refine wp_seq' ?_
      refine wp_seq' ?_
      have hcs : (z.length < 5 ∧ e = 10 ∧ id = 0) ∨ (5 ≤ z.length ∧ (e = 23 ∨ e = 12)) := by rcases hcase with h | ⟨h1, h2, _⟩; exact .inl h; exact .inr ⟨h1, h2⟩
      refine wp_region' ?_
      refine ops_ro' rfl (ro_move rfl) rfl ?_
      refine ops_ro' rfl (ro_eql rfl rfl (decide_eq_true (by omega))) rfl ?_
      refine ops_ro' rfl (ro_move rfl) rfl ?_
      refine ops_ro' rfl (ro_sliceLen Try.underlying32 rfl) rfl ?_
      refine ops_ro' rfl (ro_lss rfl rfl (decide_eq_true (by omega))) rfl ?_
      refine ops_ro' rfl (ro_neq_bool Try.underlying4 rfl rfl (c := false) rfl) rfl ?_
      refine ops_ro' rfl (ro_move (v := .bool false) rfl) rfl ?_
      refine ops_ro' rfl (ro_move rfl) rfl ?_
      refine ops_ro' rfl (ro_neq rfl rfl (decide_eq_false (by omega))) rfl ?_
      refine ops_ro' rfl (ro_move (v := .bool false) rfl) rfl ?_
      refine ops_skip' rfl rfl ?_
      refine ops_skip' rfl rfl ?_
      refine ops_ro' rfl (ro_pick rfl rfl) rfl ?_
      refine ops_ro' rfl (ro_move (v := .bool false) rfl) rfl ?_
      refine ops_skip' rfl rfl ?_
      refine ops_skip' rfl rfl ?_
      refine ops_ro' rfl (ro_pick rfl rfl) rfl ?_
      refine ops_ro' rfl (ro_pick rfl rfl) rfl ?_
      refine ops_ro' rfl (ro_move (v := .bool false) rfl) rfl ?_
      refine ops_ro' rfl (ro_move rfl) rfl ?_
      refine ops_ro' rfl (ro_move rfl) rfl ?_
      refine ops_ro' rfl (ro_neq rfl rfl (decide_eq_false (by omega))) rfl ?_
      refine ops_ro' rfl (ro_pick rfl rfl) rfl ?_
      refine ops_ro' rfl (ro_move (v := .bool false) rfl) rfl ?_
      refine ops_ro' rfl (ro_loadA ag56 rfl (RdN.of_pick 0 rfl rdn_all) rfl) rfl ?_
      refine ops_ro' rfl (ro_build rfl (bld_struct (cs := Rc.zero.cs none 0) st56 rfl)) rfl ?_
      refine ops_eff' rfl (eff_callM (Pre := []) Try.call31 rfl rfl (Split.nil _) (kReq_spec _ Rc.zero Rc.zero dp none dn 0 (by first | exact (Vw.pick 0 rfl hv) | exact (Vw.pick 1 rfl hv) | exact (Vw.pick 2 rfl hv) | exact (Vw.pick 3 rfl hv) | exact (Vw.pick 4 rfl hv) | exact (Vw.pick 5 rfl hv) | exact (Vw.pick 6 rfl hv) | exact (Vw.pick 7 rfl hv) | exact (Vw.pick 8 rfl hv) | exact Vw.pick 0 rfl Vw.row | exact Vw.pick 1 rfl Vw.row | exact Vw.pick 2 rfl Vw.row | exact Vw.pick 3 rfl Vw.row | exact Vw.pick 4 rfl Vw.row | exact Vw.pick 5 rfl Vw.row | exact Vw.pick 6 rfl Vw.row | exact Vw.pick 7 rfl Vw.row | exact Vw.pick 8 rfl Vw.row | exact Vw.nil _ | exact Vw.empty _ _) (Vw.nil _))) rfl ?_
      rintro _ H' ⟨_, ⟨rfl, rfl⟩, hH⟩
      simp only [List.cons_append, List.nil_append, List.eraseIdx_cons_zero, List.eraseIdx_cons_succ, List.set_cons_zero, List.set_cons_succ] at hH
      subst hH
      rw [show decide (Rc.zero = Rc.zero) = true from decide_eq_true rfl]
      refine ops_ro' rfl (ro_not rfl rfl) rfl ?_
      refine ops_ro' rfl (ro_pick rfl rfl) rfl ?_
      refine ops_nil ?_
      refine Then_normal ?_
      refine wp_condF rfl ?_
      refine wp_skip' ?_
      refine Then_normal ?_
      refine wp_seq' ?_
      refine wp_region' ?_
      refine ops_eff' rfl (eff_call Try.call30 rfl rfl (by repeat (first | exact Split.nil _ | apply Split.cons 0 rfl | apply Split.cons 1 rfl | apply Split.cons 2 rfl | apply Split.cons 3 rfl | apply Split.cons 4 rfl | apply Split.cons 5 rfl | apply Split.cons 6 rfl | apply Split.cons 7 rfl | apply Split.cons 8 rfl | apply Split.cons 9 rfl | apply Split.cons 10 rfl | apply Split.cons 11 rfl)) (known17_spec V)) rfl ?_
      rintro _ H' ⟨_, ⟨rfl, rfl⟩, hH⟩
      simp only [List.cons_append, List.nil_append, List.eraseIdx_cons_zero, List.eraseIdx_cons_succ, List.set_cons_zero, List.set_cons_succ] at hH
      subst hH
      refine ops_ro' rfl (ro_assign rfl) rfl ?_
      refine ops_nil ?_
      refine Then_normal ?_
      refine wp_ret' ?_
      refine' doneS_ret (res1 rfl rfl) ?_ ?_
      rotate_left 1
      exact ⟨rfl, rfl⟩
      exact (SubH.cons 0 rfl (SubH.nil _))

end Go.Proofs.Ytigaolglnnjnmaa
