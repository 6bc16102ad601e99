/-
  Package auth: tries, logins.
-/
import Derived.Test.YtigaolglnnjnmaaAuthC
import Derived.Test.YtigaolglnnjnmaaRef1W
namespace Go.Proofs.Ytigaolglnnjnmaa
open Go.Sx
set_option linter.unusedVariables false
set_option linter.unusedSimpArgs false
set_option maxRecDepth 100000
set_option maxHeartbeats 4000000

theorem tri_K {f : FuncId} {args : List Value} {V : HProp} {pw : Nat} {p : Option Addr} {c : Nat} {a a2 : List UInt8} (h : Tri Try.prog f args (wr pw p c a ++ [V]) (fun v H' => ∃ p' c', v = .tuple #[] ∧ H' = wr pw p' c' a2 ++ [V])) :
    Tri Try.prog f args (wr pw p c a ++ [V]) (fun v H' => ∃ K, (∃ p' c', v = .tuple #[] ∧ K = wr pw p' c' a2) ∧ H' = K ++ [V]) := tri_post h fun v H' ⟨p', c', h1, h2⟩ => ⟨_, ⟨p', c', h1, rfl⟩, h2⟩
def tryB : List UInt8 := [51, 0, 0, 0, 8, 112, 97, 115, 115, 119, 111, 114, 100, 0]
def gTry (g : Gs) : Gs × Option (List UInt8) := if 5 ≤ g.tries + 1 then gEnd { g with tries := g.tries + 1 } 14 else ({ g with tries := g.tries + 1 }, some tryB)
theorem gTry_end {g : Gs} (h : 5 ≤ g.tries + 1) : gTry g = gEnd { g with tries := g.tries + 1 } 14 := by unfold gTry; rw [if_pos h]
theorem gTry_go {g : Gs} (h : ¬ 5 ≤ g.tries + 1) : gTry g = ({ g with tries := g.tries + 1 }, some tryB) := by unfold gTry; rw [if_neg h]
theorem auTry_spec (bg : Nat) (p : Option Addr) (k c : Nat) (g : Gs) (ht : g.tries ≤ 100000) : Tri Try.prog 91 [.pointer (some ⟨bg, 0, none⟩)] [gt bg p k c g] (fun v H' => H' = [ansP v (gTry g).2, gt bg p k c (gTry g).1]) := by
  refine tri_of_wpS Try.func91 rfl Try.ntmps91 (by simp) ?_
  refine wp_seq' ?_
  refine wp_region' ?_
  refine ops_ro' rfl (ro_assign rfl) rfl ?_
  refine ops_nil ?_
  refine Then_normal ?_
  refine wp_seq' ?_
  refine wp_region' ?_
  refine ops_ro' rfl (ro_move rfl) rfl ?_
  refine ops_ro' rfl (ro_nilCheck rfl) rfl ?_
  refine ops_ro' rfl (ro_fieldAddr fa99_2 rfl) rfl ?_
  refine ops_ro' rfl (ro_load sc3 rfl (Rd.pick 0 rfl (Rd.own rfl))) rfl ?_
  refine ops_ro' rfl (ro_add rfl rfl (wrap_inc (by omega))) rfl ?_
  refine ops_ro' rfl (ro_nilCheck rfl) rfl ?_
  refine ops_ro' rfl (ro_fieldAddr fa99_2 rfl) rfl ?_
  refine ops_eff0 rfl (eff_store 0 sc3 rfl rfl rfl rfl (Nat.le_of_ble_eq_true rfl) (warm_zero _)) rfl ?_
  rintro _ _ rfl
  refine ops_nil ?_
  refine Then_normal ?_
  refine wp_seq' ?_
  refine wp_seq' ?_
  refine wp_region' ?_
  refine ops_ro' rfl (ro_move rfl) rfl ?_
  refine ops_ro' rfl (ro_nilCheck rfl) rfl ?_
  refine ops_ro' rfl (ro_fieldAddr fa99_2 rfl) rfl ?_
  refine ops_ro' rfl (ro_load sc3 rfl (Rd.pick 0 rfl (Rd.own rfl))) rfl ?_
  refine ops_ro' rfl (ro_geq rfl rfl rfl) rfl ?_
  refine ops_nil ?_
  refine Then_normal ?_
  refine wp_cond' rfl (fun hc15 => ?_) (fun hc15 => ?_)
  · replace hc15 := of_decide_eq_true hc15
    refine wp_seq' ?_
    refine wp_region' ?_
    refine ops_ro' rfl (ro_move rfl) rfl ?_
    refine ops_eff' rfl (eff_call Try.call58 rfl rfl (by repeat (first | exact Split.nil _ | apply Split.cons 0 rfl | apply Split.cons 1 rfl | apply Split.cons 2 rfl | apply Split.cons 3 rfl | apply Split.cons 4 rfl | apply Split.cons 5 rfl | apply Split.cons 6 rfl | apply Split.cons 7 rfl | apply Split.cons 8 rfl | apply Split.cons 9 rfl | apply Split.cons 10 rfl | apply Split.cons 11 rfl)) (auEnd_spec bg p k c { g with tries := g.tries + 1 } 14 (by decide))) rfl ?_
    rintro _ H' ⟨_, rfl, hH⟩
    simp only [List.cons_append, List.nil_append, List.eraseIdx_cons_zero, List.eraseIdx_cons_succ, List.set_cons_zero, List.set_cons_succ] at hH
    subst hH
    refine ops_ro' rfl (ro_assign rfl) rfl ?_
    refine ops_nil ?_
    refine Then_normal ?_
    refine wp_ret' ?_
    refine Then_ret ?_
    refine' doneS_ret (res1 rfl rfl) ?_ ?_
    rotate_left 1
    rw [gTry_end (by omega)]
    exact SubH.refl _
  · replace hc15 := of_decide_eq_false hc15
    refine wp_skip' ?_
    refine Then_normal ?_
    refine wp_seq' ?_
    refine wp_region' ?_
    refine ops_eff' rfl (eff_call Try.call48 rfl rfl (by repeat (first | exact Split.nil _ | apply Split.cons 0 rfl | apply Split.cons 1 rfl | apply Split.cons 2 rfl | apply Split.cons 3 rfl | apply Split.cons 4 rfl | apply Split.cons 5 rfl | apply Split.cons 6 rfl | apply Split.cons 7 rfl | apply Split.cons 8 rfl | apply Split.cons 9 rfl | apply Split.cons 10 rfl | apply Split.cons 11 rfl)) (newWriter_spec)) rfl ?_
    rintro _ H' ⟨_, ⟨pw, rfl, rfl⟩, hH⟩
    simp only [List.cons_append, List.nil_append, List.eraseIdx_cons_zero, List.eraseIdx_cons_succ, List.set_cons_zero, List.set_cons_succ] at hH
    subst hH
    refine ops_ro' rfl (ro_assign rfl) rfl ?_
    refine ops_nil ?_
    refine Then_normal ?_
    refine wp_seq' ?_
    refine wp_region' ?_
    refine ops_ro' rfl (ro_move rfl) rfl ?_
    refine ops_eff' rfl (eff_call Try.call49 rfl rfl (by repeat (first | exact Split.nil _ | apply Split.cons 0 rfl | apply Split.cons 1 rfl | apply Split.cons 2 rfl | apply Split.cons 3 rfl | apply Split.cons 4 rfl | apply Split.cons 5 rfl | apply Split.cons 6 rfl | apply Split.cons 7 rfl | apply Split.cons 8 rfl | apply Split.cons 9 rfl | apply Split.cons 10 rfl | apply Split.cons 11 rfl)) (byte_spec pw none 0 [] 51 (by decide))) rfl ?_
    rintro _ H' ⟨_, ⟨p20, c20, rfl, rfl⟩, hH⟩
    simp only [List.cons_append, List.nil_append, List.eraseIdx_cons_zero, List.eraseIdx_cons_succ, List.set_cons_zero, List.set_cons_succ] at hH
    subst hH
    refine ops_nil ?_
    refine Then_normal ?_
    refine wp_seq' ?_
    refine wp_region' ?_
    refine ops_ro' rfl (ro_move rfl) rfl ?_
    refine ops_eff' rfl (eff_lit sl22 rfl (sbld (cs := txs [tPass]) [(.string ByteArray.empty)] sl22 (by decide) (by kernel_rfl) rfl) rfl (by decide)) rfl ?_
    rintro _ _ ⟨b22, rfl, rfl⟩
    refine ops_eff' rfl (eff_callM (Pre := [_, _]) Try.call115 rfl rfl (by repeat (first | exact Split.nil _ | apply Split.cons 0 rfl | apply Split.cons 1 rfl | apply Split.cons 2 rfl | apply Split.cons 3 rfl | apply Split.cons 4 rfl | apply Split.cons 5 rfl | apply Split.cons 6 rfl | apply Split.cons 7 rfl | apply Split.cons 8 rfl | apply Split.cons 9 rfl | apply Split.cons 10 rfl | apply Split.cons 11 rfl)) (tri_K (names_spec _ _ _ [tPass] (by rw [← txs_map]; exact (by first | exact Vw.pick 0 rfl Vw.row | exact Vw.pick 1 rfl Vw.row | exact Vw.pick 2 rfl Vw.row | exact Vw.pick 3 rfl Vw.row | exact Vw.pick 4 rfl Vw.row | exact Vw.pick 5 rfl Vw.row | exact Vw.pick 6 rfl Vw.row | exact Vw.pick 7 rfl Vw.row | exact Vw.pick 8 rfl Vw.row | exact Vw.pick 9 rfl Vw.row | exact Vw.nil _ | exact Vw.empty _ _)) (by decide) (by decide) (by decide) pw p20 c20 [b8 51] (by decide)))) rfl ?_
    rintro _ H' ⟨_, ⟨p23, c23, rfl, rfl⟩, hH⟩
    simp only [List.cons_append, List.nil_append, List.eraseIdx_cons_zero, List.eraseIdx_cons_succ, List.set_cons_zero, List.set_cons_succ] at hH
    subst hH
    obtain ⟨a23, ha23⟩ : ∃ z, z = b8 51 :: (be (joined [tPass] [44]).length 4 ++ joined [tPass] [44]) := ⟨_, rfl⟩
    rw [← ha23]
    have hl23 : a23.length ≤ 13 := by rw [ha23]; decide
    refine ops_nil ?_
    refine Then_normal ?_
    refine wp_seq' ?_
    refine wp_region' ?_
    refine ops_ro' rfl (ro_move rfl) rfl ?_
    refine ops_eff' rfl (eff_call Try.call116 rfl rfl (by repeat (first | exact Split.nil _ | apply Split.cons 0 rfl | apply Split.cons 1 rfl | apply Split.cons 2 rfl | apply Split.cons 3 rfl | apply Split.cons 4 rfl | apply Split.cons 5 rfl | apply Split.cons 6 rfl | apply Split.cons 7 rfl | apply Split.cons 8 rfl | apply Split.cons 9 rfl | apply Split.cons 10 rfl | apply Split.cons 11 rfl)) (wbool_spec pw p23 c23 a23 false (by omega))) rfl ?_
    rintro _ H' ⟨_, ⟨p25, c25, rfl, rfl⟩, hH⟩
    simp only [List.cons_append, List.nil_append, List.eraseIdx_cons_zero, List.eraseIdx_cons_succ, List.set_cons_zero, List.set_cons_succ] at hH
    subst hH
    obtain ⟨a25, ha25⟩ : ∃ z, z = a23 ++ [b8 (if false = true then 1 else 0)] := ⟨_, rfl⟩
    rw [← ha25]
    have hl25 : a25.length ≤ 14 := by rw [ha25, List.length_append]; simp; omega
    refine ops_nil ?_
    refine Then_normal ?_
    refine wp_seq' ?_
    refine wp_region' ?_
    refine ops_ro' rfl (ro_move rfl) rfl ?_
    refine ops_eff' rfl (eff_call Try.call52 rfl rfl (by repeat (first | exact Split.nil _ | apply Split.cons 0 rfl | apply Split.cons 1 rfl | apply Split.cons 2 rfl | apply Split.cons 3 rfl | apply Split.cons 4 rfl | apply Split.cons 5 rfl | apply Split.cons 6 rfl | apply Split.cons 7 rfl | apply Split.cons 8 rfl | apply Split.cons 9 rfl | apply Split.cons 10 rfl | apply Split.cons 11 rfl)) (done_spec pw p25 c25 a25 (by omega))) rfl ?_
    rintro _ H' ⟨_, ⟨p27, c27, rfl, _, rfl⟩, hH⟩
    simp only [List.cons_append, List.nil_append, List.eraseIdx_cons_zero, List.eraseIdx_cons_succ, List.set_cons_zero, List.set_cons_succ] at hH
    subst hH
    obtain rfl : a25 = tryB := by rw [ha25, ha23]; decide
    refine ops_eff' rfl (eff_lit sl36 rfl (sbld (cs := [_]) [(.slice none 0 0)] sl36 (by decide) (by kernel_rfl) rfl) rfl (by decide)) rfl ?_
    rintro _ _ ⟨b28, rfl, rfl⟩
    refine ops_ro' rfl (ro_assign rfl) rfl ?_
    refine ops_nil ?_
    refine Then_normal ?_
    refine wp_ret' ?_
    refine doneS_pre ansP_fold ?_
    refine' doneS_ret (res1 rfl rfl) ?_ ?_
    rotate_left 1
    rw [gTry_go (by omega)]
    exact (SubH.cons 0 rfl (SubH.cons 3 rfl (SubH.nil _)))
def gLog2 (g : Gs) (us : List Us) (name : List UInt8) (b : Nat) (e : Int) (pass : List UInt8) : Gs × Option (List UInt8) := if b ≠ 0 ∨ e ≠ 0 then gEnd g 2 else if (⟨name, pass⟩ : Us) ∈ us then ({ g with user := name, inn := true }, some [52]) else gTry g
def gLogE (g : Gs) (us : List Us) (w : Int) (name svc meth : List UInt8) (r3 : R) : Gs × Option (List UInt8) := if w ≠ 0 ∨ g.sv = false then gEnd g 2 else if g.inn = true then (g, none) else if svc ≠ tConn then gEnd g 7 else if meth ≠ tPass then gTry g else gLog2 g us name (r3.get 1).2 ((r3.get 1).1.text 64).1.fin.1 ((r3.get 1).1.text 64).2
def gLogin (g : Gs) (us : List Us) (r : R) : Gs × Option (List UInt8) := gLogE g us (((r.text 64).1.text 64).1.text 64).1.why (r.text 64).2 ((r.text 64).1.text 64).2 (((r.text 64).1.text 64).1.text 64).2 (((r.text 64).1.text 64).1.text 64).1


theorem auLogin_spec (bg pr : Nat) (p q : Option Addr) (c cr : Nat) (g : Gs) (ht : g.tries ≤ 100000) (us : List Us) (U : HProp) (hU : Vw U (.slice p us.length c) us.length (flat Us.cs us)) (hul : us.length ≤ 140737488355328) (r : R) (hg : r.Good) : Tri Try.prog 57 [.pointer (some ⟨bg, 0, none⟩), .pointer (some ⟨pr, 0, none⟩)] (gt bg p us.length c g :: (rd pr q cr r ++ [U])) (fun v H' => H' = [ansP v (gLogin g us r).2, gt bg p us.length c (gLogin g us r).1, U]) := by
  refine tri_of_wpS Try.func57 rfl Try.ntmps57 (by simp) ?_
  refine wp_seq' ?_
  refine wp_region' ?_
  refine ops_ro' rfl (ro_assign rfl) rfl ?_
  refine ops_nil ?_
  refine Then_normal ?_
  refine wp_seq' ?_
  refine wp_region' ?_
  refine ops_ro' rfl (ro_move rfl) rfl ?_
  refine ops_eff' rfl (eff_call Try.call62 rfl rfl (by repeat (first | exact Split.nil _ | apply Split.cons 0 rfl | apply Split.cons 1 rfl | apply Split.cons 2 rfl | apply Split.cons 3 rfl | apply Split.cons 4 rfl | apply Split.cons 5 rfl | apply Split.cons 6 rfl | apply Split.cons 7 rfl | apply Split.cons 8 rfl | apply Split.cons 9 rfl | apply Split.cons 10 rfl | apply Split.cons 11 rfl)) (rText_spec pr q cr r hg 64 (by decide))) rfl ?_
  rintro _ H' ⟨_, ⟨rfl, rfl⟩, hH⟩
  simp only [List.cons_append, List.nil_append, List.eraseIdx_cons_zero, List.eraseIdx_cons_succ, List.set_cons_zero, List.set_cons_succ] at hH
  subst hH
  have hE : gLogin g us r = gLogE g us (((r.text 64).1.text 64).1.text 64).1.why (r.text 64).2 ((r.text 64).1.text 64).2 (((r.text 64).1.text 64).1.text 64).2 (((r.text 64).1.text 64).1.text 64).1 := rfl
  have hg1 := R.good_text hg 64
  have htl1 := R.text_len r 64
  generalize r.text 64 = t1 at *
  obtain ⟨r1, nm⟩ := t1
  simp only at *
  refine ops_ro' rfl (ro_move rfl) rfl ?_
  refine ops_eff' rfl (eff_call Try.call62 rfl rfl (by repeat (first | exact Split.nil _ | apply Split.cons 0 rfl | apply Split.cons 1 rfl | apply Split.cons 2 rfl | apply Split.cons 3 rfl | apply Split.cons 4 rfl | apply Split.cons 5 rfl | apply Split.cons 6 rfl | apply Split.cons 7 rfl | apply Split.cons 8 rfl | apply Split.cons 9 rfl | apply Split.cons 10 rfl | apply Split.cons 11 rfl)) (rText_spec pr q cr r1 hg1 64 (by decide))) rfl ?_
  rintro _ H' ⟨_, ⟨rfl, rfl⟩, hH⟩
  simp only [List.cons_append, List.nil_append, List.eraseIdx_cons_zero, List.eraseIdx_cons_succ, List.set_cons_zero, List.set_cons_succ] at hH
  subst hH
  have hg2 := R.good_text hg1 64
  generalize r1.text 64 = t2 at *
  obtain ⟨r2, sv⟩ := t2
  simp only at *
  refine ops_ro' rfl (ro_move rfl) rfl ?_
  refine ops_eff' rfl (eff_call Try.call62 rfl rfl (by repeat (first | exact Split.nil _ | apply Split.cons 0 rfl | apply Split.cons 1 rfl | apply Split.cons 2 rfl | apply Split.cons 3 rfl | apply Split.cons 4 rfl | apply Split.cons 5 rfl | apply Split.cons 6 rfl | apply Split.cons 7 rfl | apply Split.cons 8 rfl | apply Split.cons 9 rfl | apply Split.cons 10 rfl | apply Split.cons 11 rfl)) (rText_spec pr q cr r2 hg2 64 (by decide))) rfl ?_
  rintro _ H' ⟨_, ⟨rfl, rfl⟩, hH⟩
  simp only [List.cons_append, List.nil_append, List.eraseIdx_cons_zero, List.eraseIdx_cons_succ, List.set_cons_zero, List.set_cons_succ] at hH
  subst hH
  have hg3 := R.good_text hg2 64
  generalize r2.text 64 = t3 at *
  obtain ⟨r3, me⟩ := t3
  simp only at *
  refine ops_ro' rfl (ro_assign rfl) rfl ?_
  refine ops_ro' rfl (ro_assign rfl) rfl ?_
  refine ops_ro' rfl (ro_assign rfl) rfl ?_
  refine ops_nil ?_
  refine Then_normal ?_
  refine wp_seq' ?_
  refine wp_block' ?_
  refine wp_seq' ?_
  refine wp_region' ?_
  refine ops_ro' rfl (ro_move rfl) rfl ?_
  refine ops_eff' rfl (eff_call Try.call90 rfl rfl (by repeat (first | exact Split.nil _ | apply Split.cons 0 rfl | apply Split.cons 1 rfl | apply Split.cons 2 rfl | apply Split.cons 3 rfl | apply Split.cons 4 rfl | apply Split.cons 5 rfl | apply Split.cons 6 rfl | apply Split.cons 7 rfl | apply Split.cons 8 rfl | apply Split.cons 9 rfl | apply Split.cons 10 rfl | apply Split.cons 11 rfl)) (rFine_spec pr q cr r3)) rfl ?_
  rintro _ H' ⟨_, ⟨rfl, rfl⟩, hH⟩
  simp only [List.cons_append, List.nil_append, List.eraseIdx_cons_zero, List.eraseIdx_cons_succ, List.set_cons_zero, List.set_cons_succ] at hH
  subst hH
  refine ops_ro' rfl (ro_not rfl rfl) rfl ?_
  refine ops_split rfl rfl rfl (fun hg20 => ?_) (fun hg20 => ?_)
  · simp only [Bool.and_eq_true, decide_eq_true_eq, Bool.not_eq_true', decide_eq_false_iff_not, bne_iff_ne, ne_eq] at hg20
    refine ops_skip' rfl rfl ?_
    refine ops_skip' rfl rfl ?_
    refine ops_skip' rfl rfl ?_
    refine ops_skip' rfl rfl ?_
    refine ops_skip' rfl rfl ?_
    refine ops_ro' rfl (ro_pick rfl rfl) rfl ?_
    refine ops_ro' rfl (ro_assign rfl) rfl ?_
    refine ops_nil ?_
    refine Then_normal ?_
    refine wp_condT rfl ?_
    refine wp_seq' ?_
    refine wp_region' ?_
    refine ops_ro' rfl (ro_move rfl) rfl ?_
    refine ops_eff' rfl (eff_call Try.call58 rfl rfl (by repeat (first | exact Split.nil _ | apply Split.cons 0 rfl | apply Split.cons 1 rfl | apply Split.cons 2 rfl | apply Split.cons 3 rfl | apply Split.cons 4 rfl | apply Split.cons 5 rfl | apply Split.cons 6 rfl | apply Split.cons 7 rfl | apply Split.cons 8 rfl | apply Split.cons 9 rfl | apply Split.cons 10 rfl | apply Split.cons 11 rfl)) (auEnd_spec bg p us.length c g 2 (by decide))) rfl ?_
    rintro _ H' ⟨_, rfl, hH⟩
    simp only [List.cons_append, List.nil_append, List.eraseIdx_cons_zero, List.eraseIdx_cons_succ, List.set_cons_zero, List.set_cons_succ] at hH
    subst hH
    refine ops_ro' rfl (ro_assign rfl) rfl ?_
    refine ops_nil ?_
    refine Then_normal ?_
    refine wp_ret' ?_
    refine InBlock_ret ?_
    refine Then_ret ?_
    refine' doneS_ret (res1 rfl rfl) ?_ ?_
    rotate_left 1
    have HX : gLogin g us r = gEnd g 2 := by rw [hE, gLogE, if_pos (by first | exact .inl hg20 | exact .inr (by simpa using hc16) | (left; omega))]
    rw [HX]
    exact (SubH.cons 0 rfl (SubH.cons 0 rfl (SubH.cons 2 rfl (SubH.nil _))))
  · simp only [Bool.and_eq_false_iff, decide_eq_false_iff_not, Bool.not_eq_false', decide_eq_true_eq] at hg20
    refine ops_ro' rfl (ro_move rfl) rfl ?_
    refine ops_ro' rfl (ro_nilCheck rfl) rfl ?_
    refine ops_ro' rfl (ro_fieldAddr fa99_1 rfl) rfl ?_
    refine ops_ro' rfl (ro_load sc4 rfl (Rd.pick 2 rfl (Rd.own rfl))) rfl ?_
    refine ops_ro' rfl (ro_not rfl rfl) rfl ?_
    refine ops_ro' rfl (ro_pick rfl rfl) rfl ?_
    refine ops_ro' rfl (ro_assign rfl) rfl ?_
    refine ops_nil ?_
    refine Then_normal ?_
    refine wp_cond' rfl (fun hc16 => ?_) (fun hc16 => ?_)
    · simp only [Bool.and_eq_true, decide_eq_true_eq, Bool.not_eq_true', decide_eq_false_iff_not, bne_iff_ne, ne_eq] at hc16
      refine wp_seq' ?_
      refine wp_region' ?_
      refine ops_ro' rfl (ro_move rfl) rfl ?_
      refine ops_eff' rfl (eff_call Try.call58 rfl rfl (by repeat (first | exact Split.nil _ | apply Split.cons 0 rfl | apply Split.cons 1 rfl | apply Split.cons 2 rfl | apply Split.cons 3 rfl | apply Split.cons 4 rfl | apply Split.cons 5 rfl | apply Split.cons 6 rfl | apply Split.cons 7 rfl | apply Split.cons 8 rfl | apply Split.cons 9 rfl | apply Split.cons 10 rfl | apply Split.cons 11 rfl)) (auEnd_spec bg p us.length c g 2 (by decide))) rfl ?_
      rintro _ H' ⟨_, rfl, hH⟩
      simp only [List.cons_append, List.nil_append, List.eraseIdx_cons_zero, List.eraseIdx_cons_succ, List.set_cons_zero, List.set_cons_succ] at hH
      subst hH
      refine ops_ro' rfl (ro_assign rfl) rfl ?_
      refine ops_nil ?_
      refine Then_normal ?_
      refine wp_ret' ?_
      refine InBlock_ret ?_
      refine Then_ret ?_
      refine' doneS_ret (res1 rfl rfl) ?_ ?_
      rotate_left 1
      have HX : gLogin g us r = gEnd g 2 := by rw [hE, gLogE, if_pos (by first | exact .inl hg20 | exact .inr (by simpa using hc16) | (left; omega))]
      rw [HX]
      exact (SubH.cons 0 rfl (SubH.cons 0 rfl (SubH.cons 2 rfl (SubH.nil _))))
    · simp only [Bool.and_eq_false_iff, decide_eq_false_iff_not, Bool.not_eq_false', decide_eq_true_eq] at hc16
      refine wp_seq' ?_
      refine wp_region' ?_
      refine ops_ro' rfl (ro_move rfl) rfl ?_
      refine ops_ro' rfl (ro_nilCheck rfl) rfl ?_
      refine ops_ro' rfl (ro_fieldAddr fa99_4 rfl) rfl ?_
      refine ops_ro' rfl (ro_load sc4 rfl (Rd.pick 2 rfl (Rd.own rfl))) rfl ?_
      refine ops_ro' rfl (ro_assign rfl) rfl ?_
      refine ops_nil ?_
      refine Then_normal ?_
      refine wp_cond' rfl (fun hc29 => ?_) (fun hc29 => ?_)
      · skip
        refine wp_seq' ?_
        refine wp_region' ?_
        refine ops_ro' rfl (ro_assign rfl) rfl ?_
        refine ops_nil ?_
        refine Then_normal ?_
        refine wp_ret' ?_
        refine InBlock_ret ?_
        refine Then_ret ?_
        refine doneS_pre (ansP_none _) ?_
        refine' doneS_ret (res1 rfl rfl) ?_ ?_
        rotate_left 1
        have HX : gLogin g us r = (g, none) := by rw [hE, gLogE, if_neg (by rintro (h | h) <;> simp_all), if_pos hc29]
        rw [HX]
        exact (SubH.cons 0 rfl (SubH.cons 2 rfl (SubH.cons 2 rfl (SubH.nil _))))
      · skip
        refine wp_seq' ?_
        refine wp_region' ?_
        refine ops_ro' rfl (ro_move rfl) rfl ?_
        refine ops_ro' rfl (ro_neqS (b := tConn) rfl rfl rfl) rfl ?_
        refine ops_ro' rfl (ro_assign rfl) rfl ?_
        refine ops_nil ?_
        refine Then_normal ?_
        refine wp_cond' rfl (fun hc34 => ?_) (fun hc34 => ?_)
        · replace hc34 := of_decide_eq_true hc34
          refine wp_seq' ?_
          refine wp_region' ?_
          refine ops_ro' rfl (ro_move rfl) rfl ?_
          refine ops_eff' rfl (eff_call Try.call58 rfl rfl (by repeat (first | exact Split.nil _ | apply Split.cons 0 rfl | apply Split.cons 1 rfl | apply Split.cons 2 rfl | apply Split.cons 3 rfl | apply Split.cons 4 rfl | apply Split.cons 5 rfl | apply Split.cons 6 rfl | apply Split.cons 7 rfl | apply Split.cons 8 rfl | apply Split.cons 9 rfl | apply Split.cons 10 rfl | apply Split.cons 11 rfl)) (auEnd_spec bg p us.length c g 7 (by decide))) rfl ?_
          rintro _ H' ⟨_, rfl, hH⟩
          simp only [List.cons_append, List.nil_append, List.eraseIdx_cons_zero, List.eraseIdx_cons_succ, List.set_cons_zero, List.set_cons_succ] at hH
          subst hH
          refine ops_ro' rfl (ro_assign rfl) rfl ?_
          refine ops_nil ?_
          refine Then_normal ?_
          refine wp_ret' ?_
          refine InBlock_ret ?_
          refine Then_ret ?_
          refine' doneS_ret (res1 rfl rfl) ?_ ?_
          rotate_left 1
          have HX : gLogin g us r = gEnd g 7 := by rw [hE, gLogE, if_neg (by rintro (h | h) <;> simp_all), if_neg (by simpa using hc29), if_pos hc34]
          rw [HX]
          exact (SubH.cons 0 rfl (SubH.cons 0 rfl (SubH.cons 2 rfl (SubH.nil _))))
        · replace hc34 := of_decide_eq_false hc34
          refine wp_seq' ?_
          refine wp_region' ?_
          refine ops_ro' rfl (ro_move rfl) rfl ?_
          refine ops_ro' rfl (ro_neqS (b := tPass) rfl rfl rfl) rfl ?_
          refine ops_ro' rfl (ro_assign rfl) rfl ?_
          refine ops_nil ?_
          refine Then_normal ?_
          refine wp_cond' rfl (fun hc39 => ?_) (fun hc39 => ?_)
          · replace hc39 := of_decide_eq_true hc39
            refine wp_seq' ?_
            refine wp_region' ?_
            refine ops_ro' rfl (ro_move rfl) rfl ?_
            refine ops_eff' rfl (eff_call Try.call91 rfl rfl (by repeat (first | exact Split.nil _ | apply Split.cons 0 rfl | apply Split.cons 1 rfl | apply Split.cons 2 rfl | apply Split.cons 3 rfl | apply Split.cons 4 rfl | apply Split.cons 5 rfl | apply Split.cons 6 rfl | apply Split.cons 7 rfl | apply Split.cons 8 rfl | apply Split.cons 9 rfl | apply Split.cons 10 rfl | apply Split.cons 11 rfl)) (auTry_spec bg p us.length c g ht)) rfl ?_
            rintro _ H' ⟨_, rfl, hH⟩
            simp only [List.cons_append, List.nil_append, List.eraseIdx_cons_zero, List.eraseIdx_cons_succ, List.set_cons_zero, List.set_cons_succ] at hH
            subst hH
            refine ops_ro' rfl (ro_assign rfl) rfl ?_
            refine ops_nil ?_
            refine Then_normal ?_
            refine wp_ret' ?_
            refine InBlock_ret ?_
            refine Then_ret ?_
            refine' doneS_ret (res1 rfl rfl) ?_ ?_
            rotate_left 1
            have HX : gLogin g us r = gTry g := by rw [hE, gLogE, if_neg (by rintro (h | h) <;> simp_all), if_neg (by simpa using hc29), if_neg hc34, if_pos hc39]
            rw [HX]
            exact (SubH.cons 0 rfl (SubH.cons 0 rfl (SubH.cons 2 rfl (SubH.nil _))))
          · replace hc39 := of_decide_eq_false hc39
            refine wp_skip' ?_
            refine InBlock_normal ?_
            refine Then_normal ?_
            refine wp_seq' ?_
            refine wp_region' ?_
            refine ops_ro' rfl (ro_move rfl) rfl ?_
            refine ops_eff' rfl (eff_call Try.call92 rfl rfl (by repeat (first | exact Split.nil _ | apply Split.cons 0 rfl | apply Split.cons 1 rfl | apply Split.cons 2 rfl | apply Split.cons 3 rfl | apply Split.cons 4 rfl | apply Split.cons 5 rfl | apply Split.cons 6 rfl | apply Split.cons 7 rfl | apply Split.cons 8 rfl | apply Split.cons 9 rfl | apply Split.cons 10 rfl | apply Split.cons 11 rfl)) (rBool_spec pr q cr r3 hg3)) rfl ?_
            rintro _ H' ⟨_, ⟨rfl, rfl⟩, hH⟩
            simp only [List.cons_append, List.nil_append, List.eraseIdx_cons_zero, List.eraseIdx_cons_succ, List.set_cons_zero, List.set_cons_succ] at hH
            subst hH
            have hg4 := R.good_get hg3 1
            generalize e4 : r3.get 1 = t4 at *
            obtain ⟨r4, bb⟩ := t4
            simp only at *
            refine ops_ro' rfl (ro_assign rfl) rfl ?_
            refine ops_nil ?_
            refine Then_normal ?_
            refine wp_seq' ?_
            refine wp_region' ?_
            refine ops_ro' rfl (ro_move rfl) rfl ?_
            refine ops_eff' rfl (eff_call Try.call62 rfl rfl (by repeat (first | exact Split.nil _ | apply Split.cons 0 rfl | apply Split.cons 1 rfl | apply Split.cons 2 rfl | apply Split.cons 3 rfl | apply Split.cons 4 rfl | apply Split.cons 5 rfl | apply Split.cons 6 rfl | apply Split.cons 7 rfl | apply Split.cons 8 rfl | apply Split.cons 9 rfl | apply Split.cons 10 rfl | apply Split.cons 11 rfl)) (rText_spec pr q cr r4 hg4 64 (by decide))) rfl ?_
            rintro _ H' ⟨_, ⟨rfl, rfl⟩, hH⟩
            simp only [List.cons_append, List.nil_append, List.eraseIdx_cons_zero, List.eraseIdx_cons_succ, List.set_cons_zero, List.set_cons_succ] at hH
            subst hH
            have hg5 := R.good_text hg4 64
            generalize e5 : r4.text 64 = t5 at *
            obtain ⟨r5, pa⟩ := t5
            simp only at *
            refine ops_ro' rfl (ro_assign rfl) rfl ?_
            refine ops_nil ?_
            refine Then_normal ?_
            refine wp_seq' ?_
            refine wp_block' ?_
            refine wp_seq' ?_
            refine wp_region' ?_
            refine ops_ro' rfl (ro_move rfl) rfl ?_
            refine ops_split rfl rfl rfl (fun hg50 => ?_) (fun hg50 => ?_)
            · replace hg50 := of_decide_eq_true hg50
              refine ops_skip' rfl rfl ?_
              refine ops_skip' rfl rfl ?_
              refine ops_skip' rfl rfl ?_
              refine ops_ro' rfl (ro_pick rfl rfl) rfl ?_
              refine ops_ro' rfl (ro_assign rfl) rfl ?_
              refine ops_nil ?_
              refine Then_normal ?_
              refine wp_condT rfl ?_
              refine wp_seq' ?_
              refine wp_region' ?_
              refine ops_ro' rfl (ro_move rfl) rfl ?_
              refine ops_eff' rfl (eff_call Try.call58 rfl rfl (by repeat (first | exact Split.nil _ | apply Split.cons 0 rfl | apply Split.cons 1 rfl | apply Split.cons 2 rfl | apply Split.cons 3 rfl | apply Split.cons 4 rfl | apply Split.cons 5 rfl | apply Split.cons 6 rfl | apply Split.cons 7 rfl | apply Split.cons 8 rfl | apply Split.cons 9 rfl | apply Split.cons 10 rfl | apply Split.cons 11 rfl)) (auEnd_spec bg p us.length c g 2 (by decide))) rfl ?_
              rintro _ H' ⟨_, rfl, hH⟩
              simp only [List.cons_append, List.nil_append, List.eraseIdx_cons_zero, List.eraseIdx_cons_succ, List.set_cons_zero, List.set_cons_succ] at hH
              subst hH
              refine ops_ro' rfl (ro_assign rfl) rfl ?_
              refine ops_nil ?_
              refine Then_normal ?_
              refine wp_ret' ?_
              refine InBlock_ret ?_
              refine Then_ret ?_
              refine' doneS_ret (res1 rfl rfl) ?_ ?_
              rotate_left 1
              have HX : gLogin g us r = gEnd g 2 := by
                rw [hE, gLogE, if_neg (by rintro (h | h) <;> simp_all), if_neg (by simpa using hc29), if_neg hc34, if_neg hc39, e4]
                simp only
                rw [e5]
                simp only
                rw [gLog2, if_pos (by first | exact .inr (by simpa using hc48) | exact .inl hg50 | (left; omega) | (right; omega))]
              rw [HX]
              exact (SubH.cons 0 rfl (SubH.cons 0 rfl (SubH.cons 2 rfl (SubH.nil _))))
            · replace hg50 := of_decide_eq_false hg50
              refine ops_ro' rfl (ro_move rfl) rfl ?_
              refine ops_eff' rfl (eff_call Try.call65 rfl rfl (by repeat (first | exact Split.nil _ | apply Split.cons 0 rfl | apply Split.cons 1 rfl | apply Split.cons 2 rfl | apply Split.cons 3 rfl | apply Split.cons 4 rfl | apply Split.cons 5 rfl | apply Split.cons 6 rfl | apply Split.cons 7 rfl | apply Split.cons 8 rfl | apply Split.cons 9 rfl | apply Split.cons 10 rfl | apply Split.cons 11 rfl)) (rAll_spec pr q cr r5 hg5)) rfl ?_
              rintro _ H' ⟨_, ⟨rfl, rfl⟩, hH⟩
              simp only [List.cons_append, List.nil_append, List.eraseIdx_cons_zero, List.eraseIdx_cons_succ, List.set_cons_zero, List.set_cons_succ] at hH
              subst hH
              refine ops_ro' rfl (ro_not rfl rfl) rfl ?_
              refine ops_ro' rfl (ro_pick rfl rfl) rfl ?_
              refine ops_ro' rfl (ro_assign rfl) rfl ?_
              refine ops_nil ?_
              refine Then_normal ?_
              refine wp_cond' rfl (fun hc48 => ?_) (fun hc48 => ?_)
              · simp only [Bool.and_eq_true, decide_eq_true_eq, Bool.not_eq_true', decide_eq_false_iff_not, bne_iff_ne, ne_eq] at hc48
                refine wp_seq' ?_
                refine wp_region' ?_
                refine ops_ro' rfl (ro_move rfl) rfl ?_
                refine ops_eff' rfl (eff_call Try.call58 rfl rfl (by repeat (first | exact Split.nil _ | apply Split.cons 0 rfl | apply Split.cons 1 rfl | apply Split.cons 2 rfl | apply Split.cons 3 rfl | apply Split.cons 4 rfl | apply Split.cons 5 rfl | apply Split.cons 6 rfl | apply Split.cons 7 rfl | apply Split.cons 8 rfl | apply Split.cons 9 rfl | apply Split.cons 10 rfl | apply Split.cons 11 rfl)) (auEnd_spec bg p us.length c g 2 (by decide))) rfl ?_
                rintro _ H' ⟨_, rfl, hH⟩
                simp only [List.cons_append, List.nil_append, List.eraseIdx_cons_zero, List.eraseIdx_cons_succ, List.set_cons_zero, List.set_cons_succ] at hH
                subst hH
                refine ops_ro' rfl (ro_assign rfl) rfl ?_
                refine ops_nil ?_
                refine Then_normal ?_
                refine wp_ret' ?_
                refine InBlock_ret ?_
                refine Then_ret ?_
                refine' doneS_ret (res1 rfl rfl) ?_ ?_
                rotate_left 1
                have HX : gLogin g us r = gEnd g 2 := by
                  rw [hE, gLogE, if_neg (by rintro (h | h) <;> simp_all), if_neg (by simpa using hc29), if_neg hc34, if_neg hc39, e4]
                  simp only
                  rw [e5]
                  simp only
                  rw [gLog2, if_pos (by first | exact .inr (by simpa using hc48) | exact .inl hg50 | (left; omega) | (right; omega))]
                rw [HX]
                exact (SubH.cons 0 rfl (SubH.cons 0 rfl (SubH.cons 2 rfl (SubH.nil _))))
              · simp only [Bool.and_eq_false_iff, decide_eq_false_iff_not, Bool.not_eq_false', decide_eq_true_eq] at hc48
                refine wp_seq' ?_
                refine wp_region' ?_
                refine ops_ro' rfl (ro_move rfl) rfl ?_
                refine ops_ro' rfl (ro_nilCheck rfl) rfl ?_
                refine ops_ro' rfl (ro_fieldAddr fa99_0 rfl) rfl ?_
                refine ops_ro' rfl (ro_load sc31 rfl (Rd.pick 2 rfl (Rd.own rfl))) rfl ?_
                refine ops_ro' rfl (ro_move rfl) rfl ?_
                refine ops_ro' rfl (ro_move rfl) rfl ?_
                refine ops_ro' rfl (ro_build rfl (bld_struct (cs := Us.cs ⟨nm, pa⟩) st30 rfl)) rfl ?_
                refine ops_eff' rfl (eff_call Try.call93 rfl rfl (by repeat (first | exact Split.nil _ | apply Split.cons 0 rfl | apply Split.cons 1 rfl | apply Split.cons 2 rfl | apply Split.cons 3 rfl | apply Split.cons 4 rfl | apply Split.cons 5 rfl | apply Split.cons 6 rfl | apply Split.cons 7 rfl | apply Split.cons 8 rfl | apply Split.cons 9 rfl | apply Split.cons 10 rfl | apply Split.cons 11 rfl)) (ucont_spec U p c us hU hul ⟨nm, pa⟩)) rfl ?_
                rintro _ H' ⟨_, ⟨_, ⟨rfl, rfl⟩, rfl⟩, hH⟩
                simp only [List.cons_append, List.nil_append, List.eraseIdx_cons_zero, List.eraseIdx_cons_succ, List.set_cons_zero, List.set_cons_succ] at hH
                subst hH
                refine ops_ro' rfl (ro_not rfl rfl) rfl ?_
                refine ops_ro' rfl (ro_assign rfl) rfl ?_
                refine ops_nil ?_
                refine Then_normal ?_
                refine wp_cond' rfl (fun hc57 => ?_) (fun hc57 => ?_)
                · simp only [Bool.and_eq_true, decide_eq_true_eq, Bool.not_eq_true', decide_eq_false_iff_not, bne_iff_ne, ne_eq] at hc57
                  refine wp_seq' ?_
                  refine wp_region' ?_
                  refine ops_ro' rfl (ro_move rfl) rfl ?_
                  refine ops_eff' rfl (eff_call Try.call91 rfl rfl (by repeat (first | exact Split.nil _ | apply Split.cons 0 rfl | apply Split.cons 1 rfl | apply Split.cons 2 rfl | apply Split.cons 3 rfl | apply Split.cons 4 rfl | apply Split.cons 5 rfl | apply Split.cons 6 rfl | apply Split.cons 7 rfl | apply Split.cons 8 rfl | apply Split.cons 9 rfl | apply Split.cons 10 rfl | apply Split.cons 11 rfl)) (auTry_spec bg p us.length c g ht)) rfl ?_
                  rintro _ H' ⟨_, rfl, hH⟩
                  simp only [List.cons_append, List.nil_append, List.eraseIdx_cons_zero, List.eraseIdx_cons_succ, List.set_cons_zero, List.set_cons_succ] at hH
                  subst hH
                  refine ops_ro' rfl (ro_assign rfl) rfl ?_
                  refine ops_nil ?_
                  refine Then_normal ?_
                  refine wp_ret' ?_
                  refine InBlock_ret ?_
                  refine Then_ret ?_
                  refine' doneS_ret (res1 rfl rfl) ?_ ?_
                  rotate_left 1
                  have HX : gLogin g us r = gTry g := by
                    rw [hE, gLogE, if_neg (by rintro (h | h) <;> simp_all), if_neg (by simpa using hc29), if_neg hc34, if_neg hc39, e4]
                    simp only
                    rw [e5]
                    simp only
                    rw [gLog2, if_neg (by rintro (h | h) <;> simp_all), if_neg (by simpa using hc57)]
                  rw [HX]
                  exact (SubH.cons 0 rfl (SubH.cons 0 rfl (SubH.cons 0 rfl (SubH.nil _))))
                · simp only [Bool.and_eq_false_iff, decide_eq_false_iff_not, Bool.not_eq_false', decide_eq_true_eq] at hc57
                  refine wp_skip' ?_
                  refine InBlock_normal ?_
                  refine Then_normal ?_
                  refine wp_seq' ?_
                  refine wp_region' ?_
                  refine ops_ro' rfl (ro_move rfl) rfl ?_
                  refine ops_ro' rfl (ro_move rfl) rfl ?_
                  refine ops_ro' rfl (ro_move rfl) rfl ?_
                  refine ops_ro' rfl (ro_nilCheck rfl) rfl ?_
                  refine ops_ro' rfl (ro_fieldAddr fa99_3 rfl) rfl ?_
                  refine ops_eff0 rfl (eff_store 3 sc9 rfl rfl rfl rfl (Nat.le_of_ble_eq_true rfl) (warm_zero _)) rfl ?_
                  rintro _ _ rfl
                  refine ops_ro' rfl (ro_nilCheck rfl) rfl ?_
                  refine ops_ro' rfl (ro_fieldAddr fa99_4 rfl) rfl ?_
                  refine ops_eff0 rfl (eff_store 3 sc4 rfl rfl rfl rfl (Nat.le_of_ble_eq_true rfl) (warm_zero _)) rfl ?_
                  rintro _ _ rfl
                  refine ops_nil ?_
                  refine Then_normal ?_
                  refine wp_seq' ?_
                  refine wp_region' ?_
                  refine ops_eff' rfl (eff_lit sl32 rfl (sbld (cs := cel [52]) [(.int .u8 0)] sl32 (by decide) (by kernel_rfl) rfl) rfl (by decide)) rfl ?_
                  rintro _ _ ⟨b76, rfl, rfl⟩
                  refine ops_eff' rfl (eff_lit sl36 rfl (sbld (cs := [_]) [(.slice none 0 0)] sl36 (by decide) (by kernel_rfl) rfl) rfl (by decide)) rfl ?_
                  rintro _ _ ⟨b77, rfl, rfl⟩
                  refine ops_ro' rfl (ro_assign rfl) rfl ?_
                  refine ops_nil ?_
                  refine Then_normal ?_
                  refine wp_ret' ?_
                  refine doneS_pre (ansP_fold (x := [52])) ?_
                  refine' doneS_ret (res1 rfl rfl) ?_ ?_
                  rotate_left 1
                  have HX : gLogin g us r = ({ g with user := nm, inn := true }, some [52]) := by
                    rw [hE, gLogE, if_neg (by rintro (h | h) <;> simp_all), if_neg (by simpa using hc29), if_neg hc34, if_neg hc39, e4]
                    simp only
                    rw [e5]
                    simp only
                    rw [gLog2, if_neg (by rintro (h | h) <;> simp_all), if_pos (by simpa using hc57)]
                  rw [HX]
                  exact (SubH.cons 0 rfl (SubH.cons 3 rfl (SubH.cons 0 rfl (SubH.nil _))))

end Go.Proofs.Ytigaolglnnjnmaa
