/-
  Package auth: asks, tries, logins.
-/
import Derived.Test.YtigaolglnnjnmaaAuthB
namespace Go.Proofs.Ytigaolglnnjnmaa
open Go.Sx
set_option linter.unusedVariables false
set_option linter.unusedSimpArgs false
set_option maxRecDepth 100000
set_option maxHeartbeats 4000000

theorem rAll_spec (pr : Nat) (q : Option Addr) (cr : Nat) (r : R) (hg : r.Good) : Tri Try.prog 65 [.pointer (some ⟨pr, 0, none⟩)] (rd pr q cr r) (fun v H' => v = .bool (decide (r.fin.1 = 0)) ∧ H' = rd pr q cr r) := by
  refine tri_of_wpS Try.func65 rfl Try.ntmps65 (by simp) ?_
  refine wp_seq' ?_
  refine wp_region' ?_
  refine ops_ro' rfl (ro_assign rfl) rfl ?_
  refine ops_nil ?_
  refine Then_normal ?_
  refine wp_seq' ?_
  refine wp_region' ?_
  refine ops_ro' rfl (ro_move rfl) rfl ?_
  refine ops_eff' rfl (eff_call Try.call97 rfl rfl (by repeat (first | exact Split.nil _ | apply Split.cons 0 rfl | apply Split.cons 1 rfl | apply Split.cons 2 rfl | apply Split.cons 3 rfl | apply Split.cons 4 rfl | apply Split.cons 5 rfl | apply Split.cons 6 rfl | apply Split.cons 7 rfl | apply Split.cons 8 rfl | apply Split.cons 9 rfl | apply Split.cons 10 rfl | apply Split.cons 11 rfl)) (end_spec pr q cr r hg.len hg.pos)) rfl ?_
  rintro _ H' ⟨_, ⟨rfl, rfl⟩, hH⟩
  simp only [List.cons_append, List.nil_append, List.eraseIdx_cons_zero, List.eraseIdx_cons_succ, List.set_cons_zero, List.set_cons_succ] at hH
  subst hH
  refine ops_ro' rfl (ro_move rfl) rfl ?_
  refine ops_ro' rfl (ro_extract rfl rfl) rfl ?_
  refine ops_ro' rfl (ro_extract rfl rfl) rfl ?_
  refine ops_ro' rfl (ro_assign rfl) rfl ?_
  refine ops_ro' rfl (ro_assign rfl) rfl ?_
  refine ops_nil ?_
  refine Then_normal ?_
  refine wp_seq' ?_
  refine wp_region' ?_
  refine ops_ro' rfl (ro_move rfl) rfl ?_
  refine ops_ro' rfl (ro_eql rfl rfl rfl) rfl ?_
  refine ops_ro' rfl (ro_assign rfl) rfl ?_
  refine ops_nil ?_
  refine Then_normal ?_
  refine wp_ret' ?_
  refine' doneS_ret (res1 rfl rfl) ?_ ?_
  rotate_left 1
  exact ⟨rfl, rfl⟩
  exact SubH.refl _
theorem rFine_spec (pr : Nat) (q : Option Addr) (cr : Nat) (r : R) : Tri Try.prog 90 [.pointer (some ⟨pr, 0, none⟩)] (rd pr q cr r) (fun v H' => v = .bool (decide (r.why = 0)) ∧ H' = rd pr q cr r) := by
  refine tri_of_wpS Try.func90 rfl Try.ntmps90 (by simp) ?_
  refine wp_seq' ?_
  refine wp_region' ?_
  refine ops_ro' rfl (ro_assign rfl) rfl ?_
  refine ops_nil ?_
  refine Then_normal ?_
  refine wp_seq' ?_
  refine wp_region' ?_
  refine ops_ro' rfl (ro_move rfl) rfl ?_
  refine ops_ro' rfl (ro_nilCheck rfl) rfl ?_
  refine ops_ro' rfl (ro_fieldAddr fa141_2 rfl) rfl ?_
  refine ops_ro' rfl (ro_load sc24 rfl (Rd.pick 0 rfl (Rd.own rfl))) rfl ?_
  refine ops_ro' rfl (ro_eql rfl rfl rfl) rfl ?_
  refine ops_ro' rfl (ro_assign rfl) rfl ?_
  refine ops_nil ?_
  refine Then_normal ?_
  refine wp_ret' ?_
  refine' doneS_ret (res1 rfl rfl) ?_ ?_
  rotate_left 1
  exact ⟨rfl, rfl⟩
  exact SubH.refl _
def gEnd (g : Gs) (n : Nat) : Gs × Option (List UInt8) := ({ g with dead := true }, some (byeB n))
def tAuth : List UInt8 := [115, 115, 104, 45, 117, 115, 101, 114, 97, 117, 116, 104]
def tConn : List UInt8 := [115, 115, 104, 45, 99, 111, 110, 110, 101, 99, 116, 105, 111, 110]
def tPass : List UInt8 := [112, 97, 115, 115, 119, 111, 114, 100]
def gAskE (g : Gs) (e : Int) (s : List UInt8) : Gs × Option (List UInt8) := if e ≠ 0 ∨ g.sv = true then gEnd g 2 else if s ≠ tAuth then gEnd g 7 else ({ g with sv := true }, some (b8 6 :: (be s.length 4 ++ s)))
def gAsk (g : Gs) (r : R) : Gs × Option (List UInt8) := gAskE g (r.text 64).1.fin.1 (r.text 64).2


end Go.Proofs.Ytigaolglnnjnmaa
