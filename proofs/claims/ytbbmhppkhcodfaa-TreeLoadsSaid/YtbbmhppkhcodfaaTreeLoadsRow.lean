/-
  The row of 'strongroom/strongroomlaw15.TreeLoads', proved.
-/
import Derived.Test.YtbbmhppkhcodfaaRows
import Derived.Test.YtbbmhppkhcodfaaTrD
import Derived.Test.YtbbmhppkhcodfaaSxOpen
import Derived.Test.YtbbmhppkhcodfaaShell
import Derived.WalkKit
import Derived.ProofKit
import Derived.OpenShut
import Derived.ShutString
import Derived.SizedLaws
namespace Go.Proofs.Ytbbmhppkhcodfaa.treeLoads
open Go.Sx Go.ChangeShapes Go.WideShapes Go.ChangeAt Go.RowKit
open Go.ChangeMaps (open_string shut_string)
set_option linter.unusedVariables false
set_option maxRecDepth 100000
theorem own : ownKnob Try.prog.godebug = none := by kernel_rfl
theorem laidOut : laidOutB Try.prog = true := by kernel_rfl
theorem lifted (os : Os) (started : os.Started) (H : Type) (enc : TypeId × Value → H) :
    ReturnsInHanded {} Try.checked os 6 .any (Rows.treeLoadsSpec.pre6 enc Try.prog Try.f6 Rows.treeLoadsRow.domain false) (Rows.treeLoadsSpec.post enc Try.prog Try.f6 false true false false) := by
  refine returnsInHanded_of_change_sized (C := Try.checked) own started (by kernel_rfl) Try.func6
    (ChangeSpec.witness6 (enc := enc) (C := Try.checked) false ⟨#[], #[(.slice none 0 0), (.slice none 0 0), (.int .i64 0), (.int .u8 0)], []⟩ 8 (by kernel_rfl) (by kernel_rfl) (by kernel_rfl) (by kernel_rfl)) ?_
  intro W base args ds gs before hval0 hW hcnd hsz0 _
  have hsz : (DataW.weightsEach Try.prog (Try.f6.params.toList ++ Rows.treeLoadsSpec.plain.varTypes Try.prog) (ds ++ gs)).all (· ≤ reachBytes) = true := hsz0
  clear hsz0
  have hval : ∀ (j : Nat) t v, Try.f6.params[j]? = some t → args[j]? = some v → Value.okWide Try.prog W .any base t v := hval0
  have hW' := hW
  obtain ⟨p, q, hA0, hV, rfl, hfz, hnd⟩ := hW
  have hA : DataW.TrodAll enc Try.prog W 0 (fun _ => true) true Try.f6.params.toList args.toList ds p := hA0
  rw [Try.params6] at hA hval hsz
  obtain ⟨v0, vs0, d0, ds0, p0, q0, hargs, rfl, rfl, h0, r0⟩ := trodAll_cons hA
  obtain ⟨v1, vs1, d1, ds1, p1, q1, rfl, rfl, rfl, h1, r1⟩ := trodAll_cons r0
  obtain ⟨v2, vs2, d2, ds2, p2, q2, rfl, rfl, rfl, h2, r2⟩ := trodAll_cons r1
  obtain ⟨v3, vs3, d3, ds3, p3, q3, rfl, rfl, rfl, h3, r3⟩ := trodAll_cons r2
  obtain ⟨rfl, rfl, rfl⟩ := trodAll_nil r3
  obtain rfl : args = #[v0, v1, v2, v3] := by cases args; simp_all
  obtain ⟨rfl, rfl⟩ := trodVars_none hV
  have k0 := h0
  have lt0 : ∀ x ∈ p0, x.block < W.heap.size := by obtain ⟨m, hm⟩ := k0; exact DataW.trod_lt m _ _ _ hm
  have k1 := h1
  have lt1 : ∀ x ∈ p1, x.block < W.heap.size := by obtain ⟨m, hm⟩ := k1; exact DataW.trod_lt m _ _ _ hm
  have k2 := h2
  have lt2 : ∀ x ∈ p2, x.block < W.heap.size := by obtain ⟨m, hm⟩ := k2; exact DataW.trod_lt m _ _ _ hm
  have k3 := h3
  have lt3 : ∀ x ∈ p3, x.block < W.heap.size := by obtain ⟨m, hm⟩ := k3; exact DataW.trod_lt m _ _ _ hm
  obtain ⟨a0, l0, c0, rfl, hv0, hd0⟩ := open_bytes Try.underlying30 Try.underlying5 (by kernel_rfl) (hval 0 30 v0 rfl rfl) h0
  have sz0 : l0.length ≤ 140737488351232 := by
    rcases hd0 with ⟨rfl, rfl⟩ | ⟨el, re, rfl, hle⟩
    · simp
    · have h := sized_slice hsz (j := 0) (t := 30) (e := 5) rfl rfl Try.underlying30
      rw [show Try.prog.bytesOf 5 = 1 by kernel_rfl] at h
      simp only [reachBytes] at h
      omega
  have cp0 : l0.length ≤ c0 := okWide_cap Try.underlying30 (hval 0 30 _ rfl rfl)
  obtain ⟨s1, rfl, ok1⟩ := open_arg_slice Try.underlying45 (opens_slice Try.underlying45 15 Av.len (by kernel_rfl) (by decide) op_ak) (hval 1 45 v1 rfl rfl) h1
  have lq1 : s1.l.length ≤ 9223372036854775807 := by have h1 := ok1.cap; have h2 := ok1.max; simp only [maxLen] at h2; omega
  obtain ⟨a2, rfl, rfl, rfl, w2⟩ := open_int Try.underlying3 (hval 2 3 v2 rfl rfl) h2
  have wc2 : -9223372036854775808 ≤ a2 ∧ a2 ≤ 9223372036854775807 := by
    have h1 : IntKind.i64.min = -9223372036854775808 := rfl
    have h2 : IntKind.i64.max = 9223372036854775807 := rfl
    simp only [Lit.wf, Bool.and_eq_true, decide_eq_true_eq] at w2
    omega
  obtain ⟨a3, rfl, rfl, rfl, w3⟩ := open_int Try.underlying5 (hval 3 5 v3 rfl rfl) h3
  obtain ⟨t3, rfl, ht3⟩ := wf_nat w3 (m := 255) rfl rfl
  obtain ⟨b3, rfl⟩ : ∃ b : UInt8, b.toNat = t3 := ⟨UInt8.ofNat t3, by simp; omega⟩
  clear hA0 hval0
  refine (calls_of_tri (tri_mem (treeloads_run (ro W) a0 c0 l0 hv0 cp0 s1.p s1.c s1.l ok1.vw lq1 (fun x hx => ok1.all x hx) a2 wc2 b3))).mono fun e W' ⟨he, hs⟩ => ?_
  subst he
  exact ⟨_, rfl, _, _, _, [], _, [], hW', trodAll_mk1 (shut_bool Try.underlying4 _), (trodAll_cons_mk (ro_trod laidOut (by kernel_rfl) (of_decide_eq_true (by kernel_rfl)) k0 hs lt0) (trodAll_cons_mk (ro_trod laidOut (by kernel_rfl) (of_decide_eq_true (by kernel_rfl)) k1 hs lt1) (trodAll_cons_mk (ro_trod laidOut (by kernel_rfl) (of_decide_eq_true (by kernel_rfl)) k2 hs lt2) (trodAll_cons_mk (ro_trod laidOut (by kernel_rfl) (of_decide_eq_true (by kernel_rfl)) k3 hs lt3) trodAll_mk0)))), rfl, ro_frame hs _, fun h => by cases h⟩
theorem over : Rows.treeLoadsRow.holds Try.pinned (OpenSpec.ofChange Rows.treeLoadsSpec) :=
  OpenClaim.holds_of_wide 6 Try.f6 rfl rfl rfl rfl rfl rfl rfl ⟨rfl, rfl, rfl, rfl, rfl⟩ rfl rfl rfl rfl rfl (by kernel_rfl) Try.func6 (by kernel_rfl)
    (of_decide_eq_true (by kernel_rfl)) (by unfold Func.isWrapper; first | (rw [if_pos (by decide +kernel)]; kernel_rfl) | (rw [if_neg (by decide +kernel)]; exact ⟨rfl, rfl⟩))
    (fun os started H enc _ => lifted os started H enc)
/-- the statement -/
theorem proved : Rows.TreeLoadsSaid :=
  over
#print axioms proved
end Go.Proofs.Ytbbmhppkhcodfaa.treeLoads
