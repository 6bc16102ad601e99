/-
  The row of 'strongroom/strongroomlaw17.SftpReads', proved.
-/
import Derived.Test.YtigaolglnnjnmaaRows
import Derived.Test.YtigaolglnnjnmaaSfS
import Derived.Test.YtigaolglnnjnmaaOpenSf
import Derived.Test.YtigaolglnnjnmaaSxOpen
import Derived.Test.YtigaolglnnjnmaaShell
import Derived.WalkKit
import Derived.ProofKit
import Derived.OpenShut
import Derived.ShutString
import Derived.SizedLaws
namespace Go.Proofs.Ytigaolglnnjnmaa.sftpReads
open Go.Sx Go.ChangeShapes Go.WideShapes Go.ChangeAt Go.RowKit
open Go.ChangeMaps (open_string shut_string)
set_option linter.unusedVariables false
set_option maxRecDepth 100000
theorem own : ownKnob Try.prog.godebug = none := by kernel_rfl
theorem laidOut : laidOutB Try.prog = true := by kernel_rfl
theorem lifted (os : Os) (started : os.Started) (H : Type) (enc : TypeId × Value → H) :
    ReturnsInHanded {} Try.checked os 10 .any (Rows.sftpReadsSpec.pre6 enc Try.prog Try.f10 Rows.sftpReadsRow.domain false) (Rows.sftpReadsSpec.post enc Try.prog Try.f10 false true false false) := by
  refine returnsInHanded_of_change_sized (C := Try.checked) own started (by kernel_rfl) Try.func10
    (ChangeSpec.witness6 (enc := enc) (C := Try.checked) false ⟨#[], #[(.int .u32 0), (.agg #[(.int .i64 0), (.string ByteArray.empty), (.string ByteArray.empty), (.string ByteArray.empty), (.int .u64 0), (.int .u32 0), (.slice none 0 0), (.int .u32 0), (.int .u32 0), (.int .u64 0), (.int .u32 0), (.int .u32 0), (.int .u32 0), (.int .u32 0), (.int .u32 0)]), (.agg #[(.int .i64 0), (.int .i64 0), (.string ByteArray.empty), (.slice none 0 0), (.slice none 0 0), (.int .u32 0), (.int .u64 0), (.int .u32 0), (.int .u32 0), (.int .u32 0), (.int .u32 0), (.int .u32 0)]), (.slice none 0 0), (.int .i64 0), (.int .u8 0), (.bool false)], []⟩ 8 (by kernel_rfl) (by kernel_rfl) (by kernel_rfl) (by kernel_rfl)) ?_
  intro W base args ds gs before hval0 hW hcnd hsz0 _
  have hsz : (DataW.weightsEach Try.prog (Try.f10.params.toList ++ Rows.sftpReadsSpec.plain.varTypes Try.prog) (ds ++ gs)).all (· ≤ reachBytes) = true := hsz0
  clear hsz0
  have hval : ∀ (j : Nat) t v, Try.f10.params[j]? = some t → args[j]? = some v → Value.okWide Try.prog W .any base t v := hval0
  have hW' := hW
  obtain ⟨p, q, hA0, hV, rfl, hfz, hnd⟩ := hW
  have hA : DataW.TrodAll enc Try.prog W 0 (fun _ => true) true Try.f10.params.toList args.toList ds p := hA0
  rw [Try.params10] at hA hval hsz
  obtain ⟨v0, vs0, d0, ds0, p0, q0, hargs, rfl, rfl, h0, r0⟩ := trodAll_cons hA
  obtain ⟨v1, vs1, d1, ds1, p1, q1, rfl, rfl, rfl, h1, r1⟩ := trodAll_cons r0
  obtain ⟨v2, vs2, d2, ds2, p2, q2, rfl, rfl, rfl, h2, r2⟩ := trodAll_cons r1
  obtain ⟨v3, vs3, d3, ds3, p3, q3, rfl, rfl, rfl, h3, r3⟩ := trodAll_cons r2
  obtain ⟨v4, vs4, d4, ds4, p4, q4, rfl, rfl, rfl, h4, r4⟩ := trodAll_cons r3
  obtain ⟨v5, vs5, d5, ds5, p5, q5, rfl, rfl, rfl, h5, r5⟩ := trodAll_cons r4
  obtain ⟨v6, vs6, d6, ds6, p6, q6, rfl, rfl, rfl, h6, r6⟩ := trodAll_cons r5
  obtain ⟨rfl, rfl, rfl⟩ := trodAll_nil r6
  obtain rfl : args = #[v0, v1, v2, v3, v4, v5, v6] := by cases args; simp_all
  obtain ⟨rfl, rfl⟩ := trodVars_none hV
  have k0 := h0
  have lt0 : ∀ x ∈ p0, x.block < W.heap.size := by obtain ⟨m, hm⟩ := k0; exact DataW.trod_lt m _ _ _ hm
  have k1 := h1
  have lt1 : ∀ x ∈ p1, x.block < W.heap.size := by obtain ⟨m, hm⟩ := k1; exact DataW.trod_lt m _ _ _ hm
  have k2 := h2
  have lt2 : ∀ x ∈ p2, x.block < W.heap.size := by obtain ⟨m, hm⟩ := k2; exact DataW.trod_lt m _ _ _ hm
  have k3 := h3
  have lt3 : ∀ x ∈ p3, x.block < W.heap.size := by obtain ⟨m, hm⟩ := k3; exact DataW.trod_lt m _ _ _ hm
  have k4 := h4
  have lt4 : ∀ x ∈ p4, x.block < W.heap.size := by obtain ⟨m, hm⟩ := k4; exact DataW.trod_lt m _ _ _ hm
  have k5 := h5
  have lt5 : ∀ x ∈ p5, x.block < W.heap.size := by obtain ⟨m, hm⟩ := k5; exact DataW.trod_lt m _ _ _ hm
  have k6 := h6
  have lt6 : ∀ x ∈ p6, x.block < W.heap.size := by obtain ⟨m, hm⟩ := k6; exact DataW.trod_lt m _ _ _ hm
  obtain ⟨a0, rfl, rfl, rfl, w0⟩ := open_int Try.underlying40 (hval 0 40 v0 rfl rfl) h0
  obtain ⟨t0, rfl, ht0⟩ := wf_nat w0 (m := 4294967295) rfl rfl
  obtain ⟨x1, rfl, ok1⟩ := open_arg_struct Try.underlying56 op_rq (hval 1 56 v1 rfl rfl) h1
  obtain ⟨x2, rfl, ok2⟩ := open_arg_struct Try.underlying66 op_rp (hval 2 66 v2 rfl rfl) h2
  obtain ⟨a3, l3, c3, rfl, hv3, hd3⟩ := open_bytes Try.underlying32 Try.underlying5 (by kernel_rfl) (hval 3 32 v3 rfl rfl) h3
  have sz3 : l3.length ≤ 140737488351232 := by
    rcases hd3 with ⟨rfl, rfl⟩ | ⟨el, re, rfl, hle⟩
    · simp
    · have h := sized_slice hsz (j := 3) (t := 32) (e := 5) rfl rfl Try.underlying32
      rw [show Try.prog.bytesOf 5 = 1 by kernel_rfl] at h
      simp only [reachBytes] at h
      omega
  have cp3 : l3.length ≤ c3 := okWide_cap Try.underlying32 (hval 3 32 _ rfl rfl)
  obtain ⟨a4, rfl, rfl, rfl, w4⟩ := open_int Try.underlying3 (hval 4 3 v4 rfl rfl) h4
  have wc4 : -9223372036854775808 ≤ a4 ∧ a4 ≤ 9223372036854775807 := by
    have h1 : IntKind.i64.min = -9223372036854775808 := rfl
    have h2 : IntKind.i64.max = 9223372036854775807 := rfl
    simp only [Lit.wf, Bool.and_eq_true, decide_eq_true_eq] at w4
    omega
  obtain ⟨a5, rfl, rfl, rfl, w5⟩ := open_int Try.underlying5 (hval 5 5 v5 rfl rfl) h5
  obtain ⟨t5, rfl, ht5⟩ := wf_nat w5 (m := 255) rfl rfl
  obtain ⟨b5, rfl⟩ : ∃ b : UInt8, b.toNat = t5 := ⟨UInt8.ofNat t5, by simp; omega⟩
  obtain ⟨x6, rfl, rfl, rfl⟩ := open_bool Try.underlying4 (hval 6 4 v6 rfl rfl) h6
  clear hA0 hval0
  refine (calls_of_tri (tri_mem (sftpreads_run (ro W) t0 (by omega) x1.c ok1.ok x1.p x1.n ok1.vw ok1.cap x2.c x2.dp x2.dn x2.np x2.nn ⟨ok2.k, ok2.s, ok2.d, ok2.n, by have h1 := ok2.nc; have h2 := ok2.nm; simp only [maxLen] at h2; omega, ok2.no, ok2.at'⟩ ok2.dc a3 c3 l3 hv3 cp3 a4 wc4 b5 x6))).mono fun e W' ⟨he, hs⟩ => ?_
  subst he
  exact ⟨_, rfl, _, _, _, [], _, [], hW', trodAll_mk1 (shut_bool Try.underlying4 _), (trodAll_cons_mk (ro_trod laidOut (by kernel_rfl) (of_decide_eq_true (by kernel_rfl)) k0 hs lt0) (trodAll_cons_mk (ro_trod laidOut (by kernel_rfl) (of_decide_eq_true (by kernel_rfl)) k1 hs lt1) (trodAll_cons_mk (ro_trod laidOut (by kernel_rfl) (of_decide_eq_true (by kernel_rfl)) k2 hs lt2) (trodAll_cons_mk (ro_trod laidOut (by kernel_rfl) (of_decide_eq_true (by kernel_rfl)) k3 hs lt3) (trodAll_cons_mk (ro_trod laidOut (by kernel_rfl) (of_decide_eq_true (by kernel_rfl)) k4 hs lt4) (trodAll_cons_mk (ro_trod laidOut (by kernel_rfl) (of_decide_eq_true (by kernel_rfl)) k5 hs lt5) (trodAll_cons_mk (ro_trod laidOut (by kernel_rfl) (of_decide_eq_true (by kernel_rfl)) k6 hs lt6) trodAll_mk0))))))), rfl, ro_frame hs _, fun h => by cases h⟩
theorem over : Rows.sftpReadsRow.holds Try.pinned (OpenSpec.ofChange Rows.sftpReadsSpec) :=
  OpenClaim.holds_of_wide 10 Try.f10 rfl rfl rfl rfl rfl rfl rfl ⟨rfl, rfl, rfl, rfl, rfl⟩ rfl rfl rfl rfl rfl (by kernel_rfl) Try.func10 (by kernel_rfl)
    (of_decide_eq_true (by kernel_rfl)) (by unfold Func.isWrapper; first | (rw [if_pos (by decide +kernel)]; kernel_rfl) | (rw [if_neg (by decide +kernel)]; exact ⟨rfl, rfl⟩))
    (fun os started H enc _ => lifted os started H enc)
/-- the statement -/
theorem proved : Rows.SftpReadsSaid :=
  over
#print axioms proved
end Go.Proofs.Ytigaolglnnjnmaa.sftpReads
