/-
  The row of 'strongroom/strongroomlaw11.AuthRaw', proved.
-/
import Derived.Test.YtigaolglnnjnmaaRows
import Derived.Test.YtigaolglnnjnmaaAuthO
import Derived.Test.YtigaolglnnjnmaaOpenAu
import Derived.Test.YtigaolglnnjnmaaShell
import Derived.WalkKit
import Derived.ProofKit
import Derived.OpenShut
import Derived.ShutString
import Derived.SizedLaws
namespace Go.Proofs.Ytigaolglnnjnmaa.authRaw
open Go.Sx Go.ChangeShapes Go.WideShapes Go.ChangeAt Go.RowKit
open Go.ChangeMaps (open_string shut_string)
set_option linter.unusedVariables false
set_option maxRecDepth 100000
theorem own : ownKnob Try.prog.godebug = none := by kernel_rfl
theorem laidOut : laidOutB Try.prog = true := by kernel_rfl
theorem lifted (os : Os) (started : os.Started) (H : Type) (enc : TypeId × Value → H) :
    ReturnsInHanded {} Try.checked os 6 .any (Rows.authRawSpec.pre6 enc Try.prog Try.f6 Rows.authRawRow.domain false) (Rows.authRawSpec.post enc Try.prog Try.f6 false true false false) := by
  refine returnsInHanded_of_change_sized (C := Try.checked) own started (by kernel_rfl) Try.func6
    (ChangeSpec.witness6 (enc := enc) (C := Try.checked) false ⟨#[], #[(.slice none 0 0), (.slice none 0 0), (.bool false)], []⟩ 8 (by kernel_rfl) (by kernel_rfl) (by kernel_rfl) (by kernel_rfl)) ?_
  intro W base args ds gs before hval0 hW hcnd hsz0 _
  have hsz : (DataW.weightsEach Try.prog (Try.f6.params.toList ++ Rows.authRawSpec.plain.varTypes Try.prog) (ds ++ gs)).all (· ≤ reachBytes) = true := hsz0
  clear hsz0
  have hval : ∀ (j : Nat) t v, Try.f6.params[j]? = some t → args[j]? = some v → Value.okWide Try.prog W .any base t v := hval0
  have hW' := hW
  obtain ⟨p, q, hA0, hV, rfl, hfz, hnd⟩ := hW
  have hA : DataW.TrodAll enc Try.prog W 0 (fun _ => true) true Try.f6.params.toList args.toList ds p := hA0
  rw [Try.params6] at hA hval hsz
  obtain ⟨v0, vs0, d0, ds0, p0, q0, hargs, rfl, rfl, h0, r0⟩ := trodAll_cons hA
  obtain ⟨v1, vs1, d1, ds1, p1, q1, rfl, rfl, rfl, h1, r1⟩ := trodAll_cons r0
  obtain ⟨v2, vs2, d2, ds2, p2, q2, rfl, rfl, rfl, h2, r2⟩ := trodAll_cons r1
  obtain ⟨rfl, rfl, rfl⟩ := trodAll_nil r2
  obtain rfl : args = #[v0, v1, v2] := by cases args; simp_all
  obtain ⟨rfl, rfl⟩ := trodVars_none hV
  have k0 := h0
  have lt0 : ∀ x ∈ p0, x.block < W.heap.size := by obtain ⟨m, hm⟩ := k0; exact DataW.trod_lt m _ _ _ hm
  have k1 := h1
  have lt1 : ∀ x ∈ p1, x.block < W.heap.size := by obtain ⟨m, hm⟩ := k1; exact DataW.trod_lt m _ _ _ hm
  have k2 := h2
  have lt2 : ∀ x ∈ p2, x.block < W.heap.size := by obtain ⟨m, hm⟩ := k2; exact DataW.trod_lt m _ _ _ hm
  obtain ⟨s0, rfl, ok0⟩ := open_arg_slice Try.underlying31 (opens_slice Try.underlying31 2 Us.len (by kernel_rfl) (by decide) op_us) (hval 0 31 v0 rfl rfl) h0
  have lq0 : s0.l.length ≤ 9223372036854775807 := by have h1 := ok0.cap; have h2 := ok0.max; simp only [maxLen] at h2; omega
  obtain ⟨s1, rfl, ok1⟩ := open_arg_slice Try.underlying36 (opens_slice Try.underlying36 1 (fun _ => rfl) (by kernel_rfl) (by decide) (opens_slice Try.underlying32 1 (fun _ => rfl) (by kernel_rfl) (by decide) (opens_byte Try.underlying5))) (hval 1 36 v1 rfl rfl) h1
  obtain ⟨x2, rfl, rfl, rfl⟩ := open_bool Try.underlying4 (hval 2 4 v2 rfl rfl) h2
  clear hA0 hval0
  refine (calls_of_tri (tri_mem (authraw_run (ro W) s0.p s0.c s0.l ok0.vw lq0 s1.p s1.c s1.l ok1.vw (fun x hx => ⟨(ok1.all x hx).b, (ok1.all x hx).cap⟩) x2))).mono fun e W' ⟨he, hs⟩ => ?_
  subst he
  exact ⟨_, rfl, _, _, _, [], _, [], hW', trodAll_mk1 (shut_bool Try.underlying4 _), (trodAll_cons_mk (ro_trod laidOut (by kernel_rfl) (of_decide_eq_true (by kernel_rfl)) k0 hs lt0) (trodAll_cons_mk (ro_trod laidOut (by kernel_rfl) (of_decide_eq_true (by kernel_rfl)) k1 hs lt1) (trodAll_cons_mk (ro_trod laidOut (by kernel_rfl) (of_decide_eq_true (by kernel_rfl)) k2 hs lt2) trodAll_mk0))), rfl, ro_frame hs _, fun h => by cases h⟩
theorem over : Rows.authRawRow.holds Try.pinned (OpenSpec.ofChange Rows.authRawSpec) :=
  OpenClaim.holds_of_wide 6 Try.f6 rfl rfl rfl rfl rfl rfl rfl ⟨rfl, rfl, rfl, rfl, rfl⟩ rfl rfl rfl rfl rfl (by kernel_rfl) Try.func6 (by kernel_rfl)
    (of_decide_eq_true (by kernel_rfl)) (by unfold Func.isWrapper; first | (rw [if_pos (by decide +kernel)]; kernel_rfl) | (rw [if_neg (by decide +kernel)]; exact ⟨rfl, rfl⟩))
    (fun os started H enc _ => lifted os started H enc)
/-- the statement -/
theorem proved : Rows.AuthRawSaid :=
  over
#print axioms proved
end Go.Proofs.Ytigaolglnnjnmaa.authRaw
