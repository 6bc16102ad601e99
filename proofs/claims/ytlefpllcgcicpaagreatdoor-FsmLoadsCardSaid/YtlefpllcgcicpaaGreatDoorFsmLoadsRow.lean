/-
  The card of 'strongroom/strongroomlaw16.FsmLoads', proved.
-/
import Derived.Test.YtlefpllcgcicpaaGreatDoorRows
import Derived.Test.YtlefpllcgcicpaaGreatDoorCards
import Derived.Test.YtlefpllcgcicpaaGreatDoorTie
import Derived.Test.YtlefpllcgcicpaaGreatDoorFsLo
import Derived.Test.YtlefpllcgcicpaaGreatDoorSxOpen
import Derived.Test.YtlefpllcgcicpaaGreatDoorShell
import Derived.Test.YtlefpllcgcicpaaGreatDoorShellDoor
import Derived.WalkKit
import Derived.ProofKit
import Derived.OpenShut
import Derived.ShutString
import Derived.SizedLaws
import Derived.LaidMore
import Derived.Lay
import Derived.SevenTiedAt
import Derived.Stop.Joined
import Derived.Shelf.Vars
set_option linter.unusedVariables false
namespace Go.Proofs.YtlefpllcgcicpaaGreatDoor.fsmLoads
open Go.Sx Go.ChangeShapes Go.WideShapes Go.ChangeAt Go.RowKit
open Go.ChangeMaps (open_string shut_string)
set_option maxRecDepth 100000
theorem own : ownKnob Tryz.prog.godebug = none := by kernel_rfl
theorem laidOut : laidOutB Tryz.prog = true := by kernel_rfl
abbrev laidL : List (String × DataW Unit) := [("math/bits.deBruijn32tab", Rows.laid_math_bits_deBruijn32tab), ("math/bits.deBruijn64tab", Rows.laid_math_bits_deBruijn64tab), ("internal/strconv.uint64pow10", Rows.laid_internal_strconv_uint64pow10), ("unicode/utf8.acceptRanges", Rows.laid_unicode_utf8_acceptRanges), ("unicode/utf8.first", Rows.laid_unicode_utf8_first)]
theorem lifted (os : Os) (started : os.Started) (H : Type) (enc : TypeId × Value → H) :
 ReturnsInHanded {} Tryz.checked os 8 .any (fun w args => (Rows.fsmLoadsSpec.pre enc Tryz.prog Tryz.f8 Rows.fsmLoadsRow.domain false w args ∧ laidMetH Tryz.prog laidL w) ∧ sizedMet enc Tryz.prog Tryz.f8 (OpenSpec.ofChange Rows.fsmLoadsSpec) false w args) (Rows.fsmLoadsSpec.post enc Tryz.prog Tryz.f8 false true false false) := by
 refine returnsInHanded_laid_shaped (C := Tryz.checked) (X := fun w _ => laidMetH Tryz.prog laidL w) (fun _ _ _ hh h => h.of_heap hh) own started (by kernel_rfl) Tryz.func8
  (ChangeSpec.witness_shaped (enc := enc) (C := Tryz.checked) (os := os) (X := fun w _ => laidMetH Tryz.prog laidL w) false (World.laidAll Tryz.prog os laidL) #[(.slice none 0 0), (.slice none 0 0), (.int .i64 0), (.int .u8 0)] 8 (World.laidAll_os _ _ _)
   (World.shaped_of_ZipB (by kernel_rfl) (by kernel_rfl)) (by kernel_rfl) (by kernel_rfl) (by kernel_rfl)
   (by rw [MakeChecks.laidMetH_plain _ _ _ (by kernel_rfl)]; exact laidMet_laidAll _ (by kernel_rfl) (by kernel_rfl))) ?_
 intro W base args ds gs before hval0 hW hcnd hsz0 _ hshp _; have hsz : (DataW.weightsEach Tryz.prog (Tryz.f8.params.toList ++ Rows.fsmLoadsSpec.plain.varTypes Tryz.prog) (ds ++ gs)).all (· ≤ reachBytes) = true := hsz0
 clear hsz0
 have hM : Ml (ro W) := fun w R s => by
  obtain ⟨m, hm⟩ := Go.Proofs.cell_of_shapedOpen_int (g := 0) (zero := #[.int .i64 0]) (t := 3) hshp (zy2 (by kernel_rfl)) (by kernel_rfl) rfl (by kernel_rfl) (by kernel_rfl) Tryz.underlying3
  exact ⟨m, ro_cell s hm⟩
 clear hshp; have hval : ∀ (j : Nat) t v, Tryz.f8.params[j]? = some t → args[j]? = some v → Value.okWide Tryz.prog W .any base t v := hval0
 have hW' := hW
 obtain ⟨p, q, hA0, hV, rfl, hfz, hnd⟩ := hW
 have hA : DataW.TrodAll enc Tryz.prog W 0 (fun _ => true) true Tryz.f8.params.toList args.toList ds p := hA0
 rw [Tryz.params8] at hA hval hsz; obtain ⟨v0, vs0, d0, ds0, p0, q0, hargs, rfl, rfl, h0, r0⟩ := trodAll_cons hA
 obtain ⟨v1, vs1, d1, ds1, p1, q1, rfl, rfl, rfl, h1, r1⟩ := trodAll_cons r0
 obtain ⟨v2, vs2, d2, ds2, p2, q2, rfl, rfl, rfl, h2, r2⟩ := trodAll_cons r1
 obtain ⟨v3, vs3, d3, ds3, p3, q3, rfl, rfl, rfl, h3, r3⟩ := trodAll_cons r2
 obtain ⟨rfl, rfl, rfl⟩ := trodAll_nil r3
 obtain rfl : args = #[v0, v1, v2, v3] := by cases args; simp_all
 obtain ⟨rfl, rfl⟩ := trodVars_none hV
 have k0 := h0
 have lt0 : ∀ x ∈ p0, x.block < W.heap.size := by obtain ⟨m, hm⟩ := k0; exact DataW.trod_lt m _ _ _ hm
 have k1 := h1
 have lt1 : ∀ x ∈ p1, x.block < W.heap.size := by obtain ⟨m, hm⟩ := k1; exact DataW.trod_lt m _ _ _ hm
 have k2 := h2
 have lt2 : ∀ x ∈ p2, x.block < W.heap.size := by obtain ⟨m, hm⟩ := k2; exact DataW.trod_lt m _ _ _ hm
 have k3 := h3
 have lt3 : ∀ x ∈ p3, x.block < W.heap.size := by obtain ⟨m, hm⟩ := k3; exact DataW.trod_lt m _ _ _ hm
 obtain ⟨a0, l0, c0, rfl, hv0, hd0⟩ := open_bytes Tryz.underlying25 Tryz.underlying5 (by kernel_rfl) (hval 0 25 v0 rfl rfl) h0
 have sz0 : l0.length ≤ 140737488351232 := by
  rcases hd0 with ⟨rfl, rfl⟩ | ⟨el, re, rfl, hle⟩
  ·simp
  ·have h := sized_slice hsz (j := 0) (t := 25) (e := 5) rfl rfl Tryz.underlying25
   rw [show Tryz.prog.bytesOf 5 = 1 by kernel_rfl] at h; simp only [reachBytes] at h; omega
 have cp0 : l0.length ≤ c0 := okWide_cap Tryz.underlying25 (hval 0 25 _ rfl rfl)
 obtain ⟨s1, rfl, ok1⟩ := open_arg_slice Tryz.underlying43 (opens_slice Tryz.underlying43 17 Aq.len (by kernel_rfl) (by decide) op_aq) (hval 1 43 v1 rfl rfl) h1
 have lq1 : s1.l.length ≤ 9223372036854775807 := by have h1 := ok1.cap; have h2 := ok1.max; simp only [maxLen] at h2; omega
 obtain ⟨a2, rfl, rfl, rfl, w2⟩ := open_int Tryz.underlying3 (hval 2 3 v2 rfl rfl) h2
 have wc2 : -9223372036854775808 ≤ a2 ∧ a2 ≤ 9223372036854775807 := by
  have h1 : IntKind.i64.min = -9223372036854775808 := rfl
  have h2 : IntKind.i64.max = 9223372036854775807 := rfl
  simp only [Lit.wf, Bool.and_eq_true, decide_eq_true_eq] at w2; omega
 obtain ⟨a3, rfl, rfl, rfl, w3⟩ := open_int Tryz.underlying5 (hval 3 5 v3 rfl rfl) h3
 obtain ⟨t3, rfl, ht3⟩ := wf_nat w3 (m := 255) rfl rfl
 obtain ⟨b3, rfl⟩ : ∃ b : UInt8, b.toNat = t3 := ⟨UInt8.ofNat t3, by simp; omega⟩
 clear hA0 hval0; refine (calls_of_tri (tri_mem (floads_run (ro W) hM a0 c0 l0 hv0 cp0 s1.p s1.c s1.l ok1.vw lq1 (fun x hx => ok1.all x hx) a2 b3))).mono fun e W' ⟨he, hs⟩ => ?_
 subst he; exact ⟨_, rfl, _, _, _, [], _, [], hW', trodAll_mk1 (shut_bool Tryz.underlying4 _), (trodAll_cons_mk (ro_trod laidOut (by kernel_rfl) (zy2 (by kernel_rfl)) k0 hs lt0) (trodAll_cons_mk (ro_trod laidOut (by kernel_rfl) (zy2 (by kernel_rfl)) k1 hs lt1) (trodAll_cons_mk (ro_trod laidOut (by kernel_rfl) (zy2 (by kernel_rfl)) k2 hs lt2) (trodAll_cons_mk (ro_trod laidOut (by kernel_rfl) (zy2 (by kernel_rfl)) k3 hs lt3) trodAll_mk0)))), rfl, ro_frame hs _, fun h => by cases h⟩
theorem yE : Rows.fsmLoadsRow.holds Tryz.pinned (OpenSpec.ofChange Rows.fsmLoadsSpec) :=
 OpenClaim.holds_of_wide 8 Tryz.f8 rfl rfl rfl rfl rfl rfl rfl ⟨rfl, rfl, rfl, rfl, rfl⟩ rfl rfl rfl rfl rfl (by kernel_rfl) Tryz.func8 (by kernel_rfl)
  (zy2 (by kernel_rfl)) (by unfold Func.isWrapper; first | (rw [if_pos (by decide +kernel)]; kernel_rfl) | (rw [if_neg (by decide +kernel)]; exact ⟨rfl, rfl⟩))
  (fun os started H enc _ => lifted os started H enc)
/-- the statement -/
theorem proved : Rows.FsmLoadsCardSaid :=
 Claim7.holds_tied_plain_at .later [] [.data, .data, .data, .data, .pinned] true (true, "1190252d3054ffe026a995946064ce46e2fa1c5cbd58be471b838f5ef1fbb0ed") false yE (fun _ h => by cases h) (by kernel_rfl) (fun _ h => by cases h) fsmLoads_row_tie rfl ⟨rfl, rfl⟩ (by kernel_rfl) rfl
  (fun f fn hf hfn => by
   obtain rfl : f = 8 := Option.some.inj ((show Tryz.prog.funcNamed "strongroom/strongroomlaw16.FsmLoads" = some 8 by kernel_rfl).symm.trans hf) |>.symm
   obtain rfl : fn = Tryz.f8 := (Option.some.inj (Tryz.func8.symm.trans hfn)).symm
   exact ⟨by kernel_rfl, fun j t ht => by
    rw [Tryz.params8] at ht; have hm : t ∈ [25, 43, 3, 5] := by simpa using Array.mem_of_getElem? ht
    have hall : ([25, 43, 3, 5].all fun u => !Tryz.prog.wantsStandIn u) = true := by kernel_rfl
    exact (show Tryz.prog.wantsStandIn t = false by simpa using List.all_eq_true.1 hall t hm)⟩)
  (by kernel_rfl)
#print axioms proved
end Go.Proofs.YtlefpllcgcicpaaGreatDoor.fsmLoads
