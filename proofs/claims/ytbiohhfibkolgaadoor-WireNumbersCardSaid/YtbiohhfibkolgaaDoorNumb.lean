/-
  The walk of WireNumbers.
-/
import Derived.Test.YtbiohhfibkolgaaDoorLawD
import Derived.Test.YtbiohhfibkolgaaDoorNames
import Derived.Test.YtbiohhfibkolgaaDoorSxOpen
namespace Go.Proofs.YtbiohhfibkolgaaDoor
open Go.Sx
set_option linter.unusedVariables false
set_option linter.unusedSimpArgs false
set_option maxRecDepth 100000
set_option maxHeartbeats 4000000

abbrev SV.cs (s : Slv UInt8) : List Value := [s.v]
theorem SV.len (s : Slv UInt8) : (SV.cs s).length = 1 := rfl
def Nc.cs (n : Nat) : List Value := [.int .u64 (n : Int)]
theorem Nc.len (n : Nat) : (Nc.cs n).length = 1 := rfl
def nums : List Nat := [0, 1, 2, 5, 9, 4294967293]
def tbl (b11 b12 b13 b14 b15 b16 b17 b18 b19 b20 b21 b22 b23 b24 b25 : Nat) : List (Slv UInt8) := [⟨none, 0, []⟩, ⟨some ⟨b11, 0, none⟩, 3, [0, 0, 0]⟩, ⟨some ⟨b12, 0, none⟩, 4, [0, 0, 0, 0]⟩, ⟨some ⟨b13, 0, none⟩, 4, [0, 0, 0, 1]⟩, ⟨some ⟨b14, 0, none⟩, 5, [0, 0, 0, 1, 0]⟩, ⟨some ⟨b15, 0, none⟩, 5, [0, 0, 0, 1, 128]⟩, ⟨some ⟨b16, 0, none⟩, 6, [0, 0, 0, 2, 0, 1]⟩, ⟨some ⟨b17, 0, none⟩, 6, [0, 0, 0, 2, 0, 128]⟩, ⟨some ⟨b18, 0, none⟩, 8, [0, 0, 0, 4, 97, 44, 44, 98]⟩, ⟨some ⟨b19, 0, none⟩, 6, [0, 0, 0, 2, 97, 44]⟩, ⟨some ⟨b20, 0, none⟩, 7, [0, 0, 0, 3, 97, 44, 98]⟩, ⟨some ⟨b21, 0, none⟩, 5, [0, 0, 0, 1, 32]⟩, ⟨some ⟨b22, 0, none⟩, 5, [0, 0, 0, 1, 127]⟩, ⟨some ⟨b23, 0, none⟩, 4, [0, 0, 3, 233]⟩, ⟨some ⟨b24, 0, none⟩, 5, [255, 255, 255, 255, 1]⟩, ⟨some ⟨b25, 0, none⟩, 10, [7, 1, 2, 3, 4, 5, 6, 7, 8, 9]⟩]
def rws (b11 b12 b13 b14 b15 b16 b17 b18 b19 b20 b21 b22 b23 b24 b25 b26 : Nat) : List HProp := [row 28 1 (.slice (some ⟨b26, 0, none⟩) 16 16) 16 (flat SV.cs (tbl b11 b12 b13 b14 b15 b16 b17 b18 b19 b20 b21 b22 b23 b24 b25)), row 5 1 (.slice (some ⟨b25, 0, none⟩) 10 10) 10 (cel [7, 1, 2, 3, 4, 5, 6, 7, 8, 9]), row 5 1 (.slice (some ⟨b24, 0, none⟩) 5 5) 5 (cel [255, 255, 255, 255, 1]), row 5 1 (.slice (some ⟨b23, 0, none⟩) 4 4) 4 (cel [0, 0, 3, 233]), row 5 1 (.slice (some ⟨b22, 0, none⟩) 5 5) 5 (cel [0, 0, 0, 1, 127]), row 5 1 (.slice (some ⟨b21, 0, none⟩) 5 5) 5 (cel [0, 0, 0, 1, 32]), row 5 1 (.slice (some ⟨b20, 0, none⟩) 7 7) 7 (cel [0, 0, 0, 3, 97, 44, 98]), row 5 1 (.slice (some ⟨b19, 0, none⟩) 6 6) 6 (cel [0, 0, 0, 2, 97, 44]), row 5 1 (.slice (some ⟨b18, 0, none⟩) 8 8) 8 (cel [0, 0, 0, 4, 97, 44, 44, 98]), row 5 1 (.slice (some ⟨b17, 0, none⟩) 6 6) 6 (cel [0, 0, 0, 2, 0, 128]), row 5 1 (.slice (some ⟨b16, 0, none⟩) 6 6) 6 (cel [0, 0, 0, 2, 0, 1]), row 5 1 (.slice (some ⟨b15, 0, none⟩) 5 5) 5 (cel [0, 0, 0, 1, 128]), row 5 1 (.slice (some ⟨b14, 0, none⟩) 5 5) 5 (cel [0, 0, 0, 1, 0]), row 5 1 (.slice (some ⟨b13, 0, none⟩) 4 4) 4 (cel [0, 0, 0, 1]), row 5 1 (.slice (some ⟨b12, 0, none⟩) 4 4) 4 (cel [0, 0, 0, 0]), row 5 1 (.slice (some ⟨b11, 0, none⟩) 3 3) 3 (cel [0, 0, 0])]
theorem evp_cons {Γ : Env} {k : Nat} {x : Operand} {v : Value} {ps : List (Nat × Operand)} {vs : List (Nat × Value)} (h : ev Γ x = some v) (h2 : evp Γ ps = some vs) : evp Γ ((k, x) :: ps) = some ((k, v) :: vs) := by unfold evp; rw [h, h2]
theorem Ml.sub {U V : HProp} (h : ∀ w F, sat w (star (St [U]) F) → sat w (star (St [V]) F)) (hM : Ml V) : Ml U := fun w R s => by
  have h1 := h w R (by rw [St_cons, St_nil, star_emp]; exact s)
  rw [St_cons, St_nil, star_emp] at h1
  exact hM w R h1
theorem pack {L : List HProp} {w : World} {F : HProp} (s : sat w (star (St L) F)) : sat w (star (St [St L]) F) := by rw [St_cons, St_nil, star_emp]; exact s
theorem unpack {L : List HProp} {w : World} {F : HProp} (s : sat w (star (St [St L]) F)) : sat w (star (St L) F) := by rw [St_cons, St_nil, star_emp] at s; exact s
theorem facts (V : HProp) (b11 b12 b13 b14 b15 b16 b17 b18 b19 b20 b21 b22 b23 b24 b25 b26 : Nat) : (∀ w F, sat w (star (St [St (rws b11 b12 b13 b14 b15 b16 b17 b18 b19 b20 b21 b22 b23 b24 b25 b26 ++ [V])]) F) → sat w (star (St [V]) F)) ∧ RdN (St (rws b11 b12 b13 b14 b15 b16 b17 b18 b19 b20 b21 b22 b23 b24 b25 b26 ++ [V])) b26 0 (flat SV.cs (tbl b11 b12 b13 b14 b15 b16 b17 b18 b19 b20 b21 b22 b23 b24 b25)) ∧
    ∀ s ∈ tbl b11 b12 b13 b14 b15 b16 b17 b18 b19 b20 b21 b22 b23 b24 b25, Vw (St (rws b11 b12 b13 b14 b15 b16 b17 b18 b19 b20 b21 b22 b23 b24 b25 b26 ++ [V])) s.v s.l.length (cel s.l) ∧ s.l.length ≤ s.c ∧ s.l.length ≤ 10 := by
  refine ⟨fun w F s => ?_, RdN.of_pick 0 rfl RdN.row, fun s hs => ?_⟩
  · exact SubH.trans (K := rws b11 b12 b13 b14 b15 b16 b17 b18 b19 b20 b21 b22 b23 b24 b25 b26 ++ [V]) (fun w F s => unpack s) (SubH.cons 16 rfl (SubH.nil _)) w F s
  · simp only [tbl, List.mem_cons, List.not_mem_nil, or_false] at hs
    rcases hs with rfl | rfl | rfl | rfl | rfl | rfl | rfl | rfl | rfl | rfl | rfl | rfl | rfl | rfl | rfl | rfl
    · exact ⟨Vw.nil _, by decide, by decide⟩
    · exact ⟨Vw.pick 15 rfl Vw.row, by simp, by simp⟩
    · exact ⟨Vw.pick 14 rfl Vw.row, by simp, by simp⟩
    · exact ⟨Vw.pick 13 rfl Vw.row, by simp, by simp⟩
    · exact ⟨Vw.pick 12 rfl Vw.row, by simp, by simp⟩
    · exact ⟨Vw.pick 11 rfl Vw.row, by simp, by simp⟩
    · exact ⟨Vw.pick 10 rfl Vw.row, by simp, by simp⟩
    · exact ⟨Vw.pick 9 rfl Vw.row, by simp, by simp⟩
    · exact ⟨Vw.pick 8 rfl Vw.row, by simp, by simp⟩
    · exact ⟨Vw.pick 7 rfl Vw.row, by simp, by simp⟩
    · exact ⟨Vw.pick 6 rfl Vw.row, by simp, by simp⟩
    · exact ⟨Vw.pick 5 rfl Vw.row, by simp, by simp⟩
    · exact ⟨Vw.pick 4 rfl Vw.row, by simp, by simp⟩
    · exact ⟨Vw.pick 3 rfl Vw.row, by simp, by simp⟩
    · exact ⟨Vw.pick 2 rfl Vw.row, by simp, by simp⟩
    · exact ⟨Vw.pick 1 rfl Vw.row, by simp, by simp⟩
theorem wnumb_run (V : HProp) (hM : Ml V) : Tri Tryd.prog 5 [] [V] (fun v H' => v = .bool true ∧ H' = [V]) := by
  refine tri_of_wpS Tryd.func5 rfl Tryd.ntmps5 (by simp) ?_
  refine wp_seq' ?_
  refine wp_region' ?_
  refine ops_ro' rfl (ro_assign rfl) rfl ?_
  refine ops_nil ?_
  refine Then_normal ?_
  refine wp_seq' ?_
  refine wp_seq' ?_
  refine wp_region' ?_
  refine ops_eff' rfl (eff_lit sl28 rfl (sbld (cs := cel [0, 0, 0]) (List.replicate 3 (.int .u8 0)) sl28 (by decide) (by kernel_rfl) rfl) rfl (by decide)) rfl ?_
  rintro _ _ ⟨b11, rfl, rfl⟩
  refine ops_eff' rfl (eff_lit sl28 rfl (sbld (cs := cel [0, 0, 0, 0]) (List.replicate 4 (.int .u8 0)) sl28 (by decide) (by kernel_rfl) rfl) rfl (by decide)) rfl ?_
  rintro _ _ ⟨b12, rfl, rfl⟩
  refine ops_eff' rfl (eff_lit sl28 rfl (sbld (cs := cel [0, 0, 0, 1]) (List.replicate 4 (.int .u8 0)) sl28 (by decide) (by kernel_rfl) rfl) rfl (by decide)) rfl ?_
  rintro _ _ ⟨b13, rfl, rfl⟩
  refine ops_eff' rfl (eff_lit sl28 rfl (sbld (cs := cel [0, 0, 0, 1, 0]) (List.replicate 5 (.int .u8 0)) sl28 (by decide) (by kernel_rfl) rfl) rfl (by decide)) rfl ?_
  rintro _ _ ⟨b14, rfl, rfl⟩
  refine ops_eff' rfl (eff_lit sl28 rfl (sbld (cs := cel [0, 0, 0, 1, 128]) (List.replicate 5 (.int .u8 0)) sl28 (by decide) (by kernel_rfl) rfl) rfl (by decide)) rfl ?_
  rintro _ _ ⟨b15, rfl, rfl⟩
  refine ops_eff' rfl (eff_lit sl28 rfl (sbld (cs := cel [0, 0, 0, 2, 0, 1]) (List.replicate 6 (.int .u8 0)) sl28 (by decide) (by kernel_rfl) rfl) rfl (by decide)) rfl ?_
  rintro _ _ ⟨b16, rfl, rfl⟩
  refine ops_eff' rfl (eff_lit sl28 rfl (sbld (cs := cel [0, 0, 0, 2, 0, 128]) (List.replicate 6 (.int .u8 0)) sl28 (by decide) (by kernel_rfl) rfl) rfl (by decide)) rfl ?_
  rintro _ _ ⟨b17, rfl, rfl⟩
  refine ops_eff' rfl (eff_lit sl28 rfl (sbld (cs := cel [0, 0, 0, 4, 97, 44, 44, 98]) (List.replicate 8 (.int .u8 0)) sl28 (by decide) (by kernel_rfl) rfl) rfl (by decide)) rfl ?_
  rintro _ _ ⟨b18, rfl, rfl⟩
  refine ops_eff' rfl (eff_lit sl28 rfl (sbld (cs := cel [0, 0, 0, 2, 97, 44]) (List.replicate 6 (.int .u8 0)) sl28 (by decide) (by kernel_rfl) rfl) rfl (by decide)) rfl ?_
  rintro _ _ ⟨b19, rfl, rfl⟩
  refine ops_eff' rfl (eff_lit sl28 rfl (sbld (cs := cel [0, 0, 0, 3, 97, 44, 98]) (List.replicate 7 (.int .u8 0)) sl28 (by decide) (by kernel_rfl) rfl) rfl (by decide)) rfl ?_
  rintro _ _ ⟨b20, rfl, rfl⟩
  refine ops_eff' rfl (eff_lit sl28 rfl (sbld (cs := cel [0, 0, 0, 1, 32]) (List.replicate 5 (.int .u8 0)) sl28 (by decide) (by kernel_rfl) rfl) rfl (by decide)) rfl ?_
  rintro _ _ ⟨b21, rfl, rfl⟩
  refine ops_eff' rfl (eff_lit sl28 rfl (sbld (cs := cel [0, 0, 0, 1, 127]) (List.replicate 5 (.int .u8 0)) sl28 (by decide) (by kernel_rfl) rfl) rfl (by decide)) rfl ?_
  rintro _ _ ⟨b22, rfl, rfl⟩
  refine ops_eff' rfl (eff_lit sl28 rfl (sbld (cs := cel [0, 0, 3, 233]) (List.replicate 4 (.int .u8 0)) sl28 (by decide) (by kernel_rfl) rfl) rfl (by decide)) rfl ?_
  rintro _ _ ⟨b23, rfl, rfl⟩
  refine ops_eff' rfl (eff_lit sl28 rfl (sbld (cs := cel [255, 255, 255, 255, 1]) (List.replicate 5 (.int .u8 0)) sl28 (by decide) (by kernel_rfl) rfl) rfl (by decide)) rfl ?_
  rintro _ _ ⟨b24, rfl, rfl⟩
  refine ops_eff' rfl (eff_lit sl28 rfl (sbld (cs := cel [7, 1, 2, 3, 4, 5, 6, 7, 8, 9]) (List.replicate 10 (.int .u8 0)) sl28 (by decide) (by kernel_rfl) rfl) rfl (by decide)) rfl ?_
  rintro _ _ ⟨b25, rfl, rfl⟩
  refine ops_eff' rfl (eff_lit sl56 (evp_cons rfl (evp_cons rfl (evp_cons rfl (evp_cons rfl (evp_cons rfl (evp_cons rfl (evp_cons rfl (evp_cons rfl (evp_cons rfl (evp_cons rfl (evp_cons rfl (evp_cons rfl (evp_cons rfl (evp_cons rfl (evp_cons rfl (evp_cons rfl (rfl))))))))))))))))) (sbld (cs := [.slice none 0 0, .slice (some ⟨b11, 0, none⟩) 3 3, .slice (some ⟨b12, 0, none⟩) 4 4, .slice (some ⟨b13, 0, none⟩) 4 4, .slice (some ⟨b14, 0, none⟩) 5 5, .slice (some ⟨b15, 0, none⟩) 5 5, .slice (some ⟨b16, 0, none⟩) 6 6, .slice (some ⟨b17, 0, none⟩) 6 6, .slice (some ⟨b18, 0, none⟩) 8 8, .slice (some ⟨b19, 0, none⟩) 6 6, .slice (some ⟨b20, 0, none⟩) 7 7, .slice (some ⟨b21, 0, none⟩) 5 5, .slice (some ⟨b22, 0, none⟩) 5 5, .slice (some ⟨b23, 0, none⟩) 4 4, .slice (some ⟨b24, 0, none⟩) 5 5, .slice (some ⟨b25, 0, none⟩) 10 10]) (List.replicate 16 (.slice none 0 0)) sl56 (by decide) (by kernel_rfl) (by kernel_rfl)) rfl (by decide)) rfl ?_
  rintro _ _ ⟨b26, rfl, rfl⟩
  refine ops_ro' rfl (ro_sliceLen Tryd.underlying56 rfl) rfl ?_
  refine ops_ro' rfl (ro_move rfl) rfl ?_
  refine ops_nil ?_
  refine Then_normal ?_
  refine wp_block' ?_
  refine wp_heap (H' := [St (rws b11 b12 b13 b14 b15 b16 b17 b18 b19 b20 b21 b22 b23 b24 b25 b26 ++ [V])]) (fun w F s => pack s) ?_
  obtain ⟨hUV, hUt, hUs⟩ := facts V b11 b12 b13 b14 b15 b16 b17 b18 b19 b20 b21 b22 b23 b24 b25 b26
  have hMU := Ml.sub hUV hM
  generalize St (rws b11 b12 b13 b14 b15 b16 b17 b18 b19 b20 b21 b22 b23 b24 b25 b26 ++ [V]) = U at *
  generalize htb : tbl b11 b12 b13 b14 b15 b16 b17 b18 b19 b20 b21 b22 b23 b24 b25 = tb at *
  have hlen : tb.length = 16 := by rw [← htb]; rfl
  clear htb
  refine wp_loopK 2 (fun m Δ LL => ∃ (i : Nat), (i + m = 16) ∧ Δ = [(28, .int .i64 (i : Nat))] ∧ LL = [U]) (m := 16) (Has.cons (k := 26) rfl (Has.cons (k := 27) rfl (Has.nil _))) (kept ⟨0, by omega, rfl, rfl⟩ (by repeat (first | exact Has.nil _ | refine Has.cons rfl ?_)) (by repeat (first | exact Has.nil _ | refine Has.cons rfl ?_)) (by repeat (first | exact SubH.nil _ | refine SubH.cons 0 rfl ?_ | refine SubH.cons 1 rfl ?_ | refine SubH.cons 2 rfl ?_ | refine SubH.cons 3 rfl ?_ | refine SubH.cons 4 rfl ?_ | refine SubH.cons 5 rfl ?_ | refine SubH.cons 6 rfl ?_ | refine SubH.cons 7 rfl ?_ | refine SubH.cons 8 rfl ?_ | refine SubH.cons 9 rfl ?_ | refine SubH.cons 10 rfl ?_ | refine SubH.cons 11 rfl ?_ | refine SubH.cons 12 rfl ?_ | refine SubH.cons 13 rfl ?_ | refine SubH.rown ?_))) ?_
  rintro m Δ LL ⟨i, hm, rfl, rfl⟩
  simp only [List.cons_append, List.nil_append]
  refine wp_seq' ?_
  refine wp_region' ?_
  refine ops_ro' rfl (ro_lss rfl rfl rfl) rfl ?_
  refine ops_nil ?_
  refine Then_normal ?_
  refine wp_seq' ?_
  refine wp_cond' rfl (fun hc29 => ?_) (fun hc29 => ?_)
  · replace hc29 := of_decide_eq_true hc29
    have hi : i < tb.length := by omega
    obtain ⟨hv, hcap, hsz⟩ := hUs tb[i] (List.getElem_mem hi)
    generalize hgi : tb[i] = s at *
    refine wp_skip' ?_
    refine Then_normal ?_
    refine wp_seq' ?_
    refine wp_block' ?_
    refine wp_seq' ?_
    refine wp_region' ?_
    refine ops_ro' rfl (ro_indexSlice sl56 rfl rfl rfl (by omega)) rfl ?_
    refine ops_ro' rfl (ro_load sc28 rfl (Rd.pick 0 rfl (Rd.elem (j := 0) hUt SV.len (by rw [List.getElem?_eq_getElem hi, hgi]) rfl))) rfl ?_
    refine ops_ro' rfl (ro_assign rfl) rfl ?_
    refine ops_nil ?_
    refine Then_normal ?_
    refine wp_seq' ?_
    refine wp_region' ?_
    refine ops_ro' rfl (ro_assign rfl) rfl ?_
    refine ops_nil ?_
    refine Then_normal ?_
    refine wp_block' ?_
    refine wp_loopK 5 (fun m Δ LL => ∃ (k : Nat), (k + m = 11 ∧ 1 ≤ k) ∧ Δ = [(3, .int .i64 (k : Nat))] ∧ LL = [U]) (m := 10) (Has.cons (k := 2) rfl (Has.cons (k := 26) rfl (Has.cons (k := 27) rfl (Has.cons (k := 28) rfl (Has.nil _))))) (kept ⟨1, ⟨by omega, by omega⟩, rfl, rfl⟩ (by repeat (first | exact Has.nil _ | refine Has.cons rfl ?_)) (by repeat (first | exact Has.nil _ | refine Has.cons rfl ?_)) (by repeat (first | exact SubH.nil _ | refine SubH.cons 0 rfl ?_ | refine SubH.cons 1 rfl ?_ | refine SubH.cons 2 rfl ?_ | refine SubH.cons 3 rfl ?_ | refine SubH.cons 4 rfl ?_ | refine SubH.cons 5 rfl ?_ | refine SubH.cons 6 rfl ?_ | refine SubH.cons 7 rfl ?_ | refine SubH.cons 8 rfl ?_ | refine SubH.cons 9 rfl ?_ | refine SubH.cons 10 rfl ?_ | refine SubH.cons 11 rfl ?_ | refine SubH.cons 12 rfl ?_ | refine SubH.cons 13 rfl ?_ | refine SubH.rown ?_))) ?_
    rintro m2 Δ LL ⟨k, ⟨hm2, hk1⟩, rfl, rfl⟩
    simp only [List.cons_append, List.nil_append]
    refine wp_seq' ?_
    refine wp_seq' ?_
    refine wp_region' ?_
    refine ops_ro' rfl (ro_move rfl) rfl ?_
    refine ops_ro' rfl (ro_leq rfl rfl rfl) rfl ?_
    refine ops_nil ?_
    refine Then_normal ?_
    refine wp_cond' rfl (fun hc33 => ?_) (fun hc33 => ?_)
    · replace hc33 := of_decide_eq_true hc33
      refine wp_skip' ?_
      refine Then_normal ?_
      refine wp_seq' ?_
      refine wp_block' ?_
      refine wp_seq' ?_
      refine wp_region' ?_
      refine ops_eff' rfl (eff_lit sl57 rfl (sbld (cs := flat Nc.cs nums) (List.replicate 6 (.int .u64 0)) sl57 (by decide) (by kernel_rfl) rfl) rfl (by decide)) rfl ?_
      rintro _ _ ⟨b36, rfl, rfl⟩
      refine ops_ro' rfl (ro_sliceLen Tryd.underlying57 rfl) rfl ?_
      refine ops_ro' rfl (ro_move rfl) rfl ?_
      refine ops_nil ?_
      refine Then_normal ?_
      refine wp_block' ?_
      refine wp_loopK 8 (fun m Δ LL => ∃ (j : Nat), (j + m = 6) ∧ Δ = [(38, .int .i64 (j : Nat))] ∧ LL = [row 38 1 (.slice (some ⟨b36, 0, none⟩) 6 6) 6 (flat Nc.cs nums), U]) (m := 6) (Has.cons (k := 2) rfl (Has.cons (k := 3) rfl (Has.cons (k := 26) rfl (Has.cons (k := 27) rfl (Has.cons (k := 28) rfl (Has.cons (k := 36) rfl (Has.cons (k := 37) rfl (Has.nil _)))))))) (kept ⟨0, by omega, rfl, rfl⟩ (by repeat (first | exact Has.nil _ | refine Has.cons rfl ?_)) (by repeat (first | exact Has.nil _ | refine Has.cons rfl ?_)) (by repeat (first | exact SubH.nil _ | refine SubH.cons 0 rfl ?_ | refine SubH.cons 1 rfl ?_ | refine SubH.cons 2 rfl ?_ | refine SubH.cons 3 rfl ?_ | refine SubH.cons 4 rfl ?_ | refine SubH.cons 5 rfl ?_ | refine SubH.cons 6 rfl ?_ | refine SubH.cons 7 rfl ?_ | refine SubH.cons 8 rfl ?_ | refine SubH.cons 9 rfl ?_ | refine SubH.cons 10 rfl ?_ | refine SubH.cons 11 rfl ?_ | refine SubH.cons 12 rfl ?_ | refine SubH.cons 13 rfl ?_ | refine SubH.rown ?_))) ?_
      rintro m3 Δ LL ⟨j, hm3, rfl, rfl⟩
      simp only [List.cons_append, List.nil_append]
      refine wp_seq' ?_
      refine wp_region' ?_
      refine ops_ro' rfl (ro_lss rfl rfl rfl) rfl ?_
      refine ops_nil ?_
      refine Then_normal ?_
      refine wp_seq' ?_
      refine wp_cond' rfl (fun hc39 => ?_) (fun hc39 => ?_)
      · replace hc39 := of_decide_eq_true hc39
        have hj : j < nums.length := by show _ < 6; omega
        refine wp_skip' ?_
        refine Then_normal ?_
        refine wp_seq' ?_
        refine wp_block' ?_
        refine wp_seq' ?_
        refine wp_region' ?_
        refine ops_ro' rfl (ro_indexSlice sl57 rfl rfl rfl (by omega)) rfl ?_
        refine ops_ro' rfl (ro_load sc38 rfl (Rd.pick 0 rfl (Rd.elem (j := 0) (RdN.row) Nc.len (List.getElem?_eq_getElem hj) rfl))) rfl ?_
        refine ops_ro' rfl (ro_assign rfl) rfl ?_
        refine ops_nil ?_
        refine Then_normal ?_
        refine wp_seq' ?_
        refine wp_region' ?_
        refine ops_ro' rfl (ro_move rfl) rfl ?_
        refine ops_eff' rfl (eff_call Tryd.call11 rfl rfl (by repeat (first | exact Split.nil _ | apply Split.cons 0 rfl | apply Split.cons 1 rfl | apply Split.cons 2 rfl | apply Split.cons 3 rfl | apply Split.cons 4 rfl | apply Split.cons 5 rfl | apply Split.cons 6 rfl | apply Split.cons 7 rfl | apply Split.cons 8 rfl | apply Split.cons 9 rfl | apply Split.cons 10 rfl | apply Split.cons 11 rfl)) (newReader_spec U s.p s.c s.l hv (by omega))) rfl ?_
        rintro _ H' ⟨_, ⟨pr, p2, c2, rfl, rfl⟩, hH⟩
        simp only [List.cons_append, List.nil_append, List.eraseIdx_cons_zero, List.eraseIdx_cons_succ, List.set_cons_zero, List.set_cons_succ] at hH
        subst hH
        have hg0 := R.good_new s.l (by omega)
        have ho0 : R.On (R.new s.l) s.l := ⟨rfl, Nat.zero_le _⟩
        refine ops_ro' rfl (ro_assign rfl) rfl ?_
        refine ops_nil ?_
        refine Then_normal ?_
        refine wp_seq' ?_
        refine wp_region' ?_
        refine ops_ro' rfl (ro_move rfl) rfl ?_
        refine ops_ro' rfl (ro_build rfl (bld_struct (cs := [s.v, .int .i64 0, .bool false, .int .i64 0, .int .i64 0]) st60 rfl)) rfl ?_
        refine ops_eff' rfl (eff_box rfl) rfl ?_
        rintro _ _ ⟨b46, rfl, rfl⟩
        refine ops_ro' rfl (ro_assign rfl) rfl ?_
        refine ops_nil ?_
        refine Then_normal ?_
        refine wp_seq' ?_
        refine wp_sub' (L := rd pr p2 c2 (R.new s.l) ++ [rq b46 s.v (R.new s.l), row 38 1 (.slice (some ⟨b36, 0, none⟩) 6 6) 6 (flat Nc.cs nums), U]) (by show SubH _ _; rw [rq_no (show ((R.new s.l)).why = 0 from rfl)]; exact (by repeat (first | exact SubH.nil _ | refine SubH.cons 0 rfl ?_ | refine SubH.cons 1 rfl ?_ | refine SubH.cons 2 rfl ?_ | refine SubH.cons 3 rfl ?_ | refine SubH.cons 4 rfl ?_ | refine SubH.cons 5 rfl ?_ | refine SubH.cons 6 rfl ?_ | refine SubH.cons 7 rfl ?_ | refine SubH.cons 8 rfl ?_ | refine SubH.cons 9 rfl ?_ | refine SubH.cons 10 rfl ?_ | refine SubH.cons 11 rfl ?_ | refine SubH.cons 12 rfl ?_ | refine SubH.cons 13 rfl ?_ | refine SubH.rown ?_))) ?_
        refine wp_region' ?_
        refine ops_ro' rfl (ro_move rfl) rfl ?_
        refine ops_ro' rfl (ro_ptrEqlNil Tryd.underlying26 rfl rfl rfl) rfl ?_
        refine ops_ro' rfl (ro_move (v := .bool false) rfl) rfl ?_
        refine ops_ro' rfl (ro_move rfl) rfl ?_
        refine ops_ro' rfl (ro_move rfl) rfl ?_
        refine ops_ro' rfl (ro_move rfl) rfl ?_
        refine ops_ro' rfl (ro_move rfl) rfl ?_
        refine ops_ro' rfl (ro_build rfl (bld_struct (cs := Pt.cs ⟨k, nums[j], [], [], none, 0⟩) st40 rfl)) rfl ?_
        refine ops_eff' rfl (eff_call Tryd.call33 rfl rfl (by repeat (first | exact Split.nil _ | apply Split.cons 0 rfl | apply Split.cons 1 rfl | apply Split.cons 2 rfl | apply Split.cons 3 rfl | apply Split.cons 4 rfl | apply Split.cons 5 rfl | apply Split.cons 6 rfl | apply Split.cons 7 rfl | apply Split.cons 8 rfl | apply Split.cons 9 rfl | apply Split.cons 10 rfl | apply Split.cons 11 rfl)) (get1_spec hMU pr b46 p2 s.p c2 s.c s.l (R.new s.l) (R.new s.l) hg0 ⟨hv, hcap, by omega⟩ ho0 (.inl rfl) ⟨k, nums[j], [], [], none, 0⟩)) rfl ?_
        rintro _ H' ⟨_, ⟨rfl, r1', r2', hst, rfl⟩, hH⟩
        simp only [List.cons_append, List.nil_append, List.eraseIdx_cons_zero, List.eraseIdx_cons_succ, List.set_cons_zero, List.set_cons_succ] at hH
        subst hH
        obtain rfl := hst.same rfl
        refine ops_ro' rfl (ro_not rfl rfl) rfl ?_
        refine ops_ro' rfl (ro_pick rfl rfl) rfl ?_
        refine ops_ro' rfl (ro_move (v := .bool false) rfl) rfl ?_
        refine ops_ro' rfl (ro_move rfl) rfl ?_
        refine ops_ro' rfl (ro_move rfl) rfl ?_
        refine ops_eff' rfl (eff_call Tryd.call34 rfl rfl (by repeat (first | exact Split.nil _ | apply Split.cons 0 rfl | apply Split.cons 1 rfl | apply Split.cons 2 rfl | apply Split.cons 3 rfl | apply Split.cons 4 rfl | apply Split.cons 5 rfl | apply Split.cons 6 rfl | apply Split.cons 7 rfl | apply Split.cons 8 rfl | apply Split.cons 9 rfl | apply Split.cons 10 rfl | apply Split.cons 11 rfl)) (same1_spec pr b46 p2 s.p c2 s.c s.l r1' hst.good ⟨hv, hcap, by omega⟩ hst.on)) rfl ?_
        rintro _ H' ⟨_, ⟨rfl, rfl⟩, hH⟩
        simp only [List.cons_append, List.nil_append, List.eraseIdx_cons_zero, List.eraseIdx_cons_succ, List.set_cons_zero, List.set_cons_succ] at hH
        subst hH
        refine ops_ro' rfl (ro_not rfl rfl) rfl ?_
        refine ops_ro' rfl (ro_pick rfl rfl) rfl ?_
        refine ops_ro' rfl (ro_move (v := .bool false) rfl) rfl ?_
        refine ops_ro' rfl (ro_move rfl) rfl ?_
        refine ops_ro' rfl (ro_move rfl) rfl ?_
        refine ops_ro' rfl (ro_build rfl (bld_struct (cs := Pt.cs ⟨1, 0, [], [], none, 0⟩) st40 rfl)) rfl ?_
        refine ops_eff' rfl (eff_call Tryd.call33 rfl rfl (by repeat (first | exact Split.nil _ | apply Split.cons 0 rfl | apply Split.cons 1 rfl | apply Split.cons 2 rfl | apply Split.cons 3 rfl | apply Split.cons 4 rfl | apply Split.cons 5 rfl | apply Split.cons 6 rfl | apply Split.cons 7 rfl | apply Split.cons 8 rfl | apply Split.cons 9 rfl | apply Split.cons 10 rfl | apply Split.cons 11 rfl)) (get1_spec hMU pr b46 p2 s.p c2 s.c s.l r1' r1' hst.good ⟨hv, hcap, by omega⟩ hst.on (.inl rfl) ⟨1, 0, [], [], none, 0⟩)) rfl ?_
        rintro _ H' ⟨_, ⟨rfl, r3', r4', hst2, rfl⟩, hH⟩
        simp only [List.cons_append, List.nil_append, List.eraseIdx_cons_zero, List.eraseIdx_cons_succ, List.set_cons_zero, List.set_cons_succ] at hH
        subst hH
        obtain rfl := hst2.same rfl
        refine ops_ro' rfl (ro_not rfl rfl) rfl ?_
        refine ops_ro' rfl (ro_pick rfl rfl) rfl ?_
        refine ops_ro' rfl (ro_move (v := .bool false) rfl) rfl ?_
        refine ops_ro' rfl (ro_move rfl) rfl ?_
        refine ops_ro' rfl (ro_move rfl) rfl ?_
        refine ops_eff' rfl (eff_call Tryd.call34 rfl rfl (by repeat (first | exact Split.nil _ | apply Split.cons 0 rfl | apply Split.cons 1 rfl | apply Split.cons 2 rfl | apply Split.cons 3 rfl | apply Split.cons 4 rfl | apply Split.cons 5 rfl | apply Split.cons 6 rfl | apply Split.cons 7 rfl | apply Split.cons 8 rfl | apply Split.cons 9 rfl | apply Split.cons 10 rfl | apply Split.cons 11 rfl)) (same1_spec pr b46 p2 s.p c2 s.c s.l r3' hst2.good ⟨hv, hcap, by omega⟩ hst2.on)) rfl ?_
        rintro _ H' ⟨_, ⟨rfl, rfl⟩, hH⟩
        simp only [List.cons_append, List.nil_append, List.eraseIdx_cons_zero, List.eraseIdx_cons_succ, List.set_cons_zero, List.set_cons_succ] at hH
        subst hH
        refine ops_ro' rfl (ro_not rfl rfl) rfl ?_
        refine ops_ro' rfl (ro_pick rfl rfl) rfl ?_
        refine ops_nil ?_
        refine Then_normal ?_
        refine wp_condF rfl ?_
        refine wp_skip' ?_
        refine InBlock_normal ?_
        refine Then_normal ?_
        refine wp_region' ?_
        refine ops_ro' rfl (ro_add rfl rfl (wrap_inc (by omega))) rfl ?_
        refine ops_ro' rfl (ro_move rfl) rfl ?_
        refine ops_nil ?_
        refine Then_normal ?_
        refine back (m3 - 1) (by omega) (kept ⟨j + 1, by omega, rfl, rfl⟩ ?_ ?_ ?_)
        · exact (by repeat (first | exact Has.nil _ | refine Has.cons rfl ?_))
        · exact (by repeat (first | exact Has.nil _ | refine Has.cons rfl ?_))
        · exact (SubH.cons 4 rfl (SubH.cons 3 rfl (SubH.nil _)))
      · replace hc39 := of_decide_eq_false hc39
        refine wp_exit' ?_
        refine Then_exit ?_
        refine Then_exit ?_
        refine InBlock_here ?_
        refine InBlock_normal ?_
        refine Then_normal ?_
        refine wp_region' ?_
        refine ops_ro' rfl (ro_move rfl) rfl ?_
        refine ops_ro' rfl (ro_add rfl rfl (wrap_inc (by omega))) rfl ?_
        refine ops_ro' rfl (ro_assign rfl) rfl ?_
        refine ops_nil ?_
        refine Then_normal ?_
        refine back (m2 - 1) (by omega) (kept ⟨k + 1, ⟨by omega, by omega⟩, rfl, rfl⟩ ?_ ?_ ?_)
        · exact (by repeat (first | exact Has.nil _ | refine Has.cons rfl ?_))
        · exact (by repeat (first | exact Has.nil _ | refine Has.cons rfl ?_))
        · exact (SubH.cons 1 rfl (SubH.nil _))
    · replace hc33 := of_decide_eq_false hc33
      refine wp_exit' ?_
      refine Then_exit ?_
      refine Then_exit ?_
      refine InBlock_here ?_
      refine InBlock_normal ?_
      refine Then_normal ?_
      refine wp_region' ?_
      refine ops_ro' rfl (ro_add rfl rfl (wrap_inc (by omega))) rfl ?_
      refine ops_ro' rfl (ro_move rfl) rfl ?_
      refine ops_nil ?_
      refine Then_normal ?_
      refine back (m - 1) (by omega) (kept ⟨i + 1, by omega, rfl, rfl⟩ ?_ ?_ ?_)
      · exact (by repeat (first | exact Has.nil _ | refine Has.cons rfl ?_))
      · exact (by repeat (first | exact Has.nil _ | refine Has.cons rfl ?_))
      · exact SubH.refl _
  · replace hc29 := of_decide_eq_false hc29
    refine wp_heap hUV ?_
    refine wp_exit' ?_
    refine Then_exit ?_
    refine Then_exit ?_
    refine InBlock_here ?_
    refine Then_normal ?_
    refine wp_seq' ?_
    refine wp_region' ?_
    refine ops_eff' rfl (eff_lit sl28 rfl (sbld (cs := cel [1, 2]) (List.replicate 2 (.int .u8 0)) sl28 (by decide) (by kernel_rfl) rfl) rfl (by decide)) rfl ?_
    rintro _ _ ⟨b79, rfl, rfl⟩
    refine ops_eff' rfl (eff_call Tryd.call11 rfl rfl (by repeat (first | exact Split.nil _ | apply Split.cons 0 rfl | apply Split.cons 1 rfl | apply Split.cons 2 rfl | apply Split.cons 3 rfl | apply Split.cons 4 rfl | apply Split.cons 5 rfl | apply Split.cons 6 rfl | apply Split.cons 7 rfl | apply Split.cons 8 rfl | apply Split.cons 9 rfl | apply Split.cons 10 rfl | apply Split.cons 11 rfl)) (newReader_spec _ _ _ [1, 2] Vw.row (by decide))) rfl ?_
    rintro _ H' ⟨_, ⟨pr, p2, c2, rfl, rfl⟩, hH⟩
    simp only [List.cons_append, List.nil_append, List.eraseIdx_cons_zero, List.eraseIdx_cons_succ, List.set_cons_zero, List.set_cons_succ] at hH
    subst hH
    refine ops_ro' rfl (ro_assign rfl) rfl ?_
    refine ops_nil ?_
    refine Then_normal ?_
    refine wp_seq' ?_
    refine wp_seq' ?_
    refine wp_region' ?_
    refine ops_ro' rfl (ro_move rfl) rfl ?_
    refine ops_ro' rfl (ro_ptrEqlNil Tryd.underlying26 rfl rfl rfl) rfl ?_
    refine ops_nil ?_
    refine Then_normal ?_
    refine wp_condF rfl ?_
    refine wp_skip' ?_
    refine Then_normal ?_
    refine wp_seq' ?_
    refine wp_region' ?_
    refine ops_ro' rfl (ro_move rfl) rfl ?_
    refine ops_eff' rfl (eff_call Tryd.call25 rfl rfl (by repeat (first | exact Split.nil _ | apply Split.cons 0 rfl | apply Split.cons 1 rfl | apply Split.cons 2 rfl | apply Split.cons 3 rfl | apply Split.cons 4 rfl | apply Split.cons 5 rfl | apply Split.cons 6 rfl | apply Split.cons 7 rfl | apply Split.cons 8 rfl | apply Split.cons 9 rfl | apply Split.cons 10 rfl | apply Split.cons 11 rfl)) (rByte_spec pr p2 c2 (R.new [1, 2]) (R.good_new _ (by decide)))) rfl ?_
    rintro _ H' ⟨_, ⟨rfl, rfl⟩, hH⟩
    simp only [List.cons_append, List.nil_append, List.eraseIdx_cons_zero, List.eraseIdx_cons_succ, List.set_cons_zero, List.set_cons_succ] at hH
    subst hH
    refine ops_nil ?_
    refine Then_normal ?_
    refine wp_seq' ?_
    refine wp_region' ?_
    refine ops_ro' rfl (ro_move rfl) rfl ?_
    refine ops_eff' rfl (eff_call Tryd.call35 rfl rfl (by repeat (first | exact Split.nil _ | apply Split.cons 0 rfl | apply Split.cons 1 rfl | apply Split.cons 2 rfl | apply Split.cons 3 rfl | apply Split.cons 4 rfl | apply Split.cons 5 rfl | apply Split.cons 6 rfl | apply Split.cons 7 rfl | apply Split.cons 8 rfl | apply Split.cons 9 rfl | apply Split.cons 10 rfl | apply Split.cons 11 rfl)) (fail_spec pr p2 c2 ((R.new [1, 2]).get 1).1 0)) rfl ?_
    rintro _ H' ⟨_, ⟨rfl, rfl⟩, hH⟩
    simp only [List.cons_append, List.nil_append, List.eraseIdx_cons_zero, List.eraseIdx_cons_succ, List.set_cons_zero, List.set_cons_succ] at hH
    subst hH
    refine ops_nil ?_
    refine Then_normal ?_
    refine wp_seq' ?_
    refine wp_region' ?_
    refine ops_ro' rfl (ro_move rfl) rfl ?_
    refine ops_eff' rfl (eff_call Tryd.call35 rfl rfl (by repeat (first | exact Split.nil _ | apply Split.cons 0 rfl | apply Split.cons 1 rfl | apply Split.cons 2 rfl | apply Split.cons 3 rfl | apply Split.cons 4 rfl | apply Split.cons 5 rfl | apply Split.cons 6 rfl | apply Split.cons 7 rfl | apply Split.cons 8 rfl | apply Split.cons 9 rfl | apply Split.cons 10 rfl | apply Split.cons 11 rfl)) (fail_spec pr p2 c2 (((R.new [1, 2]).get 1).1.fail 0) 27)) rfl ?_
    rintro _ H' ⟨_, ⟨rfl, rfl⟩, hH⟩
    simp only [List.cons_append, List.nil_append, List.eraseIdx_cons_zero, List.eraseIdx_cons_succ, List.set_cons_zero, List.set_cons_succ] at hH
    subst hH
    refine ops_nil ?_
    refine Then_normal ?_
    refine wp_seq' ?_
    refine wp_region' ?_
    refine ops_ro' rfl (ro_move rfl) rfl ?_
    refine ops_eff' rfl (eff_call Tryd.call35 rfl rfl (by repeat (first | exact Split.nil _ | apply Split.cons 0 rfl | apply Split.cons 1 rfl | apply Split.cons 2 rfl | apply Split.cons 3 rfl | apply Split.cons 4 rfl | apply Split.cons 5 rfl | apply Split.cons 6 rfl | apply Split.cons 7 rfl | apply Split.cons 8 rfl | apply Split.cons 9 rfl | apply Split.cons 10 rfl | apply Split.cons 11 rfl)) (fail_spec pr p2 c2 ((((R.new [1, 2]).get 1).1.fail 0).fail 27) 23)) rfl ?_
    rintro _ H' ⟨_, ⟨rfl, rfl⟩, hH⟩
    simp only [List.cons_append, List.nil_append, List.eraseIdx_cons_zero, List.eraseIdx_cons_succ, List.set_cons_zero, List.set_cons_succ] at hH
    subst hH
    refine ops_nil ?_
    refine Then_normal ?_
    refine wp_seq' ?_
    refine wp_region' ?_
    refine ops_ro' rfl (ro_move rfl) rfl ?_
    refine ops_eff' rfl (eff_call Tryd.call14 rfl rfl (by repeat (first | exact Split.nil _ | apply Split.cons 0 rfl | apply Split.cons 1 rfl | apply Split.cons 2 rfl | apply Split.cons 3 rfl | apply Split.cons 4 rfl | apply Split.cons 5 rfl | apply Split.cons 6 rfl | apply Split.cons 7 rfl | apply Split.cons 8 rfl | apply Split.cons 9 rfl | apply Split.cons 10 rfl | apply Split.cons 11 rfl)) (end_spec pr p2 c2 (((((R.new [1, 2]).get 1).1.fail 0).fail 27).fail 23) (by decide) (by decide))) rfl ?_
    rintro _ H' ⟨_, ⟨rfl, rfl⟩, hH⟩
    simp only [List.cons_append, List.nil_append, List.eraseIdx_cons_zero, List.eraseIdx_cons_succ, List.set_cons_zero, List.set_cons_succ] at hH
    subst hH
    rw [show (((((R.new [1, 2]).get 1).1.fail 0).fail 27).fail 23).fin = ((27 : Int), (1 : Int)) by decide]
    refine ops_ro' rfl (ro_move rfl) rfl ?_
    refine ops_ro' rfl (ro_extract rfl rfl) rfl ?_
    refine ops_ro' rfl (ro_extract rfl rfl) rfl ?_
    refine ops_ro' rfl (ro_assign rfl) rfl ?_
    refine ops_ro' rfl (ro_assign rfl) rfl ?_
    refine ops_nil ?_
    refine Then_normal ?_
    refine wp_seq' ?_
    refine wp_region' ?_
    refine ops_ro' rfl (ro_move rfl) rfl ?_
    refine ops_ro' rfl (ro_eql rfl rfl (decide_eq_true (by omega))) rfl ?_
    refine ops_ro' rfl (ro_move (v := .bool true) rfl) rfl ?_
    refine ops_ro' rfl (ro_move rfl) rfl ?_
    refine ops_ro' rfl (ro_eql rfl rfl (decide_eq_true (by omega))) rfl ?_
    refine ops_ro' rfl (ro_pick rfl rfl) rfl ?_
    refine ops_ro' rfl (ro_move (v := .bool true) rfl) rfl ?_
    refine ops_ro' rfl (ro_move rfl) rfl ?_
    refine ops_eff' rfl (eff_call Tryd.call36 rfl rfl (by repeat (first | exact Split.nil _ | apply Split.cons 0 rfl | apply Split.cons 1 rfl | apply Split.cons 2 rfl | apply Split.cons 3 rfl | apply Split.cons 4 rfl | apply Split.cons 5 rfl | apply Split.cons 6 rfl | apply Split.cons 7 rfl | apply Split.cons 8 rfl | apply Split.cons 9 rfl | apply Split.cons 10 rfl | apply Split.cons 11 rfl)) (left_spec pr p2 c2 (((((R.new [1, 2]).get 1).1.fail 0).fail 27).fail 23) (by decide) (by decide))) rfl ?_
    rintro _ H' ⟨_, ⟨rfl, rfl⟩, hH⟩
    simp only [List.cons_append, List.nil_append, List.eraseIdx_cons_zero, List.eraseIdx_cons_succ, List.set_cons_zero, List.set_cons_succ] at hH
    subst hH
    rw [show (((((R.new [1, 2]).get 1).1.fail 0).fail 27).fail 23).left = 0 by decide]
    refine ops_ro' rfl (ro_eql rfl rfl (decide_eq_true (by omega))) rfl ?_
    refine ops_ro' rfl (ro_pick rfl rfl) rfl ?_
    refine ops_ro' rfl (ro_move (v := .bool true) rfl) rfl ?_
    refine ops_eff' rfl (eff_call Tryd.call15 rfl rfl (by repeat (first | exact Split.nil _ | apply Split.cons 0 rfl | apply Split.cons 1 rfl | apply Split.cons 2 rfl | apply Split.cons 3 rfl | apply Split.cons 4 rfl | apply Split.cons 5 rfl | apply Split.cons 6 rfl | apply Split.cons 7 rfl | apply Split.cons 8 rfl | apply Split.cons 9 rfl | apply Split.cons 10 rfl | apply Split.cons 11 rfl)) (known1_spec)) rfl ?_
    rintro _ H' ⟨_, ⟨rfl, rfl⟩, hH⟩
    simp only [List.cons_append, List.nil_append, List.eraseIdx_cons_zero, List.eraseIdx_cons_succ, List.set_cons_zero, List.set_cons_succ] at hH
    subst hH
    refine ops_ro' rfl (ro_pick rfl rfl) rfl ?_
    refine ops_ro' rfl (ro_assign rfl) rfl ?_
    refine ops_nil ?_
    refine Then_normal ?_
    refine wp_ret' ?_
    refine' doneS_ret (res1 rfl rfl) ?_ ?_
    rotate_left 1
    exact ⟨rfl, rfl⟩
    exact (SubH.cons 3 rfl (SubH.nil _))

end Go.Proofs.YtbiohhfibkolgaaDoor
