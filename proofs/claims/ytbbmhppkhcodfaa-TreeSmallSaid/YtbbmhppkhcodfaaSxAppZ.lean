/-
  So many noughts are appended to a row of one-cell elements, whether there is room or not.
-/
import Derived.Test.YtbbmhppkhcodfaaSxSub
namespace Go.Sx
set_option linter.unusedVariables false
set_option linter.unusedSimpArgs false
set_option maxRecDepth 100000
section
variable {P : Program} {n : Nat} {Γ : Env} {d : Option Tmp} {ty : TypeId} {pos : String} {aft : Array Edge} {g : Option (Nat × Bool)}
theorem run_appendZ {t t2 ty e : TypeId} {kk : IntKind} {bytes : Nat} {z : Value} (ht : Slc P t e 1 bytes z) (hz : z.cells = #[z]) (hz1 : z.oneCell' = true) (h2 : P.underlying t2 = some (.int kk))
    {p : Option Addr} {k c m : Nat} {xs : List Value} {R : HProp} (hb : (k + m) * bytes ≤ 140737488355328) (hmx : k + m ≤ maxLen) (hm : 0 < m) (w : World)
    (s : sat w (star (row e 1 (.slice p k c) k xs) R)) :
    ∃ p' c' w', (Builtin.append_ #[t, t2] ty #[.slice p k c, .int .i64 (m : Int)]).run P w = .ok (.slice p' (k + m) c') w' ∧ sat w' (star (row e 1 (.slice p' (k + m) c') (k + m) (xs ++ List.replicate m z)) R) := by
  obtain ⟨inf, i1, i2, i3, i4⟩ := ht.info
  have hsmall : k + m ≤ 9223372036854775807 := by simp only [maxLen] at hmx; omega
  have hmb : m * bytes ≤ 140737488355328 := Nat.le_trans (Nat.mul_le_mul_right _ (Nat.le_add_left m k)) hb
  have hwr : IntKind.i64.wrap (m : Int) = m := by rw [wrap_i64_in (by omega) (by omega)]
  have hmi : ¬ ((m : Int) < 0) := by omega
  have hmb' : ¬ ((m : Int) * (bytes : Int) > 281474976710656) := by
    have : ((m * bytes : Nat) : Int) ≤ ((140737488355328 : Nat) : Int) := Int.ofNat_le.2 hmb
    rw [Int.natCast_mul] at this; omega
  have hns : ¬ (9223372036854775807 < ((k : Int) + (m : Int))) := by omega
  have hm0 : ¬ (m = 0) := by omega
  have hc' : ∀ q, Builtin.zeroCells z.cells q = (List.replicate q z).toArray := fun q => by
    have h := zeroCells_one z q
    rw [hz, ← h]
  obtain ⟨hl, hr⟩ := sat_row s
  rcases hr with ⟨h1, rfl, rfl, s'⟩ | ⟨b, cap, cs, fr, h1, hnc, hcm, hcs, htk, hw, s'⟩
  · injection h1 with h1 _ h3; subst h1; subst h3
    have h48 : ¬ (281474976710656 < Builtin.nextslicecap (0 + m) 0 * bytes) := by have := growslice_fits (need := 0 + m) (old := 0) (bytes := bytes) (by omega) hb; omega
    have h48' : ¬ (281474976710656 < Builtin.nextslicecap m 0 * bytes) := by simpa using h48
    have hns' : ¬ (9223372036854775807 < (m : Int)) := by omega
    have hg := growCap_facts w (need := 0 + m) (old := 0) (e := e) hmx
    refine ⟨some ⟨w.heap.size, 0, none⟩, grownCap w (0 + m) 0 e, w.drew.alloc (.cells (List.replicate m z ++ List.replicate (grownCap w (0 + m) 0 e - (0 + m)) z).toArray e), ?_, ?_⟩
    · simp only [Nat.zero_add]; simp [Builtin.append_, run_underlying ht.und, run_underlying h2, sizeOf, typeInfo, zeroValue, i1, i2, i3, i4, asInt, asIntOf, hwr, hmi, hmb', hns', h48', hm0, Question.forced, run_firstCells_none, hc', newRow, grownCap]
    · simp only [zB]; refine row_mk (cs := List.replicate m z ++ List.replicate (grownCap w (0 + m) 0 e - (0 + m)) z) hg.1 hg.2 ?_ ?_ (warm_zero _) (sat_alloc (w := w) rfl s' rfl)
      · rw [List.length_append, List.length_replicate, List.length_replicate]; have := hg.1; omega
      · rw [List.take_append_of_le_length (by rw [List.length_replicate]; omega), List.take_of_length_le (by rw [List.length_replicate]; omega)]
  · injection h1 with h1 _ h3; subst h1; subst h3
    have hb' := sat_own (sat_star_left s')
    by_cases hroom : k + m ≤ c
    · obtain ⟨w', hst, hb2, hk, hx, _⟩ := run_storeCells_own (P := P) (List.replicate m z) 0 (k * 1) cs w hb' hw (by rw [List.length_replicate]; omega) (fun v hv => by rw [(List.mem_replicate.1 hv).2]; exact hz1)
      refine ⟨some ⟨b, 0, none⟩, c, w', ?_, ?_⟩
      · simp only [Nat.mul_one, Nat.add_zero] at hst; simp [Builtin.append_, run_underlying ht.und, run_underlying h2, sizeOf, typeInfo, zeroValue, i1, i2, i3, i4, asInt, asIntOf, hwr, hmi, hmb', hroom, hm0, hc', addr_add, hst]
      · simp only [Nat.add_zero] at hb2; refine row_mk hroom hcm (by rw [over_length (by rw [List.length_replicate]; omega), hcs]) ?_ (fun j hj => hw j (by rwa [over_length (by rw [List.length_replicate]; omega)] at hj)) (sat_set (w := w) hx s' hb2 hk); unfold over; rw [List.length_replicate, ← htk]; have e1 : (List.take (k * 1) cs ++ List.replicate m z).length = (k + m) * 1 := by rw [List.length_append, List.length_take, List.length_replicate, Nat.min_eq_left (by omega)]; omega
        rw [← e1]; exact List.take_left
    · have hn : ¬ (k + m ≤ c) := hroom
      have h48 : ¬ (281474976710656 < Builtin.nextslicecap (k + m) c * bytes) := by have := growslice_fits (need := k + m) (old := c) (bytes := bytes) (by omega) hb; omega
      have hold : (Builtin.firstCells 1 k (.slice (some ⟨b, 0, none⟩) k c)).run P w.drew = .ok xs.toArray w.drew := run_firstCells_some w.drew 1 k ⟨b, 0, none⟩ k c xs (by rw [hl]) (fun j u hj => by
        rw [addr_add, Nat.zero_add, World.cell?_drew, cell_of hb']; rw [← htk, List.getElem?_take] at hj
        split at hj
        · simpa using hj
        · cases hj)
      have hg := growCap_facts w (need := k + m) (old := c) (e := e) hmx
      refine ⟨some ⟨w.heap.size, 0, none⟩, grownCap w (k + m) c e, w.drew.alloc (.cells (xs ++ List.replicate m z ++ List.replicate (grownCap w (k + m) c e - (k + m)) z).toArray e), ?_, ?_⟩
      · simp [Builtin.append_, run_underlying ht.und, run_underlying h2, sizeOf, typeInfo, zeroValue, i1, i2, i3, i4, asInt, asIntOf, hwr, hmi, hmb', hn, hns, h48, hm0, Question.forced, hold, hc', newRow, grownCap]
        apply congrArg (fun x : Array Value => World.alloc w.drew (Obj.cells x e))
        apply Array.ext'; simp
      · refine row_mk (cs := xs ++ List.replicate m z ++ List.replicate (grownCap w (k + m) c e - (k + m)) z) hg.1 hg.2 ?_ ?_ (warm_zero _) (sat_alloc (w := w) rfl (sat_star_right s') rfl)
        · rw [List.length_append, List.length_append, List.length_replicate, List.length_replicate, hl]; have := hg.1; omega
        · have e1 : (xs ++ List.replicate m z).length = (k + m) * 1 := by rw [List.length_append, List.length_replicate, hl]; omega
          rw [← e1]; exact List.take_left
theorem eff_appZ {t t2 e : TypeId} {kk : IntKind} {bytes : Nat} {z : Value} {x y : Operand} {p : Option Addr} {k c m : Nat} {xs : List Value} {H : List HProp} (i : Nat) (ht : Slc P t e 1 bytes z) (hz : z.cells = #[z]) (hz1 : z.oneCell' = true) (h2 : P.underlying t2 = some (.int kk)) (hx : ev Γ x = some (.slice p k c)) (hy : ev Γ y = some (.int .i64 (m : Int)))
    (hi : H[i]? = some (row e 1 (.slice p k c) k xs)) (hb : (k + m) * bytes ≤ 140737488355328) (hmx : k + m ≤ maxLen) (hm : 0 < m) :
    EFF P n Γ ⟨d, .call { callee := .builtin .append, args := #[x, y], argTypes := #[t, t2] }, ty, pos, aft, g⟩ (St H)
      (fun u H' => ∃ p' c', u = .slice p' (k + m) c' ∧ H' = H.set i (row e 1 (.slice p' (k + m) c') (k + m) (xs ++ List.replicate m z))) := eff_value fun a w F f s => by
  rw [perm_front hi] at s; obtain ⟨p', c', w', hr, s'⟩ := run_appendZ (ty := ty) ht hz hz1 h2 hb hmx hm w s
  exact ⟨_, w', _, execOp_append f hx hy hr, ⟨p', c', rfl, rfl⟩, by rw [St_set hi, star_assoc]; exact s'⟩
end
end Go.Sx
