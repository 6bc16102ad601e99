/-
  Slices of one-cell elements whose block is a state's own: cells are copied, appended in place, cleared; for slices.Insert, slices.Delete.
-/
import Derived.Test.YtbbmhppkhcodfaaSxMake
import Derived.Lib.Overlaps
namespace Go.Sx
set_option linter.unusedVariables false
set_option linter.unusedSimpArgs false
set_option maxRecDepth 100000
section
variable {P : Program} {n : Nat} {L : HProp} {Γ : Env} {d : Option Tmp} {ty : TypeId} {pos : String} {aft : Array Edge} {g : Option (Nat × Bool)}
/-- a row is opened -/
theorem tri_rowO {f : FuncId} {args : List Value} {e : TypeId} {size k b c : Nat} {xs : List Value} {H : List HProp} {Ψ : Value → List HProp → Prop}
    (h : ∀ cs fr, k ≤ c → c ≤ maxLen → cs.length = c * size → cs.take (k * size) = xs → warm cs fr → Tri P f args (own b (.cells cs.toArray e fr) :: H) Ψ) : Tri P f args (row e size (.slice (some ⟨b, 0, none⟩) k c) k xs :: H) Ψ := fun w F s => by
  rw [St_cons, star_assoc] at s
  rcases (sat_row s).2 with ⟨h1, _⟩ | ⟨b', cap, cs, fr, h1, h2, h3, h4, h5, h6, s'⟩
  · cases h1
  · injection h1 with h1 _ h7; injection h1 with h1; injection h1 with h1; subst h1; subst h7
    exact h cs fr h2 h3 h4 h5 h6 w F (by rw [St_cons, star_assoc]; exact s')
/-- and closed again -/
theorem own_close {H : List HProp} (i : Nat) {e : TypeId} {size b k cap : Nat} {cs xs : List Value} {fr : Nat × Nat} (hi : H[i]? = some (own b (.cells cs.toArray e fr))) (h1 : k ≤ cap) (h2 : cap ≤ maxLen) (h3 : cs.length = cap * size) (h4 : cs.take (k * size) = xs) (h5 : warm cs fr)
    (w : World) (F : HProp) (s : sat w (star (St H) F)) : sat w (star (St (row e size (.slice (some ⟨b, 0, Option.none⟩) k cap) k xs :: H.eraseIdx i)) F) := by
  rw [perm_front hi] at s; rw [St_cons, star_assoc]
  exact row_mk h1 h2 h3 h4 h5 s
theorem warm_len {cs ds : List Value} {fr : Nat × Nat} (h : warm cs fr) (hl : ds.length = cs.length) : warm ds fr := fun j hj => h j (by rwa [hl] at hj)
/-- the whole state is read -/
theorem rdn_st {H : List HProp} {b o : Nat} {vs : List Value} (h : RdN (St H) b o vs) {w : World} {F : HProp} (s : sat w (star (St H) F)) : ∀ j v, vs[j]? = some v → w.cell? ⟨b, o + j, none⟩ = some v := fun j v hj => h j v hj w F s
theorem eff_copyO {t t2 e : TypeId} {bytes : Nat} {z : Value} {x y : Operand} {b o dl dc b2 o2 m c : Nat} {cs news : List Value} {fr : Nat × Nat} {H : List HProp} (i : Nat) (ht : Slc P t e 1 bytes z) (hx : ev Γ x = some (.slice (some ⟨b, o, none⟩) dl dc)) (hy : ev Γ y = some (.slice (some ⟨b2, o2, none⟩) m c))
    (hi : H[i]? = some (own b (.cells cs.toArray e fr))) (hw : warm cs fr) (hr : RdN (St H) b2 o2 news) (hn : news.length = min m dl) (h1 : ∀ v ∈ news, v.oneCell' = true) (ho : o + news.length ≤ cs.length) :
    EFF P n Γ ⟨d, .call { callee := .builtin .copy, args := #[x, y], argTypes := #[t, t2] }, ty, pos, aft, g⟩ (St H) (fun u H' => u = .int .i64 (news.length : Nat) ∧ H' = H.set i (own b (.cells (over cs o news).toArray e fr))) := eff_value fun a w F f st => by
  have hrd := rdn_st hr st
  rw [perm_front hi] at st
  have hb := sat_own (sat_star_left st)
  have hsz : (P.info? e).map (·.size) = some 1 := by obtain ⟨j, h1, _, h2, _⟩ := ht.info; rw [h1]; exact congrArg some h2
  have hrun := run_copy_cells (P := P) w t t2 ty e b o dl dc ⟨b2, o2, none⟩ m c news ht.und hsz hn (fun j v hj => by rw [addr_add]; exact hrd j v hj)
    (fun j hj => by rw [cell_of hb]; simp; omega) (fun j hj => frozen_of hb hw (by omega)) h1
  refine ⟨_, _, _, ?_, ⟨rfl, rfl⟩, by rw [St_set hi, star_assoc]; exact sat_setCells news o cs w ho st⟩
  simp only [execOp, resolve, invoke, builtin, Sem.run_bind, Sem.run_pure, Result.andThen_ok, List.map_toArray, List.map_cons, List.map_nil, f.ev hx, f.ev hy, hrun]
  rfl
/-- there is room: cells are appended in place -/
theorem eff_appendO {t t2 e e2 : TypeId} {bytes : Nat} {z : Value} {x y : Operand} {b k c b2 o2 m c2 : Nat} {cs news : List Value} {fr : Nat × Nat} {H : List HProp} (i : Nat) (ht : Slc P t e 1 bytes z) (h2 : P.underlying t2 = some (.slice e2)) (hx : ev Γ x = some (.slice (some ⟨b, 0, none⟩) k c)) (hy : ev Γ y = some (.slice (some ⟨b2, o2, none⟩) m c2))
    (hi : H[i]? = some (own b (.cells cs.toArray e fr))) (hw : warm cs fr) (hr : RdN (St H) b2 o2 news) (hn : news.length = m) (h1 : ∀ v ∈ news, v.oneCell' = true) (hroom : k + m ≤ c) (ho : k + m ≤ cs.length) :
    EFF P n Γ ⟨d, .call { callee := .builtin .append, args := #[x, y], argTypes := #[t, t2] }, ty, pos, aft, g⟩ (St H) (fun u H' => u = .slice (some ⟨b, 0, none⟩) (k + m) c ∧ H' = H.set i (own b (.cells (over cs k news).toArray e fr))) := eff_value fun a w F f st => by
  have hrd := rdn_st hr st
  rw [perm_front hi] at st
  have hb := sat_own (sat_star_left st)
  obtain ⟨inf, i1, i2, i3, i4⟩ := ht.info
  have hc : (Builtin.firstCells 1 m (.slice (some ⟨b2, o2, none⟩) m c2)).run P w = .ok news.toArray w := run_firstCells_some w 1 m ⟨b2, o2, none⟩ m c2 news (by rw [hn, Nat.mul_one]) (fun j v hj => by rw [addr_add]; exact hrd j v hj)
  obtain ⟨w', hst, hb2, hk, hx', _⟩ := run_storeCells_own (P := P) news 0 k cs w hb hw (by rw [hn]; omega) h1
  have hln : ∀ w, (Builtin.lenOf (.slice (some ⟨b2, o2, none⟩) m c2)).run P w = .ok m w := fun w => rfl
  refine ⟨_, w', _, execOp_append f hx hy (v' := .slice (some ⟨b, 0, none⟩) (k + m) c) (w' := w') ?_, ⟨rfl, rfl⟩, ?_⟩
  · simp [Builtin.append_, run_underlying ht.und, run_underlying h2, sizeOf, typeInfo, i1, i3, hln, hroom, hc, addr_add, hst]
  · rw [St_set hi, star_assoc]
    simp only [Nat.add_zero] at hb2
    exact sat_set (w := w) hx' st hb2 hk
theorem zeroCells_one (z : Value) (k : Nat) : (Builtin.zeroCells #[z] k).toList = List.replicate k z := by
  apply List.ext_getElem
  · rw [Array.length_toList, size_zeroCells]; simp
  · intro i h1 h2
    rw [List.getElem_replicate]
    simp [Builtin.zeroCells, Nat.mod_one]
theorem eff_clearO {t e : TypeId} {bytes : Nat} {z : Value} {x : Operand} {b o k c : Nat} {cs : List Value} {fr : Nat × Nat} {H : List HProp} (i : Nat) (ht : Slc P t e 1 bytes z) (hz : z.cells = #[z]) (hz1 : z.oneCell' = true) (hx : ev Γ x = some (.slice (some ⟨b, o, none⟩) (k + 1) c))
    (hi : H[i]? = some (own b (.cells cs.toArray e fr))) (hw : warm cs fr) (ho : o + (k + 1) ≤ cs.length) :
    EFF P n Γ ⟨d, .call { callee := .builtin .clear, args := #[x], argTypes := #[t] }, ty, pos, aft, g⟩ (St H) (fun u H' => u = .tuple #[] ∧ H' = H.set i (own b (.cells (over cs o (List.replicate (k + 1) z)).toArray e fr))) := eff_value fun a w F f st => by
  rw [perm_front hi] at st
  have hb := sat_own (sat_star_left st)
  obtain ⟨inf, i1, i2, i3, i4⟩ := ht.info
  obtain ⟨w', hst, hb2, hk, hx', _⟩ := run_storeCells_own (P := P) (List.replicate (k + 1) z) 0 o cs w hb hw (by rw [List.length_replicate]; omega) (fun v hv => by rw [(List.mem_replicate.1 hv).2]; exact hz1)
  refine ⟨_, w', _, ?_, ⟨rfl, rfl⟩, ?_⟩
  · have hzz : (zeroValue e).run P w = .ok z w := by simp [zeroValue, typeInfo, i1, i2]
    have hc : (Builtin.zeroCells z.cells (k + 1)).toList = List.replicate (k + 1) z := by rw [hz, zeroCells_one]
    simp [execOp, f.ev hx, resolve, invoke, builtin, Builtin.clear_, run_underlying ht.und, hzz, hc, hst, Result.andThen]
  · rw [St_set hi, star_assoc]
    simp only [Nat.add_zero] at hb2
    exact sat_set (w := w) hx' st hb2 hk
/-- there is no room: so many noughts are appended -/
theorem eff_appendMk {t t2 e : TypeId} {kk : IntKind} {bytes : Nat} {z : Value} {x y : Operand} {b k c m : Nat} {xs : List Value} {H : List HProp} (ht : Slc P t e 1 bytes z) (hz : z.cells = #[z]) (h2 : P.underlying t2 = some (.int kk)) (hx : ev Γ x = some (.slice (some ⟨b, 0, none⟩) k c)) (hy : ev Γ y = some (.int .i64 (m : Int)))
    (hr : RdN (St H) b 0 xs) (hn : xs.length = k) (hroom : c < k + m) (hm : 0 < m) (hb : (k + m) * bytes ≤ 140737488355328) (hmx : k + m ≤ maxLen) :
    EFF P n Γ ⟨d, .call { callee := .builtin .append, args := #[x, y], argTypes := #[t, t2] }, ty, pos, aft, g⟩ (St H)
      (fun u H' => ∃ nb cap, u = .slice (some ⟨nb, 0, none⟩) (k + m) cap ∧ k + m ≤ cap ∧ cap ≤ maxLen ∧ H' = own nb (.cells (xs ++ List.replicate (cap - k) z).toArray e (0, 0)) :: H) := eff_value fun a w F f st => by
  obtain ⟨inf, i1, i2, i3, i4⟩ := ht.info
  have hsmall : k + m ≤ 9223372036854775807 := by simp only [maxLen] at hmx; omega
  have hmb : m * bytes ≤ 140737488355328 := Nat.le_trans (Nat.mul_le_mul_right _ (Nat.le_add_left m k)) hb
  have hold : (Builtin.firstCells 1 k (.slice (some ⟨b, 0, none⟩) k c)).run P w.drew = .ok xs.toArray w.drew := run_firstCells_some w.drew 1 k ⟨b, 0, none⟩ k c xs (by rw [hn, Nat.mul_one]) (fun j v hj => by
    rw [addr_add, World.cell?_drew]; exact rdn_st hr st j v hj)
  have hzz : ∀ w, (zeroValue e).run P w = .ok z w := fun w => by simp [zeroValue, typeInfo, i1, i2]
  have hwr : IntKind.i64.wrap (m : Int) = m := by rw [wrap_i64_in (by omega) (by omega)]
  have h48 : ¬ (281474976710656 < Builtin.nextslicecap (k + m) c * bytes) := by have := growslice_fits (need := k + m) (old := c) (bytes := bytes) (by omega) hb; omega
  have hg := growCap_facts w (need := k + m) (old := c) (e := e) hmx
  have hc : ∀ q, (Builtin.zeroCells z.cells q).toList = List.replicate q z := fun q => by rw [hz, zeroCells_one]
  have hc' : ∀ q, Builtin.zeroCells z.cells q = (List.replicate q z).toArray := fun q => by rw [← hc q]
  refine ⟨.slice (some ⟨w.heap.size, 0, none⟩) (k + m) (grownCap w (k + m) c e), w.drew.alloc (.cells (xs ++ List.replicate (grownCap w (k + m) c e - k) z).toArray e), _, execOp_append f hx hy ?_, ⟨_, _, rfl, hg.1, hg.2, rfl⟩, by rw [St_cons, star_assoc]; exact sat_alloc (w := w) rfl st rfl⟩
  have e1 : List.replicate (grownCap w (k + m) c e - k) z = List.replicate m z ++ List.replicate (grownCap w (k + m) c e - (k + m)) z := by
    rw [List.replicate_append_replicate]; congr 1; omega
  have hmi : ¬ ((m : Int) < 0) := by omega
  have hmb' : ¬ ((m : Int) * (bytes : Int) > 281474976710656) := by
    have : ((m * bytes : Nat) : Int) ≤ ((140737488355328 : Nat) : Int) := Int.ofNat_le.2 hmb
    rw [Int.natCast_mul] at this; omega
  have hns : ¬ (9223372036854775807 < ((k : Int) + (m : Int))) := by omega
  have hn' : ¬ (k + m ≤ c) := by omega
  have hm0 : ¬ (m = 0) := by omega
  simp [Builtin.append_, run_underlying ht.und, run_underlying h2, sizeOf, typeInfo, zeroValue, i1, i2, i3, i4, asInt, asIntOf, hwr, hmi, hmb', hn', hns, h48, hm0, Question.forced, hold, hc', newRow, grownCap]
  have hge : k + m ≤ (Question.appendCap (k + m) c e).cut (w.tape w.drawn (Question.appendCap (k + m) c e)) := hg.1
  generalize (Question.appendCap (k + m) c e).cut (w.tape w.drawn (Question.appendCap (k + m) c e)) = q at hge ⊢
  rw [show m + (q - (k + m)) = q - k by omega]
  have e3 : xs.toArray ++ Array.replicate (q - k) z = (xs ++ List.replicate (q - k) z).toArray := by apply Array.ext'; simp
  rw [e3]
/-- a full slice expression -/
theorem ro_slice3 {t e : TypeId} {x : Operand} {lo hi mx : Operand} {b o m c l h q size bytes : Nat} {z : Value} (ht : Slc P t e size bytes z) (hx : ev Γ x = some (.slice (some ⟨b, o, Option.none⟩) m c)) (hl : ev Γ lo = some (.int .i64 (l : Int))) (hh : ev Γ hi = some (.int .i64 (h : Int))) (hq : ev Γ mx = some (.int .i64 (q : Int))) (h1 : l ≤ h) (h2 : h ≤ q) (h3 : q ≤ c) :
    RO P n L Γ ⟨d, .slice t x (some lo) (some hi) (some mx), ty, pos, aft, g⟩ (resl b o q size l h) := fun a w R f s => by
  obtain ⟨inf, i1, i2, i3, i4⟩ := ht.info
  have hsz : (sizeOf e).run P w = .ok size w := by simp [sizeOf, typeInfo, i1, i3]
  have hb : (Instr.sliceBounds true m c (some (.int .i64 (l : Int))) (some (.int .i64 (h : Int))) (some (.int .i64 (q : Int)))).run P w = .ok (l, h, q) w := by
    simp [Instr.sliceBounds, Instr.sliceBound, asIntOf, h1, h2, h3, Result.andThen]
  simp only [execOp, Instr.sliceAt, Instr.slice, f.ev hx, f.ev hl, f.ev hh, f.ev hq, Sem.run_bind, run_underlying ht.und, Result.andThen_ok, Option.map_some, hb, hsz, Sem.run_pure, addr_add, resl]
  split <;> rfl
end
end Go.Sx
