/-
  Rules for append, conversions between texts and bytes, copy and make, over rows (slices that own their arrays).
-/
import Derived.Test.YtbbmhppkhcodfaaSxOps
import Derived.Laws.BytesString
namespace Go.Sx
set_option linter.unusedVariables false
set_option linter.unusedSimpArgs false

/-- what src (a slice or a text) is read as, in every world that holds L -/
structure Src (P : Program) (L : HProp) (size : Nat) (src : Value) (m : Nat) (news : List Value) : Prop where
  len : ∀ w R, sat w (star L R) → (Builtin.lenOf src).run P w = .ok m w
  cells : ∀ w R, sat w (star L R) → (Builtin.firstCells size m src).run P w = .ok news.toArray w
  size : news.length = m * size
  one : ∀ v ∈ news, v.oneCell' = true
section
variable {P : Program}
theorem Src.of_vw {L : HProp} {size : Nat} {src : Value} {m : Nat} {news : List Value} (h : Vw L src m news) (hs : news.length = m * size) (h1 : ∀ v ∈ news, v.oneCell' = true) : Src P L size src m news := by
  refine ⟨fun w R s => ?_, fun w R s => ?_, hs, h1⟩
  · rcases h w R s with ⟨q, rfl, rfl, rfl⟩ | ⟨b, o, cap, rfl, hr⟩ <;> rfl
  · rcases h w R s with ⟨q, rfl, rfl, rfl⟩ | ⟨b, o, cap, rfl, hr⟩
    · cases q with
      | none => rfl
      | some q => exact run_firstCells_some w size 0 q 0 0 [] (by simp) (fun j v hj => by simp at hj)
    · exact run_firstCells_some w size m ⟨b, o, Option.none⟩ m cap news hs (fun j v hj => by rw [addr_add]; exact hr j v hj)
def byteV (b : UInt8) : Value := .int .u8 (b.toNat : Int)
theorem byteV_one (b : UInt8) : (byteV b).oneCell' = true := rfl
/-- a text's bytes, as cells -/
def bts (s : ByteArray) : List Value := s.data.toList.map byteV
theorem bts_length (s : ByteArray) : (bts s).length = s.size := by show (s.data.toList.map byteV).length = s.data.size; rw [List.length_map, Array.length_toList]
theorem Src.str (L : HProp) (s : ByteArray) : Src P L 1 (.string s) s.size (bts s) := by
  refine ⟨fun w _ _ => rfl, fun w R _ => ?_, by rw [bts_length, Nat.mul_one], fun v hv => ?_⟩
  · have hx : (Array.map (fun b : UInt8 => Value.int IntKind.u8 (b.toNat : Int)) s.data) = (bts s).toArray := by
      apply Array.ext'; rw [Array.toList_map]; rfl
    have he : (s.extract 0 s.size) = s := by apply ByteArray.ext; rw [ByteArray.data_extract]; show s.data.extract 0 s.data.size = s.data; rw [Array.extract_size]
    simp only [Builtin.firstCells, he, hx]; rfl
  · obtain ⟨b, _, rfl⟩ := List.mem_map.1 hv; rfl
theorem growCap_facts (w : World) {need old : Nat} {e : TypeId} (h : need ≤ maxLen) : need ≤ grownCap w need old e ∧ grownCap w need old e ≤ maxLen := ⟨grownCap_ge w need old e, grownCap_le_maxLen w need old e h⟩
theorem toArray_append3 (a b : List Value) (c : Array Value) : a.toArray ++ b.toArray ++ c = (a ++ b ++ c.toList).toArray := by
  apply Array.ext'; simp
theorem run_append_row {t t2 ty e : TypeId} {size bytes : Nat} {z : Value} (ht : Slc P t e size bytes z) (h2 : (∃ e', P.underlying t2 = some (.slice e')) ∨ P.underlying t2 = some .string)
    {v src : Value} {n m : Nat} {xs news : List Value} {L R : HProp} (hsrc : Src P L size src m news) (hb : (n + m) * bytes ≤ 140737488355328) (hm : n + m ≤ maxLen) (w : World)
    (s : sat w (star (row e size v n xs) (star L R))) :
    ∃ v' w', (Builtin.append_ #[t, t2] ty #[v, src]).run P w = .ok v' w' ∧ sat w' (star (row e size v' (n + m) (xs ++ news)) (star L R)) ∧ (v' = .slice Option.none 0 0 ↔ v = .slice Option.none 0 0 ∧ m = 0) := by
  obtain ⟨i, hi, hz, hsz, hby⟩ := ht.info
  have hzero : ∀ w, (do let d ← underlying t2; pure (match d with | TypeDesc.int _ => true | _ => false) : Sem Bool).run P w = .ok false w := by
    intro w; rcases h2 with ⟨e', h2⟩ | h2 <;> simp [run_underlying h2]
  have hsmall : n + m ≤ 9223372036854775807 := by simp only [maxLen] at hm; omega
  obtain ⟨hl, hr⟩ := sat_row s
  rcases hr with ⟨rfl, rfl, rfl, s'⟩ | ⟨b, cap, cs, fr, rfl, hnc, hcm, hcs, htk, hw, s'⟩
  · by_cases h0 : m = 0
    · subst h0
      have hn : news = [] := List.eq_nil_of_length_eq_zero (by simpa using hsrc.size)
      subst hn
      refine ⟨.slice Option.none 0 0, w, ?_, row_nil s', by simp⟩
      have hc := hsrc.cells w R s'
      have hln := hsrc.len w R s'
      rcases h2 with ⟨e', h2⟩ | h2 <;> simp [Builtin.append_, run_underlying ht.und, run_underlying h2, sizeOf, typeInfo, hi, hsz, hln, hc]
    · have hns : ¬ (9223372036854775807 < (m : Int)) := by omega
      have h48 : ¬ (281474976710656 < Builtin.nextslicecap m 0 * bytes) := by rw [nextslicecap_zero (by omega)]; simp only [Nat.zero_add] at hb; omega
      have hc := hsrc.cells w.drew R (sat_heap (w := w) rfl rfl s')
      have hln := hsrc.len w R s'
      have hg := growCap_facts w (need := m) (old := 0) (e := e) (by omega)
      refine ⟨.slice (some ⟨w.heap.size, 0, Option.none⟩) m (grownCap w m 0 e), w.drew.alloc (.cells (news ++ (Builtin.zeroCells z.cells (grownCap w m 0 e - m)).toList).toArray e), ?_, ?_, by simp [h0]⟩
      · rcases h2 with ⟨e', h2⟩ | h2 <;>
        · simp [Builtin.append_, run_underlying ht.und, run_underlying h2, sizeOf, typeInfo, zeroValue, hi, hz, hsz, hby, hln, h0, hns, h48, Question.forced, run_firstCells_none, hc, newRow, grownCap]
          congr 2
          apply Array.ext'
          simp
      · simp only [Nat.zero_add, List.nil_append]
        refine row_mk hg.1 hg.2 ?_ ?_ (warm_zero _) (sat_alloc (w := w) rfl s' rfl)
        · rw [List.length_append, hsrc.size, Array.length_toList, size_zeroCells, ht.zs, ← Nat.add_mul]; congr 1; omega
        · rw [← hsrc.size]; exact List.take_left
  · by_cases hroom : n + m ≤ cap
    · have hc := hsrc.cells w (star (own b (.cells cs.toArray e fr)) R) (by rw [star_left_comm]; exact s')
      have hln := hsrc.len w (star (own b (.cells cs.toArray e fr)) R) (by rw [star_left_comm]; exact s')
      have hb' := sat_own (sat_star_left s')
      have hfit : n * size + 0 + news.length ≤ cs.length := by rw [hsrc.size, hcs, Nat.add_zero, ← Nat.add_mul]; exact Nat.mul_le_mul_right _ hroom
      obtain ⟨w', hst, hb2, hk, hx, _⟩ := run_storeCells_own (P := P) news 0 (n * size) cs w hb' hw hfit hsrc.one
      refine ⟨.slice (some ⟨b, 0, Option.none⟩) (n + m) cap, w', ?_, ?_, by simp⟩
      · rcases h2 with ⟨e', h2⟩ | h2 <;>
          simp [Builtin.append_, run_underlying ht.und, run_underlying h2, sizeOf, typeInfo, hi, hsz, hln, hroom, hc, addr_add, hst]
      · simp only [Nat.add_zero] at hb2
        refine row_mk hroom hcm (by rw [over_length (by omega), hcs]) ?_ (fun j hj => hw j (by rwa [over_length (by omega)] at hj)) (sat_set (w := w) hx s' hb2 hk)
        unfold over
        rw [Nat.add_mul, ← hsrc.size, ← htk]
        have e1 : (List.take (n * size) cs ++ news).length = n * size + news.length := by rw [List.length_append, List.length_take, Nat.min_eq_left (by omega)]
        rw [← e1]; exact List.take_left
    · have hn : ¬ (n + m ≤ cap) := hroom
      have hns : ¬ (9223372036854775807 < ((n : Int) + (m : Int))) := by omega
      have h48 : ¬ (281474976710656 < Builtin.nextslicecap (n + m) cap * bytes) := by have := growslice_fits (need := n + m) (old := cap) (bytes := bytes) (by omega) hb; omega
      have hc := hsrc.cells w.drew (star (own b (.cells cs.toArray e fr)) R) (by rw [star_left_comm]; exact sat_heap (w := w) rfl rfl s')
      have hln := hsrc.len w (star (own b (.cells cs.toArray e fr)) R) (by rw [star_left_comm]; exact s')
      have hb' := sat_own (sat_star_left s')
      have hold : (Builtin.firstCells size n (.slice (some ⟨b, 0, Option.none⟩) n cap)).run P w.drew = .ok xs.toArray w.drew := run_firstCells_some w.drew size n ⟨b, 0, Option.none⟩ n cap xs hl (fun j u hj => by
        rw [addr_add, Nat.zero_add, World.cell?_drew, cell_of hb']
        rw [← htk, List.getElem?_take] at hj
        split at hj
        · simpa using hj
        · cases hj)
      have hg := growCap_facts w (need := n + m) (old := cap) (e := e) (by omega)
      have s2 : sat w (star L R) := sat_star_right s'
      refine ⟨.slice (some ⟨w.heap.size, 0, Option.none⟩) (n + m) (grownCap w (n + m) cap e), w.drew.alloc (.cells (xs ++ news ++ (Builtin.zeroCells z.cells (grownCap w (n + m) cap e - (n + m))).toList).toArray e), ?_, ?_, by simp⟩
      · rcases h2 with ⟨e', h2⟩ | h2 <;>
        · simp [Builtin.append_, run_underlying ht.und, run_underlying h2, sizeOf, typeInfo, zeroValue, hi, hz, hsz, hby, hln, hn, hns, h48, Question.forced, hold, hc, newRow, grownCap]
          congr 2
          apply Array.ext'
          simp [List.append_assoc]
      · refine row_mk hg.1 hg.2 ?_ ?_ (warm_zero _) (sat_alloc (w := w) rfl s2 rfl)
        · rw [List.length_append, List.length_append, hsrc.size, hl, Array.length_toList, size_zeroCells, ht.zs, ← Nat.add_mul, ← Nat.add_mul]; congr 1; omega
        · have e1 : (xs ++ news).length = (n + m) * size := by rw [List.length_append, hl, hsrc.size, ← Nat.add_mul]
          rw [← e1]; exact List.take_left

/-! ### append, as an operation -/
variable {n : Nat} {Γ : Env} {d : Option Tmp} {ty : TypeId} {pos : String} {aft : Array Edge} {g : Option (Nat × Bool)}
theorem execOp_append {a : Act} {w : World} {x y : Operand} {t t2 : TypeId} {v src : Value} (f : Fits n Γ a) (hx : ev Γ x = some v) (hy : ev Γ y = some src) {v' : Value} {w' : World}
    (h : (Builtin.append_ #[t, t2] ty #[v, src]).run P w = .ok v' w') :
    (execOp a.eval ⟨d, .call { callee := .builtin .append, args := #[x, y], argTypes := #[t, t2] }, ty, pos, aft, g⟩).run P w = .ok (.value v') w' := by
  simp only [execOp, resolve, invoke, builtin, Sem.run_bind, Sem.run_pure, Result.andThen_ok, List.map_toArray, List.map_cons, List.map_nil, f.ev hx, f.ev hy, h]
theorem perm_front {H : List HProp} {i : Nat} {A : HProp} (hi : H[i]? = some A) (F : HProp) : star (St H) F = star A (star (St (H.eraseIdx i)) F) := by rw [St_pick hi, star_assoc]
/-- what an append leaves: a slice of so many elements -/
def Grew (e : TypeId) (size : Nat) (p : Option Addr) (k m : Nat) (xs : List Value) (v' : Value) (A : HProp) : Prop :=
  ∃ p' c', v' = .slice p' (k + m) c' ∧ (p' = Option.none ↔ p = Option.none ∧ m = 0) ∧ A = row e size (.slice p' (k + m) c') (k + m) xs
theorem row_form {e : TypeId} {size k : Nat} {v : Value} {xs : List Value} {w : World} {R : HProp} (s : sat w (star (row e size v k xs) R)) : ∃ p c, v = .slice p k c ∧ (p = Option.none ↔ v = .slice Option.none 0 0) := by
  rcases (sat_row s).2 with ⟨h1, h2, _, _⟩ | ⟨b, cap, _, _, h1, _⟩
  · subst h2; exact ⟨Option.none, 0, h1, by simp [h1]⟩
  · exact ⟨some ⟨b, 0, Option.none⟩, cap, h1, by simp [h1]⟩
theorem eff_append {t t2 e : TypeId} {size bytes : Nat} {z : Value} {x y : Operand} {p : Option Addr} {src : Value} {k c m : Nat} {xs news : List Value} {H : List HProp} (i : Nat) (ht : Slc P t e size bytes z)
    (h2 : (∃ e', P.underlying t2 = some (.slice e')) ∨ P.underlying t2 = some .string) (hx : ev Γ x = some (.slice p k c)) (hy : ev Γ y = some src)
    (hi : H[i]? = some (row e size (.slice p k c) k xs)) (hs : Src P (St (H.eraseIdx i)) size src m news) (hb : (k + m) * bytes ≤ 140737488355328) (hm : k + m ≤ maxLen) :
    EFF P n Γ ⟨d, .call { callee := .builtin .append, args := #[x, y], argTypes := #[t, t2] }, ty, pos, aft, g⟩ (St H)
      (fun v' H' => ∃ A, Grew e size p k m (xs ++ news) v' A ∧ H' = H.set i A) := eff_value fun a w F f s => by
  rw [perm_front hi] at s
  obtain ⟨v', w', hr, s', hn⟩ := run_append_row ht h2 hs hb hm (ty := ty) w s
  obtain ⟨p', c', hv, hp⟩ := row_form s'
  obtain ⟨p2, c2, hv2, hp2⟩ := row_form s
  injection hv2 with e1 _ e2; subst e1; subst e2
  subst hv
  refine ⟨_, w', _, execOp_append f hx hy hr, ⟨_, ⟨p', c', rfl, ?_, rfl⟩, rfl⟩, by rw [St_set hi, star_assoc]; exact s'⟩
  rw [hp, hn, hp2]
theorem eff_appendNil {t t2 e : TypeId} {size bytes : Nat} {z : Value} {x y : Operand} {src : Value} {m : Nat} {news : List Value} {H : List HProp} (ht : Slc P t e size bytes z)
    (h2 : (∃ e', P.underlying t2 = some (.slice e')) ∨ P.underlying t2 = some .string) (hx : ev Γ x = some (.slice Option.none 0 0)) (hy : ev Γ y = some src)
    (hs : Src P (St H) size src m news) (hb : m * bytes ≤ 140737488355328) (hm : m ≤ maxLen) :
    EFF P n Γ ⟨d, .call { callee := .builtin .append, args := #[x, y], argTypes := #[t, t2] }, ty, pos, aft, g⟩ (St H)
      (fun v' H' => ∃ p' c', v' = .slice p' m c' ∧ (p' = Option.none ↔ m = 0) ∧ H' = row e size (.slice p' m c') m news :: H) := eff_value fun a w F f s => by
  obtain ⟨v', w', hr, s', hn⟩ := run_append_row (n := 0) (xs := []) ht h2 hs (by simpa using hb) (by simpa using hm) (ty := ty) w (row_nil (e := e) (size := size) s)
  simp only [Nat.zero_add, List.nil_append] at s'
  obtain ⟨p', c', hv, hp⟩ := row_form s'
  subst hv
  refine ⟨_, w', _ :: H, execOp_append f hx hy hr, ⟨p', c', rfl, ?_, rfl⟩, by rw [St_cons, star_assoc]; exact s'⟩
  rw [hp, hn]; simp
/-- a block of the state's own as a row -/
theorem own_row {H : List HProp} (i : Nat) {e : TypeId} {size b k cap : Nat} {cs : List Value} {fr : Nat × Nat} (hi : H[i]? = some (own b (.cells cs.toArray e fr))) (h1 : k ≤ cap) (h2 : cap ≤ maxLen) (h3 : cs.length = cap * size) (h5 : warm cs fr)
    (w : World) (F : HProp) (s : sat w (star (St H) F)) : sat w (star (St (row e size (.slice (some ⟨b, 0, Option.none⟩) k cap) k (cs.take (k * size)) :: H.eraseIdx i)) F) := by
  rw [perm_front hi] at s; rw [St_cons, star_assoc]
  exact row_mk h1 h2 h3 rfl h5 s
theorem nil_row {H : List HProp} (e : TypeId) (size : Nat) (w : World) (F : HProp) (s : sat w (star (St H) F)) : sat w (star (St (row e size (.slice Option.none 0 0) 0 [] :: H)) F) := by
  rw [St_cons, star_assoc]; exact row_nil s
/-- appended to a slice literal -/
theorem eff_appendLit {t t2 e : TypeId} {size bytes k m b : Nat} {z : Value} {x y : Operand} {src : Value} {cs news : List Value} {H : List HProp} (i : Nat) (ht : Slc P t e size bytes z)
    (h2 : (∃ e', P.underlying t2 = some (.slice e')) ∨ P.underlying t2 = some .string) (hx : ev Γ x = some (.slice (some ⟨b, 0, Option.none⟩) k k)) (hy : ev Γ y = some src)
    (hi : H[i]? = some (own b (.cells cs.toArray e (0, 0)))) (hl : cs.length = k * size) (hs : Src P (St (H.eraseIdx i)) size src m news) (hb : (k + m) * bytes ≤ 140737488355328) (hm : k + m ≤ maxLen) :
    EFF P n Γ ⟨d, .call { callee := .builtin .append, args := #[x, y], argTypes := #[t, t2] }, ty, pos, aft, g⟩ (St H)
      (fun v' H' => ∃ b' c', v' = .slice (some ⟨b', 0, Option.none⟩) (k + m) c' ∧ H' = H.set i (row e size (.slice (some ⟨b', 0, Option.none⟩) (k + m) c') (k + m) (cs ++ news))) := eff_value fun a w F f s => by
  rw [perm_front hi] at s
  have s2 := row_mk (e := e) (size := size) (n := k) (cap := k) (Nat.le_refl _) (by omega) hl (xs := cs) (by rw [← hl]; exact List.take_length) (warm_zero cs) s
  obtain ⟨v', w', hr, s', hn⟩ := run_append_row ht h2 hs hb hm (ty := ty) w s2
  rcases (sat_row s').2 with ⟨h1, _⟩ | ⟨b', c', _, _, h1, _⟩
  · have := (hn.1 h1).1; simp at this
  · subst h1
    exact ⟨_, w', _, execOp_append f hx hy hr, ⟨b', c', rfl, rfl⟩, by rw [St_set hi, star_assoc]; exact s'⟩
end
end Go.Sx
