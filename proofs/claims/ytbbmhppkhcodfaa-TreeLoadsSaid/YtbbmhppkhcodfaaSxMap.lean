/-
  Maps whose keys are whole numbers, in the logic of the Sx text.
-/
import Derived.Test.YtbbmhppkhcodfaaSxStr
import Derived.MapKept
namespace Go.Sx
open Go.MapKept
set_option linter.unusedVariables false
set_option linter.unusedSimpArgs false
/-- an entry: key, value, stamp -/
structure Me where
  k : Int
  v : Value
  t : Nat
def Me.e (x : Me) : MapEntry := ⟨.int .i64 x.k, x.v, x.t⟩
abbrev mapO (l : List Me) (c : Nat) : Obj := .map (l.map Me.e).toArray c
def mget (l : List Me) (k : Int) (z : Value) : Value := ((l.find? (fun x => x.k == k)).map Me.v).getD z
def mdel : List Me → Int → List Me
  | [], _ => []
  | x :: r, k => if x.k = k then r else x :: mdel r k
theorem map_eraseIdx {α β : Type} (f : α → β) : ∀ (l : List α) (j : Nat), (l.map f).eraseIdx j = (l.eraseIdx j).map f
  | [], j => rfl
  | x :: r, 0 => rfl
  | x :: r, j + 1 => by simp [map_eraseIdx f r j]
theorem findNow_hit {k : Int} : ∀ (l : List Me) (i : Nat) (x : Me), l.find? (fun x => x.k == k) = some x → ∃ j, Instr.findNow (.int .i64) (.int .i64 k) (l.map Me.e) i = some (some (i + j, x.v)) ∧ mdel l k = l.eraseIdx j ∧ j < l.length
  | y :: r, i, x, h => by
    rw [List.find?_cons] at h
    by_cases e : y.k = k
    · rw [show (y.k == k) = true by simp [e]] at h
      cases h
      exact ⟨0, by simp [Instr.findNow, Me.e, Instr.sameNow, e], by simp [mdel, e], by simp⟩
    · rw [show (y.k == k) = false by simp [e]] at h
      obtain ⟨j, h1, h2, h3⟩ := findNow_hit r (i + 1) x h
      refine ⟨j + 1, ?_, by simp [mdel, e, h2], by simp; omega⟩
      simp only [List.map_cons, Instr.findNow, Me.e, Instr.sameNow, if_true]
      rw [show (k == y.k) = false by simp [Ne.symm e]]
      rw [show i + (j + 1) = i + 1 + j by omega]; exact h1
theorem findNow_none {k : Int} : ∀ (l : List Me) (i : Nat), l.find? (fun x => x.k == k) = none → Instr.findNow (.int .i64) (.int .i64 k) (l.map Me.e) i = some none ∧ mdel l k = l
  | [], i, _ => ⟨rfl, rfl⟩
  | y :: r, i, h => by
    rw [List.find?_cons] at h
    by_cases e : y.k = k
    · rw [show (y.k == k) = true by simp [e]] at h; cases h
    · rw [show (y.k == k) = false by simp [e]] at h
      obtain ⟨h1, h2⟩ := findNow_none r (i + 1) h
      refine ⟨?_, by simp [mdel, e, h2]⟩
      simp only [List.map_cons, Instr.findNow, Me.e, Instr.sameNow, if_true]
      rw [show (k == y.k) = false by simp [Ne.symm e]]
      exact h1
section
variable {P : Program} {n : Nat} {L : HProp} {Γ : Env} {d : Option Tmp} {ty : TypeId} {pos : String} {aft : Array Edge} {g : Option (Nat × Bool)}
/-- the map lies there -/
def Mp (L : HProp) (b : Nat) (l : List Me) : Prop := ∀ w R, sat w (star L R) → ∃ c, w.heap[b]? = some (mapO l c)
theorem Mp.own {b : Nat} {l : List Me} {c : Nat} : Mp (own b (mapO l c)) b l := fun w R s => ⟨c, sat_own (sat_star_left s)⟩
theorem Mp.pick {H : List HProp} {A : HProp} {b : Nat} {l : List Me} (i : Nat) (hi : H[i]? = some A) (h : Mp A b l) : Mp (St H) b l := fun w R s => by
  rw [St_pick hi, star_assoc] at s; exact h w _ s
theorem ro_lookup {t kt et : TypeId} {m ix : Operand} {b : Nat} {l : List Me} {k : Int} {z : Value} (ht : P.underlying t = some (.map kt et)) (hk : P.underlying kt = some (.int .i64)) (hz : Zero P et z) (hm : ev Γ m = some (.map (some b))) (hi : ev Γ ix = some (.int .i64 k)) (hr : Mp L b l) :
    RO P n L Γ ⟨d, .lookup t m ix false, ty, pos, aft, g⟩ (mget l k z) := fun a w R f s => by
  obtain ⟨c, hb⟩ := hr w R s
  have hc : ∀ e, (Instr.checkKey e 10000 kt (.int .i64 k)).run P w = .ok () w := fun e => Go.MapKept.run_checkKey (k := .int .i64 k) hk rfl e 9999
  unfold mget
  cases hf : l.find? (fun x => x.k == k) with
  | none =>
    have h1 := (findNow_none l 0 hf).1
    simp [execOp, f.ev hm, f.ev hi, Instr.lookup, run_underlying ht, Go.MapKept.run_getObj_map hb, hc, Go.MapKept.run_findKey hk h1, Result.andThen, hz w]
  | some x =>
    obtain ⟨j, h1, _⟩ := findNow_hit l 0 x hf
    simp [execOp, f.ev hm, f.ev hi, Instr.lookup, run_underlying ht, Go.MapKept.run_getObj_map hb, hc, Go.MapKept.run_findKey hk h1, Result.andThen]
theorem ro_mapLen {x : Operand} {t kt et : TypeId} {b : Nat} {l : List Me} (ht : P.underlying t = some (.map kt et)) (hx : ev Γ x = some (.map (some b))) (hr : Mp L b l) :
    RO P n L Γ ⟨d, .call { callee := .builtin .len, args := #[x], argTypes := #[t] }, ty, pos, aft, g⟩ (.int .i64 l.length) := fun a w R f s => by
  obtain ⟨c, hb⟩ := hr w R s
  simp [execOp, f.ev hx, resolve, invoke, builtin, Builtin.len_, run_underlying ht, Go.MapKept.run_getObj_map hb, Result.andThen, goInt]
theorem eff_makeMap {t : TypeId} {H : List HProp} : EFF P n Γ ⟨d, .makeMap t none, ty, pos, aft, g⟩ (St H) (fun v H' => ∃ b, v = .map (some b) ∧ H' = own b (mapO [] 0) :: H) := eff_value fun a w F f s =>
  ⟨_, w.alloc (mapO [] 0), own w.heap.size (mapO [] 0) :: H, by simp [execOp, Instr.makeMap, Result.andThen, mapO], ⟨_, rfl, rfl⟩, by rw [St_cons, star_assoc]; exact sat_alloc (w := w) rfl s rfl⟩
theorem eff_mapUpdate {t kt et : TypeId} {m ix x : Operand} {b c : Nat} {l : List Me} {k : Int} {v : Value} {H : List HProp} (i : Nat) (ht : P.underlying t = some (.map kt et)) (hk : P.underlying kt = some (.int .i64)) (hm : ev Γ m = some (.map (some b))) (hi : ev Γ ix = some (.int .i64 k)) (hv : ev Γ x = some v)
    (hH : H[i]? = some (own b (mapO l c))) (hn : ∀ y ∈ l, y.k ≠ k) :
    EFF P n Γ ⟨d, .mapUpdate t m ix x, ty, pos, aft, g⟩ (St H) (fun _ H' => H' = H.set i (own b (mapO (l ++ [⟨k, v, c⟩]) (c + 1)))) := eff_skip fun a w F f s => by
  rw [St_pick hH, star_assoc] at s
  have hb := sat_own (sat_star_left s)
  have hc : ∀ e, (Instr.checkKey e 10000 kt (.int .i64 k)).run P w = .ok () w := fun e => Go.MapKept.run_checkKey (k := .int .i64 k) hk rfl e 9999
  have h1 := (findNow_none (k := k) l 0 (List.find?_eq_none.2 fun y hy => by simpa using hn y hy)).1
  have e : (l ++ [(⟨k, v, c⟩ : Me)]).map Me.e = l.map Me.e ++ [⟨.int .i64 k, v, c⟩] := by simp [Me.e]
  refine ⟨{ w with heap := w.heap.setIfInBounds b (mapO (l ++ [⟨k, v, c⟩]) (c + 1)) }, _, ?_, rfl, ?_⟩
  · simp [execOp, f.ev hm, f.ev hi, f.ev hv, Instr.mapUpdate, run_underlying ht, Go.MapKept.run_getObj_map hb, hc, Go.MapKept.run_findKey hk h1, Go.MapKept.run_setObj_map _ hb, Result.andThen, e, mapO]
  · rw [St_set hH, star_assoc]
    exact sat_set (w := w) rfl s (Go.MapKept.heap_set hb).1 (Go.MapKept.heap_set hb).2
theorem eff_delete {t kt et t2 : TypeId} {m ix : Operand} {b c : Nat} {l : List Me} {k : Int} {H : List HProp} (i : Nat) (ht : P.underlying t = some (.map kt et)) (hk : P.underlying kt = some (.int .i64)) (hm : ev Γ m = some (.map (some b))) (hi : ev Γ ix = some (.int .i64 k)) (hH : H[i]? = some (own b (mapO l c))) :
    EFF P n Γ ⟨d, .call { callee := .builtin .delete, args := #[m, ix], argTypes := #[t, t2] }, ty, pos, aft, g⟩ (St H) (fun u H' => u = .tuple #[] ∧ H' = H.set i (own b (mapO (mdel l k) c))) := eff_value fun a w F f s => by
  rw [St_pick hH, star_assoc] at s
  have hb := sat_own (sat_star_left s)
  have hc : ∀ e, (Instr.checkKey e 10000 kt (.int .i64 k)).run P w = .ok () w := fun e => Go.MapKept.run_checkKey (k := .int .i64 k) hk rfl e 9999
  refine ⟨_, { w with heap := w.heap.setIfInBounds b (mapO (mdel l k) c) }, _, ?_, ⟨rfl, rfl⟩, ?_⟩
  · cases hf : l.find? (fun x => x.k == k) with
    | none =>
      obtain ⟨h1, h2⟩ := findNow_none l 0 hf
      simp [execOp, f.ev hm, f.ev hi, resolve, invoke, builtin, Builtin.delete_, run_underlying ht, Go.MapKept.run_getObj_map hb, hc, Go.MapKept.run_findKey hk h1, Go.MapKept.run_setObj_map _ hb, Result.andThen, h2, mapO]
    | some x =>
      obtain ⟨j, h1, h2, h3⟩ := findNow_hit l 0 x hf
      have e : (l.map Me.e).toArray.eraseIdxIfInBounds j = ((l.eraseIdx j).map Me.e).toArray := by
        rw [Array.eraseIdxIfInBounds, dif_pos (by simpa using h3)]
        simp [map_eraseIdx]
      simp [execOp, f.ev hm, f.ev hi, resolve, invoke, builtin, Builtin.delete_, run_underlying ht, Go.MapKept.run_getObj_map hb, hc, Go.MapKept.run_findKey hk h1, Go.MapKept.run_setObj_map _ hb, Result.andThen, h2, e, mapO, map_eraseIdx]
  · rw [St_set hH, star_assoc]
    exact sat_set (w := w) rfl s (Go.MapKept.heap_set hb).1 (Go.MapKept.heap_set hb).2
end
end Go.Sx
