/-
  More rules: texts from bytes and bytes from texts, reslicing.
-/
import Derived.Test.YtbbmhppkhcodfaaSxRows
namespace Go.Sx
set_option linter.unusedVariables false
set_option linter.unusedSimpArgs false

/-- bytes as cells -/
def cel (l : List UInt8) : List Value := l.map byteV
theorem cel_length (l : List UInt8) : (cel l).length = l.length := List.length_map _
theorem cel_append (a b : List UInt8) : cel (a ++ b) = cel a ++ cel b := List.map_append
theorem cel_one (l : List UInt8) : ∀ v ∈ cel l, v.oneCell' = true := fun v hv => by obtain ⟨b, _, rfl⟩ := List.mem_map.1 hv; rfl
theorem cel_get {l : List UInt8} {i : Nat} (h : i < l.length) : (cel l)[i]? = some (byteV l[i]) := by simp [cel, h]
theorem bts_cel (s : ByteArray) : bts s = cel s.data.toList := rfl
def str (l : List UInt8) : ByteArray := ⟨l.toArray⟩
theorem str_size (l : List UInt8) : (str l).size = l.length := by show l.toArray.size = l.length; simp
theorem bts_str (l : List UInt8) : bts (str l) = cel l := rfl
theorem str_data (s : ByteArray) : str s.data.toList = s := by cases s; rfl
theorem str_inj {a b : List UInt8} (h : str a = str b) : a = b := by
  have := congrArg (fun s : ByteArray => s.data.toList) h; simpa [str] using this
theorem str_append (a b : List UInt8) : str a ++ str b = str (a ++ b) := ByteArray.mk_append_mk a b

section
variable {P : Program} {n : Nat} {L : HProp} {Γ : Env} {d : Option Tmp} {ty : TypeId} {pos : String} {aft : Array Edge} {g : Option (Nat × Bool)}
theorem ro_toStr {t t' e : TypeId} {x : Operand} {v : Value} {m : Nat} {l : List UInt8} (hs : P.underlying t = some (.slice e)) (he : P.underlying e = some (.int .u8)) (ht : P.underlying t' = some .string) (hx : ev Γ x = some v) (h : Vw L v m (cel l)) (hm : l.length = m) :
    RO P n L Γ ⟨d, .convert t t' x, ty, pos, aft, g⟩ (.string (str l)) := fun a w R f s => by
  subst hm
  rcases h w R s with ⟨q, rfl, h0, hl⟩ | ⟨b, o, cap, rfl, hr⟩
  · have : l = [] := List.eq_nil_of_length_eq_zero h0
    subst this
    cases q with
    | none => simp [execOp, f.ev hx, convert, run_underlying hs, run_underlying he, run_underlying ht, Conv.bytesToString]; rfl
    | some q =>
      have h2 := run_bytesToString (P := P) w q 0 0 [] rfl
      simp only [execOp, f.ev hx, Sem.run_bind, run_convert_bytes_string w t t' e _ _ _ hs he ht, h2, Result.andThen_ok, Sem.run_pure]
      rfl
  · have hz : (l.map fun b => (b.toNat : Int)).map (Value.int .u8) = cel l := by simp [cel, byteV]
    have hc : (loadCells ⟨b, o, Option.none⟩ l.length).run P w = .ok ((l.map fun b => (b.toNat : Int)).map (Value.int .u8)).toArray w := by
      rw [hz, ← cel_length l]
      exact run_loadCells_list w ⟨b, o, Option.none⟩ (cel l) (fun j v hj => by rw [addr_add]; exact hr j v hj)
    have h2 := run_bytesToString w ⟨b, o, Option.none⟩ l.length cap _ hc
    rw [foldl_push_bytes] at h2
    have h3 : (⟨ByteArray.empty.data ++ ((l.map fun b => (b.toNat : Int)).map fun n => UInt8.ofNat n.toNat).toArray⟩ : ByteArray) = str l := by
      have : ((l.map fun b => (b.toNat : Int)).map fun n => UInt8.ofNat n.toNat) = l := by
        rw [List.map_map]; conv => rhs; rw [← List.map_id l]
        exact List.map_congr_left fun b _ => by simp
      rw [this]; simp [str]
    rw [h3] at h2
    simp only [execOp, f.ev hx, Sem.run_bind, run_convert_bytes_string w t t' e _ _ _ hs he ht, h2, Result.andThen_ok, Sem.run_pure]
theorem run_stringToBytes (e : TypeId) (s : ByteArray) (w : World) (hs : s.size ≤ maxLen) {R : HProp} (hsat : sat w R) :
    ∃ v w', (Conv.stringToBytes e s).run P w = .ok v w' ∧ v ≠ .slice Option.none 0 0 ∧ sat w' (star (row e 1 v s.size (bts s)) R) := by
  have hg := growCap_facts w (need := s.size) (old := 0) (e := e) hs
  obtain ⟨cs, hlen, hcells, htk⟩ : ∃ cs : List Value, cs.length = grownCap w s.size 0 e ∧ (Array.map (fun b : UInt8 => Value.int IntKind.u8 (b.toNat : Int)) s.data) ++ Array.replicate (grownCap w s.size 0 e - s.size) (Value.int .u8 0) = cs.toArray ∧ cs.take s.size = bts s := by
    refine ⟨bts s ++ List.replicate (grownCap w s.size 0 e - s.size) (Value.int .u8 0), ?_, ?_, ?_⟩
    · rw [List.length_append, bts_length, List.length_replicate]; omega
    · apply Array.ext'; rw [Array.toList_append, Array.toList_map, Array.toList_replicate]; rfl
    · rw [← bts_length s]; exact List.take_left
  have s1 : sat (w.drew.alloc (.cells cs.toArray e)) (star (own w.heap.size (.cells cs.toArray e)) R) := sat_alloc (w := w) rfl hsat rfl
  have hb := sat_own (sat_star_left s1)
  refine ⟨.slice (some ⟨w.heap.size, 0, Option.none⟩) s.size (grownCap w s.size 0 e), (w.drew.alloc (.cells cs.toArray e)).freeze ⟨w.heap.size, grownCap w s.size 0 e, Option.none⟩ 1, ?_, by simp, ?_⟩
  · have hz : (Question.appendCap s.size 0 e).cut (w.tape w.drawn (Question.appendCap s.size 0 e)) = grownCap w s.size 0 e := rfl
    have hsh : (w.drew.alloc (.cells cs.toArray e)).shape? w.heap.size = some (e, grownCap w s.size 0 e) := by
      simp only [World.shape?, hb]; rw [List.size_toArray, hlen]
    unfold Conv.stringToBytes
    simp only [Sem.run_bind, run_choose, Question.forced, Bool.false_eq_true, if_false, Result.andThen_ok, newRow, run_newObj, markStringish, run_shape, hz, hcells, World.drew_eq, World.alloc_eq, World.size_drew, Sem.run_pure]
    rw [hsh]
    rfl
  · refine row_mk (cs := cs) (fr := (grownCap w s.size 0 e, grownCap w s.size 0 e + 1)) hg.1 hg.2 (by rw [hlen, Nat.mul_one]) (by rw [Nat.mul_one]; exact htk) ?_ ?_
    · intro j hj hh; rw [hlen] at hj; simp only at hh; omega
    · refine sat_set (w := w.drew.alloc (.cells cs.toArray e)) rfl s1 ?_ ?_
      · simp only [World.freeze, Nat.one_ne_zero, if_false, Array.getElem?_modify, if_true, hb, Option.map_some]; rfl
      · intro k hk; simp only [World.freeze, Nat.one_ne_zero, if_false, Array.getElem?_modify, if_neg (Ne.symm hk)]
theorem eff_toBytes {t t' e : TypeId} {x : Operand} {s : ByteArray} {H : List HProp} (hs : P.underlying t = some .string) (ht : P.underlying t' = some (.slice e)) (he : P.underlying e = some (.int .u8)) (hx : ev Γ x = some (.string s)) (hm : s.size ≤ maxLen) :
    EFF P n Γ ⟨d, .convert t t' x, ty, pos, aft, g⟩ (St H) (fun v H' => ∃ b c, v = .slice (some ⟨b, 0, Option.none⟩) s.size c ∧ H' = row e 1 (.slice (some ⟨b, 0, Option.none⟩) s.size c) s.size (bts s) :: H) := eff_value fun a w F f st => by
  obtain ⟨v, w', hr, hn, s'⟩ := run_stringToBytes (P := P) e s w hm st
  rcases (sat_row s').2 with ⟨h1, _⟩ | ⟨b', c', _, _, h1, _⟩
  · exact absurd h1 hn
  subst h1
  refine ⟨_, w', _ :: H, ?_, ⟨b', c', rfl, rfl⟩, by rw [St_cons, star_assoc]; exact s'⟩
  simp [execOp, f.ev hx, convert, run_underlying hs, run_underlying ht, run_underlying he, hr]

/-! ### Reslicing -/
/-- a bound of a reslicing: nothing, or a whole number -/
def bnd (Γ : Env) (o : Option Operand) (dflt : Nat) : Option Nat :=
  match o with
  | Option.none => some dflt
  | some x => match ev Γ x with
    | some (.int _ i) => if 0 ≤ i then some i.toNat else Option.none
    | _ => Option.none
theorem bnd_of {x : Operand} {k : IntKind} {i : Int} {l df : Nat} (h : ev Γ x = some (.int k i)) (hi : i = (l : Int)) : bnd Γ (some x) df = some l := by
  subst hi; simp [bnd, h]
theorem bnd_spec {a : Act} (f : Fits n Γ a) {x : Operand} {df i : Nat} (h : bnd Γ (some x) df = some i) : ∃ k, a.eval x = .int k (i : Int) := by
  unfold bnd at h
  simp only at h
  cases hx : ev Γ x with
  | none => simp [hx] at h
  | some v =>
    cases v with
    | int k j =>
      simp only [hx] at h
      by_cases hj : 0 ≤ j
      · rw [if_pos hj] at h; injection h with h; subst h
        exact ⟨k, by rw [f.ev hx, Int.toNat_of_nonneg hj]⟩
      · rw [if_neg hj] at h; cases h
    | _ => simp [hx] at h
def resl (b o c size l h : Nat) : Value := .slice (some (if c = l then ⟨b, o, Option.none⟩ else ⟨b, o + l * size, Option.none⟩)) (h - l) (c - l)
theorem run_sliceBounds {a : Act} (f : Fits n Γ a) {isSlice : Bool} {len cap l h : Nat} {lo hi : Option Operand} {w : World} (hl : bnd Γ lo 0 = some l) (hh : bnd Γ hi len = some h) (h1 : l ≤ h) (h2 : h ≤ cap) :
    (Instr.sliceBounds isSlice len cap (lo.map a.eval) (hi.map a.eval) Option.none).run P w = .ok (l, h, cap) w := by
  unfold Instr.sliceBounds
  cases hi with
  | none =>
    injection hh with hh; subst hh
    cases lo with
    | none => injection hl with hl; subst hl; simp
    | some x => obtain ⟨k, e⟩ := bnd_spec f hl; simp [e, Instr.sliceBound, asIntOf, h1]
  | some y =>
    obtain ⟨k', e'⟩ := bnd_spec f hh
    cases lo with
    | none => injection hl with hl; subst hl; simp [e', Instr.sliceBound, asIntOf, h2]
    | some x => obtain ⟨k, e⟩ := bnd_spec f hl; simp [e, e', Instr.sliceBound, asIntOf, h1, h2]
theorem ro_slice {t e : TypeId} {x : Operand} {lo hi : Option Operand} {b o m c l h size bytes : Nat} {z : Value} (ht : Slc P t e size bytes z) (hx : ev Γ x = some (.slice (some ⟨b, o, Option.none⟩) m c)) (hl : bnd Γ lo 0 = some l) (hh : bnd Γ hi m = some h) (h1 : l ≤ h) (h2 : h ≤ c) :
    RO P n L Γ ⟨d, .slice t x lo hi Option.none, ty, pos, aft, g⟩ (resl b o c size l h) := fun a w R f s => by
  obtain ⟨inf, i1, i2, i3, i4⟩ := ht.info
  have hsz : (sizeOf e).run P w = .ok size w := by simp [sizeOf, typeInfo, i1, i3]
  have hb := run_sliceBounds (P := P) f (isSlice := true) (w := w) hl hh h1 h2
  simp only [execOp, Instr.sliceAt, Instr.slice, f.ev hx, Sem.run_bind, run_underlying ht.und, Result.andThen_ok, Option.map_none, hb, hsz, Sem.run_pure, Option.map_some, addr_add, resl]
  split <;> rfl
theorem ro_sliceNil {t e : TypeId} {x : Operand} {lo hi : Option Operand} {size bytes : Nat} {z : Value} (ht : Slc P t e size bytes z) (hx : ev Γ x = some (.slice Option.none 0 0)) (hl : bnd Γ lo 0 = some 0) (hh : bnd Γ hi 0 = some 0) :
    RO P n L Γ ⟨d, .slice t x lo hi Option.none, ty, pos, aft, g⟩ (.slice Option.none 0 0) := fun a w R f s => by
  obtain ⟨inf, i1, i2, i3, i4⟩ := ht.info
  have hsz : (sizeOf e).run P w = .ok size w := by simp [sizeOf, typeInfo, i1, i3]
  have hb := run_sliceBounds (P := P) f (isSlice := true) (cap := 0) (w := w) hl hh (Nat.le_refl _) (Nat.le_refl _)
  simp only [execOp, Instr.sliceAt, Instr.slice, f.ev hx, Sem.run_bind, run_underlying ht.und, Result.andThen_ok, Option.map_none, hb, hsz, Sem.run_pure]
  rfl
theorem ro_sliceStr {t : TypeId} {x : Operand} {lo hi : Option Operand} {s : ByteArray} {l h : Nat} (ht : P.underlying t = some .string) (hx : ev Γ x = some (.string s)) (hl : bnd Γ lo 0 = some l) (hh : bnd Γ hi s.size = some h) (h1 : l ≤ h) (h2 : h ≤ s.size) :
    RO P n L Γ ⟨d, .slice t x lo hi Option.none, ty, pos, aft, g⟩ (.string (s.extract l h)) := fun a w R f st => by
  have hb := run_sliceBounds (P := P) f (isSlice := false) (w := w) hl hh h1 h2
  simp [execOp, Instr.sliceAt, Instr.slice, f.ev hx, run_underlying ht, hb]
theorem Vw.resl {b o m c l h size : Nat} {xs : List Value} (h0 : RdN L b o xs) (h1 : l ≤ h) (h2 : h ≤ m) (h3 : m ≤ c) (hx : xs.length = m * size) : Vw L (resl b o c size l h) (h - l) ((xs.drop (l * size)).take ((h - l) * size)) := by
  unfold Sx.resl
  by_cases e : c = l
  · rw [if_pos e]
    have : h - l = 0 := by omega
    rw [this]; refine Vw.rd fun j v hj => ?_
    simp at hj
  · rw [if_neg e]
    refine Vw.rd fun j v hj => ?_
    rw [List.getElem?_take] at hj
    split at hj
    · rw [List.getElem?_drop] at hj
      rw [Nat.add_assoc]; exact h0 _ v hj
    · cases hj
theorem RdN.row {e : TypeId} {size m b cap : Nat} {xs : List Value} : RdN (row e size (.slice (some ⟨b, 0, Option.none⟩) m cap) m xs) b 0 xs := fun j v hj => by rw [Nat.zero_add]; exact Rd.row hj
end

/-! ### Whole numbers that fit -/
theorem wrap_i64_in {x : Int} (h1 : -9223372036854775808 ≤ x) (h2 : x < 9223372036854775808) : IntKind.i64.wrap x = x := by
  unfold IntKind.wrap; simp only [IntKind.bits, IntKind.signed]; simp; omega
theorem wrap_i32_in {x : Int} (h1 : -2147483648 ≤ x) (h2 : x < 2147483648) : IntKind.i32.wrap x = x := by
  unfold IntKind.wrap; simp only [IntKind.bits, IntKind.signed]; simp; omega
theorem wrap_u64_mod (x : Int) : IntKind.u64.wrap x = x % 18446744073709551616 := by
  unfold IntKind.wrap; simp [IntKind.bits, IntKind.signed]
theorem wrap_u64_in {x : Int} (h1 : 0 ≤ x) (h2 : x < 18446744073709551616) : IntKind.u64.wrap x = x := by
  rw [wrap_u64_mod]; omega
theorem wrap_u32_mod (x : Int) : IntKind.u32.wrap x = x % 4294967296 := by
  unfold IntKind.wrap; simp [IntKind.bits, IntKind.signed]
theorem wrap_u32_in {x : Int} (h1 : 0 ≤ x) (h2 : x < 4294967296) : IntKind.u32.wrap x = x := by
  rw [wrap_u32_mod]; omega
theorem wrap_u16_mod (x : Int) : IntKind.u16.wrap x = x % 65536 := by
  unfold IntKind.wrap; simp [IntKind.bits, IntKind.signed]
theorem wrap_u16_in {x : Int} (h1 : 0 ≤ x) (h2 : x < 65536) : IntKind.u16.wrap x = x := by
  rw [wrap_u16_mod]; omega
theorem wrap_u8_mod (x : Int) : IntKind.u8.wrap x = x % 256 := by
  unfold IntKind.wrap; simp [IntKind.bits, IntKind.signed]
theorem wrap_u8_in {x : Int} (h1 : 0 ≤ x) (h2 : x < 256) : IntKind.u8.wrap x = x := by
  rw [wrap_u8_mod]; omega

/-! ### Building -/
def vcells : Value → List Value
  | .agg cs => cs.toList
  | v => [v]
theorem vcells_eq (v : Value) : v.cells = (vcells v).toArray := by cases v <;> rfl
def fillL (place : Nat → Option (Nat × Nat)) : List Value → List (Nat × Value) → Option (List Value)
  | cells, [] => some cells
  | cells, (i, v) :: rest => match place i with
    | Option.none => Option.none
    | some (off, size) => bif Nat.beq (vcells v).length size && Nat.ble (off + (vcells v).length) cells.length then fillL place (over cells off (vcells v)) rest else Option.none
theorem foldl_over : ∀ (vs : List Value) (k off : Nat) (cells : List Value), off + k + vs.length ≤ cells.length →
    (vs.zipIdx k).foldl (fun (cs : Array Value) (x : Value × Nat) => match x with | (c, j) => cs.setIfInBounds (off + j) c) cells.toArray = (over cells (off + k) vs).toArray
  | [], k, off, cells, _ => by simp [over_nil]
  | v :: vs, k, off, cells, h => by
    have hlt : off + k < cells.length := by simp at h; omega
    simp only [List.zipIdx_cons, List.foldl_cons]
    have e : cells.toArray.setIfInBounds (off + k) v = (cells.set (off + k) v).toArray := by simp
    rw [e, foldl_over vs (k + 1) off (cells.set (off + k) v) (by simp at h ⊢; omega), ← over_cons h]
    rfl
theorem fill_eq (place : Nat → Option (Nat × Nat)) : ∀ (parts : List (Nat × Value)) (cells cs : List Value), fillL place cells parts = some cs → Instr.fill place cells.toArray parts = some cs.toArray
  | [], cells, cs, h => by simp only [fillL] at h; injection h with h; subst h; rfl
  | (i, v) :: rest, cells, cs, h => by
    simp only [fillL] at h
    unfold Instr.fill
    cases hp : place i with
    | none => simp [hp] at h
    | some x =>
      obtain ⟨off, size⟩ := x
      simp only [hp] at h
      cases hb : (Nat.beq (vcells v).length size && Nat.ble (off + (vcells v).length) cells.length) with
      | false => simp [hb] at h
      | true =>
        rw [hb, cond_true] at h
        simp only [Bool.and_eq_true] at hb
        have h1 : (vcells v).length = size := Nat.eq_of_beq_eq_true hb.1
        have h2 : off + (vcells v).length ≤ cells.length := Nat.le_of_ble_eq_true hb.2
        have hno : (decide ((vcells v).toArray.size ≠ size) || decide (off + (vcells v).toArray.size > cells.toArray.size)) = false := by simp; omega
        simp only [vcells_eq, hno, Bool.false_eq_true, if_false]
        have := foldl_over (vcells v) 0 off cells (by omega)
        rw [← Array.foldl_toList, Array.toList_zipIdx, List.toList_toArray, this]
        exact fill_eq place rest _ cs h
/-- the parts of a struct type, and its zero -/
structure StructT (P : Program) (t : TypeId) (zs : List Value) (places : List (Nat × Nat)) : Prop where
  zero : Zero P t (.agg zs.toArray)
  und : ∃ fs, P.underlying t = some (.struct fs) ∧ ∀ w, (fs.mapM fun f => do let n ← sizeOf f.type; pure (f.offset, n) : Sem (Array (Nat × Nat))).run P w = .ok places.toArray w
theorem bld_struct {P : Program} {t : TypeId} {zs : List Value} {places : List (Nat × Nat)} {parts : List (Nat × Value)} {cs : List Value} (ht : StructT P t zs places)
    (hf : fillL (fun x => places[x]?) zs parts = some cs) : Bld P t parts (.agg cs.toArray) := fun w => by
  obtain ⟨fs, hu, hm⟩ := ht.und
  have hf' := fill_eq (fun x => places.toArray[x]?) parts zs cs (by simpa using hf)
  unfold Instr.build
  simp only [Sem.run_bind, ht.zero w, Result.andThen_ok, run_underlying hu, hm w, Value.cells, hf', Sem.run_pure]
theorem sbld {P : Program} {t e : TypeId} {size bytes k : Nat} {z : Value} {parts : List (Nat × Value)} {cs : List Value} (base : List Value) (ht : Slc P t e size bytes z) (hk : k * size ≤ 16777216)
    (hb : Array.map (fun x => (if k * size = 0 then #[] else z.cells)[x % (if k * size = 0 then #[] else z.cells).size]!) (Array.range (k * size)) = base.toArray)
    (hf : fillL (fun i => some (i * size, size)) base parts = some cs) : SBld P t k parts e cs := fun w => by
  obtain ⟨i, hi, hz, hs, _⟩ := ht.info
  have h1 : (sizeOf e).run P w = .ok size w := by simp [sizeOf, typeInfo, hi, hs]
  have h2 : (zeroValue e).run P w = .ok z w := by simp [zeroValue, typeInfo, hi, hz]
  have hf' := fill_eq (fun i => some (i * size, size)) parts base cs hf
  rw [← hb] at hf'
  unfold Instr.buildSlice
  simp only [Sem.run_bind, run_underlying ht.und, Result.andThen_ok, h1]
  have h3 : ¬ (k * size > 2 ^ 24) := by omega
  rw [if_neg h3]
  by_cases h0 : k * size = 0
  · simp only [h0, if_true] at hf' ⊢
    simp only [Sem.run_bind, Sem.run_pure, Result.andThen_ok, hf', newRow, run_newObj]
    rfl
  · simp only [if_neg h0] at hf' ⊢
    simp only [Sem.run_bind, h2, Sem.run_pure, Result.andThen_ok, hf', newRow, run_newObj]
    rfl
end Go.Sx
