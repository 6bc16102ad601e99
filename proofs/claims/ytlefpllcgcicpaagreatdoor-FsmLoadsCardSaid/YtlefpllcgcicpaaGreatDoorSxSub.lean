/-
  More rules: texts from bytes and bytes from texts, reslicing.
  A store into a row.
  Regions that draw: what was made may be locked for reading; facts are drawn from the state.
  The logic of the Sx texts as the walker uses it: states up to what is let go, loops and cuts that keep the frame's slots, tests that are split.
  Lists of things of k cells each, laid one behind the other; slices of them: an element, a part, one that is set; views.
  Appends and slice literals as rows: of bytes, of things of k cells each.
  Texts as lists of bytes; slices of views.
  make and copy, of bytes.
  Slices of one-cell elements whose block is a state's own: cells are copied, appended in place, cleared; for slices.Insert, slices.Delete.
  Maps whose keys are whole numbers, in the logic of the Sx text.
  A part of a slice: where it lies, without a look at the heap.
-/
import Derived.Test.YtlefpllcgcicpaaGreatDoorSxRows
import Derived.Laws.Small
import Derived.Laws.MakeOwn
import Derived.Laws.IdiomCopy
import Derived.Lib.Overlaps
import Derived.MapKept
set_option linter.unusedVariables false
set_option linter.unusedSimpArgs false
namespace Go.Sx
/-- bytes as cells -/
def cel (l : List UInt8) : List Value := l.map byteV
theorem yx (l : List UInt8) : (cel l).length = l.length := List.length_map _
theorem cel_append (a b : List UInt8) : cel (a ++ b) = cel a ++ cel b := List.map_append
theorem cel_one (l : List UInt8) : ∀ v ∈ cel l, v.oneCell' = true := fun v hv => by obtain ⟨b, _, rfl⟩ := List.mem_map.1 hv; rfl
theorem cel_get {l : List UInt8} {i : Nat} (h : i < l.length) : (cel l)[i]? = some (byteV l[i]) := by simp [cel, h]
theorem bts_cel (s : ByteArray) : bts s = cel s.data.toList := rfl
def str (l : List UInt8) : ByteArray := ⟨l.toArray⟩
theorem xN (l : List UInt8) : (str l).size = l.length := by show l.toArray.size = l.length; simp
theorem str_data (s : ByteArray) : str s.data.toList = s := by cases s; rfl
theorem str_inj {a b : List UInt8} (h : str a = str b) : a = b := by
 have := congrArg (fun s : ByteArray => s.data.toList) h; simpa [str] using this
theorem str_append (a b : List UInt8) : str a ++ str b = str (a ++ b) := ByteArray.mk_append_mk a b
section
variable {P : Program} {n : Nat} {L : HProp} {Γ : Env} {d : Option Tmp} {ty : TypeId} {pos : String} {aft : Array Edge} {g : Option (Nat × Bool)}
theorem yp {t t' e : TypeId} {x : Operand} {v : Value} {m : Nat} {l : List UInt8} (hs : P.underlying t = some (.slice e)) (he : P.underlying e = some (.int .u8)) (ht : P.underlying t' = some .string) (hx : ev Γ x = some v) (h : Vw L v m (cel l)) (hm : l.length = m) :
 RO P n L Γ ⟨d, .convert t t' x, ty, pos, aft, g⟩ (.string (str l)) := fun a w R f s => by
 subst hm
 rcases h w R s with ⟨q, rfl, h0, hl⟩ | ⟨b, o, cap, rfl, hr⟩
 ·have : l = [] := List.eq_nil_of_length_eq_zero h0
  subst this
  cases q with
  | none => simp [execOp, f.ev hx, convert, run_underlying hs, run_underlying he, run_underlying ht, Conv.bytesToString]; rfl
  | some q =>
   have h2 := run_bytesToString (P := P) w q 0 0 [] rfl
   simp only [execOp, f.ev hx, Sem.run_bind, run_convert_bytes_string w t t' e _ _ _ hs he ht, h2, Result.andThen_ok, Sem.run_pure]
   rfl
 ·have hz : (l.map fun b => (b.toNat : Int)).map (Value.int .u8) = cel l := by simp [cel, byteV]
  have hc : (loadCells ⟨b, o, Option.none⟩ l.length).run P w = .ok ((l.map fun b => (b.toNat : Int)).map (Value.int .u8)).toArray w := by
   rw [hz, ← yx l]; exact run_loadCells_list w ⟨b, o, Option.none⟩ (cel l) (fun j v hj => by rw [yR]; exact hr j v hj)
  have h2 := run_bytesToString w ⟨b, o, Option.none⟩ l.length cap _ hc
  rw [foldl_push_bytes] at h2
  have h3 : (⟨ByteArray.empty.data ++ ((l.map fun b => (b.toNat : Int)).map fun n => UInt8.ofNat n.toNat).toArray⟩ : ByteArray) = str l := by
   have : ((l.map fun b => (b.toNat : Int)).map fun n => UInt8.ofNat n.toNat) = l := by
    rw [List.map_map]; conv => rhs; rw [← List.map_id l]
    exact List.map_congr_left fun b _ => by simp
   rw [this]; simp [str]
  rw [h3] at h2; simp only [execOp, f.ev hx, Sem.run_bind, run_convert_bytes_string w t t' e _ _ _ hs he ht, h2, Result.andThen_ok, Sem.run_pure]
theorem run_stringToBytes (e : TypeId) (s : ByteArray) (w : World) (hs : s.size ≤ maxLen) {R : HProp} (hsat : sat w R) :
 ∃ v w', (Conv.stringToBytes e s).run P w = .ok v w' ∧ v ≠ .slice Option.none 0 0 ∧ sat w' (star (row e 1 v s.size (bts s)) R) := by
 have hg := growCap_facts w (need := s.size) (old := 0) (e := e) hs
 obtain ⟨cs, hlen, hcells, htk⟩ : ∃ cs : List Value, cs.length = grownCap w s.size 0 e ∧ (Array.map (fun b : UInt8 => Value.int IntKind.u8 (b.toNat : Int)) s.data) ++ Array.replicate (grownCap w s.size 0 e - s.size) (Value.int .u8 0) = cs.toArray ∧ cs.take s.size = bts s := by
  refine ⟨bts s ++ List.replicate (grownCap w s.size 0 e - s.size) (Value.int .u8 0), ?_, ?_, ?_⟩
  ·rw [List.length_append, bts_length, List.length_replicate]; omega
  ·apply Array.ext'; rw [Array.toList_append, Array.toList_map, Array.toList_replicate]; rfl
  ·rw [← bts_length s]; exact List.take_left
 have s1 : sat (w.drew.alloc (.cells cs.toArray e)) (star (own w.heap.size (.cells cs.toArray e)) R) := sat_alloc (w := w) rfl hsat rfl
 have hb := yr (qa s1)
 refine ⟨.slice (some ⟨w.heap.size, 0, Option.none⟩) s.size (grownCap w s.size 0 e), (w.drew.alloc (.cells cs.toArray e)).freeze ⟨w.heap.size, grownCap w s.size 0 e, Option.none⟩ 1, ?_, by simp, ?_⟩
 ·have hz : (Question.appendCap s.size 0 e).cut (w.tape w.drawn (Question.appendCap s.size 0 e)) = grownCap w s.size 0 e := rfl
  have hsh : (w.drew.alloc (.cells cs.toArray e)).shape? w.heap.size = some (e, grownCap w s.size 0 e) := by
   simp only [World.shape?, hb]; rw [List.size_toArray, hlen]
  unfold Conv.stringToBytes; simp only [Sem.run_bind, run_choose, Question.forced, Bool.false_eq_true, if_false, Result.andThen_ok, newRow, run_newObj, markStringish, run_shape, hz, hcells, World.drew_eq, World.alloc_eq, World.size_drew, Sem.run_pure]; rw [hsh]
  rfl
 ·refine row_mk (cs := cs) (fr := (grownCap w s.size 0 e, grownCap w s.size 0 e + 1)) hg.1 hg.2 (by rw [hlen, Nat.mul_one]) (by rw [Nat.mul_one]; exact htk) ?_ ?_
  ·intro j hj hh; rw [hlen] at hj; simp only at hh; omega
  ·refine sat_set (w := w.drew.alloc (.cells cs.toArray e)) rfl s1 ?_ ?_
   ·simp only [World.freeze, Nat.one_ne_zero, if_false, Array.getElem?_modify, if_true, hb, Option.map_some]; rfl
   ·intro k hk; simp only [World.freeze, Nat.one_ne_zero, if_false, Array.getElem?_modify, if_neg (Ne.symm hk)]
theorem eff_toBytes {t t' e : TypeId} {x : Operand} {s : ByteArray} {H : List HProp} (hs : P.underlying t = some .string) (ht : P.underlying t' = some (.slice e)) (he : P.underlying e = some (.int .u8)) (hx : ev Γ x = some (.string s)) (hm : s.size ≤ maxLen) :
 EFF P n Γ ⟨d, .convert t t' x, ty, pos, aft, g⟩ (St H) (fun v H' => ∃ b c, v = .slice (some ⟨b, 0, Option.none⟩) s.size c ∧ H' = row e 1 (.slice (some ⟨b, 0, Option.none⟩) s.size c) s.size (bts s) :: H) := yv fun a w F f st => by
 obtain ⟨v, w', hr, hn, s'⟩ := run_stringToBytes (P := P) e s w hm st
 rcases (sat_row s').2 with ⟨h1, _⟩ | ⟨b', c', _, _, h1, _⟩
 ·exact absurd h1 hn
 subst h1; refine ⟨_, w', _ :: H, ?_, ⟨b', c', rfl, rfl⟩, by rw [qJ, zv]; exact s'⟩; simp [execOp, f.ev hx, convert, run_underlying hs, run_underlying ht, run_underlying he, hr]
/-! ### Reslicing -/
/-- a bound of a reslicing: nothing, or a whole number -/
def bnd (Γ : Env) (o : Option Operand) (dflt : Nat) : Option Nat :=
 match o with
 | Option.none => some dflt
 | some x => match ev Γ x with
  | some (.int _ i) => if 0 ≤ i then some i.toNat else Option.none
  | _ => Option.none
theorem yZ {x : Operand} {k : IntKind} {i : Int} {l df : Nat} (h : ev Γ x = some (.int k i)) (hi : i = (l : Int)) : bnd Γ (some x) df = some l := by
 subst hi; simp [bnd, h]
theorem bnd_spec {a : Act} (f : Fits n Γ a) {x : Operand} {df i : Nat} (h : bnd Γ (some x) df = some i) : ∃ k, a.eval x = .int k (i : Int) := by
 unfold bnd at h; simp only at h
 cases hx : ev Γ x with
 | none => simp [hx] at h
 | some v =>
  cases v with
  | int k j =>
   simp only [hx] at h
   by_cases hj : 0 ≤ j
   ·rw [if_pos hj] at h; injection h with h; subst h
    exact ⟨k, by rw [f.ev hx, Int.toNat_of_nonneg hj]⟩
   ·rw [if_neg hj] at h; cases h
  | _ => simp [hx] at h
def resl (b o c size l h : Nat) : Value := .slice (some (if c = l then ⟨b, o, Option.none⟩ else ⟨b, o + l * size, Option.none⟩)) (h - l) (c - l)
theorem xc {a : Act} (f : Fits n Γ a) {isSlice : Bool} {len cap l h : Nat} {lo hi : Option Operand} {w : World} (hl : bnd Γ lo 0 = some l) (hh : bnd Γ hi len = some h) (h1 : l ≤ h) (h2 : h ≤ cap) :
 (Instr.sliceBounds isSlice len cap (lo.map a.eval) (hi.map a.eval) Option.none).run P w = .ok (l, h, cap) w := by
 unfold Instr.sliceBounds
 cases hi with
 | none =>
  injection hh with hh; subst hh
  cases lo with
  | none => injection hl with hl; subst hl; simp
  | some x => obtain ⟨k, e⟩ := bnd_spec f hl; simp [e, Instr.sliceBound, asIntOf, h1]
 | some y =>
  obtain ⟨k', e'⟩ := bnd_spec f hh
  cases lo with
  | none => injection hl with hl; subst hl; simp [e', Instr.sliceBound, asIntOf, h2]
  | some x => obtain ⟨k, e⟩ := bnd_spec f hl; simp [e, e', Instr.sliceBound, asIntOf, h1, h2]
theorem yf {t e : TypeId} {x : Operand} {lo hi : Option Operand} {b o m c l h size bytes : Nat} {z : Value} (ht : Slc P t e size bytes z) (hx : ev Γ x = some (.slice (some ⟨b, o, Option.none⟩) m c)) (hl : bnd Γ lo 0 = some l) (hh : bnd Γ hi m = some h) (h1 : l ≤ h) (h2 : h ≤ c) :
 RO P n L Γ ⟨d, .slice t x lo hi Option.none, ty, pos, aft, g⟩ (resl b o c size l h) := fun a w R f s => by
 obtain ⟨inf, i1, i2, i3, i4⟩ := ht.info
 have hsz : (sizeOf e).run P w = .ok size w := by simp [sizeOf, typeInfo, i1, i3]
 have hb := xc (P := P) f (isSlice := true) (w := w) hl hh h1 h2
 simp only [execOp, Instr.sliceAt, Instr.slice, f.ev hx, Sem.run_bind, run_underlying ht.und, Result.andThen_ok, Option.map_none, hb, hsz, Sem.run_pure, Option.map_some, yR, resl]
 split <;> rfl
theorem ro_sliceNil {t e : TypeId} {x : Operand} {lo hi : Option Operand} {size bytes : Nat} {z : Value} (ht : Slc P t e size bytes z) (hx : ev Γ x = some (.slice Option.none 0 0)) (hl : bnd Γ lo 0 = some 0) (hh : bnd Γ hi 0 = some 0) :
 RO P n L Γ ⟨d, .slice t x lo hi Option.none, ty, pos, aft, g⟩ (.slice Option.none 0 0) := fun a w R f s => by
 obtain ⟨inf, i1, i2, i3, i4⟩ := ht.info
 have hsz : (sizeOf e).run P w = .ok size w := by simp [sizeOf, typeInfo, i1, i3]
 have hb := xc (P := P) f (isSlice := true) (cap := 0) (w := w) hl hh (Nat.le_refl _) (Nat.le_refl _)
 simp only [execOp, Instr.sliceAt, Instr.slice, f.ev hx, Sem.run_bind, run_underlying ht.und, Result.andThen_ok, Option.map_none, hb, hsz, Sem.run_pure]
 rfl
theorem ro_sliceStr {t : TypeId} {x : Operand} {lo hi : Option Operand} {s : ByteArray} {l h : Nat} (ht : P.underlying t = some .string) (hx : ev Γ x = some (.string s)) (hl : bnd Γ lo 0 = some l) (hh : bnd Γ hi s.size = some h) (h1 : l ≤ h) (h2 : h ≤ s.size) :
 RO P n L Γ ⟨d, .slice t x lo hi Option.none, ty, pos, aft, g⟩ (.string (s.extract l h)) := fun a w R f st => by
 have hb := xc (P := P) f (isSlice := false) (w := w) hl hh h1 h2
 simp [execOp, Instr.sliceAt, Instr.slice, f.ev hx, run_underlying ht, hb]
theorem Vw.resl {b o m c l h size : Nat} {xs : List Value} (h0 : RdN L b o xs) (h1 : l ≤ h) (h2 : h ≤ m) (h3 : m ≤ c) (hx : xs.length = m * size) : Vw L (resl b o c size l h) (h - l) ((xs.drop (l * size)).take ((h - l) * size)) := by
 unfold Sx.resl
 by_cases e : c = l
 ·rw [if_pos e]; have : h - l = 0 := by omega
  rw [this]; refine Vw.rd fun j v hj => ?_
  simp at hj
 ·rw [if_neg e]; refine Vw.rd fun j v hj => ?_
  rw [List.getElem?_take] at hj
  split at hj
  ·rw [List.getElem?_drop] at hj; rw [Nat.add_assoc]; exact h0 _ v hj
  ·cases hj
theorem RdN.row {e : TypeId} {size m b cap : Nat} {xs : List Value} : RdN (row e size (.slice (some ⟨b, 0, Option.none⟩) m cap) m xs) b 0 xs := fun j v hj => by rw [Nat.zero_add]; exact Rd.row hj
end
/-! ### Whole numbers that fit -/
theorem qU {x : Int} (h1 : -9223372036854775808 ≤ x) (h2 : x < 9223372036854775808) : IntKind.i64.wrap x = x := by
 unfold IntKind.wrap; simp only [IntKind.bits, IntKind.signed]; simp; omega
theorem wrap_u64_mod (x : Int) : IntKind.u64.wrap x = x % 18446744073709551616 := by
 unfold IntKind.wrap; simp [IntKind.bits, IntKind.signed]
theorem yI {x : Int} (h1 : 0 ≤ x) (h2 : x < 18446744073709551616) : IntKind.u64.wrap x = x := by
 rw [wrap_u64_mod]; omega
theorem wrap_u32_mod (x : Int) : IntKind.u32.wrap x = x % 4294967296 := by
 unfold IntKind.wrap; simp [IntKind.bits, IntKind.signed]
theorem xC {x : Int} (h1 : 0 ≤ x) (h2 : x < 4294967296) : IntKind.u32.wrap x = x := by
 rw [wrap_u32_mod]; omega
theorem wrap_u8_mod (x : Int) : IntKind.u8.wrap x = x % 256 := by
 unfold IntKind.wrap; simp [IntKind.bits, IntKind.signed]
theorem wrap_u8_in {x : Int} (h1 : 0 ≤ x) (h2 : x < 256) : IntKind.u8.wrap x = x := by
 rw [wrap_u8_mod]; omega
/-! ### Building -/
def vcells : Value → List Value
 | .agg cs => cs.toList
 | v => [v]
theorem vcells_eq (v : Value) : v.cells = (vcells v).toArray := by cases v <;> rfl
def fillL (place : Nat → Option (Nat × Nat)) : List Value → List (Nat × Value) → Option (List Value)
 | cells, [] => some cells
 | cells, (i, v) :: rest => match place i with
  | Option.none => Option.none
  | some (off, size) => bif Nat.beq (vcells v).length size && Nat.ble (off + (vcells v).length) cells.length then fillL place (yE cells off (vcells v)) rest else Option.none
theorem foldl_over : ∀ (vs : List Value) (k off : Nat) (cells : List Value), off + k + vs.length ≤ cells.length →
 (vs.zipIdx k).foldl (fun (cs : Array Value) (x : Value × Nat) => match x with | (c, j) => cs.setIfInBounds (off + j) c) cells.toArray = (yE cells (off + k) vs).toArray
 | [], k, off, cells, _ => by simp [over_nil]
 | v :: vs, k, off, cells, h => by
  have hlt : off + k < cells.length := by simp at h; omega
  simp only [List.zipIdx_cons, List.foldl_cons]; have e : cells.toArray.setIfInBounds (off + k) v = (cells.set (off + k) v).toArray := by simp
  rw [e, foldl_over vs (k + 1) off (cells.set (off + k) v) (by simp at h ⊢; omega), ← over_cons h]
  rfl
theorem fill_eq (place : Nat → Option (Nat × Nat)) : ∀ (parts : List (Nat × Value)) (cells cs : List Value), fillL place cells parts = some cs → Instr.fill place cells.toArray parts = some cs.toArray
 | [], cells, cs, h => by simp only [fillL] at h; injection h with h; subst h; rfl
 | (i, v) :: rest, cells, cs, h => by
  simp only [fillL] at h; unfold Instr.fill
  cases hp : place i with
  | none => simp [hp] at h
  | some x =>
   obtain ⟨off, size⟩ := x
   simp only [hp] at h
   cases hb : (Nat.beq (vcells v).length size && Nat.ble (off + (vcells v).length) cells.length) with
   | false => simp [hb] at h
   | true =>
    rw [hb, cond_true] at h; simp only [Bool.and_eq_true] at hb; have h1 : (vcells v).length = size := Nat.eq_of_beq_eq_true hb.1
    have h2 : off + (vcells v).length ≤ cells.length := zy1 hb.2
    have hno : (decide ((vcells v).toArray.size ≠ size) || decide (off + (vcells v).toArray.size > cells.toArray.size)) = false := by simp; omega
    simp only [vcells_eq, hno, Bool.false_eq_true, if_false]; have := foldl_over (vcells v) 0 off cells (by omega)
    rw [← Array.foldl_toList, Array.toList_zipIdx, List.toList_toArray, this]; exact fill_eq place rest _ cs h
/-- the parts of a struct type, and its zero -/
structure StructT (P : Program) (t : TypeId) (zs : List Value) (places : List (Nat × Nat)) : Prop where
 zero : Zero P t (.agg zs.toArray)
 und : ∃ fs, P.underlying t = some (.struct fs) ∧ ∀ w, (fs.mapM fun f => do let n ← sizeOf f.type; pure (f.offset, n) : Sem (Array (Nat × Nat))).run P w = .ok places.toArray w
theorem qK {P : Program} {t : TypeId} {zs : List Value} {places : List (Nat × Nat)} {parts : List (Nat × Value)} {cs : List Value} (ht : StructT P t zs places)
 (hf : fillL (fun x => places[x]?) zs parts = some cs) : Bld P t parts (.agg cs.toArray) := fun w => by
 obtain ⟨fs, hu, hm⟩ := ht.und
 have hf' := fill_eq (fun x => places.toArray[x]?) parts zs cs (by simpa using hf)
 unfold Instr.build; simp only [Sem.run_bind, ht.zero w, Result.andThen_ok, run_underlying hu, hm w, Value.cells, hf', Sem.run_pure]
theorem sbld {P : Program} {t e : TypeId} {size bytes k : Nat} {z : Value} {parts : List (Nat × Value)} {cs : List Value} (base : List Value) (ht : Slc P t e size bytes z) (hk : k * size ≤ 16777216)
 (hb : Array.map (fun x => (if k * size = 0 then #[] else z.cells)[x % (if k * size = 0 then #[] else z.cells).size]!) (Array.range (k * size)) = base.toArray)
 (hf : fillL (fun i => some (i * size, size)) base parts = some cs) : SBld P t k parts e cs := fun w => by
 obtain ⟨i, hi, hz, hs, _⟩ := ht.info
 have h1 : (sizeOf e).run P w = .ok size w := by simp [sizeOf, typeInfo, hi, hs]
 have h2 : (zeroValue e).run P w = .ok z w := by simp [zeroValue, typeInfo, hi, hz]
 have hf' := fill_eq (fun i => some (i * size, size)) parts base cs hf
 rw [← hb] at hf'; unfold Instr.buildSlice; simp only [Sem.run_bind, run_underlying ht.und, Result.andThen_ok, h1]; have h3 : ¬ (k * size > 2 ^ 24) := by omega
 rw [if_neg h3]
 by_cases h0 : k * size = 0
 ·simp only [h0, if_true] at hf' ⊢; simp only [Sem.run_bind, Sem.run_pure, Result.andThen_ok, hf', newRow, run_newObj]
  rfl
 ·simp only [if_neg h0] at hf' ⊢; simp only [Sem.run_bind, h2, Sem.run_pure, Result.andThen_ok, hf', newRow, run_newObj]
  rfl
section
variable {P : Program} {n : Nat} {Γ : Env} {d : Option Tmp} {ty : TypeId} {pos : String} {aft : Array Edge} {g : Option (Nat × Bool)}
theorem eff_storeRow {t : TypeId} {x y : Operand} {b off m cap : Nat} {xs : List Value} {e : TypeId} {size : Nat} {v : Value} {H : List HProp} (i : Nat) (ht : Scal P t) (hx : ev Γ x = some (.pointer (some ⟨b, off, Option.none⟩))) (hy : ev Γ y = some v) (h1 : v.oneCell' = true)
 (hi : H[i]? = some (row e size (.slice (some ⟨b, 0, Option.none⟩) m cap) m xs)) (ho : off < xs.length) :
 EFF P n Γ ⟨d, .store t x y, ty, pos, aft, g⟩ (St H) (fun _ H' => H' = H.set i (row e size (.slice (some ⟨b, 0, Option.none⟩) m cap) m (xs.set off v))) := eff_skip fun a w F f s => by
 rw [yS hi, zv] at s; obtain ⟨hl, h⟩ := sat_row s
 rcases h with ⟨h0, _⟩ | ⟨b', cap', cs, fr, h0, hle, hcp, hcs, htk, hw, s'⟩
 ·cases h0
 ·injection h0 with h0 _ h2; injection h0 with h0; injection h0 with h0; subst h0; subst h2
  have hb := yr (qa s')
  have ho' : off < cs.length := by
   have : xs.length ≤ cs.length := by rw [← htk]; simp; omega
   omega
  have hc : w.cell? ⟨b, off, Option.none⟩ = some cs[off] := by rw [cell_of hb]; simp [ho']
  have hv : v.cells = #[v] := by cases v <;> first | rfl | simp [Value.oneCell'] at h1
  refine ⟨w.setCell ⟨b, off, Option.none⟩ v, _, ?_, rfl, ?_⟩
  ·simp [execOp, f.ev hx, f.ev hy, Instr.storeAt, Instr.sureAddr, storeVar, ht.size, hv, storeCells, yR, run_store P w _ v .plain h1, hc, frozen_of hb hw ho']
  ·rw [St_set hi, zv]; refine row_mk (cs := cs.set off v) (fr := fr) hle hcp (by simpa using hcs) ?_ ?_ (sat_set (w := w) rfl s' (xS hb).1 (xS hb).2)
   ·rw [← htk, List.take_set]
   ·intro j hj; exact hw j (by simpa using hj)
end
section
variable {P : Program} {ops : Array Oper} {md : Region.Mode} {m : Nat}
variable {n : Nat} {L H : List HProp} {Γ : Env} {Q : Post} {fuel : Nat} {listed : Array Bool}
/-- nothing but number i may come up: a call that sees what is locked, and leaves it -/
theorem yb {i : Nat} {d : Tmp} {op : Op} {ty : TypeId} {pos : String} {aft : Array Edge} {g : Option (Nat × Bool)} {Φ : Value → List HProp → Prop} (hb : Region.ready .any ops listed = [i]) (hi : ops[i]? = some ⟨some d, op, ty, pos, aft, g⟩) (hw : wnt Γ ops ⟨some d, op, ty, pos, aft, g⟩ = some true)
 (hr : EFF P n Γ ⟨some d, op, ty, pos, aft, g⟩ (St (L ++ H)) (fun v H2 => ∃ K, Φ v K ∧ H2 = K ++ (L ++ H))) (hd : Nat.blt d n = true)
 (h : ∀ v K, Φ v K → Any P n ops m L fuel (listed.setIfInBounds i true) (pt Γ (some d) v) (K ++ H) Q) : Any P n ops m L (fuel + 1) listed Γ H Q := fun a w F f s => by
 refine ⟨fun e => (by rw [hb] at e; cases e), fun j hj => ?_⟩; rw [hb] at hj; obtain rfl : j = i := by simpa using hj
 refine wpOp_step hi fun C hC => ?_
 rw [xZ f hw]; simp only [if_true]; have s2 : sat w (star (St (L ++ H)) F) := by rw [yC, zv]; exact s
 refine hr a w _ C _ f s2 fun v w' H' hp hs => ?_
 obtain ⟨K, hk, rfl⟩ := hp
 have hs2 : sat w' (star (St L) (star (St (K ++ H)) F)) := by
  rw [yC, yC, zv, zv, qH] at hs; rw [yC, zv]; exact hs
 exact hC _ _ ⟨fun _ => ⟨_, hs2⟩, h v K hk _ w' F (f.put (by simpa [okDst] using hd) v) hs2⟩
end
/-- of these atoms, those: the others are let go -/
def SubH (H L : List HProp) : Prop := ∀ w F, sat w (star (St H) F) → sat w (star (St L) F)
theorem zj (H : List HProp) : SubH H H := fun _ _ s => s
theorem SubH.trans {H K L : List HProp} (h1 : SubH H K) (h2 : SubH K L) : SubH H L := fun w F s => h2 w F (h1 w F s)
theorem zY (H : List HProp) : SubH H [] := fun w F s => by rw [yV, emp_star]; exact yw s
theorem zJ {H L : List HProp} (i : Nat) {A : HProp} (hi : H[i]? = some A) (h : SubH (H.eraseIdx i) L) : SubH H (A :: L) := fun w F s => by
 rw [yU hi] at s; rw [qJ, zv]; have h2 := h w (star A F) (by rw [qH]; exact s)
 rw [qH] at h2; exact h2
theorem SubH.append {H H' K L : List HProp} (h : SubH H K) (h' : SubH H' L) : SubH (H ++ H') (K ++ L) := fun w F s => by
 rw [yC, zv] at s ⊢; have h2 := h w _ s
 rw [qH] at h2 ⊢; exact h' w _ h2
/-- an atom is turned -/
theorem SubH.turn {H : List HProp} (i : Nat) {A B : HProp} (hi : H[i]? = some A) (h : ∀ w F, sat w (star A F) → sat w (star B F)) : SubH H (H.set i B) := fun w F s => by
 rw [yU hi] at s; rw [St_set hi, zv]; exact h w _ s
theorem SubH.unfold {H : List HProp} (i : Nat) {A : HProp} {L : List HProp} (hi : H[i]? = some A) (h : ∀ w F, sat w (star A F) → sat w (star (St L) F)) : SubH H (L ++ H.eraseIdx i) := fun w F s => by
 rw [yU hi] at s; rw [yC, zv]; exact h w _ s
theorem q8 {P : Program} {n : Nat} {c : Code} {Γ : Env} {H L : List HProp} {Q : Post} (hs : SubH H L) (h : Wp P n c Γ L Q) : Wp P n c Γ H Q := qD hs h
theorem ops_sub' {P : Program} {n : Nat} {ops : Array Oper} {l : List Oper} {Γ : Env} {H L : List HProp} {Q : Post} (hs : SubH H L) (h : Ops P n ops l Γ L Q) : Ops P n ops l Γ H Q := qp hs h
theorem tri_sub {P : Program} {f : FuncId} {args : List Value} {H L : List HProp} {Ψ : Value → List HProp → Prop} (hs : SubH H L) (h : Tri P f args L Ψ) : Tri P f args H Ψ := fun w F s => h w F (hs w F s)
/-- What a function leaves, up to what is let go. -/
def DoneS (P : Program) (fn : Func) (n : Nat) (Ψ : Value → List HProp → Prop) : Post
 | .ret, Γ, H => ∃ v L, Res P fn n Γ H v ∧ Ψ v L ∧ SubH H L
 | .normal, Γ, H => ∃ v L, Res P fn n Γ H v ∧ Ψ v L ∧ SubH H L
 | _, _, _ => False
theorem lift_doneS {P : Program} {fn : Func} {n : Nat} {F : HProp} {Ψ : Value → List HProp → Prop} {e : Exit} {a : Act} {w : World} (h : Lift n F (DoneS P fn n Ψ) e a w) : (e = .ret ∨ e = .normal) ∧ a.defers = [] ∧ ∃ v L, (results fn a.tmps).run P w = .ok v w ∧ Ψ v L ∧ sat w (star (St L) F) := by
 obtain ⟨Γ', H', q, f', s'⟩ := h
 cases e with
 | ret => obtain ⟨v, L, hr, hp, hs⟩ := q; exact ⟨.inl rfl, f'.defers, v, L, hr _ _ F f' s', hp, hs _ _ s'⟩
 | normal => obtain ⟨v, L, hr, hp, hs⟩ := q; exact ⟨.inr rfl, f'.defers, v, L, hr _ _ F f' s', hp, hs _ _ s'⟩
 | exit _ => exact q.elim
 | goto _ => exact q.elim
 | panic _ => exact q.elim
 | outgrown => exact q.elim
theorem zt {P : Program} {f : FuncId} {fn : Func} {c : Code} {n : Nat} {args : List Value} {Pre : List HProp} {Ψ : Value → List HProp → Prop}
 (hf : P.funcs[f]? = some fn) (hb : fn.body = some c) (hn : fn.ntmps = n) (hl : args.length ≤ n)
 (h : Wp P n c (argEnv 0 args) Pre (DoneS P fn n Ψ)) : Tri P f args Pre Ψ := fun w F s => by
 refine calls_of_wp hf hb (wp_mono (h _ w F ⟨?_, rfl, ?_⟩ s) ?_)
 ·simp; omega
 ·intro i v hi; obtain ⟨_, h2⟩ := get_argEnv args 0 i v hi
  have hlt : i < args.length := (List.getElem?_eq_some_iff.1 (by simpa using h2)).1
  simp only [Nat.sub_zero] at h2; have h3 : args[i] = v := by simpa [List.getElem?_eq_getElem hlt] using h2
  simp [Array.getD_eq_getD_getElem?, Array.getElem?_append, hlt, h3]
 ·rintro e a' w' q; obtain ⟨he, hd, v, L, hr, hp, s'⟩ := lift_doneS q
  rcases he with rfl | rfl
  ·exact ⟨hd, v, hr, v, L, rfl, hp, s'⟩
  ·exact ⟨hd, v, hr, v, L, rfl, hp, s'⟩
section
variable {P : Program} {fn : Func} {n : Nat} {Γ : Env} {H L : List HProp} {Q : Post} {v : Value} {Ψ : Value → List HProp → Prop}
theorem zX (hr : Res P fn n Γ H v) (h : Ψ v L) (hs : SubH H L) : DoneS P fn n Ψ .ret Γ H := ⟨v, L, hr, h, hs⟩
theorem doneS_normal (hr : Res P fn n Γ H v) (h : Ψ v L) (hs : SubH H L) : DoneS P fn n Ψ .normal Γ H := ⟨v, L, hr, h, hs⟩
/-- a mark for the walker -/
def Tag (k : Nat) (p : Prop) : Prop := p
theorem get_append (Δ Δ' : Env) (i : Nat) (v : Value) : get (Δ ++ Δ') i = some v → get Δ i = some v ∨ get Δ' i = some v := by
 induction Δ with
 | nil => exact .inr
 | cons x t ih =>
  obtain ⟨k, u⟩ := x
  intro h; simp only [zA, get] at h ⊢
  cases hb : Nat.beq k i with
  | true => rw [hb] at h; exact .inl h
  | false => rw [hb] at h; exact ih h
theorem Has.append {Δ Δ' : Env} (h1 : Has Γ Δ) (h2 : Has Γ Δ') : Has Γ (Δ ++ Δ') := fun i v h => (get_append Δ Δ' i v h).elim (h1 i v) (h2 i v)
theorem Has.trans {Γ Δ E : Env} (h1 : Has Γ Δ) (h2 : Has Δ E) : Has Γ E := fun i v h => h1 i v (h2 i v h)
/-- What a loop's head, a cut, keeps: the slots that turn (Δ), those that stay (K), the atoms. -/
def Kept (J : Env → List HProp → Prop) (K Γ : Env) (H : List HProp) : Prop := ∃ Δ L, J Δ L ∧ Has Γ Δ ∧ Has Γ K ∧ SubH H L
theorem yQ {c : Code} (k : Nat) (J : Nat → Env → List HProp → Prop) {m : Nat} {K : Env} (hk : Has Γ K) (h0 : Kept (J m) K Γ H)
 (round : ∀ m Δ L, J m Δ L → Wp P n c (Δ ++ K) L (Then (fun Γ' H' => Tag k (∃ m', m' < m ∧ Kept (J m') K Γ' H')) Q)) : Wp P n (.loop c) Γ H Q := by
 refine wp_loop' (fun m Γ H => Kept (J m) K Γ H) h0 ?_; rintro m Γ H ⟨Δ, L, hJ, h1, h2, h3⟩; exact wp_has (Has.append h1 h2) (qD h3 (round m Δ L hJ))
theorem yO {x y : Code} (k : Nat) (J : Env → List HProp → Prop) {K : Env} (hk : Has Γ K) (h1 : Wp P n x Γ H (Then (fun Γ' H' => Tag k (Kept J K Γ' H')) Q))
 (h2 : ∀ Δ L, J Δ L → Wp P n y (Δ ++ K) L Q) : Wp P n (.seq x y) Γ H Q := by
 refine wp_cut (fun Γ H => Kept J K Γ H) h1 ?_; rintro Γ H ⟨Δ, L, hJ, h1, h2', h3⟩; exact wp_has (Has.append h1 h2') (qD h3 (h2 Δ L hJ))
theorem qn {J : Env → List HProp → Prop} {K : Env} {Δ : Env} {L : List HProp} (hJ : J Δ L) (h1 : Has Γ Δ) (h2 : Has Γ K) (h3 : SubH H L) : Kept J K Γ H := ⟨Δ, L, hJ, h1, h2, h3⟩
theorem back {k m : Nat} {J : Nat → Env → List HProp → Prop} {K : Env} (m' : Nat) (h : m' < m) (hk : Kept (J m') K Γ H) : Tag k (∃ m', m' < m ∧ Kept (J m') K Γ H) := ⟨m', h, hk⟩
theorem qc {k : Nat} {J : Env → List HProp → Prop} {K : Env} (hk : Kept J K Γ H) : Tag k (Kept J K Γ H) := hk
/-- a test that later operations hang on is split -/
theorem qi {ops : Array Oper} {l : List Oper} {d : Tmp} {x : Operand} {ty : TypeId} {pos : String} {aft : Array Edge} {g : Option (Nat × Bool)} {b : Bool} (hw : wnt Γ ops ⟨some d, .move x, ty, pos, aft, g⟩ = some true) (hx : ev Γ x = some (.bool b)) (hd : Nat.blt d n = true)
 (ht : b = true → Ops P n ops l ((d, .bool true) :: Γ) H Q) (hf : b = false → Ops P n ops l ((d, .bool false) :: Γ) H Q) : Ops P n ops (⟨some d, .move x, ty, pos, aft, g⟩ :: l) Γ H Q := by
 refine zH hw (zL hx) hd ?_; cases b
 ·exact hf rfl
 ·exact ht rfl
theorem yA {ops : Array Oper} {m fuel : Nat} {L0 : List HProp} {listed : Array Bool} {d : Tmp} {x : Operand} {ty : TypeId} {pos : String} {aft : Array Edge} {g : Option (Nat × Bool)} {b : Bool} {i : Nat} (hb : takeB ops m listed i = true) (hi : ops[i]? = some ⟨some d, .move x, ty, pos, aft, g⟩) (hw : wnt Γ ops ⟨some d, .move x, ty, pos, aft, g⟩ = some true) (hx : ev Γ x = some (.bool b)) (hd : Nat.blt d n = true)
 (hQ : ∀ Γ H c, ¬ Q (.panic c) Γ H) (ht : b = true → Any P n ops m L0 fuel (listed.setIfInBounds i true) ((d, .bool true) :: Γ) H Q) (hf : b = false → Any P n ops m L0 fuel (listed.setIfInBounds i true) ((d, .bool false) :: Γ) H Q) : Any P n ops m L0 (fuel + 1) listed Γ H Q := by
 refine xQ hb hi hw (zL hx) hd hQ ?_; cases b
 ·exact hf rfl
 ·exact ht rfl
end
/-! ### Whole numbers, in the forms that walks want -/
theorem qo {k : Nat} (h : k + 1 < 9223372036854775808) : IntKind.i64.wrap ((k : Int) + 1) = ((k + 1 : Nat) : Int) := by rw [qU (by omega) (by omega)]; omega
theorem xV {k : Nat} (h : 0 < k) (h2 : k < 9223372036854775808) : IntKind.i64.wrap ((k : Int) - 1) = ((k - 1 : Nat) : Int) := by rw [qU (by omega) (by omega)]; omega
theorem wrap_addN {a b : Nat} (h : a + b < 9223372036854775808) : IntKind.i64.wrap ((a : Int) + (b : Int)) = ((a + b : Nat) : Int) := by rw [qU (by omega) (by omega)]; omega
theorem wrap_natN {a : Nat} (h : a < 9223372036854775808) : IntKind.i64.wrap (a : Int) = (a : Int) := qU (by omega) (by omega)
theorem tmodN {a b : Nat} : ((a : Int)).tmod (b : Int) = ((a % b : Nat) : Int) := by rw [Int.tmod_eq_emod_of_nonneg (by omega)]; rfl
/-- sum of atoms yE a list -/
def bigS {α : Type} (f : α → HProp) : List α → HProp
 | [] => emp
 | x :: l => star (f x) (bigS f l)
/-- the cells of things, one behind the other -/
def flat {α : Type} (f : α → List Value) (l : List α) : List Value := l.flatMap f
section
variable {α : Type} {f : α → List Value} {k : Nat}
theorem yW (x : α) (l : List α) : flat f (x :: l) = f x ++ flat f l := List.flatMap_cons
theorem flat_append (l m : List α) : flat f (l ++ m) = flat f l ++ flat f m := List.flatMap_append
theorem yh (hk : ∀ x, (f x).length = k) : ∀ l : List α, (flat f l).length = l.length * k
 | [] => by simp [flat]
 | x :: l => by rw [yW, List.length_append, hk, yh hk l, List.length_cons, Nat.succ_mul, Nat.add_comm]
theorem flat_get (hk : ∀ x, (f x).length = k) {l : List α} {i j : Nat} {x : α} {u : Value} (hi : l[i]? = some x) (hj : (f x)[j]? = some u) : (flat f l)[i * k + j]? = some u := by
 induction l generalizing i with
 | nil => cases hi
 | cons y l ih =>
  cases i with
  | zero =>
   simp at hi; subst hi
   rw [yW, Nat.zero_mul, Nat.zero_add, List.getElem?_append_left (List.getElem?_eq_some_iff.1 hj).1]; exact hj
  | succ i =>
   have h := ih (by simpa using hi)
   rw [yW, List.getElem?_append_right (by rw [hk, Nat.succ_mul]; omega), hk, show (i + 1) * k + j - k = i * k + j by rw [Nat.succ_mul]; omega]; exact h
theorem flat_take (hk : ∀ x, (f x).length = k) : ∀ (l : List α) (n : Nat), (flat f l).take (n * k) = flat f (l.take n)
 | [], n => by simp [flat]
 | x :: l, 0 => by simp [flat]
 | x :: l, n + 1 => by
  rw [yW, List.take_succ_cons, yW, ← flat_take hk l n, Nat.succ_mul, Nat.add_comm, ← hk x, List.take_length_add_append]
theorem flat_drop (hk : ∀ x, (f x).length = k) : ∀ (l : List α) (n : Nat), (flat f l).drop (n * k) = flat f (l.drop n)
 | [], n => by simp [flat]
 | x :: l, 0 => by simp [flat]
 | x :: l, n + 1 => by
  rw [yW, List.drop_succ_cons, ← flat_drop hk l n, Nat.succ_mul, Nat.add_comm, ← hk x, List.drop_length_add_append]
theorem flat_one' (h1 : ∀ x, ∀ v ∈ f x, v.oneCell' = true) (l : List α) : ∀ v ∈ flat f l, v.oneCell' = true := fun v hv => by
 obtain ⟨x, _, hx⟩ := List.mem_flatMap.1 hv; exact h1 x v hx
end
/-! ### Views -/
theorem ym {V : HProp} {b o n c : Nat} {xs : List Value} (h : Vw V (.slice (some ⟨b, o, none⟩) n c) n xs) : RdN V b o xs := fun j u hj w R s => by
 rcases h w R s with ⟨a, _, _, h3⟩ | ⟨b', o', cap, h1, h2⟩
 ·subst h3; simp at hj
 ·injection h1 with h1 _ h3; injection h1 with h1; injection h1 with h1 h4; subst h1; subst h4; exact h2 j u hj
theorem vw_ptr {L : HProp} {n c : Nat} {q : Option Addr} {xs : List Value} (h : Vw L (.slice q n c) n xs) {w : World} {R : HProp} (s : sat w (star L R)) (h0 : n ≠ 0) : ∃ b o, q = some ⟨b, o, none⟩ := by
 rcases h w R s with ⟨_, _, h2, _⟩ | ⟨b, o, cap, h1, _⟩
 ·exact absurd h2 h0
 ·injection h1 with h1 _ _; exact ⟨b, o, h1⟩
theorem Vw.len_nil {L : HProp} {n c : Nat} {xs : List Value} (h : Vw L (.slice none n c) n xs) {w : World} {R : HProp} (s : sat w (star L R)) : n = 0 ∧ c = 0 ∧ xs = [] := by
 rcases h w R s with ⟨a, h1, h2, h3⟩ | ⟨b, o, cap, h1, _⟩
 ·injection h1 with _ h4 h5; exact ⟨h2, h5, h3⟩
 ·cases h1
/-- one element of a view -/
theorem RdN.sub {V : HProp} {b o k : Nat} {xs ys : List Value} (h : RdN V b o xs) (hk : ∀ j u, ys[j]? = some u → xs[k + j]? = some u) : RdN V b (o + k) ys := fun j u hj => by
 rw [Nat.add_assoc]; exact h _ u (hk j u hj)
theorem RdN.elem {V : HProp} {b o k i : Nat} {α : Type} {f : α → List Value} {l : List α} {x : α} (h : RdN V b o (flat f l)) (hk : ∀ x, (f x).length = k) (hi : l[i]? = some x) : RdN V b (o + i * k) (f x) := h.sub fun j u hj => flat_get hk hi hj
theorem Rd.elem {V : HProp} {b o k i j : Nat} {α : Type} {f : α → List Value} {l : List α} {x : α} {u : Value} (h : RdN V b o (flat f l)) (hk : ∀ x, (f x).length = k) (hi : l[i]? = some x) (hj : (f x)[j]? = some u) : Rd V b (o + i * k + j) u := RdN.elem h hk hi j u hj
theorem SubH.rown {H L : List HProp} {e : TypeId} {size : Nat} (h : SubH H L) : SubH H (row e size (.slice none 0 0) 0 [] :: L) := fun w F s => by
 rw [qJ, zv]; exact row_nil (h w F s)
section
variable {P : Program} {L : HProp}
theorem Src.flatv {α : Type} {f : α → List Value} {size : Nat} {src : Value} {l : List α} (hk : ∀ x, (f x).length = size) (h1 : ∀ x, ∀ v ∈ f x, v.oneCell' = true) (h : Vw L src l.length (flat f l)) : Src P L size src l.length (flat f l) :=
 Src.of_vw h (yh hk l) (flat_one' h1 l)
variable {n : Nat} {Γ : Env} {d : Option Tmp} {ty : TypeId} {pos : String} {aft : Array Edge} {g : Option (Nat × Bool)}
/-- things behind things -/
theorem eff_appF {α : Type} {f : α → List Value} {t t2 e : TypeId} {size bytes : Nat} {z : Value} {x y : Operand} {p : Option Addr} {src : Value} {c : Nat} {l l2 : List α} {H : List HProp} (i : Nat) (ht : Slc P t e size bytes z)
 (h2 : (∃ e', P.underlying t2 = some (.slice e')) ∨ P.underlying t2 = some .string) (hx : ev Γ x = some (.slice p l.length c)) (hy : ev Γ y = some src)
 (hi : H[i]? = some (row e size (.slice p l.length c) l.length (flat f l))) (hs : Src P (St (H.eraseIdx i)) size src l2.length (flat f l2)) (hb : (l.length + l2.length) * bytes ≤ 140737488355328) (hm : l.length + l2.length ≤ 140737488355328) :
 EFF P n Γ ⟨d, .call { callee := .builtin .append, args := #[x, y], argTypes := #[t, t2] }, ty, pos, aft, g⟩ (St H)
  (fun v' H' => ∃ p' c', v' = .slice p' (l ++ l2).length c' ∧ (p' = none ↔ p = none ∧ l2.length = 0) ∧ H' = H.set i (row e size (.slice p' (l ++ l2).length c') (l ++ l2).length (flat f (l ++ l2)))) := fun a w F K Q f0 s hK =>
 eff_append i ht h2 hx hy hi hs hb (by simp only [maxLen]; omega) a w F K Q f0 s fun v' w' H' hp hs' => hK v' w' H' (by
  obtain ⟨A, ⟨p', c', rfl, hn, rfl⟩, rfl⟩ := hp
  refine ⟨p', c', by rw [List.length_append], hn, ?_⟩; rw [List.length_append, flat_append]) hs'
/-- a slice literal, as a row -/
theorem eff_lit {t e : TypeId} {k size bytes : Nat} {z : Value} {ps : List (Nat × Operand)} {vs : List (Nat × Value)} {cs : List Value} {H : List HProp} (ht : Slc P t e size bytes z) (hx : evp Γ ps = some vs) (h : SBld P t k vs e cs) (hl : cs.length = k * size) (hk : k ≤ 16777216) :
 EFF P n Γ ⟨d, .buildSlice t k ps.toArray, ty, pos, aft, g⟩ (St H) (fun u H' => ∃ b, u = .slice (some ⟨b, 0, none⟩) k k ∧ H' = row e size (.slice (some ⟨b, 0, none⟩) k k) k cs :: H) := fun a w F K Q f s hK =>
 xL hx h a w F K Q f s fun v' w' H' hp hs' => by
  obtain ⟨b, rfl, rfl⟩ := hp
  refine hK _ w' _ ⟨b, rfl, rfl⟩ ?_; rw [qJ, zv] at hs' ⊢; exact row_mk (Nat.le_refl _) (by simp only [maxLen]; omega) hl (by rw [← hl]; exact List.take_length) (zg cs) hs'
end
/-- a call that takes some atoms, and reads all the others -/
theorem zy {P : Program} {n : Nat} {Γ : Env} {o : Oper} {H Pre Rest : List HProp} {Φ : Value → List HProp → Prop} {f : FuncId} {xs : List Operand} {tys : Array TypeId} {vs : List Value}
 (hc : ∀ args w, (callFunc f args).run P w = .ok (.enter f args) w)
 (hop : o.op = .call { callee := .value (.func f), args := xs.toArray, argTypes := tys }) (hv : evs Γ xs = some vs)
 (hs : Split H Pre Rest) (ht : Tri P f vs (Pre ++ [St Rest]) (fun v H' => ∃ K, Φ v K ∧ H' = K ++ [St Rest])) : EFF P n Γ o (St H) (fun v H' => ∃ K, Φ v K ∧ H' = K ++ Rest) := by
 have h2 : Split H (Pre ++ [St Rest]) [] := by
  unfold Split at *
  rw [hs, yC, qJ, yV, qt, qt]
 have h3 := zb (n := n) hc hop hv h2 ht
 intro a w F K Q f' s hK; refine h3 a w F K Q f' s fun v w' H' hp hs' => ?_
 obtain ⟨L, ⟨K', hΦ, rfl⟩, rfl⟩ := hp
 refine hK v w' (K' ++ Rest) ⟨K', hΦ, rfl⟩ ?_; simp only [yC, qJ, yV, qt] at hs' ⊢; exact hs'
theorem Vw.cons {A : HProp} {H : List HProp} {v : Value} {n : Nat} {xs : List Value} (h : Vw (St H) v n xs) : Vw (St (A :: H)) v n xs := fun w R s => by
 rw [qJ, star_comm A, zv] at s; exact h w _ s
theorem RdN.cons {A : HProp} {H : List HProp} {b o : Nat} {xs : List Value} (h : RdN (St H) b o xs) : RdN (St (A :: H)) b o xs := fun j u hj w R s => by
 rw [qJ, star_comm A, zv] at s; exact h j u hj w _ s
theorem str_extract (l : List UInt8) (a b : Nat) : (str l).extract a b = str ((l.drop a).take (b - a)) := by
 apply ByteArray.ext
 rw [ByteArray.data_extract]
 show l.toArray.extract a b = ((l.drop a).take (b - a)).toArray
 apply Array.ext'
 simp [List.extract_eq_take_drop]
theorem str_iff {a b : List UInt8} : (str a = str b) ↔ a = b := ⟨str_inj, fun h => by rw [h]⟩
section
variable {P : Program} {n : Nat} {L : HProp} {Γ : Env} {d : Option Tmp} {ty : TypeId} {pos : String} {aft : Array Edge} {g : Option (Nat × Bool)}
theorem ro_lenS {x : Operand} {t t' : TypeId} {l : List UInt8} (ht : P.underlying t = some .string) (hx : ev Γ x = some (.string (str l))) :
 RO P n L Γ ⟨d, .call { callee := .builtin .len, args := #[x], argTypes := #[t] }, ty, pos, aft, g⟩ (.int .i64 l.length) := by
 have h := ro_strLen (P := P) (n := n) (L := L) (d := d) (ty := ty) (pos := pos) (aft := aft) (g := g) (t' := t') ht hx
 rwa [xN] at h
theorem ro_sliceS {t : TypeId} {x : Operand} {lo hi : Option Operand} {l : List UInt8} {a b : Nat} (ht : P.underlying t = some .string) (hx : ev Γ x = some (.string (str l))) (hl : bnd Γ lo 0 = some a) (hh : bnd Γ hi l.length = some b) (h1 : a ≤ b) (h2 : b ≤ l.length) :
 RO P n L Γ ⟨d, .slice t x lo hi Option.none, ty, pos, aft, g⟩ (.string (str ((l.drop a).take (b - a)))) := by
 have h := ro_sliceStr (P := P) (n := n) (L := L) (d := d) (ty := ty) (pos := pos) (aft := aft) (g := g) ht hx hl (by rw [xN]; exact hh) h1 (by rw [xN]; exact h2)
 rwa [str_extract] at h
theorem ro_indexS {t : TypeId} {x ix : Operand} {k : IntKind} {l : List UInt8} {i : Nat} {ii : Int} (ht : P.underlying t = some .string) (hx : ev Γ x = some (.string (str l))) (hi : ev Γ ix = some (.int k ii)) (hj : ii = (i : Int)) (hlt : i < l.length) :
 RO P n L Γ ⟨d, .index t x ix, ty, pos, aft, g⟩ (.int .u8 (l[i].toNat : Int)) := by
 have h := ro_strIndex (P := P) (n := n) (L := L) (d := d) (ty := ty) (pos := pos) (aft := aft) (g := g) ht hx hi hj (by rw [xN]; exact hlt)
 have e : (str l)[i]'(by rw [xN]; exact hlt) = l[i] := by show l.toArray[i]'(by simpa using hlt) = l[i]; simp
 rwa [e] at h
theorem ro_eqlS {t ty' : TypeId} {x y : Operand} {a b : List UInt8} {c : Bool} (hx : ev Γ x = some (.string (str a))) (hy : ev Γ y = some (.string (str b))) (hz : decide (a = b) = c) :
 RO P n L Γ ⟨d, .binOp .eql t x y ty', ty, pos, aft, g⟩ (.bool c) := ro_strEql hx hy (by rw [← hz]; exact decide_eq_decide.2 str_iff)
theorem ro_neqS {t ty' : TypeId} {x y : Operand} {a b : List UInt8} {c : Bool} (hx : ev Γ x = some (.string (str a))) (hy : ev Γ y = some (.string (str b))) (hz : decide (a ≠ b) = c) :
 RO P n L Γ ⟨d, .binOp .neq t x y ty', ty, pos, aft, g⟩ (.bool c) := ro_strNeq hx hy (by rw [← hz]; exact decide_eq_decide.2 (not_congr str_iff))
theorem ro_addS {t ty' : TypeId} {x y : Operand} {a b : List UInt8} (hx : ev Γ x = some (.string (str a))) (hy : ev Γ y = some (.string (str b))) (hz : a.length + b.length ≤ 9223372036854775807) :
 RO P n L Γ ⟨d, .binOp .add t x y ty', ty, pos, aft, g⟩ (.string (str (a ++ b))) := by
 have h := ro_strAdd (P := P) (n := n) (L := L) (d := d) (ty := ty) (pos := pos) (aft := aft) (g := g) (t := t) (ty' := ty') hx hy (by rw [xN, xN]; exact hz)
 rwa [str_append] at h
theorem Vw.empty (L : HProp) (p : Option Addr) : Vw L (.slice p 0 0) 0 [] := fun w R s => .inl ⟨p, rfl, rfl, rfl⟩
theorem ro_sliceEmpty {t e : TypeId} {x : Operand} {lo hi : Option Operand} {p : Option Addr} {size bytes : Nat} {z : Value} (ht : Slc P t e size bytes z) (hx : ev Γ x = some (.slice p 0 0)) (hl : bnd Γ lo 0 = some 0) (hh : bnd Γ hi 0 = some 0) :
 RO P n L Γ ⟨d, .slice t x lo hi Option.none, ty, pos, aft, g⟩ (.slice p 0 0) := fun a w R f s => by
 cases p with
 | none => exact ro_sliceNil ht hx hl hh a w R f s
 | some p =>
  obtain ⟨inf, i1, i2, i3, i4⟩ := ht.info
  have hsz : (sizeOf e).run P w = .ok size w := by simp [sizeOf, typeInfo, i1, i3]
  have hb := xc (P := P) f (isSlice := true) (cap := 0) (w := w) hl hh (Nat.le_refl _) (Nat.le_refl _)
  simp only [execOp, Instr.sliceAt, Instr.slice, f.ev hx, Sem.run_bind, run_underlying ht.und, Result.andThen_ok, Option.map_none, hb, hsz, Sem.run_pure, Option.map_some]; simp
/-- a part of a view -/
theorem eff_sliceV {t e : TypeId} {x : Operand} {lo hi' : Option Operand} {p : Option Addr} {m c l h size bytes : Nat} {z : Value} {xs : List Value} {H : List HProp} (i : Nat) {A : HProp} (hi : H[i]? = some A) (ht : Slc P t e size bytes z) (hx : ev Γ x = some (.slice p m c)) (hV : Vw A (.slice p m c) m xs) (hlen : xs.length = m * size)
 (hl : bnd Γ lo 0 = some l) (hh : bnd Γ hi' m = some h) (h1 : l ≤ h) (h2 : h ≤ m) (h3 : m ≤ c) :
 EFF P n Γ ⟨d, .slice t x lo hi' Option.none, ty, pos, aft, g⟩ (St H) (fun v H' => ∃ p', v = .slice p' (h - l) (c - l) ∧ Vw A (.slice p' (h - l) (c - l)) (h - l) ((xs.drop (l * size)).take ((h - l) * size)) ∧ (p' = none ↔ p = none) ∧ H' = H) := fun a w F K Q f s hK => by
 rcases hV w _ (by rw [yS hi, zv] at s; exact s) with ⟨q, h4, h5, h6⟩ | ⟨b, o, cap, h4, h5⟩
 ·injection h4 with h4 h7 h8; subst h4; subst h7; subst h8; subst h6
  have : h = 0 := by omega
  subst this; have : l = 0 := by omega
  subst this; have h9 : RO P n (St H) Γ ⟨d, .slice t x lo hi' Option.none, ty, pos, aft, g⟩ (.slice p 0 0) := ro_sliceEmpty ht hx hl hh
  exact xG h9 a w F K Q f s fun v' w' H' hp hs' => hK v' w' H' ⟨p, hp.1, by simpa using Vw.empty A p, by simp, hp.2⟩ hs'
 ·injection h4 with h4 h7 h8; subst h4; subst h8
  have h9 := yf (P := P) (n := n) (L := St H) (d := d) (ty := ty) (pos := pos) (aft := aft) (g := g) ht hx hl hh h1 (by omega : h ≤ c)
  refine xG h9 a w F K Q f s fun v' w' H' hp hs' => hK v' w' H' ⟨_, hp.1, Vw.resl (ym hV) h1 h2 h3 hlen, by simp, hp.2⟩ hs'
theorem vw_takeB {L : HProp} {p : Option Addr} {c a b : Nat} {l : List UInt8} (h : Vw L (.slice p (b - a) c) (b - a) (((cel l).drop (a * 1)).take ((b - a) * 1))) (hb : b ≤ l.length) :
 Vw L (.slice p ((l.drop a).take (b - a)).length c) ((l.drop a).take (b - a)).length (cel ((l.drop a).take (b - a))) := by
 have e : ((l.drop a).take (b - a)).length = b - a := by simp; omega
 rw [e]; have e2 : cel ((l.drop a).take (b - a)) = ((cel l).drop (a * 1)).take ((b - a) * 1) := by simp [cel, List.map_take, List.map_drop]
 rw [e2]; exact h
/-- bytes, a part of a view -/
theorem eff_sliceB {t e : TypeId} {x : Operand} {lo hi' : Option Operand} {p : Option Addr} {c a b : Nat} {l : List UInt8} {z : Value} {H : List HProp} (i : Nat) {A : HProp} (hi : H[i]? = some A) (ht : Slc P t e 1 1 z) (hx : ev Γ x = some (.slice p l.length c)) (hV : Vw A (.slice p l.length c) l.length (cel l))
 (hl : bnd Γ lo 0 = some a) (hh : bnd Γ hi' l.length = some b) (h1 : a ≤ b) (h2 : b ≤ l.length) (h3 : l.length ≤ c) :
 EFF P n Γ ⟨d, .slice t x lo hi' Option.none, ty, pos, aft, g⟩ (St H) (fun v H' => ∃ p', v = .slice p' ((l.drop a).take (b - a)).length (c - a) ∧ Vw A (.slice p' ((l.drop a).take (b - a)).length (c - a)) ((l.drop a).take (b - a)).length (cel ((l.drop a).take (b - a))) ∧ (p' = none ↔ p = none) ∧ H' = H) := fun a' w F K Q f s hK =>
 eff_sliceV i hi ht hx hV (by rw [yx, Nat.mul_one]) hl hh h1 h2 h3 a' w F K Q f s fun v' w' H' hp hs' => hK v' w' H' (by
  obtain ⟨p', rfl, hv, hn, rfl⟩ := hp
  refine ⟨p', ?_, vw_takeB hv h2, hn, rfl⟩; have e : ((l.drop a).take (b - a)).length = b - a := by simp; omega
  rw [e]) hs'
/-- things, a part of a view -/
theorem eff_sliceF {α : Type} {fc : α → List Value} {t e : TypeId} {size bytes : Nat} {x : Operand} {lo hi' : Option Operand} {p : Option Addr} {c a b : Nat} {l : List α} {z : Value} {H : List HProp} (i : Nat) {A : HProp} (hi : H[i]? = some A) (hk : ∀ x, (fc x).length = size) (ht : Slc P t e size bytes z) (hx : ev Γ x = some (.slice p l.length c)) (hV : Vw A (.slice p l.length c) l.length (flat fc l))
 (hl : bnd Γ lo 0 = some a) (hh : bnd Γ hi' l.length = some b) (h1 : a ≤ b) (h2 : b ≤ l.length) (h3 : l.length ≤ c) :
 EFF P n Γ ⟨d, .slice t x lo hi' Option.none, ty, pos, aft, g⟩ (St H) (fun v H' => ∃ p', v = .slice p' ((l.drop a).take (b - a)).length (c - a) ∧ Vw A (.slice p' ((l.drop a).take (b - a)).length (c - a)) ((l.drop a).take (b - a)).length (flat fc ((l.drop a).take (b - a))) ∧ (p' = none ↔ p = none) ∧ H' = H) := fun a' w F K Q f s hK =>
 eff_sliceV i hi ht hx hV (yh hk l) hl hh h1 h2 h3 a' w F K Q f s fun v' w' H' hp hs' => hK v' w' H' (by
  obtain ⟨p', rfl, hv, hn, rfl⟩ := hp
  have e : ((l.drop a).take (b - a)).length = b - a := by simp; omega
  refine ⟨p', by rw [e], ?_, hn, rfl⟩; rw [e, ← flat_take hk, ← flat_drop hk]; exact hv) hs'
theorem row_caps {H : List HProp} (i : Nat) {e : TypeId} {size k c : Nat} {p : Option Addr} {xs : List Value} (hi : H[i]? = some (row e size (.slice p k c) k xs)) {w : World} {F : HProp} (s : sat w (star (St H) F)) : k ≤ c := by
 rcases (row_shape i hi s).2 with ⟨h1, h2, _⟩ | ⟨b, cap, h1, h2, _⟩
 ·omega
 ·injection h1 with _ _ h3; omega
end
section
variable {P : Program} {n : Nat} {Γ : Env} {d : Option Tmp} {ty : TypeId} {pos : String} {aft : Array Edge} {g : Option (Nat × Bool)}
/-- a byte of a row is set -/
theorem eff_storeB {t : TypeId} {x y : Operand} {b off m cap : Nat} {l : List UInt8} {e : TypeId} {z : Int} {H : List HProp} (i : Nat) (ht : Scal P t) (hx : ev Γ x = some (.pointer (some ⟨b, off, none⟩))) (hy : ev Γ y = some (.int .u8 z)) (h0 : 0 ≤ z) (h1 : z < 256)
 (hi : H[i]? = some (row e 1 (.slice (some ⟨b, 0, none⟩) m cap) m (cel l))) {k : Nat} (hk : off = 0 + k * 1) (ho : k < l.length) :
 EFF P n Γ ⟨d, .store t x y, ty, pos, aft, g⟩ (St H) (fun _ H' => H' = H.set i (row e 1 (.slice (some ⟨b, 0, none⟩) m cap) m (cel (l.set k (UInt8.ofNat z.toNat))))) := fun a w F K Q f s hK =>
 eff_storeRow i ht hx hy rfl hi (by rw [yx, hk]; omega) a w F K Q f s fun v w' H' hp hs => hK v w' H' (by
  rw [hp, cel, cel, List.map_set, hk, Nat.zero_add, Nat.mul_one]
  congr 4
  simp only [byteV, UInt8.toNat_ofNat']
  congr 1
  omega) hs
end
section
variable {P : Program} {n : Nat} {L : HProp} {Γ : Env} {d : Option Tmp} {ty : TypeId} {pos : String} {aft : Array Edge} {g : Option (Nat × Bool)}
theorem ro_max {x y : Operand} {t t' : TypeId} {k k' : IntKind} {a b c : Int} (hx : ev Γ x = some (.int k a)) (hy : ev Γ y = some (.int k' b)) (hz : (if b > a then b else a) = c) :
 RO P n L Γ ⟨d, .call { callee := .builtin .max, args := #[x, y], argTypes := #[t, t'] }, ty, pos, aft, g⟩ (.int k c) := fun e w R f s => by
 subst hz; simp [execOp, f.ev hx, f.ev hy, resolve, invoke, builtin, run_max_int2]
theorem ro_min {x y : Operand} {t t' : TypeId} {k k' : IntKind} {a b c : Int} (hx : ev Γ x = some (.int k a)) (hy : ev Γ y = some (.int k' b)) (hz : (if b < a then b else a) = c) :
 RO P n L Γ ⟨d, .call { callee := .builtin .min, args := #[x, y], argTypes := #[t, t'] }, ty, pos, aft, g⟩ (.int k c) := fun e w R f s => by
 subst hz; simp [execOp, f.ev hx, f.ev hy, resolve, invoke, builtin, Builtin.min_, Builtin.min2]
end
section
variable {P : Program} {n : Nat} {L : HProp} {Γ : Env} {d : Option Tmp} {ty : TypeId} {pos : String} {aft : Array Edge} {g : Option (Nat × Bool)}
/-- an element of an array that is a value -/
theorem ro_indexF {α : Type} {f : α → List Value} {k : Nat} {t e : TypeId} {m : Nat} {x ix : Operand} {kk : IntKind} {ii : Int} {i : Nat} {l : List α} {y : α} (hw : ∀ x, (f x).length = k) (ht : P.underlying t = some (.array m e)) (he : Aggr P e k)
 (hx : ev Γ x = some (.agg (flat f l).toArray)) (hi : ev Γ ix = some (.int kk ii)) (hj : ii = (i : Int)) (hlt : i < m) (hl : l[i]? = some y) : RO P n L Γ ⟨d, .index t x ix, ty, pos, aft, g⟩ (.agg (f y).toArray) := fun a w R fi s => by
 subst hj
 have h1 : ((flat f l).drop (i * k)).take k = f y := by
  obtain ⟨h2, h3⟩ := List.getElem?_eq_some_iff.1 hl
  rw [flat_drop hw]; have h4 : l.drop i = y :: l.drop (i + 1) := by rw [← h3]; exact List.drop_eq_getElem_cons h2
  rw [h4, yW, ← hw y, List.take_left]
 simp [execOp, fi.ev hx, fi.ev hi, Instr.index, asIntOf, run_underlying ht, hlt, he.size, part, he.agg, h1]
end
/-- what 'string(v)' of a view is -/
theorem vw_toStr {P : Program} {L : HProp} {t t' e : TypeId} {v : Value} {m : Nat} {l : List UInt8} (hs : P.underlying t = some (.slice e)) (he : P.underlying e = some (.int .u8)) (ht : P.underlying t' = some .string) (h : Vw L v m (cel l)) (hm : l.length = m) (w : World) (R : HProp) (s : sat w (star L R)) :
 (convert t t' v).run P w = .ok (.string (str l)) w := by
 have f : Fits 1 [(0, v)] { tmps := #[v], defers := [] } := ⟨rfl, rfl, fun i u hu => by
  simp only [get] at hu
  by_cases e : 0 = i
  ·subst e; simp at hu; subst hu; rfl
  ·rw [beq_ne e] at hu; cases hu⟩
 have h1 := yp (P := P) (n := 1) (Γ := [(0, v)]) (d := none) (ty := 0) (pos := "") (aft := #[]) (g := none) (x := .tmp 0) hs he ht rfl h hm { tmps := #[v], defers := [] } w R f s
 simp only [execOp, Act.eval, Sem.run_bind] at h1; have e0 : ((#[v] : Array Value).getD 0 undef) = v := rfl
 rw [e0] at h1
 cases h2 : (convert t t' v).run P w with
 | ok u w2 =>
  rw [h2] at h1; simp only [Result.andThen_ok, Sem.run_pure] at h1
  injection h1 with h3 h4
  injection h3 with h3
  rw [h3, h4]
 | _ => rw [h2] at h1; cases h1
theorem eff_toBytesS {P : Program} {n : Nat} {Γ : Env} {d : Option Tmp} {ty : TypeId} {pos : String} {aft : Array Edge} {g : Option (Nat × Bool)} {t t' e : TypeId} {x : Operand} {l : List UInt8} {H : List HProp} (hs : P.underlying t = some .string) (ht : P.underlying t' = some (.slice e)) (he : P.underlying e = some (.int .u8)) (hx : ev Γ x = some (.string (str l))) (hm : l.length ≤ maxLen) :
 EFF P n Γ ⟨d, .convert t t' x, ty, pos, aft, g⟩ (St H) (fun v H' => ∃ b c, v = .slice (some ⟨b, 0, none⟩) l.length c ∧ H' = row e 1 (.slice (some ⟨b, 0, none⟩) l.length c) l.length (cel l) :: H) := by
 have h := eff_toBytes (P := P) (n := n) (Γ := Γ) (d := d) (ty := ty) (pos := pos) (aft := aft) (g := g) (H := H) hs ht he hx (by rw [xN]; exact hm)
 rw [xN] at h; exact h
/-- a literal's row, converted to its own type (a constant text as bytes) -/
theorem eff_mark {P : Program} {n : Nat} {Γ : Env} {d : Option Tmp} {ty : TypeId} {pos : String} {aft : Array Edge} {g : Option (Nat × Bool)} {t e : TypeId} {x : Operand} {b k : Nat} {cs : List Value} {H : List HProp} (i : Nat) (ht : P.underlying t = some (.slice e)) (he : P.underlying e = some (.int .u8))
 (hx : ev Γ x = some (.slice (some ⟨b, 0, none⟩) k k)) (hi : H[i]? = some (own b (.cells cs.toArray e (0, 0)))) (hl : cs.length = k) (hk : k ≤ 16777216) :
 EFF P n Γ ⟨d, .convert t t x, ty, pos, aft, g⟩ (St H) (fun v H' => v = .slice (some ⟨b, 0, none⟩) k k ∧ H' = H.set i (row e 1 (.slice (some ⟨b, 0, none⟩) k k) k cs)) := yv fun a w F f s => by
 rw [yU hi] at s; have hb := yr (qa s)
 subst hl; have hsh : w.shape? b = some (e, cs.length) := by simp only [World.shape?, hb]; rw [List.size_toArray]
 refine ⟨_, w.freeze ⟨b, cs.length, none⟩ 1, _, ?_, ⟨rfl, rfl⟩, ?_⟩
 ·simp [execOp, f.ev hx, convert, run_underlying ht, run_underlying he, markStringish, hsh]
 ·rw [St_set hi, zv]; refine row_mk (cs := cs) (fr := (cs.length, cs.length + 1)) (Nat.le_refl _) (by simp only [maxLen]; omega) (by rw [Nat.mul_one]) (by rw [Nat.mul_one]; exact List.take_length) (fun j hj hh => by simp only at hh; omega) (sat_set (w := w) rfl s ?_ ?_)
  ·simp only [World.freeze, Nat.one_ne_zero, if_false, Array.getElem?_modify, if_true, hb, Option.map_some]; rfl
  ·intro k hk; simp only [World.freeze, Nat.one_ne_zero, if_false, Array.getElem?_modify, if_neg (Ne.symm hk)]
/-- a call of a function value -/
theorem eff_callV {P : Program} {n : Nat} {Γ : Env} {o : Oper} {H Pre Rest : List HProp} {Ψ : Value → List HProp → Prop} {f : FuncId} {xs : List Operand} {x : Operand} {tys : Array TypeId} {vs c0 c1 : List Value}
 (hc : ∀ args w, (callFunc f args).run P w = .ok (.enter f args) w)
 (hop : o.op = .call { callee := .value x, args := xs.toArray, argTypes := tys }) (hx : ev Γ x = some (.func (.func f) c0.toArray c1.toArray)) (hv : evs Γ xs = some vs)
 (hs : Split H Pre Rest) (ht : Tri P f (c0 ++ vs ++ c1) Pre Ψ) : EFF P n Γ o (St H) (fun v H' => ∃ L, Ψ v L ∧ H' = L ++ Rest) := fun a w F K Q f' s hK => by
 have hm := f'.evs hv
 have he := f'.ev hx
 unfold Oper.wp; simp only [execOp, hop, resolve, he, Deferred.ofValue, invoke, Sem.run_bind, Sem.run_pure, Result.andThen_ok, hc, Oper.upon, List.map_toArray, hm]; have e : c0.toArray ++ vs.toArray ++ c1.toArray = (c0 ++ vs ++ c1).toArray := by simp
 rw [e]; refine (tri_frame hs ht w F s).mono ?_; rintro e w' ⟨v, H', rfl, hp, s'⟩; exact hK v w' H' hp s'
/-! ### lists of texts -/
def Tx.cs (x : List UInt8) : List Value := [.string (str x)]
theorem Tx.len (x : List UInt8) : (Tx.cs x).length = 1 := rfl
theorem Tx.one (x : List UInt8) : ∀ v ∈ Tx.cs x, v.oneCell' = true := fun v hv => by rw [List.mem_singleton.1 hv]; rfl
abbrev txs (l : List (List UInt8)) : List Value := flat Tx.cs l
theorem txs_map (l : List (List UInt8)) : txs l = l.map fun x => Value.string (str x) := by
 induction l with
 | nil => rfl
 | cons x r ih => rw [txs, yW]; show _ :: flat Tx.cs r = _; rw [show flat Tx.cs r = txs r from rfl, ih]; rfl
theorem row_ptr' {H : List HProp} (i : Nat) {e : TypeId} {size k c : Nat} {p : Option Addr} {xs : List Value} (hi : H[i]? = some (row e size (.slice p k c) k xs)) {w : World} {F : HProp} (s : sat w (star (St H) F)) (h0 : k ≠ 0) : ∃ b, p = some ⟨b, 0, none⟩ := by
 rcases (row_shape i hi s).2 with ⟨_, h2, _⟩ | ⟨b, cap, h1, _⟩
 ·exact absurd h2 h0
 ·injection h1 with h1 _ _; exact ⟨b, h1⟩
section
variable {P : Program} {n : Nat} {Γ : Env} {d : Option Tmp} {ty : TypeId} {pos : String} {aft : Array Edge} {g : Option (Nat × Bool)}
theorem made_bytes (z : Value) (hz : z.cells = #[z]) (m : Nat) : madeCells z.cells m = (List.replicate m z).toArray := by
 apply Array.ext
 ·simp [madeCells]
 ·intro i h1 h2; simp only [madeCells, Array.getElem_map, hz]; simp [Nat.mod_one]
/-- a slice of noughts is made -/
theorem eff_makeB {t e : TypeId} {x y : Operand} {kx ky : IntKind} {m : Nat} {H : List HProp} (ht : Slc P t e 1 1 (.int .u8 0)) (hx : ev Γ x = some (.int kx (m : Int))) (hy : ev Γ y = some (.int ky (m : Int))) (hm : m ≤ 281474976710656) :
 EFF P n Γ ⟨d, .makeSlice t x y, ty, pos, aft, g⟩ (St H) (fun u H' => ∃ b, u = .slice (some ⟨b, 0, none⟩) m m ∧ H' = row e 1 (.slice (some ⟨b, 0, none⟩) m m) m (cel (List.replicate m 0)) :: H) := yv fun a w F f s => by
 obtain ⟨i, hi, hz, hs, hb⟩ := ht.info
 have hr := run_make (P := P) w t e i (.int .u8 0) ht.und hi hz kx ky (m : Int) (m : Int) (by omega) (Int.le_refl _) (by rw [hb]; simp only [Int.cast_ofNat_Int]; omega) (by omega)
 simp only [Int.toNat_natCast, hs, Nat.mul_one, made_bytes (.int .u8 0) rfl] at hr; refine ⟨.slice (some ⟨w.heap.size, 0, none⟩) m m, w.alloc (.cells (List.replicate m (.int .u8 0)).toArray e), _, ?_, ⟨w.heap.size, rfl, rfl⟩, ?_⟩
 ·simp only [execOp, f.ev hx, f.ev hy, Sem.run_bind, hr, Result.andThen_ok, Sem.run_pure]
 ·rw [qJ, zv]; have e1 : cel (List.replicate m 0) = List.replicate m (.int .u8 0) := by rw [cel, List.map_replicate]; rfl
  rw [e1]; exact row_mk (Nat.le_refl _) (by simp only [maxLen]; omega) (by simp) (by simp) (zg _) (sat_alloc (w := w) rfl s rfl)
theorem sat_setCells {b : Nat} {e : TypeId} {fr : Nat × Nat} {R : HProp} : ∀ (vs : List Value) (o : Nat) (cs : List Value) (w : World), o + vs.length ≤ cs.length → sat w (star (own b (.cells cs.toArray e fr)) R) → sat (w.setCells b o vs) (star (own b (.cells (yE cs o vs).toArray e fr)) R)
 | [], o, cs, w, h, s => by rw [over_nil]; exact s
 | v :: vs, o, cs, w, h, s => by
  have hb := yr (qa s)
  have s1 := sat_set (w := w) (w' := w.setCell ⟨b, o, none⟩ v) rfl s (xS hb).1 (xS hb).2
  rw [← over_cons h]; exact sat_setCells vs (o + 1) (cs.set o v) _ (by simp at h ⊢; omega) s1
theorem over_cel {l s : List UInt8} {o : Nat} : yE (cel l) o (cel s) = cel (l.take o ++ s ++ l.drop (o + s.length)) := by
 unfold yE; rw [cel_append, cel_append, yx]; simp [cel]
/-- bytes are copied into a row -/
theorem eff_copyB {t t2 e : TypeId} {z : Value} {x y : Operand} {b o dl dc cap m c : Nat} {p : Option Addr} {l s : List UInt8} {H : List HProp} (i : Nat) (ht : Slc P t e 1 1 z) (hx : ev Γ x = some (.slice (some ⟨b, o, none⟩) dl dc)) (hy : ev Γ y = some (.slice p s.length c))
 (hi : H[i]? = some (row e 1 (.slice (some ⟨b, 0, none⟩) m cap) m (cel l))) (hV : Vw (St (H.eraseIdx i)) (.slice p s.length c) s.length (cel s)) (ho : o + dl ≤ l.length) :
 EFF P n Γ ⟨d, .call { callee := .builtin .copy, args := #[x, y], argTypes := #[t, t2] }, ty, pos, aft, g⟩ (St H) (fun u H' => u = .int .i64 (min s.length dl : Nat) ∧ H' = H.set i (row e 1 (.slice (some ⟨b, 0, none⟩) m cap) m (cel (l.take o ++ s.take dl ++ l.drop (o + min s.length dl))))) := yv fun a w F f st => by
 rw [yU hi] at st; have hsz : (P.info? e).map (·.size) = some 1 := by obtain ⟨j, h1, _, h2, _⟩ := ht.info; rw [h1]; exact congrArg some h2
 have hgo : ∀ {v : Value} {w' : World}, (Builtin.copy_ #[t, t2] ty #[.slice (some ⟨b, o, none⟩) dl dc, .slice p s.length c]).run P w = .ok v w' → (execOp a.eval ⟨d, .call { callee := .builtin .copy, args := #[x, y], argTypes := #[t, t2] }, ty, pos, aft, g⟩).run P w = .ok (.value v) w' := fun h => by
  simp only [execOp, resolve, invoke, builtin, Sem.run_bind, Sem.run_pure, Result.andThen_ok, List.map_toArray, List.map_cons, List.map_nil, f.ev hx, f.ev hy, h]
 obtain ⟨hl, h⟩ := sat_row st
 have hlen : (l.take o ++ s.take dl ++ l.drop (o + min s.length dl)).length = l.length := by
  simp only [List.length_append, List.length_take, List.length_drop]; omega
 rcases h with ⟨h0, _⟩ | ⟨b', cap', cs, fr, h0, hle, hcp, hcs, htk, hw, s'⟩
 ·cases h0
 ·injection h0 with h0 _ h2; injection h0 with h0; injection h0 with h0; subst h0; subst h2
  by_cases hn : min s.length dl = 0
  ·have hr := run_copy_none (P := P) w t t2 ty e (some ⟨b, o, none⟩) p dl dc s.length c ht.und hsz hn
   refine ⟨_, _, _, hgo hr, ⟨by rw [hn]; rfl, rfl⟩, ?_⟩; rw [St_set hi, zv]
   have e1 : l.take o ++ s.take dl ++ l.drop (o + min s.length dl) = l := by
    have : s.take dl = [] := List.eq_nil_of_length_eq_zero (by rw [List.length_take]; omega)
    rw [this, hn, List.append_nil, Nat.add_zero, List.take_append_drop]
   rw [e1]; exact st
  ·have hb := yr (qa s')
   have hlcs : l.length ≤ cs.length := by
    have h1 := congrArg List.length htk
    rw [List.length_take, yx] at h1; omega
   rcases hV w (star (own b (.cells cs.toArray e fr)) F) (by rw [qH] at s'; exact s') with ⟨_, _, h4, _⟩ | ⟨b2, o2, c2, h4, hcell⟩
   ·omega
   ·injection h4 with h4 _ h5; subst h4; subst h5
    have hlt : (cel (s.take dl)).length = Nat.min s.length dl := by rw [yx, List.length_take, Nat.min_comm]
    have hr := run_copy_cells (P := P) w t t2 ty e b o dl dc ⟨b2, o2, none⟩ s.length c (cel (s.take dl)) ht.und hsz hlt
     (fun j v hj => by
      rw [yR]; refine hcell j v ?_; have h6 : (cel (s.take dl)) = (cel s).take dl := by simp [cel]
      rw [h6] at hj; rw [List.getElem?_take] at hj
      split at hj
      ·exact hj
      ·cases hj)
     (fun j hj => by
      have : j < min s.length dl := by rw [hlt] at hj; exact hj
      rw [cell_of hb]; simp; omega)
     (fun j hj => by
      have : j < min s.length dl := by rw [hlt] at hj; exact hj
      exact frozen_of hb hw (by omega)) (cel_one _)
    have hlt' : (cel (s.take dl)).length = min s.length dl := hlt
    refine ⟨_, _, _, hgo hr, ⟨by rw [hlt']; rfl, rfl⟩, ?_⟩; rw [St_set hi, zv]; have s2 := sat_setCells (cel (s.take dl)) o cs w (by rw [hlt']; omega) s'
    refine row_mk (cs := yE cs o (cel (s.take dl))) (fr := fr) hle hcp (by rw [yc (by rw [hlt']; omega)]; exact hcs) ?_ ?_ s2
    ·have e2 : s.take dl = s.take (min s.length dl) := by
      by_cases h : dl ≤ s.length
      ·rw [Nat.min_eq_right h]
      ·rw [Nat.min_eq_left (by omega), List.take_of_length_le (by omega), List.take_length]
     have hml : m * 1 = l.length := by rw [← hl, yx]
     have e3 : (yE cs o (cel (s.take dl))).take (m * 1) = yE (cs.take (m * 1)) o (cel (s.take dl)) := by
      unfold yE; rw [hlt', hml, List.take_append, List.take_append, List.take_take, List.length_take, List.length_append, List.length_take, hlt']; have h7 : min o cs.length = o := by omega
      rw [h7, List.take_of_length_le (l := cel (s.take dl)) (by rw [hlt']; omega), List.take_drop, show min l.length o = o by omega, show o + min s.length dl + (l.length - (o + min s.length dl)) = l.length by omega, List.take_take, show min o l.length = o by omega]
     rw [e3, htk, over_cel]; rw [List.length_take, Nat.min_comm dl]
    ·intro j hj; rw [yc (by rw [hlt']; omega)] at hj; exact hw j hj
end
set_option maxRecDepth 100000
section
variable {P : Program} {n : Nat} {L : HProp} {Γ : Env} {d : Option Tmp} {ty : TypeId} {pos : String} {aft : Array Edge} {g : Option (Nat × Bool)}
/-- a row is opened -/
theorem tri_rowO {f : FuncId} {args : List Value} {e : TypeId} {size k b c : Nat} {xs : List Value} {H : List HProp} {Ψ : Value → List HProp → Prop}
 (h : ∀ cs fr, k ≤ c → c ≤ maxLen → cs.length = c * size → cs.take (k * size) = xs → warm cs fr → Tri P f args (own b (.cells cs.toArray e fr) :: H) Ψ) : Tri P f args (row e size (.slice (some ⟨b, 0, none⟩) k c) k xs :: H) Ψ := fun w F s => by
 rw [qJ, zv] at s
 rcases (sat_row s).2 with ⟨h1, _⟩ | ⟨b', cap, cs, fr, h1, h2, h3, h4, h5, h6, s'⟩
 ·cases h1
 ·injection h1 with h1 _ h7; injection h1 with h1; injection h1 with h1; subst h1; subst h7
  exact h cs fr h2 h3 h4 h5 h6 w F (by rw [qJ, zv]; exact s')
/-- and closed again -/
theorem own_close {H : List HProp} (i : Nat) {e : TypeId} {size b k cap : Nat} {cs xs : List Value} {fr : Nat × Nat} (hi : H[i]? = some (own b (.cells cs.toArray e fr))) (h1 : k ≤ cap) (h2 : cap ≤ maxLen) (h3 : cs.length = cap * size) (h4 : cs.take (k * size) = xs) (h5 : warm cs fr)
 (w : World) (F : HProp) (s : sat w (star (St H) F)) : sat w (star (St (row e size (.slice (some ⟨b, 0, Option.none⟩) k cap) k xs :: H.eraseIdx i)) F) := by
 rw [yU hi] at s; rw [qJ, zv]; exact row_mk h1 h2 h3 h4 h5 s
theorem warm_len {cs ds : List Value} {fr : Nat × Nat} (h : warm cs fr) (hl : ds.length = cs.length) : warm ds fr := fun j hj => h j (by rwa [hl] at hj)
/-- the whole state is read -/
theorem rdn_st {H : List HProp} {b o : Nat} {vs : List Value} (h : RdN (St H) b o vs) {w : World} {F : HProp} (s : sat w (star (St H) F)) : ∀ j v, vs[j]? = some v → w.cell? ⟨b, o + j, none⟩ = some v := fun j v hj => h j v hj w F s
theorem eff_copyO {t t2 e : TypeId} {bytes : Nat} {z : Value} {x y : Operand} {b o dl dc b2 o2 m c : Nat} {cs news : List Value} {fr : Nat × Nat} {H : List HProp} (i : Nat) (ht : Slc P t e 1 bytes z) (hx : ev Γ x = some (.slice (some ⟨b, o, none⟩) dl dc)) (hy : ev Γ y = some (.slice (some ⟨b2, o2, none⟩) m c))
 (hi : H[i]? = some (own b (.cells cs.toArray e fr))) (hw : warm cs fr) (hr : RdN (St H) b2 o2 news) (hn : news.length = min m dl) (h1 : ∀ v ∈ news, v.oneCell' = true) (ho : o + news.length ≤ cs.length) :
 EFF P n Γ ⟨d, .call { callee := .builtin .copy, args := #[x, y], argTypes := #[t, t2] }, ty, pos, aft, g⟩ (St H) (fun u H' => u = .int .i64 (news.length : Nat) ∧ H' = H.set i (own b (.cells (yE cs o news).toArray e fr))) := yv fun a w F f st => by
 have hrd := rdn_st hr st
 rw [yU hi] at st; have hb := yr (qa st)
 have hsz : (P.info? e).map (·.size) = some 1 := by obtain ⟨j, h1, _, h2, _⟩ := ht.info; rw [h1]; exact congrArg some h2
 have hrun := run_copy_cells (P := P) w t t2 ty e b o dl dc ⟨b2, o2, none⟩ m c news ht.und hsz hn (fun j v hj => by rw [yR]; exact hrd j v hj)
  (fun j hj => by rw [cell_of hb]; simp; omega) (fun j hj => frozen_of hb hw (by omega)) h1
 refine ⟨_, _, _, ?_, ⟨rfl, rfl⟩, by rw [St_set hi, zv]; exact sat_setCells news o cs w ho st⟩; simp only [execOp, resolve, invoke, builtin, Sem.run_bind, Sem.run_pure, Result.andThen_ok, List.map_toArray, List.map_cons, List.map_nil, f.ev hx, f.ev hy, hrun]
 rfl
/-- there is room: cells are appended in place -/
theorem eff_appendO {t t2 e e2 : TypeId} {bytes : Nat} {z : Value} {x y : Operand} {b k c b2 o2 m c2 : Nat} {cs news : List Value} {fr : Nat × Nat} {H : List HProp} (i : Nat) (ht : Slc P t e 1 bytes z) (h2 : P.underlying t2 = some (.slice e2)) (hx : ev Γ x = some (.slice (some ⟨b, 0, none⟩) k c)) (hy : ev Γ y = some (.slice (some ⟨b2, o2, none⟩) m c2))
 (hi : H[i]? = some (own b (.cells cs.toArray e fr))) (hw : warm cs fr) (hr : RdN (St H) b2 o2 news) (hn : news.length = m) (h1 : ∀ v ∈ news, v.oneCell' = true) (hroom : k + m ≤ c) (ho : k + m ≤ cs.length) :
 EFF P n Γ ⟨d, .call { callee := .builtin .append, args := #[x, y], argTypes := #[t, t2] }, ty, pos, aft, g⟩ (St H) (fun u H' => u = .slice (some ⟨b, 0, none⟩) (k + m) c ∧ H' = H.set i (own b (.cells (yE cs k news).toArray e fr))) := yv fun a w F f st => by
 have hrd := rdn_st hr st
 rw [yU hi] at st; have hb := yr (qa st)
 obtain ⟨inf, i1, i2, i3, i4⟩ := ht.info
 have hc : (Builtin.firstCells 1 m (.slice (some ⟨b2, o2, none⟩) m c2)).run P w = .ok news.toArray w := run_firstCells_some w 1 m ⟨b2, o2, none⟩ m c2 news (by rw [hn, Nat.mul_one]) (fun j v hj => by rw [yR]; exact hrd j v hj)
 obtain ⟨w', hst, hb2, hk, hx', _⟩ := yy (P := P) news 0 k cs w hb hw (by rw [hn]; omega) h1
 have hln : ∀ w, (Builtin.lenOf (.slice (some ⟨b2, o2, none⟩) m c2)).run P w = .ok m w := fun w => rfl
 refine ⟨_, w', _, execOp_append f hx hy (v' := .slice (some ⟨b, 0, none⟩) (k + m) c) (w' := w') ?_, ⟨rfl, rfl⟩, ?_⟩
 ·simp [Builtin.append_, run_underlying ht.und, run_underlying h2, sizeOf, typeInfo, i1, i3, hln, hroom, hc, yR, hst]
 ·rw [St_set hi, zv]; simp only [Nat.add_zero] at hb2; exact sat_set (w := w) hx' st hb2 hk
theorem zeroCells_one (z : Value) (k : Nat) : (Builtin.zeroCells #[z] k).toList = List.replicate k z := by
 apply List.ext_getElem
 ·rw [Array.length_toList, size_zeroCells]; simp
 ·intro i h1 h2; rw [List.getElem_replicate]; simp [Builtin.zeroCells, Nat.mod_one]
theorem eff_clearO {t e : TypeId} {bytes : Nat} {z : Value} {x : Operand} {b o k c : Nat} {cs : List Value} {fr : Nat × Nat} {H : List HProp} (i : Nat) (ht : Slc P t e 1 bytes z) (hz : z.cells = #[z]) (hz1 : z.oneCell' = true) (hx : ev Γ x = some (.slice (some ⟨b, o, none⟩) (k + 1) c))
 (hi : H[i]? = some (own b (.cells cs.toArray e fr))) (hw : warm cs fr) (ho : o + (k + 1) ≤ cs.length) :
 EFF P n Γ ⟨d, .call { callee := .builtin .clear, args := #[x], argTypes := #[t] }, ty, pos, aft, g⟩ (St H) (fun u H' => u = .tuple #[] ∧ H' = H.set i (own b (.cells (yE cs o (List.replicate (k + 1) z)).toArray e fr))) := yv fun a w F f st => by
 rw [yU hi] at st; have hb := yr (qa st)
 obtain ⟨inf, i1, i2, i3, i4⟩ := ht.info
 obtain ⟨w', hst, hb2, hk, hx', _⟩ := yy (P := P) (List.replicate (k + 1) z) 0 o cs w hb hw (by rw [List.length_replicate]; omega) (fun v hv => by rw [(List.mem_replicate.1 hv).2]; exact hz1)
 refine ⟨_, w', _, ?_, ⟨rfl, rfl⟩, ?_⟩
 ·have hzz : (zeroValue e).run P w = .ok z w := by simp [zeroValue, typeInfo, i1, i2]
  have hc : (Builtin.zeroCells z.cells (k + 1)).toList = List.replicate (k + 1) z := by rw [hz, zeroCells_one]
  simp [execOp, f.ev hx, resolve, invoke, builtin, Builtin.clear_, run_underlying ht.und, hzz, hc, hst, Result.andThen]
 ·rw [St_set hi, zv]; simp only [Nat.add_zero] at hb2; exact sat_set (w := w) hx' st hb2 hk
/-- there is no room: so many noughts are appended -/
theorem eff_appendMk {t t2 e : TypeId} {kk : IntKind} {bytes : Nat} {z : Value} {x y : Operand} {b k c m : Nat} {xs : List Value} {H : List HProp} (ht : Slc P t e 1 bytes z) (hz : z.cells = #[z]) (h2 : P.underlying t2 = some (.int kk)) (hx : ev Γ x = some (.slice (some ⟨b, 0, none⟩) k c)) (hy : ev Γ y = some (.int .i64 (m : Int)))
 (hr : RdN (St H) b 0 xs) (hn : xs.length = k) (hroom : c < k + m) (hm : 0 < m) (hb : (k + m) * bytes ≤ 140737488355328) (hmx : k + m ≤ maxLen) :
 EFF P n Γ ⟨d, .call { callee := .builtin .append, args := #[x, y], argTypes := #[t, t2] }, ty, pos, aft, g⟩ (St H)
  (fun u H' => ∃ nb cap, u = .slice (some ⟨nb, 0, none⟩) (k + m) cap ∧ k + m ≤ cap ∧ cap ≤ maxLen ∧ H' = own nb (.cells (xs ++ List.replicate (cap - k) z).toArray e (0, 0)) :: H) := yv fun a w F f st => by
 obtain ⟨inf, i1, i2, i3, i4⟩ := ht.info
 have hsmall : k + m ≤ 9223372036854775807 := by simp only [maxLen] at hmx; omega
 have hmb : m * bytes ≤ 140737488355328 := Nat.le_trans (Nat.mul_le_mul_right _ (Nat.le_add_left m k)) hb
 have hold : (Builtin.firstCells 1 k (.slice (some ⟨b, 0, none⟩) k c)).run P w.drew = .ok xs.toArray w.drew := run_firstCells_some w.drew 1 k ⟨b, 0, none⟩ k c xs (by rw [hn, Nat.mul_one]) (fun j v hj => by
  rw [yR, World.cell?_drew]; exact rdn_st hr st j v hj)
 have hzz : ∀ w, (zeroValue e).run P w = .ok z w := fun w => by simp [zeroValue, typeInfo, i1, i2]
 have hwr : IntKind.i64.wrap (m : Int) = m := by rw [qU (by omega) (by omega)]
 have h48 : ¬ (281474976710656 < Builtin.nextslicecap (k + m) c * bytes) := by have := growslice_fits (need := k + m) (old := c) (bytes := bytes) (by omega) hb; omega
 have hg := growCap_facts w (need := k + m) (old := c) (e := e) hmx
 have hc : ∀ q, (Builtin.zeroCells z.cells q).toList = List.replicate q z := fun q => by rw [hz, zeroCells_one]
 have hc' : ∀ q, Builtin.zeroCells z.cells q = (List.replicate q z).toArray := fun q => by rw [← hc q]
 refine ⟨.slice (some ⟨w.heap.size, 0, none⟩) (k + m) (grownCap w (k + m) c e), w.drew.alloc (.cells (xs ++ List.replicate (grownCap w (k + m) c e - k) z).toArray e), _, execOp_append f hx hy ?_, ⟨_, _, rfl, hg.1, hg.2, rfl⟩, by rw [qJ, zv]; exact sat_alloc (w := w) rfl st rfl⟩
 have e1 : List.replicate (grownCap w (k + m) c e - k) z = List.replicate m z ++ List.replicate (grownCap w (k + m) c e - (k + m)) z := by
  rw [List.replicate_append_replicate]; congr 1; omega
 have hmi : ¬ ((m : Int) < 0) := by omega
 have hmb' : ¬ ((m : Int) * (bytes : Int) > 281474976710656) := by
  have : ((m * bytes : Nat) : Int) ≤ ((140737488355328 : Nat) : Int) := Int.ofNat_le.2 hmb
  rw [Int.natCast_mul] at this; omega
 have hns : ¬ (9223372036854775807 < ((k : Int) + (m : Int))) := by omega
 have hn' : ¬ (k + m ≤ c) := by omega
 have hm0 : ¬ (m = 0) := by omega
 simp [Builtin.append_, run_underlying ht.und, run_underlying h2, sizeOf, typeInfo, zeroValue, i1, i2, i3, i4, asInt, asIntOf, hwr, hmi, hmb', hn', hns, h48, hm0, Question.forced, hold, hc', newRow, grownCap]
 have hge : k + m ≤ (Question.appendCap (k + m) c e).cut (w.tape w.drawn (Question.appendCap (k + m) c e)) := hg.1
 generalize (Question.appendCap (k + m) c e).cut (w.tape w.drawn (Question.appendCap (k + m) c e)) = q at hge ⊢
 rw [show m + (q - (k + m)) = q - k by omega]; have e3 : xs.toArray ++ Array.replicate (q - k) z = (xs ++ List.replicate (q - k) z).toArray := by apply Array.ext'; simp
 rw [e3]
/-- a full slice expression -/
theorem ro_slice3 {t e : TypeId} {x : Operand} {lo hi mx : Operand} {b o m c l h q size bytes : Nat} {z : Value} (ht : Slc P t e size bytes z) (hx : ev Γ x = some (.slice (some ⟨b, o, Option.none⟩) m c)) (hl : ev Γ lo = some (.int .i64 (l : Int))) (hh : ev Γ hi = some (.int .i64 (h : Int))) (hq : ev Γ mx = some (.int .i64 (q : Int))) (h1 : l ≤ h) (h2 : h ≤ q) (h3 : q ≤ c) :
 RO P n L Γ ⟨d, .slice t x (some lo) (some hi) (some mx), ty, pos, aft, g⟩ (resl b o q size l h) := fun a w R f s => by
 obtain ⟨inf, i1, i2, i3, i4⟩ := ht.info
 have hsz : (sizeOf e).run P w = .ok size w := by simp [sizeOf, typeInfo, i1, i3]
 have hb : (Instr.sliceBounds true m c (some (.int .i64 (l : Int))) (some (.int .i64 (h : Int))) (some (.int .i64 (q : Int)))).run P w = .ok (l, h, q) w := by
  simp [Instr.sliceBounds, Instr.sliceBound, asIntOf, h1, h2, h3, Result.andThen]
 simp only [execOp, Instr.sliceAt, Instr.slice, f.ev hx, f.ev hl, f.ev hh, f.ev hq, Sem.run_bind, run_underlying ht.und, Result.andThen_ok, Option.map_some, hb, hsz, Sem.run_pure, yR, resl]
 split <;> rfl
end
open Go.MapKept
/-- an entry: key, value, stamp -/
structure Me where
 k : Int
 v : Value
 t : Nat
def Me.e (x : Me) : MapEntry := ⟨.int .i64 x.k, x.v, x.t⟩
abbrev mapO (l : List Me) (c : Nat) : Obj := .map (l.map Me.e).toArray c
def mget (l : List Me) (k : Int) (z : Value) : Value := ((l.find? (fun x => x.k == k)).map Me.v).getD z
def mdel : List Me → Int → List Me
 | [], _ => []
 | x :: r, k => if x.k = k then r else x :: mdel r k
theorem map_eraseIdx {α β : Type} (f : α → β) : ∀ (l : List α) (j : Nat), (l.map f).eraseIdx j = (l.eraseIdx j).map f
 | [], j => rfl
 | x :: r, 0 => rfl
 | x :: r, j + 1 => by simp [map_eraseIdx f r j]
theorem findNow_hit {k : Int} : ∀ (l : List Me) (i : Nat) (x : Me), l.find? (fun x => x.k == k) = some x → ∃ j, Instr.findNow (.int .i64) (.int .i64 k) (l.map Me.e) i = some (some (i + j, x.v)) ∧ mdel l k = l.eraseIdx j ∧ j < l.length
 | y :: r, i, x, h => by
  rw [List.find?_cons] at h
  by_cases e : y.k = k
  ·rw [show (y.k == k) = true by simp [e]] at h; cases h
   exact ⟨0, by simp [Instr.findNow, Me.e, Instr.sameNow, e], by simp [mdel, e], by simp⟩
  ·rw [show (y.k == k) = false by simp [e]] at h; obtain ⟨j, h1, h2, h3⟩ := findNow_hit r (i + 1) x h
   refine ⟨j + 1, ?_, by simp [mdel, e, h2], by simp; omega⟩; simp only [List.map_cons, Instr.findNow, Me.e, Instr.sameNow, if_true]; rw [show (k == y.k) = false by simp [Ne.symm e]]; rw [show i + (j + 1) = i + 1 + j by omega]; exact h1
theorem findNow_none {k : Int} : ∀ (l : List Me) (i : Nat), l.find? (fun x => x.k == k) = none → Instr.findNow (.int .i64) (.int .i64 k) (l.map Me.e) i = some none ∧ mdel l k = l
 | [], i, _ => ⟨rfl, rfl⟩
 | y :: r, i, h => by
  rw [List.find?_cons] at h
  by_cases e : y.k = k
  ·rw [show (y.k == k) = true by simp [e]] at h; cases h
  ·rw [show (y.k == k) = false by simp [e]] at h; obtain ⟨h1, h2⟩ := findNow_none r (i + 1) h
   refine ⟨?_, by simp [mdel, e, h2]⟩; simp only [List.map_cons, Instr.findNow, Me.e, Instr.sameNow, if_true]; rw [show (k == y.k) = false by simp [Ne.symm e]]; exact h1
section
variable {P : Program} {n : Nat} {L : HProp} {Γ : Env} {d : Option Tmp} {ty : TypeId} {pos : String} {aft : Array Edge} {g : Option (Nat × Bool)}
/-- the map lies there -/
def Mp (L : HProp) (b : Nat) (l : List Me) : Prop := ∀ w R, sat w (star L R) → ∃ c, w.heap[b]? = some (mapO l c)
theorem Mp.own {b : Nat} {l : List Me} {c : Nat} : Mp (own b (mapO l c)) b l := fun w R s => ⟨c, yr (qa s)⟩
theorem Mp.pick {H : List HProp} {A : HProp} {b : Nat} {l : List Me} (i : Nat) (hi : H[i]? = some A) (h : Mp A b l) : Mp (St H) b l := fun w R s => by
 rw [yS hi, zv] at s; exact h w _ s
theorem xB {t kt et : TypeId} {m ix : Operand} {b : Nat} {l : List Me} {k : Int} {z : Value} (ht : P.underlying t = some (.map kt et)) (hk : P.underlying kt = some (.int .i64)) (hz : Zero P et z) (hm : ev Γ m = some (.map (some b))) (hi : ev Γ ix = some (.int .i64 k)) (hr : Mp L b l) :
 RO P n L Γ ⟨d, .lookup t m ix false, ty, pos, aft, g⟩ (mget l k z) := fun a w R f s => by
 obtain ⟨c, hb⟩ := hr w R s
 have hc : ∀ e, (Instr.checkKey e 10000 kt (.int .i64 k)).run P w = .ok () w := fun e => Go.MapKept.run_checkKey (k := .int .i64 k) hk rfl e 9999
 unfold mget
 cases hf : l.find? (fun x => x.k == k) with
 | none =>
  have h1 := (findNow_none l 0 hf).1
  simp [execOp, f.ev hm, f.ev hi, Instr.lookup, run_underlying ht, Go.MapKept.run_getObj_map hb, hc, Go.MapKept.run_findKey hk h1, Result.andThen, hz w]
 | some x =>
  obtain ⟨j, h1, _⟩ := findNow_hit l 0 x hf
  simp [execOp, f.ev hm, f.ev hi, Instr.lookup, run_underlying ht, Go.MapKept.run_getObj_map hb, hc, Go.MapKept.run_findKey hk h1, Result.andThen]
theorem ro_mapLen {x : Operand} {t kt et : TypeId} {b : Nat} {l : List Me} (ht : P.underlying t = some (.map kt et)) (hx : ev Γ x = some (.map (some b))) (hr : Mp L b l) :
 RO P n L Γ ⟨d, .call { callee := .builtin .len, args := #[x], argTypes := #[t] }, ty, pos, aft, g⟩ (.int .i64 l.length) := fun a w R f s => by
 obtain ⟨c, hb⟩ := hr w R s
 simp [execOp, f.ev hx, resolve, invoke, builtin, Builtin.len_, run_underlying ht, Go.MapKept.run_getObj_map hb, Result.andThen, goInt]
theorem eff_makeMap {t : TypeId} {H : List HProp} : EFF P n Γ ⟨d, .makeMap t none, ty, pos, aft, g⟩ (St H) (fun v H' => ∃ b, v = .map (some b) ∧ H' = own b (mapO [] 0) :: H) := yv fun a w F f s =>
 ⟨_, w.alloc (mapO [] 0), own w.heap.size (mapO [] 0) :: H, by simp [execOp, Instr.makeMap, Result.andThen, mapO], ⟨_, rfl, rfl⟩, by rw [qJ, zv]; exact sat_alloc (w := w) rfl s rfl⟩
theorem eff_mapUpdate {t kt et : TypeId} {m ix x : Operand} {b c : Nat} {l : List Me} {k : Int} {v : Value} {H : List HProp} (i : Nat) (ht : P.underlying t = some (.map kt et)) (hk : P.underlying kt = some (.int .i64)) (hm : ev Γ m = some (.map (some b))) (hi : ev Γ ix = some (.int .i64 k)) (hv : ev Γ x = some v)
 (hH : H[i]? = some (own b (mapO l c))) (hn : ∀ y ∈ l, y.k ≠ k) :
 EFF P n Γ ⟨d, .mapUpdate t m ix x, ty, pos, aft, g⟩ (St H) (fun _ H' => H' = H.set i (own b (mapO (l ++ [⟨k, v, c⟩]) (c + 1)))) := eff_skip fun a w F f s => by
 rw [yS hH, zv] at s; have hb := yr (qa s)
 have hc : ∀ e, (Instr.checkKey e 10000 kt (.int .i64 k)).run P w = .ok () w := fun e => Go.MapKept.run_checkKey (k := .int .i64 k) hk rfl e 9999
 have h1 := (findNow_none (k := k) l 0 (List.find?_eq_none.2 fun y hy => by simpa using hn y hy)).1
 have e : (l ++ [(⟨k, v, c⟩ : Me)]).map Me.e = l.map Me.e ++ [⟨.int .i64 k, v, c⟩] := by simp [Me.e]
 refine ⟨{ w with heap := w.heap.setIfInBounds b (mapO (l ++ [⟨k, v, c⟩]) (c + 1)) }, _, ?_, rfl, ?_⟩
 ·simp [execOp, f.ev hm, f.ev hi, f.ev hv, Instr.mapUpdate, run_underlying ht, Go.MapKept.run_getObj_map hb, hc, Go.MapKept.run_findKey hk h1, Go.MapKept.run_setObj_map _ hb, Result.andThen, e, mapO]
 ·rw [St_set hH, zv]; exact sat_set (w := w) rfl s (Go.MapKept.heap_set hb).1 (Go.MapKept.heap_set hb).2
theorem eff_delete {t kt et t2 : TypeId} {m ix : Operand} {b c : Nat} {l : List Me} {k : Int} {H : List HProp} (i : Nat) (ht : P.underlying t = some (.map kt et)) (hk : P.underlying kt = some (.int .i64)) (hm : ev Γ m = some (.map (some b))) (hi : ev Γ ix = some (.int .i64 k)) (hH : H[i]? = some (own b (mapO l c))) :
 EFF P n Γ ⟨d, .call { callee := .builtin .delete, args := #[m, ix], argTypes := #[t, t2] }, ty, pos, aft, g⟩ (St H) (fun u H' => u = .tuple #[] ∧ H' = H.set i (own b (mapO (mdel l k) c))) := yv fun a w F f s => by
 rw [yS hH, zv] at s; have hb := yr (qa s)
 have hc : ∀ e, (Instr.checkKey e 10000 kt (.int .i64 k)).run P w = .ok () w := fun e => Go.MapKept.run_checkKey (k := .int .i64 k) hk rfl e 9999
 refine ⟨_, { w with heap := w.heap.setIfInBounds b (mapO (mdel l k) c) }, _, ?_, ⟨rfl, rfl⟩, ?_⟩
 ·cases hf : l.find? (fun x => x.k == k) with
  | none =>
   obtain ⟨h1, h2⟩ := findNow_none l 0 hf
   simp [execOp, f.ev hm, f.ev hi, resolve, invoke, builtin, Builtin.delete_, run_underlying ht, Go.MapKept.run_getObj_map hb, hc, Go.MapKept.run_findKey hk h1, Go.MapKept.run_setObj_map _ hb, Result.andThen, h2, mapO]
  | some x =>
   obtain ⟨j, h1, h2, h3⟩ := findNow_hit l 0 x hf
   have e : (l.map Me.e).toArray.eraseIdxIfInBounds j = ((l.eraseIdx j).map Me.e).toArray := by
    rw [Array.eraseIdxIfInBounds, dif_pos (by simpa using h3)]; simp [map_eraseIdx]
   simp [execOp, f.ev hm, f.ev hi, resolve, invoke, builtin, Builtin.delete_, run_underlying ht, Go.MapKept.run_getObj_map hb, hc, Go.MapKept.run_findKey hk h1, Go.MapKept.run_setObj_map _ hb, Result.andThen, h2, e, mapO, map_eraseIdx]
 ·rw [St_set hH, zv]; exact sat_set (w := w) rfl s (Go.MapKept.heap_set hb).1 (Go.MapKept.heap_set hb).2
end
def subp (p : Option Addr) (c size l : Nat) : Option Addr := p.map fun a => if c = l then a else ⟨a.block, a.off + l * size, Option.none⟩
/-- what is known of where a slice lies -/
def Shp (p : Option Addr) (k c : Nat) : Prop := ((p = Option.none ∧ k = 0 ∧ c = 0) ∨ ∃ b o, p = some ⟨b, o, Option.none⟩) ∧ k ≤ c
theorem row_shp {H : List HProp} (i : Nat) {e : TypeId} {size k c : Nat} {p : Option Addr} {xs : List Value} (hi : H[i]? = some (row e size (.slice p k c) k xs)) {w : World} {F : HProp} (s : sat w (star (St H) F)) : Shp p k c := by
 refine ⟨?_, row_caps i hi s⟩
 rcases (row_shape i hi s).2 with ⟨h1, h2, _⟩ | ⟨b, cap, h1, h2, _⟩
 ·injection h1 with h1 _ h3; exact .inl ⟨h1, h2, h3⟩
 ·injection h1 with h1 _ _; exact .inr ⟨b, 0, h1⟩
section
variable {P : Program} {n : Nat} {Γ : Env} {d : Option Tmp} {ty : TypeId} {pos : String} {aft : Array Edge} {g : Option (Nat × Bool)} {L : HProp}
theorem ro_sliceP {α : Type} {t e : TypeId} {x : Operand} {lo hi' : Option Operand} {p : Option Addr} {c a b size bytes : Nat} {l : List α} {z : Value} (ht : Slc P t e size bytes z) (hx : ev Γ x = some (.slice p l.length c)) (hs : Shp p l.length c) (hl : bnd Γ lo 0 = some a) (hh : bnd Γ hi' l.length = some b) (h1 : a ≤ b) (h2 : b ≤ l.length) :
 RO P n L Γ ⟨d, .slice t x lo hi' Option.none, ty, pos, aft, g⟩ (.slice (subp p c size a) ((l.drop a).take (b - a)).length (c - a)) := by
 have e : ((l.drop a).take (b - a)).length = b - a := by simp; omega
 rw [e]
 rcases hs with ⟨⟨rfl, h3, rfl⟩ | ⟨b0, o, rfl⟩, hc⟩
 ·obtain rfl : b = 0 := by omega
  obtain rfl : a = 0 := by omega
  rw [h3] at hx hh; exact ro_sliceNil ht hx hl hh
 ·have h := yf (P := P) (n := n) (L := L) (d := d) (ty := ty) (pos := pos) (aft := aft) (g := g) ht hx hl hh h1 (by omega)
  exact h
end
end Go.Sx
