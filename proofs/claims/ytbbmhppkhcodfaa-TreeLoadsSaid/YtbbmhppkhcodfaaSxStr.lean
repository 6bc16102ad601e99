/-
  Texts as lists of bytes; slices of views.
-/
import Derived.Test.YtbbmhppkhcodfaaSxApp
import Derived.Laws.Small
namespace Go.Sx
set_option linter.unusedVariables false
set_option linter.unusedSimpArgs false
theorem str_extract (l : List UInt8) (a b : Nat) : (str l).extract a b = str ((l.drop a).take (b - a)) := by
  apply ByteArray.ext
  rw [ByteArray.data_extract]
  show l.toArray.extract a b = ((l.drop a).take (b - a)).toArray
  apply Array.ext'
  simp [List.extract_eq_take_drop]
theorem str_iff {a b : List UInt8} : (str a = str b) ↔ a = b := ⟨str_inj, fun h => by rw [h]⟩
theorem str_of (s : ByteArray) : ∃ l, s = str l := ⟨s.data.toList, (str_data s).symm⟩
section
variable {P : Program} {n : Nat} {L : HProp} {Γ : Env} {d : Option Tmp} {ty : TypeId} {pos : String} {aft : Array Edge} {g : Option (Nat × Bool)}
theorem ro_lenS {x : Operand} {t t' : TypeId} {l : List UInt8} (ht : P.underlying t = some .string) (hx : ev Γ x = some (.string (str l))) :
    RO P n L Γ ⟨d, .call { callee := .builtin .len, args := #[x], argTypes := #[t] }, ty, pos, aft, g⟩ (.int .i64 l.length) := by
  have h := ro_strLen (P := P) (n := n) (L := L) (d := d) (ty := ty) (pos := pos) (aft := aft) (g := g) (t' := t') ht hx
  rwa [str_size] at h
theorem ro_sliceS {t : TypeId} {x : Operand} {lo hi : Option Operand} {l : List UInt8} {a b : Nat} (ht : P.underlying t = some .string) (hx : ev Γ x = some (.string (str l))) (hl : bnd Γ lo 0 = some a) (hh : bnd Γ hi l.length = some b) (h1 : a ≤ b) (h2 : b ≤ l.length) :
    RO P n L Γ ⟨d, .slice t x lo hi Option.none, ty, pos, aft, g⟩ (.string (str ((l.drop a).take (b - a)))) := by
  have h := ro_sliceStr (P := P) (n := n) (L := L) (d := d) (ty := ty) (pos := pos) (aft := aft) (g := g) ht hx hl (by rw [str_size]; exact hh) h1 (by rw [str_size]; exact h2)
  rwa [str_extract] at h
theorem ro_indexS {t : TypeId} {x ix : Operand} {k : IntKind} {l : List UInt8} {i : Nat} {ii : Int} (ht : P.underlying t = some .string) (hx : ev Γ x = some (.string (str l))) (hi : ev Γ ix = some (.int k ii)) (hj : ii = (i : Int)) (hlt : i < l.length) :
    RO P n L Γ ⟨d, .index t x ix, ty, pos, aft, g⟩ (.int .u8 (l[i].toNat : Int)) := by
  have h := ro_strIndex (P := P) (n := n) (L := L) (d := d) (ty := ty) (pos := pos) (aft := aft) (g := g) ht hx hi hj (by rw [str_size]; exact hlt)
  have e : (str l)[i]'(by rw [str_size]; exact hlt) = l[i] := by show l.toArray[i]'(by simpa using hlt) = l[i]; simp
  rwa [e] at h
theorem ro_eqlS {t ty' : TypeId} {x y : Operand} {a b : List UInt8} {c : Bool} (hx : ev Γ x = some (.string (str a))) (hy : ev Γ y = some (.string (str b))) (hz : decide (a = b) = c) :
    RO P n L Γ ⟨d, .binOp .eql t x y ty', ty, pos, aft, g⟩ (.bool c) := ro_strEql hx hy (by rw [← hz]; exact decide_eq_decide.2 str_iff)
theorem ro_neqS {t ty' : TypeId} {x y : Operand} {a b : List UInt8} {c : Bool} (hx : ev Γ x = some (.string (str a))) (hy : ev Γ y = some (.string (str b))) (hz : decide (a ≠ b) = c) :
    RO P n L Γ ⟨d, .binOp .neq t x y ty', ty, pos, aft, g⟩ (.bool c) := ro_strNeq hx hy (by rw [← hz]; exact decide_eq_decide.2 (not_congr str_iff))
theorem ro_addS {t ty' : TypeId} {x y : Operand} {a b : List UInt8} (hx : ev Γ x = some (.string (str a))) (hy : ev Γ y = some (.string (str b))) (hz : a.length + b.length ≤ 9223372036854775807) :
    RO P n L Γ ⟨d, .binOp .add t x y ty', ty, pos, aft, g⟩ (.string (str (a ++ b))) := by
  have h := ro_strAdd (P := P) (n := n) (L := L) (d := d) (ty := ty) (pos := pos) (aft := aft) (g := g) (t := t) (ty' := ty') hx hy (by rw [str_size, str_size]; exact hz)
  rwa [str_append] at h
theorem Vw.empty (L : HProp) (p : Option Addr) : Vw L (.slice p 0 0) 0 [] := fun w R s => .inl ⟨p, rfl, rfl, rfl⟩
theorem ro_sliceEmpty {t e : TypeId} {x : Operand} {lo hi : Option Operand} {p : Option Addr} {size bytes : Nat} {z : Value} (ht : Slc P t e size bytes z) (hx : ev Γ x = some (.slice p 0 0)) (hl : bnd Γ lo 0 = some 0) (hh : bnd Γ hi 0 = some 0) :
    RO P n L Γ ⟨d, .slice t x lo hi Option.none, ty, pos, aft, g⟩ (.slice p 0 0) := fun a w R f s => by
  cases p with
  | none => exact ro_sliceNil ht hx hl hh a w R f s
  | some p =>
    obtain ⟨inf, i1, i2, i3, i4⟩ := ht.info
    have hsz : (sizeOf e).run P w = .ok size w := by simp [sizeOf, typeInfo, i1, i3]
    have hb := run_sliceBounds (P := P) f (isSlice := true) (cap := 0) (w := w) hl hh (Nat.le_refl _) (Nat.le_refl _)
    simp only [execOp, Instr.sliceAt, Instr.slice, f.ev hx, Sem.run_bind, run_underlying ht.und, Result.andThen_ok, Option.map_none, hb, hsz, Sem.run_pure, Option.map_some]
    simp
/-- a part of a view -/
theorem eff_sliceV {t e : TypeId} {x : Operand} {lo hi' : Option Operand} {p : Option Addr} {m c l h size bytes : Nat} {z : Value} {xs : List Value} {H : List HProp} (i : Nat) {A : HProp} (hi : H[i]? = some A) (ht : Slc P t e size bytes z) (hx : ev Γ x = some (.slice p m c)) (hV : Vw A (.slice p m c) m xs) (hlen : xs.length = m * size)
    (hl : bnd Γ lo 0 = some l) (hh : bnd Γ hi' m = some h) (h1 : l ≤ h) (h2 : h ≤ m) (h3 : m ≤ c) :
    EFF P n Γ ⟨d, .slice t x lo hi' Option.none, ty, pos, aft, g⟩ (St H) (fun v H' => ∃ p', v = .slice p' (h - l) (c - l) ∧ Vw A (.slice p' (h - l) (c - l)) (h - l) ((xs.drop (l * size)).take ((h - l) * size)) ∧ (p' = none ↔ p = none) ∧ H' = H) := fun a w F K Q f s hK => by
  rcases hV w _ (by rw [St_pick hi, star_assoc] at s; exact s) with ⟨q, h4, h5, h6⟩ | ⟨b, o, cap, h4, h5⟩
  · injection h4 with h4 h7 h8; subst h4; subst h7; subst h8; subst h6
    have : h = 0 := by omega
    subst this
    have : l = 0 := by omega
    subst this
    have h9 : RO P n (St H) Γ ⟨d, .slice t x lo hi' Option.none, ty, pos, aft, g⟩ (.slice p 0 0) := ro_sliceEmpty ht hx hl hh
    exact eff_ro h9 a w F K Q f s fun v' w' H' hp hs' => hK v' w' H' ⟨p, hp.1, by simpa using Vw.empty A p, by simp, hp.2⟩ hs'
  · injection h4 with h4 h7 h8; subst h4; subst h8
    have h9 := ro_slice (P := P) (n := n) (L := St H) (d := d) (ty := ty) (pos := pos) (aft := aft) (g := g) ht hx hl hh h1 (by omega : h ≤ c)
    refine eff_ro h9 a w F K Q f s fun v' w' H' hp hs' => hK v' w' H' ⟨_, hp.1, Vw.resl (vw_rdn hV) h1 h2 h3 hlen, by simp, hp.2⟩ hs'
theorem vw_takeB {L : HProp} {p : Option Addr} {c a b : Nat} {l : List UInt8} (h : Vw L (.slice p (b - a) c) (b - a) (((cel l).drop (a * 1)).take ((b - a) * 1))) (hb : b ≤ l.length) :
    Vw L (.slice p ((l.drop a).take (b - a)).length c) ((l.drop a).take (b - a)).length (cel ((l.drop a).take (b - a))) := by
  have e : ((l.drop a).take (b - a)).length = b - a := by simp; omega
  rw [e]
  have e2 : cel ((l.drop a).take (b - a)) = ((cel l).drop (a * 1)).take ((b - a) * 1) := by simp [cel, List.map_take, List.map_drop]
  rw [e2]; exact h
/-- bytes, a part of a view -/
theorem eff_sliceB {t e : TypeId} {x : Operand} {lo hi' : Option Operand} {p : Option Addr} {c a b : Nat} {l : List UInt8} {z : Value} {H : List HProp} (i : Nat) {A : HProp} (hi : H[i]? = some A) (ht : Slc P t e 1 1 z) (hx : ev Γ x = some (.slice p l.length c)) (hV : Vw A (.slice p l.length c) l.length (cel l))
    (hl : bnd Γ lo 0 = some a) (hh : bnd Γ hi' l.length = some b) (h1 : a ≤ b) (h2 : b ≤ l.length) (h3 : l.length ≤ c) :
    EFF P n Γ ⟨d, .slice t x lo hi' Option.none, ty, pos, aft, g⟩ (St H) (fun v H' => ∃ p', v = .slice p' ((l.drop a).take (b - a)).length (c - a) ∧ Vw A (.slice p' ((l.drop a).take (b - a)).length (c - a)) ((l.drop a).take (b - a)).length (cel ((l.drop a).take (b - a))) ∧ (p' = none ↔ p = none) ∧ H' = H) := fun a' w F K Q f s hK =>
  eff_sliceV i hi ht hx hV (by rw [cel_length, Nat.mul_one]) hl hh h1 h2 h3 a' w F K Q f s fun v' w' H' hp hs' => hK v' w' H' (by
    obtain ⟨p', rfl, hv, hn, rfl⟩ := hp
    refine ⟨p', ?_, vw_takeB hv h2, hn, rfl⟩
    have e : ((l.drop a).take (b - a)).length = b - a := by simp; omega
    rw [e]) hs'
/-- things, a part of a view -/
theorem eff_sliceF {α : Type} {fc : α → List Value} {t e : TypeId} {size bytes : Nat} {x : Operand} {lo hi' : Option Operand} {p : Option Addr} {c a b : Nat} {l : List α} {z : Value} {H : List HProp} (i : Nat) {A : HProp} (hi : H[i]? = some A) (hk : ∀ x, (fc x).length = size) (ht : Slc P t e size bytes z) (hx : ev Γ x = some (.slice p l.length c)) (hV : Vw A (.slice p l.length c) l.length (flat fc l))
    (hl : bnd Γ lo 0 = some a) (hh : bnd Γ hi' l.length = some b) (h1 : a ≤ b) (h2 : b ≤ l.length) (h3 : l.length ≤ c) :
    EFF P n Γ ⟨d, .slice t x lo hi' Option.none, ty, pos, aft, g⟩ (St H) (fun v H' => ∃ p', v = .slice p' ((l.drop a).take (b - a)).length (c - a) ∧ Vw A (.slice p' ((l.drop a).take (b - a)).length (c - a)) ((l.drop a).take (b - a)).length (flat fc ((l.drop a).take (b - a))) ∧ (p' = none ↔ p = none) ∧ H' = H) := fun a' w F K Q f s hK =>
  eff_sliceV i hi ht hx hV (flat_len hk l) hl hh h1 h2 h3 a' w F K Q f s fun v' w' H' hp hs' => hK v' w' H' (by
    obtain ⟨p', rfl, hv, hn, rfl⟩ := hp
    have e : ((l.drop a).take (b - a)).length = b - a := by simp; omega
    refine ⟨p', by rw [e], ?_, hn, rfl⟩
    rw [e, ← flat_take hk, ← flat_drop hk]; exact hv) hs'
theorem row_caps {H : List HProp} (i : Nat) {e : TypeId} {size k c : Nat} {p : Option Addr} {xs : List Value} (hi : H[i]? = some (row e size (.slice p k c) k xs)) {w : World} {F : HProp} (s : sat w (star (St H) F)) : k ≤ c := by
  rcases (row_shape i hi s).2 with ⟨h1, h2, _⟩ | ⟨b, cap, h1, h2, _⟩
  · omega
  · injection h1 with _ _ h3; omega
end
end Go.Sx
namespace Go.Sx
section
variable {P : Program} {n : Nat} {Γ : Env} {d : Option Tmp} {ty : TypeId} {pos : String} {aft : Array Edge} {g : Option (Nat × Bool)}
/-- a byte of a row is set -/
theorem eff_storeB {t : TypeId} {x y : Operand} {b off m cap : Nat} {l : List UInt8} {e : TypeId} {z : Int} {H : List HProp} (i : Nat) (ht : Scal P t) (hx : ev Γ x = some (.pointer (some ⟨b, off, none⟩))) (hy : ev Γ y = some (.int .u8 z)) (h0 : 0 ≤ z) (h1 : z < 256)
    (hi : H[i]? = some (row e 1 (.slice (some ⟨b, 0, none⟩) m cap) m (cel l))) {k : Nat} (hk : off = 0 + k * 1) (ho : k < l.length) :
    EFF P n Γ ⟨d, .store t x y, ty, pos, aft, g⟩ (St H) (fun _ H' => H' = H.set i (row e 1 (.slice (some ⟨b, 0, none⟩) m cap) m (cel (l.set k (UInt8.ofNat z.toNat))))) := fun a w F K Q f s hK =>
  eff_storeRow i ht hx hy rfl hi (by rw [cel_length, hk]; omega) a w F K Q f s fun v w' H' hp hs => hK v w' H' (by
    rw [hp, cel, cel, List.map_set, hk, Nat.zero_add, Nat.mul_one]
    congr 4
    simp only [byteV, UInt8.toNat_ofNat']
    congr 1
    omega) hs
/-- a cell of a thing in a row is set -/
theorem eff_storeF {α : Type} {fc : α → List Value} {t : TypeId} {x y : Operand} {b off m cap size : Nat} {l : List α} {e : TypeId} {v : Value} {H : List HProp} (i : Nat) (hw : ∀ x, (fc x).length = size) (ht : Scal P t) (hx : ev Γ x = some (.pointer (some ⟨b, off, none⟩))) (hy : ev Γ y = some v) (h1 : v.oneCell' = true)
    (hi : H[i]? = some (row e size (.slice (some ⟨b, 0, none⟩) m cap) m (flat fc l))) {k j : Nat} {q : α} (q' : α) (hk : l[k]? = some q) (hoff : off = k * size + j) (hj : j < size) (hq : fc q' = (fc q).set j v) :
    EFF P n Γ ⟨d, .store t x y, ty, pos, aft, g⟩ (St H) (fun _ H' => H' = H.set i (row e size (.slice (some ⟨b, 0, none⟩) m cap) m (flat fc (l.set k q')))) := fun a w F K Q f s hK =>
  eff_storeRow i ht hx hy h1 hi (by
    rw [flat_len hw, hoff]
    have h2 := (List.getElem?_eq_some_iff.1 hk).1
    have h3 := Nat.mul_le_mul_right size (show k + 1 ≤ l.length from h2)
    rw [Nat.succ_mul] at h3; omega) a w F K Q f s fun u w' H' hp hs => hK u w' H' (by rw [hp, hoff, flat_set hw hk hj hq]) hs
/-- a thing in a row is set -/
theorem eff_storeAF {α : Type} {fc : α → List Value} {t : TypeId} {x y : Operand} {b off m cap size : Nat} {l : List α} {e : TypeId} {H : List HProp} (i : Nat) (hw : ∀ x, (fc x).length = size) (h1 : ∀ x, ∀ v ∈ fc x, v.oneCell' = true) (ht : Aggr P t size) (hx : ev Γ x = some (.pointer (some ⟨b, off, none⟩))) {q : α} (hy : ev Γ y = some (.agg (fc q).toArray))
    (hi : H[i]? = some (row e size (.slice (some ⟨b, 0, none⟩) m cap) m (flat fc l))) {k : Nat} (hk : k < l.length) (hoff : off = k * size) :
    EFF P n Γ ⟨d, .store t x y, ty, pos, aft, g⟩ (St H) (fun _ H' => H' = H.set i (row e size (.slice (some ⟨b, 0, none⟩) m cap) m (flat fc (l.set k q)))) := eff_skip fun a w F f s => by
  rw [St_pick hi, star_assoc] at s
  obtain ⟨hl, h⟩ := sat_row s
  rcases h with ⟨h0, _⟩ | ⟨b', cap', cs, fr, h0, hle, hcp, hcs, htk, hwm, s'⟩
  · cases h0
  · injection h0 with h0 _ h2; injection h0 with h0; injection h0 with h0; subst h0; subst h2
    have hb := sat_own (sat_star_left s')
    have hlm : (flat fc l).length = l.length * size := flat_len hw l
    have h3 := Nat.mul_le_mul_right size (show k + 1 ≤ l.length from hk)
    rw [Nat.succ_mul] at h3
    have hcl : (flat fc l).length ≤ cs.length := by rw [← htk, List.length_take]; omega
    have ho' : off + (fc q).length ≤ cs.length := by rw [hoff, hw]; omega
    obtain ⟨w', hr, hb', hk', hx', hsz⟩ := run_storeCells_own (P := P) (fc q) 0 off cs w hb hwm (by simpa using ho') (h1 q)
    refine ⟨w', _, ?_, rfl, ?_⟩
    · simp [execOp, f.ev hx, f.ev hy, Instr.storeAt, Instr.sureAddr, storeVar, ht.size, Value.cells, hw, hr]
    · rw [St_set hi, star_assoc]
      refine row_mk (cs := over cs off (fc q)) (fr := fr) hle hcp (by rw [over_length ho']; exact hcs) ?_ (fun j hj => hwm j (by rwa [over_length ho'] at hj)) (sat_set (w := w) hx' s' hb' hk')
      have hm2 : m * size = l.length * size := by rw [← hl, hlm]
      rw [← flat_over hw q hk, ← htk, hoff]
      simp only [over, hw]
      have e1 : (cs.take (k * size)).length = k * size := by rw [List.length_take]; omega
      have e2 : ((cs.take (m * size)).take (k * size)) = cs.take (k * size) := by rw [List.take_take]; congr 1; omega
      rw [e2]
      have e3 : (cs.take (k * size) ++ fc q).length = k * size + size := by rw [List.length_append, e1, hw]
      have e4 : m * size = (cs.take (k * size) ++ fc q).length + (m * size - (k * size + size)) := by rw [e3]; omega
      rw [e4, List.take_length_add_append, ← e4, List.drop_take]
end
end Go.Sx
namespace Go.Sx
section
variable {P : Program} {n : Nat} {L : HProp} {Γ : Env} {d : Option Tmp} {ty : TypeId} {pos : String} {aft : Array Edge} {g : Option (Nat × Bool)}
theorem ro_max {x y : Operand} {t t' : TypeId} {k k' : IntKind} {a b c : Int} (hx : ev Γ x = some (.int k a)) (hy : ev Γ y = some (.int k' b)) (hz : (if b > a then b else a) = c) :
    RO P n L Γ ⟨d, .call { callee := .builtin .max, args := #[x, y], argTypes := #[t, t'] }, ty, pos, aft, g⟩ (.int k c) := fun e w R f s => by
  subst hz
  simp [execOp, f.ev hx, f.ev hy, resolve, invoke, builtin, run_max_int2]
theorem ro_min {x y : Operand} {t t' : TypeId} {k k' : IntKind} {a b c : Int} (hx : ev Γ x = some (.int k a)) (hy : ev Γ y = some (.int k' b)) (hz : (if b < a then b else a) = c) :
    RO P n L Γ ⟨d, .call { callee := .builtin .min, args := #[x, y], argTypes := #[t, t'] }, ty, pos, aft, g⟩ (.int k c) := fun e w R f s => by
  subst hz
  simp [execOp, f.ev hx, f.ev hy, resolve, invoke, builtin, Builtin.min_, Builtin.min2]
end
end Go.Sx
namespace Go.Sx
section
variable {P : Program} {n : Nat} {L : HProp} {Γ : Env} {d : Option Tmp} {ty : TypeId} {pos : String} {aft : Array Edge} {g : Option (Nat × Bool)}
/-- an element of an array that is a value -/
theorem ro_indexF {α : Type} {f : α → List Value} {k : Nat} {t e : TypeId} {m : Nat} {x ix : Operand} {kk : IntKind} {ii : Int} {i : Nat} {l : List α} {y : α} (hw : ∀ x, (f x).length = k) (ht : P.underlying t = some (.array m e)) (he : Aggr P e k)
    (hx : ev Γ x = some (.agg (flat f l).toArray)) (hi : ev Γ ix = some (.int kk ii)) (hj : ii = (i : Int)) (hlt : i < m) (hl : l[i]? = some y) : RO P n L Γ ⟨d, .index t x ix, ty, pos, aft, g⟩ (.agg (f y).toArray) := fun a w R fi s => by
  subst hj
  have h1 : ((flat f l).drop (i * k)).take k = f y := by
    obtain ⟨h2, h3⟩ := List.getElem?_eq_some_iff.1 hl
    rw [flat_drop hw]
    have h4 : l.drop i = y :: l.drop (i + 1) := by rw [← h3]; exact List.drop_eq_getElem_cons h2
    rw [h4, flat_cons, ← hw y, List.take_left]
  simp [execOp, fi.ev hx, fi.ev hi, Instr.index, asIntOf, run_underlying ht, hlt, he.size, part, he.agg, h1]
theorem ro_indexC {t e : TypeId} {m : Nat} {x ix : Operand} {kk : IntKind} {ii : Int} {i : Nat} {cs : List Value} {v : Value} (ht : P.underlying t = some (.array m e)) (he : Scal P e)
    (hx : ev Γ x = some (.agg cs.toArray)) (hi : ev Γ ix = some (.int kk ii)) (hj : ii = (i : Int)) (hlt : i < m) (hl : cs[i]? = some v) : RO P n L Γ ⟨d, .index t x ix, ty, pos, aft, g⟩ v := fun a w R fi s => by
  subst hj
  simp [execOp, fi.ev hx, fi.ev hi, Instr.index, asIntOf, run_underlying ht, hlt, he.size, part, he.agg, hl]
end
end Go.Sx
namespace Go.Sx
/-- what 'string(v)' of a view is -/
theorem vw_toStr {P : Program} {L : HProp} {t t' e : TypeId} {v : Value} {m : Nat} {l : List UInt8} (hs : P.underlying t = some (.slice e)) (he : P.underlying e = some (.int .u8)) (ht : P.underlying t' = some .string) (h : Vw L v m (cel l)) (hm : l.length = m) (w : World) (R : HProp) (s : sat w (star L R)) :
    (convert t t' v).run P w = .ok (.string (str l)) w := by
  have f : Fits 1 [(0, v)] { tmps := #[v], defers := [] } := ⟨rfl, rfl, fun i u hu => by
    simp only [get] at hu
    by_cases e : 0 = i
    · subst e; simp at hu; subst hu; rfl
    · rw [beq_ne e] at hu; cases hu⟩
  have h1 := ro_toStr (P := P) (n := 1) (Γ := [(0, v)]) (d := none) (ty := 0) (pos := "") (aft := #[]) (g := none) (x := .tmp 0) hs he ht rfl h hm { tmps := #[v], defers := [] } w R f s
  simp only [execOp, Act.eval, Sem.run_bind] at h1
  have e0 : ((#[v] : Array Value).getD 0 undef) = v := rfl
  rw [e0] at h1
  cases h2 : (convert t t' v).run P w with
  | ok u w2 =>
    rw [h2] at h1
    simp only [Result.andThen_ok, Sem.run_pure] at h1
    injection h1 with h3 h4
    injection h3 with h3
    rw [h3, h4]
  | _ => rw [h2] at h1; cases h1
end Go.Sx
namespace Go.Sx
theorem eff_toBytesS {P : Program} {n : Nat} {Γ : Env} {d : Option Tmp} {ty : TypeId} {pos : String} {aft : Array Edge} {g : Option (Nat × Bool)} {t t' e : TypeId} {x : Operand} {l : List UInt8} {H : List HProp} (hs : P.underlying t = some .string) (ht : P.underlying t' = some (.slice e)) (he : P.underlying e = some (.int .u8)) (hx : ev Γ x = some (.string (str l))) (hm : l.length ≤ maxLen) :
    EFF P n Γ ⟨d, .convert t t' x, ty, pos, aft, g⟩ (St H) (fun v H' => ∃ b c, v = .slice (some ⟨b, 0, none⟩) l.length c ∧ H' = row e 1 (.slice (some ⟨b, 0, none⟩) l.length c) l.length (cel l) :: H) := by
  have h := eff_toBytes (P := P) (n := n) (Γ := Γ) (d := d) (ty := ty) (pos := pos) (aft := aft) (g := g) (H := H) hs ht he hx (by rw [str_size]; exact hm)
  rw [str_size] at h
  exact h
end Go.Sx
namespace Go.Sx
/-- what is only read may be locked, and be at hand too -/
theorem any_dup {P : Program} {n m : Nat} {ops : Array Oper} {L H : List HProp} {Γ : Env} {Q : Post} {fuel : Nat} {listed : Array Bool} (i : Nat) {V : HProp} (hd : star V V = V) (hi : H[i]? = some V) (h : Any P n ops m (V :: L) fuel listed Γ H Q) : Any P n ops m L fuel listed Γ H Q := fun a w F f s =>
  wpAnyG_mono (fun w ⟨R, hs⟩ => ⟨star V R, by rw [St_cons, star_comm V, star_assoc] at hs; exact hs⟩) fuel listed a w
    (h a w F f (by
      rw [St_pick hi, ← hd] at s
      rw [St_cons, star_assoc, St_pick hi]
      simp only [star_assoc] at s ⊢
      rw [star_left_comm] at s
      exact s))
end Go.Sx
namespace Go.Sx
/-- a literal's row, converted to its own type (a constant text as bytes) -/
theorem eff_mark {P : Program} {n : Nat} {Γ : Env} {d : Option Tmp} {ty : TypeId} {pos : String} {aft : Array Edge} {g : Option (Nat × Bool)} {t e : TypeId} {x : Operand} {b k : Nat} {cs : List Value} {H : List HProp} (i : Nat) (ht : P.underlying t = some (.slice e)) (he : P.underlying e = some (.int .u8))
    (hx : ev Γ x = some (.slice (some ⟨b, 0, none⟩) k k)) (hi : H[i]? = some (own b (.cells cs.toArray e (0, 0)))) (hl : cs.length = k) (hk : k ≤ 16777216) :
    EFF P n Γ ⟨d, .convert t t x, ty, pos, aft, g⟩ (St H) (fun v H' => v = .slice (some ⟨b, 0, none⟩) k k ∧ H' = H.set i (row e 1 (.slice (some ⟨b, 0, none⟩) k k) k cs)) := eff_value fun a w F f s => by
  rw [perm_front hi] at s
  have hb := sat_own (sat_star_left s)
  subst hl
  have hsh : w.shape? b = some (e, cs.length) := by simp only [World.shape?, hb]; rw [List.size_toArray]
  refine ⟨_, w.freeze ⟨b, cs.length, none⟩ 1, _, ?_, ⟨rfl, rfl⟩, ?_⟩
  · simp [execOp, f.ev hx, convert, run_underlying ht, run_underlying he, markStringish, hsh]
  · rw [St_set hi, star_assoc]
    refine row_mk (cs := cs) (fr := (cs.length, cs.length + 1)) (Nat.le_refl _) (by simp only [maxLen]; omega) (by rw [Nat.mul_one]) (by rw [Nat.mul_one]; exact List.take_length) (fun j hj hh => by simp only at hh; omega) (sat_set (w := w) rfl s ?_ ?_)
    · simp only [World.freeze, Nat.one_ne_zero, if_false, Array.getElem?_modify, if_true, hb, Option.map_some]; rfl
    · intro k hk; simp only [World.freeze, Nat.one_ne_zero, if_false, Array.getElem?_modify, if_neg (Ne.symm hk)]
end Go.Sx
namespace Go.Sx
/-- a call of a function value -/
theorem eff_callV {P : Program} {n : Nat} {Γ : Env} {o : Oper} {H Pre Rest : List HProp} {Ψ : Value → List HProp → Prop} {f : FuncId} {xs : List Operand} {x : Operand} {tys : Array TypeId} {vs c0 c1 : List Value}
    (hc : ∀ args w, (callFunc f args).run P w = .ok (.enter f args) w)
    (hop : o.op = .call { callee := .value x, args := xs.toArray, argTypes := tys }) (hx : ev Γ x = some (.func (.func f) c0.toArray c1.toArray)) (hv : evs Γ xs = some vs)
    (hs : Split H Pre Rest) (ht : Tri P f (c0 ++ vs ++ c1) Pre Ψ) : EFF P n Γ o (St H) (fun v H' => ∃ L, Ψ v L ∧ H' = L ++ Rest) := fun a w F K Q f' s hK => by
  have hm := f'.evs hv
  have he := f'.ev hx
  unfold Oper.wp
  simp only [execOp, hop, resolve, he, Deferred.ofValue, invoke, Sem.run_bind, Sem.run_pure, Result.andThen_ok, hc, Oper.upon, List.map_toArray, hm]
  have e : c0.toArray ++ vs.toArray ++ c1.toArray = (c0 ++ vs ++ c1).toArray := by simp
  rw [e]
  refine (tri_frame hs ht w F s).mono ?_
  rintro e w' ⟨v, H', rfl, hp, s'⟩
  exact hK v w' H' hp s'
theorem eff_callVM {P : Program} {n : Nat} {Γ : Env} {o : Oper} {H Pre Rest : List HProp} {Φ : Value → List HProp → Prop} {f : FuncId} {xs : List Operand} {x : Operand} {tys : Array TypeId} {vs c0 c1 : List Value}
    (hc : ∀ args w, (callFunc f args).run P w = .ok (.enter f args) w)
    (hop : o.op = .call { callee := .value x, args := xs.toArray, argTypes := tys }) (hx : ev Γ x = some (.func (.func f) c0.toArray c1.toArray)) (hv : evs Γ xs = some vs)
    (hs : Split H Pre Rest) (ht : Tri P f (c0 ++ vs ++ c1) (Pre ++ [St Rest]) (fun v H' => ∃ K, Φ v K ∧ H' = K ++ [St Rest])) : EFF P n Γ o (St H) (fun v H' => ∃ K, Φ v K ∧ H' = K ++ Rest) := by
  have h2 : Split H (Pre ++ [St Rest]) [] := by
    unfold Split at *
    rw [hs, St_append, St_cons, St_nil, star_emp, star_emp]
  have h3 := eff_callV (n := n) hc hop hx hv h2 ht
  intro a w F K Q f' s hK
  refine h3 a w F K Q f' s fun v w' H' hp hs' => ?_
  obtain ⟨L, ⟨K', hΦ, rfl⟩, rfl⟩ := hp
  refine hK v w' (K' ++ Rest) ⟨K', hΦ, rfl⟩ ?_
  simp only [St_append, St_cons, St_nil, star_emp] at hs' ⊢
  exact hs'
/-! ### lists of texts -/
def Tx.cs (x : List UInt8) : List Value := [.string (str x)]
theorem Tx.len (x : List UInt8) : (Tx.cs x).length = 1 := rfl
theorem Tx.one (x : List UInt8) : ∀ v ∈ Tx.cs x, v.oneCell' = true := fun v hv => by rw [List.mem_singleton.1 hv]; rfl
abbrev txs (l : List (List UInt8)) : List Value := flat Tx.cs l
theorem txs_map (l : List (List UInt8)) : txs l = l.map fun x => Value.string (str x) := by
  induction l with
  | nil => rfl
  | cons x r ih => rw [txs, flat_cons]; show _ :: flat Tx.cs r = _; rw [show flat Tx.cs r = txs r from rfl, ih]; rfl
theorem row_ptr' {H : List HProp} (i : Nat) {e : TypeId} {size k c : Nat} {p : Option Addr} {xs : List Value} (hi : H[i]? = some (row e size (.slice p k c) k xs)) {w : World} {F : HProp} (s : sat w (star (St H) F)) (h0 : k ≠ 0) : ∃ b, p = some ⟨b, 0, none⟩ := by
  rcases (row_shape i hi s).2 with ⟨_, h2, _⟩ | ⟨b, cap, h1, _⟩
  · exact absurd h2 h0
  · injection h1 with h1 _ _; exact ⟨b, h1⟩
end Go.Sx
