/-
  A row is cut short.
  A text cut at a byte: its parts; strings.Split's pieces are these; joined again they are the text.
  Paths: what Split, Join, Clean tell; plain laws.
-/
import Derived.Test.YtlefpllcgcicpaaGreatDoorSxSub
import Derived.Lib.SplitLaws
set_option linter.unusedVariables false
set_option linter.unusedSimpArgs false
namespace Go.Sx
theorem row_trunc {e : TypeId} {size k b c : Nat} {p : Option Addr} {xs : List Value} {w : World} {R : HProp} (hb : b ≤ k) (s : sat w (star (row e size (.slice p k c) k xs) R)) : sat w (star (row e size (.slice p b c) b (xs.take (b * size))) R) := by
 obtain ⟨hl, h⟩ := sat_row s
 rcases h with ⟨h0, hk, hx, s'⟩ | ⟨b', cap, cs, fr, h0, hle, hcp, hcs, htk, hw, s'⟩
 ·injection h0 with h1 h2 h3; subst h1; subst h3
  obtain rfl : b = 0 := by omega
  rw [Nat.zero_mul, List.take_zero]; exact row_nil s'
 ·injection h0 with h1 _ h3; subst h1; subst h3
  refine row_mk (cs := cs) (fr := fr) (by omega) hcp hcs ?_ hw s'; rw [← htk, List.take_take, Nat.min_eq_left (Nat.mul_le_mul_right _ hb)]
section
variable {P : Program} {n : Nat} {Γ : Env} {d : Option Tmp} {ty : TypeId} {pos : String} {aft : Array Edge} {g : Option (Nat × Bool)}
theorem eff_trunc {t e : TypeId} {size bytes k b c : Nat} {z : Value} {x : Operand} {hi' : Option Operand} {p : Option Addr} {xs : List Value} {H : List HProp} (i : Nat) (ht : Slc P t e size bytes z) (hx : ev Γ x = some (.slice p k c))
 (hi : H[i]? = some (row e size (.slice p k c) k xs)) (hh : bnd Γ hi' k = some b) (hb : b ≤ k) :
 EFF P n Γ ⟨d, .slice t x Option.none hi' Option.none, ty, pos, aft, g⟩ (St H) (fun v H' => v = .slice p b c ∧ H' = H.set i (row e size (.slice p b c) b (xs.take (b * size)))) := fun a w F K Q f s hK => by
 have sh := s
 rw [yU hi] at sh
 have fin : ∀ {w' : World}, sat w' (star (St H) F) → sat w' (star (St (H.set i (row e size (.slice p b c) b (xs.take (b * size))))) F) := fun {w'} h => by
  rw [yU hi] at h; rw [St_set hi, zv]; exact row_trunc hb h
 obtain ⟨hl, h⟩ := sat_row sh
 rcases h with ⟨h0, hk, hx0, s'⟩ | ⟨b', cap, cs, fr, h0, hle, hcp, hcs, htk, hw, s'⟩
 ·injection h0 with h1 h2 h3; subst h1; subst h3; subst hk
  obtain rfl : b = 0 := by omega
  exact xG (ro_sliceNil (P := P) (n := n) (L := St H) (d := d) (ty := ty) (pos := pos) (aft := aft) (g := g) ht hx rfl hh) a w F K Q f s fun v w' H' hp hs' => hK v w' _ ⟨hp.1, rfl⟩ (fin (by rw [hp.2] at hs'; exact hs'))
 ·injection h0 with h1 _ h3; subst h1; subst h3
  refine xG (yf (P := P) (n := n) (L := St H) (d := d) (ty := ty) (pos := pos) (aft := aft) (g := g) ht hx rfl hh (Nat.zero_le _) (by omega)) a w F K Q f s fun v w' H' hp hs' => hK v w' _ ⟨?_, rfl⟩ (fin (by rw [hp.2] at hs'; exact hs'))
  rw [hp.1]; unfold resl
  simp
end
def parts (c : UInt8) : List UInt8 → List (List UInt8)
 | [] => [[]]
 | x :: l => if x = c then [] :: parts c l else match parts c l with
  | h :: t => (x :: h) :: t
  | [] => [[x]]
theorem parts_ne (c : UInt8) : ∀ l, parts c l ≠ []
 | [] => by simp [parts]
 | x :: l => by
  unfold parts; split
  ·simp
  ·split <;> simp
theorem parts_hit (c : UInt8) (l : List UInt8) : parts c (c :: l) = [] :: parts c l := by rw [parts, if_pos rfl]
/-- x ahead of the first part -/
def pre (x : List UInt8) : List (List UInt8) → List (List UInt8)
 | h :: t => (x ++ h) :: t
 | [] => [x]
theorem parts_cons {c x : UInt8} (h : x ≠ c) (l : List UInt8) : parts c (x :: l) = pre [x] (parts c l) := by
 rw [parts, if_neg h]; cases parts c l <;> rfl
theorem pre_nil {l : List (List UInt8)} (h : l ≠ []) : pre [] l = l := by cases l with
 | nil => exact absurd rfl h
 | cons a t => rfl
theorem pre_pre (x y : List UInt8) (l : List (List UInt8)) : pre x (pre y l) = pre (x ++ y) l := by
 cases l <;> simp [pre]
theorem parts_length (c : UInt8) : ∀ l, (parts c l).length = l.count c + 1
 | [] => rfl
 | x :: l => by
  by_cases h : x = c
  ·subst h; rw [parts_hit, List.length_cons, parts_length, List.count_cons_self]
  ·rw [parts_cons h, List.count_cons_of_ne (by simpa using h), ← parts_length c l]
   cases hp : parts c l with
   | nil => exact absurd hp (parts_ne c l)
   | cons a t => rfl
theorem parts_length_le (c : UInt8) (l : List UInt8) : (parts c l).length ≤ l.length + 1 := by
 rw [parts_length]; have := List.count_le_length (a := c) (l := l); omega
theorem parts_mem (c : UInt8) : ∀ (l x : List UInt8), x ∈ parts c l → x.length ≤ l.length ∧ (∀ b ∈ x, b ≠ c) ∧ ∀ b ∈ x, b ∈ l
 | [], x, h => by
  simp only [parts, List.mem_singleton] at h; subst h; exact ⟨Nat.le_refl _, (fun b hb => by cases hb), fun b hb => by cases hb⟩
 | y :: l, x, h => by
  by_cases e : y = c
  ·subst e; rw [parts_hit] at h
   rcases List.mem_cons.1 h with rfl | h
   ·exact ⟨Nat.zero_le _, (fun b hb => by cases hb), fun b hb => by cases hb⟩
   ·have h2 := parts_mem y l x h
    exact ⟨by rw [List.length_cons]; omega, h2.2.1, fun b hb => List.mem_cons_of_mem _ (h2.2.2 b hb)⟩
  ·rw [parts_cons e] at h
   cases hp : parts c l with
   | nil => exact absurd hp (parts_ne c l)
   | cons a t =>
    rw [hp] at h; simp only [pre, List.singleton_append, List.mem_cons] at h
    rcases h with rfl | h
    ·have h2 := parts_mem c l a (by rw [hp]; exact List.mem_cons_self)
     refine ⟨by simp only [List.length_cons]; omega, fun b hb => ?_, fun b hb => ?_⟩
     ·rcases List.mem_cons.1 hb with rfl | hb
      ·exact e
      ·exact h2.2.1 b hb
     ·rcases List.mem_cons.1 hb with rfl | hb
      ·exact List.mem_cons_self
      ·exact List.mem_cons_of_mem _ (h2.2.2 b hb)
    ·have h2 := parts_mem c l x (by rw [hp]; exact List.mem_cons_of_mem _ h)
     exact ⟨by rw [List.length_cons]; omega, h2.2.1, fun b hb => List.mem_cons_of_mem _ (h2.2.2 b hb)⟩
/-- texts with a byte between -/
def joinc (c : UInt8) : List (List UInt8) → List UInt8
 | [] => []
 | [x] => x
 | x :: y :: t => x ++ c :: joinc c (y :: t)
theorem joinc_cons (c : UInt8) (x : List UInt8) {t : List (List UInt8)} (h : t ≠ []) : joinc c (x :: t) = x ++ c :: joinc c t := by
 cases t with
 | nil => exact absurd rfl h
 | cons y t => rfl
open Go.Lib in
theorem splitK_parts (c : UInt8) : ∀ s : List UInt8, splitK [c] 0 (count s [c]) s = parts c s
 | [] => by rw [count_miss (by simp [index])]; rfl
 | b :: l => by
  have ih := splitK_parts c l
  by_cases h : b = c
  ·subst h; have hix : index (b :: l) [b] = ((0 : Nat) : Int) := by rw [index]; simp [List.isPrefixOf]
   rw [count_cons_eq, Nat.add_comm, splitK, if_neg (by rw [hix]; decide), hix, parts_hit, ← ih]; simp
  ·have hp : ([c] : List UInt8).isPrefixOf (b :: l) = false := by simp [List.isPrefixOf, Ne.symm h]
   have hix : index (b :: l) [c] = if index l [c] == -1 then -1 else index l [c] + 1 := by rw [index, hp]; simp
   rw [count_cons_ne b c l h, parts_cons h, ← ih]
   cases hk : count l [c] with
   | zero => simp [splitK, pre]
   | succ k =>
    by_cases hm : index l [c] = -1
    ·rw [count_miss hm] at hk; cases hk
    ·have hge := index_ge l [c]
     obtain ⟨j, hj⟩ : ∃ j : Nat, index l [c] = j := ⟨(index l [c]).toNat, by omega⟩
     have hix' : index (b :: l) [c] = ((j + 1 : Nat) : Int) := by rw [hix, if_neg (fun e => hm (beq_iff_eq.1 e)), hj]; omega
     have n1 : ¬ (index (b :: l) [c] == -1) = true := fun e => by have := beq_iff_eq.1 e; omega
     have n2 : ¬ (index l [c] == -1) = true := fun e => hm (beq_iff_eq.1 e)
     have t1 : (index (b :: l) [c]).toNat = j + 1 := by omega
     have t2 : (index l [c]).toNat = j := by omega
     rw [splitK, if_neg n1, splitK, if_neg n2, t1, t2]; simp [pre]
theorem splitB_parts (c : UInt8) (s : List UInt8) : (Lib.splitB (str [c]) 0 (Lib.countB (str s) (str [c])) (str s)).map Value.string = (parts c s).map fun x => Value.string (str x) := by
 have h := Lib.splitB_data (str [c]) 0 (Lib.countB (str s) (str [c])) (str s)
 have e : Lib.countB (str s) (str [c]) = Lib.count s [c] := rfl
 have e2 : Lib.splitK (str [c]).data.toList 0 (Lib.countB (str s) (str [c])) (str s).data.toList = parts c s := by rw [e]; exact splitK_parts c s
 rw [e2] at h; rw [← h, List.map_map]
 apply List.map_congr_left
 intro x _; simp only [Function.comp]; rw [str_data]
theorem countB_parts (c : UInt8) (s : List UInt8) : Lib.countB (str s) (str [c]) + 1 = (parts c s).length := by
 have e : Lib.countB (str s) (str [c]) = Lib.count s [c] := rfl
 rw [e, Lib.count_one, parts_length]
abbrev Tt := List UInt8
def ptB (b : UInt8) : Bool := decide (b.toNat ≠ 0) && decide (b.toNat ≠ 47)
/-- may it be a name? -/
def ptOk (s : Tt) : Bool := s.all ptB && decide (1 ≤ s.length) && decide (s.length ≤ 30) && decide (s ≠ [46]) && decide (s ≠ [46, 46])
def pStep : Option (List Tt) → Tt → Option (List Tt)
 | none, _ => none
 | some out, x => if x = [] ∨ x = [46] then some out else if x = [46, 46] then some out.dropLast else if ptOk x = true then some (out ++ [x]) else none
def pRun (acc : Option (List Tt)) (l : List Tt) : Option (List Tt) := l.foldl pStep acc
def pSplit (s : Tt) : List Tt × Int := if 200 < s.length then ([], 3) else match pRun (some []) (parts 47 s) with
 | none => ([], 20)
 | some l => (l, 0)
def pJoin (l : List Tt) : Tt := if l = [] then [47] else 47 :: joinc 47 l
def pClean (s : Tt) : Tt × Int := if (pSplit s).2 ≠ 0 then ([], (pSplit s).2) else (pJoin (pSplit s).1, 0)
theorem pStep_some (out : List Tt) (x : Tt) : pStep (some out) x = if x = [] ∨ x = [46] then some out else if x = [46, 46] then some out.dropLast else if ptOk x = true then some (out ++ [x]) else none := rfl
theorem pRun_none (l : List Tt) : pRun none l = none := by
 induction l with
 | nil => rfl
 | cons x r ih => exact ih
theorem pRun_cons (a : Option (List Tt)) (x : Tt) (r : List Tt) : pRun a (x :: r) = pRun (pStep a x) r := rfl
theorem pRun_append (a : Option (List Tt)) (l m : List Tt) : pRun a (l ++ m) = pRun (pRun a l) m := List.foldl_append
theorem pStep_dot {o : List Tt} {x : Tt} (h : x = [] ∨ x = [46]) : pStep (some o) x = some o := by rw [pStep_some, if_pos h]
theorem pStep_up (o : List Tt) : pStep (some o) [46, 46] = some o.dropLast := by rw [pStep_some, if_neg (by simp), if_pos rfl]
theorem ptOk_ne {x : Tt} (h : ptOk x = true) : ¬ (x = [] ∨ x = [46]) ∧ x ≠ [46, 46] := by
 unfold ptOk at h; simp only [Bool.and_eq_true, decide_eq_true_eq] at h; refine ⟨?_, h.2⟩; rintro (rfl | rfl)
 ·simp at h
 ·exact h.1.2 rfl
theorem pStep_ok (o : List Tt) {x : Tt} (h : ptOk x = true) : pStep (some o) x = some (o ++ [x]) := by
 rw [pStep_some, if_neg (ptOk_ne h).1, if_neg (ptOk_ne h).2, if_pos h]
theorem pStep_bad (o : List Tt) {x : Tt} (h1 : ¬ (x = [] ∨ x = [46])) (h2 : x ≠ [46, 46]) (h : ptOk x = false) : pStep (some o) x = none := by
 rw [pStep_some, if_neg h1, if_neg h2, if_neg (by rw [h]; decide)]
/-- only right names come out -/
theorem pRun_all : ∀ (l : List Tt) (o o' : List Tt), (∀ x ∈ o, ptOk x = true) → pRun (some o) l = some o' → ∀ x ∈ o', ptOk x = true
 | [], o, o', ho, h => by injection h with h; subst h; exact ho
 | y :: r, o, o', ho, h => by
  rw [pRun_cons] at h; rw [pStep_some] at h
  split at h
  ·exact pRun_all r o o' ho h
  ·split at h
   ·exact pRun_all r _ o' (fun x hx => ho x (List.dropLast_subset _ hx)) h
   ·split at h
    ·rename_i hk
     refine pRun_all r _ o' (fun x hx => ?_) h
     rcases List.mem_append.1 hx with hx | hx
     ·exact ho x hx
     ·rw [List.mem_singleton.1 hx]; exact hk
    ·rw [pRun_none] at h; cases h
/-- how long what comes out is -/
def ptLen (l : List Tt) : Nat := (l.map fun x => x.length + 1).sum
theorem ptLen_append (l m : List Tt) : ptLen (l ++ m) = ptLen l + ptLen m := by simp [ptLen]
theorem ptLen_dropLast (l : List Tt) : ptLen l.dropLast ≤ ptLen l := by
 by_cases h : l = []
 ·subst h; simp
 ·have e := congrArg ptLen (List.dropLast_concat_getLast h)
  rw [ptLen_append] at e; omega
theorem pRun_len : ∀ (l : List Tt) (o o' : List Tt), pRun (some o) l = some o' → ptLen o' ≤ ptLen o + ptLen l ∧ o'.length ≤ o.length + l.length
 | [], o, o', h => by injection h with h; subst h; exact ⟨by omega, by simp⟩
 | y :: r, o, o', h => by
  rw [pRun_cons] at h; have e : ptLen (y :: r) = (y.length + 1) + ptLen r := by simp [ptLen]
  rw [pStep_some] at h
  split at h
  ·have := pRun_len r o o' h; rw [e, List.length_cons]; omega
  ·split at h
   ·have := pRun_len r _ o' h
    have h1 := ptLen_dropLast o
    have h2 : o.dropLast.length ≤ o.length := by simp
    rw [e, List.length_cons]; omega
   ·split at h
    ·have := pRun_len r _ o' h
     rw [ptLen_append, List.length_append] at this; have e2 : ptLen [y] = y.length + 1 := by simp [ptLen]
     rw [e, List.length_cons]; simp only [List.length_cons, List.length_nil] at this; omega
    ·rw [pRun_none] at h; cases h
theorem pSplit_of {s : Tt} (h : s.length ≤ 200) : pSplit s = match pRun (some []) (parts 47 s) with | none => ([], 20) | some l => (l, 0) := by
 unfold pSplit; rw [if_neg (by omega)]
theorem pSplit_some {s : Tt} {l : List Tt} (h : s.length ≤ 200) (e : pRun (some []) (parts 47 s) = some l) : pSplit s = (l, 0) := by rw [pSplit_of h, e]
theorem pSplit_none {s : Tt} (h : s.length ≤ 200) (e : pRun (some []) (parts 47 s) = none) : pSplit s = ([], 20) := by rw [pSplit_of h, e]
end Go.Sx
