/-
  A text cut at a byte: its parts; strings.Split's pieces are these; joined again they are the text.
-/
import Derived.Test.YtbbmhppkhcodfaaSxStr
import Derived.Lib.SplitLaws
namespace Go.Sx
set_option linter.unusedVariables false
set_option linter.unusedSimpArgs false
def parts (c : UInt8) : List UInt8 → List (List UInt8)
  | [] => [[]]
  | x :: l => if x = c then [] :: parts c l else match parts c l with
    | h :: t => (x :: h) :: t
    | [] => [[x]]
theorem parts_ne (c : UInt8) : ∀ l, parts c l ≠ []
  | [] => by simp [parts]
  | x :: l => by
    unfold parts; split
    · simp
    · split <;> simp
theorem parts_hit (c : UInt8) (l : List UInt8) : parts c (c :: l) = [] :: parts c l := by rw [parts, if_pos rfl]
/-- x ahead of the first part -/
def pre (x : List UInt8) : List (List UInt8) → List (List UInt8)
  | h :: t => (x ++ h) :: t
  | [] => [x]
theorem parts_cons {c x : UInt8} (h : x ≠ c) (l : List UInt8) : parts c (x :: l) = pre [x] (parts c l) := by
  rw [parts, if_neg h]; cases parts c l <;> rfl
theorem pre_nil {l : List (List UInt8)} (h : l ≠ []) : pre [] l = l := by cases l with
  | nil => exact absurd rfl h
  | cons a t => rfl
theorem pre_pre (x y : List UInt8) (l : List (List UInt8)) : pre x (pre y l) = pre (x ++ y) l := by
  cases l <;> simp [pre]
theorem parts_pre {c : UInt8} : ∀ (x l : List UInt8), (∀ b ∈ x, b ≠ c) → parts c (x ++ l) = pre x (parts c l)
  | [], l, _ => (pre_nil (parts_ne c l)).symm
  | b :: x, l, h => by
    rw [List.cons_append, parts_cons (h b List.mem_cons_self), parts_pre x l fun y hy => h y (List.mem_cons_of_mem _ hy), pre_pre]; rfl
theorem parts_one {c : UInt8} {x : List UInt8} (h : ∀ b ∈ x, b ≠ c) : parts c x = [x] := by
  have := parts_pre x [] h
  simpa [parts, pre] using this
theorem parts_cut {c : UInt8} {x l : List UInt8} (h : ∀ b ∈ x, b ≠ c) : parts c (x ++ c :: l) = x :: parts c l := by
  rw [parts_pre x _ h, parts_hit]; simp [pre]
theorem parts_length (c : UInt8) : ∀ l, (parts c l).length = l.count c + 1
  | [] => rfl
  | x :: l => by
    by_cases h : x = c
    · subst h; rw [parts_hit, List.length_cons, parts_length, List.count_cons_self]
    · rw [parts_cons h, List.count_cons_of_ne (by simpa using h), ← parts_length c l]
      cases hp : parts c l with
      | nil => exact absurd hp (parts_ne c l)
      | cons a t => rfl
theorem parts_length_le (c : UInt8) (l : List UInt8) : (parts c l).length ≤ l.length + 1 := by
  rw [parts_length]; have := List.count_le_length (a := c) (l := l); omega
theorem parts_mem (c : UInt8) : ∀ (l x : List UInt8), x ∈ parts c l → x.length ≤ l.length ∧ (∀ b ∈ x, b ≠ c) ∧ ∀ b ∈ x, b ∈ l
  | [], x, h => by
    simp only [parts, List.mem_singleton] at h; subst h; exact ⟨Nat.le_refl _, (fun b hb => by cases hb), fun b hb => by cases hb⟩
  | y :: l, x, h => by
    by_cases e : y = c
    · subst e; rw [parts_hit] at h
      rcases List.mem_cons.1 h with rfl | h
      · exact ⟨Nat.zero_le _, (fun b hb => by cases hb), fun b hb => by cases hb⟩
      · have h2 := parts_mem y l x h
        exact ⟨by rw [List.length_cons]; omega, h2.2.1, fun b hb => List.mem_cons_of_mem _ (h2.2.2 b hb)⟩
    · rw [parts_cons e] at h
      cases hp : parts c l with
      | nil => exact absurd hp (parts_ne c l)
      | cons a t =>
        rw [hp] at h
        simp only [pre, List.singleton_append, List.mem_cons] at h
        rcases h with rfl | h
        · have h2 := parts_mem c l a (by rw [hp]; exact List.mem_cons_self)
          refine ⟨by simp only [List.length_cons]; omega, fun b hb => ?_, fun b hb => ?_⟩
          · rcases List.mem_cons.1 hb with rfl | hb
            · exact e
            · exact h2.2.1 b hb
          · rcases List.mem_cons.1 hb with rfl | hb
            · exact List.mem_cons_self
            · exact List.mem_cons_of_mem _ (h2.2.2 b hb)
        · have h2 := parts_mem c l x (by rw [hp]; exact List.mem_cons_of_mem _ h)
          exact ⟨by rw [List.length_cons]; omega, h2.2.1, fun b hb => List.mem_cons_of_mem _ (h2.2.2 b hb)⟩
/-- texts with a byte between -/
def joinc (c : UInt8) : List (List UInt8) → List UInt8
  | [] => []
  | [x] => x
  | x :: y :: t => x ++ c :: joinc c (y :: t)
theorem joinc_cons (c : UInt8) (x : List UInt8) {t : List (List UInt8)} (h : t ≠ []) : joinc c (x :: t) = x ++ c :: joinc c t := by
  cases t with
  | nil => exact absurd rfl h
  | cons y t => rfl
theorem joinc_pre (c : UInt8) (x : List UInt8) {l : List (List UInt8)} (h : l ≠ []) : joinc c (pre x l) = x ++ joinc c l := by
  cases l with
  | nil => exact absurd rfl h
  | cons a t => cases t with
    | nil => simp [pre, joinc]
    | cons b t => simp [pre, joinc]
theorem joinc_parts (c : UInt8) : ∀ l, joinc c (parts c l) = l
  | [] => rfl
  | x :: l => by
    by_cases h : x = c
    · subst h; rw [parts_hit, joinc_cons _ _ (parts_ne _ _), joinc_parts]; rfl
    · rw [parts_cons h, joinc_pre _ _ (parts_ne _ _), joinc_parts]; rfl
theorem parts_joinc {c : UInt8} : ∀ {l : List (List UInt8)}, l ≠ [] → (∀ x ∈ l, ∀ b ∈ x, b ≠ c) → parts c (joinc c l) = l
  | [], h, _ => absurd rfl h
  | [x], _, h => parts_one (h x List.mem_cons_self)
  | x :: y :: t, _, h => by
    rw [joinc_cons c x (by simp), parts_cut (h x List.mem_cons_self), parts_joinc (by simp) fun z hz => h z (List.mem_cons_of_mem _ hz)]
theorem joinc_append (c : UInt8) {a b : List (List UInt8)} (ha : a ≠ []) (hb : b ≠ []) : joinc c (a ++ b) = joinc c a ++ c :: joinc c b := by
  induction a with
  | nil => exact absurd rfl ha
  | cons x t ih =>
    cases t with
    | nil => rw [List.singleton_append, joinc_cons c x hb]; rfl
    | cons y t =>
      rw [List.cons_append, joinc_cons c x (by simp), ih (by simp), joinc_cons c x (by simp)]; simp
theorem parts_append (c : UInt8) (a b : List UInt8) : parts c (a ++ c :: b) = parts c a ++ parts c b := by
  have h := parts_joinc (c := c) (l := parts c a ++ parts c b) (by simp [parts_ne]) (fun x hx => by
    rcases List.mem_append.1 hx with hx | hx
    · exact (parts_mem c a x hx).2.1
    · exact (parts_mem c b x hx).2.1)
  rwa [joinc_append c (parts_ne c a) (parts_ne c b), joinc_parts, joinc_parts] at h
open Go.Lib in
theorem splitK_parts (c : UInt8) : ∀ s : List UInt8, splitK [c] 0 (count s [c]) s = parts c s
  | [] => by rw [count_miss (by simp [index])]; rfl
  | b :: l => by
    have ih := splitK_parts c l
    by_cases h : b = c
    · subst h
      have hix : index (b :: l) [b] = ((0 : Nat) : Int) := by rw [index]; simp [List.isPrefixOf]
      rw [count_cons_eq, Nat.add_comm, splitK, if_neg (by rw [hix]; decide), hix, parts_hit, ← ih]
      simp
    · have hp : ([c] : List UInt8).isPrefixOf (b :: l) = false := by simp [List.isPrefixOf, Ne.symm h]
      have hix : index (b :: l) [c] = if index l [c] == -1 then -1 else index l [c] + 1 := by rw [index, hp]; simp
      rw [count_cons_ne b c l h, parts_cons h, ← ih]
      cases hk : count l [c] with
      | zero => simp [splitK, pre]
      | succ k =>
        by_cases hm : index l [c] = -1
        · rw [count_miss hm] at hk; cases hk
        · have hge := index_ge l [c]
          obtain ⟨j, hj⟩ : ∃ j : Nat, index l [c] = j := ⟨(index l [c]).toNat, by omega⟩
          have hix' : index (b :: l) [c] = ((j + 1 : Nat) : Int) := by rw [hix, if_neg (fun e => hm (beq_iff_eq.1 e)), hj]; omega
          have n1 : ¬ (index (b :: l) [c] == -1) = true := fun e => by have := beq_iff_eq.1 e; omega
          have n2 : ¬ (index l [c] == -1) = true := fun e => hm (beq_iff_eq.1 e)
          have t1 : (index (b :: l) [c]).toNat = j + 1 := by omega
          have t2 : (index l [c]).toNat = j := by omega
          rw [splitK, if_neg n1, splitK, if_neg n2, t1, t2]
          simp [pre]
theorem splitB_parts (c : UInt8) (s : List UInt8) : (Lib.splitB (str [c]) 0 (Lib.countB (str s) (str [c])) (str s)).map Value.string = (parts c s).map fun x => Value.string (str x) := by
  have h := Lib.splitB_data (str [c]) 0 (Lib.countB (str s) (str [c])) (str s)
  have e : Lib.countB (str s) (str [c]) = Lib.count s [c] := rfl
  have e2 : Lib.splitK (str [c]).data.toList 0 (Lib.countB (str s) (str [c])) (str s).data.toList = parts c s := by rw [e]; exact splitK_parts c s
  rw [e2] at h
  rw [← h, List.map_map]
  apply List.map_congr_left
  intro x _
  simp only [Function.comp]
  rw [str_data]
theorem countB_parts (c : UInt8) (s : List UInt8) : Lib.countB (str s) (str [c]) + 1 = (parts c s).length := by
  have e : Lib.countB (str s) (str [c]) = Lib.count s [c] := rfl
  rw [e, Lib.count_one, parts_length]
end Go.Sx
