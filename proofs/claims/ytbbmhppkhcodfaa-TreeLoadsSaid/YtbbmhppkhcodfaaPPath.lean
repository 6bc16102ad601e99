/-
  Paths: what Split, Join, Clean tell; plain laws.
-/
import Derived.Test.YtbbmhppkhcodfaaParts
namespace Go.Sx
set_option linter.unusedVariables false
set_option linter.unusedSimpArgs false
abbrev Tt := List UInt8
def ptB (b : UInt8) : Bool := decide (b.toNat ≠ 0) && decide (b.toNat ≠ 47)
/-- may it be a name? -/
def ptOk (s : Tt) : Bool := s.all ptB && decide (1 ≤ s.length) && decide (s.length ≤ 30) && decide (s ≠ [46]) && decide (s ≠ [46, 46])
def pStep : Option (List Tt) → Tt → Option (List Tt)
  | none, _ => none
  | some out, x => if x = [] ∨ x = [46] then some out else if x = [46, 46] then some out.dropLast else if ptOk x = true then some (out ++ [x]) else none
def pRun (acc : Option (List Tt)) (l : List Tt) : Option (List Tt) := l.foldl pStep acc
def pSplit (s : Tt) : List Tt × Int := if 200 < s.length then ([], 3) else match pRun (some []) (parts 47 s) with
  | none => ([], 20)
  | some l => (l, 0)
def pJoin (l : List Tt) : Tt := if l = [] then [47] else 47 :: joinc 47 l
def pClean (s : Tt) : Tt × Int := if (pSplit s).2 ≠ 0 then ([], (pSplit s).2) else (pJoin (pSplit s).1, 0)
theorem pStep_some (out : List Tt) (x : Tt) : pStep (some out) x = if x = [] ∨ x = [46] then some out else if x = [46, 46] then some out.dropLast else if ptOk x = true then some (out ++ [x]) else none := rfl
theorem pRun_none (l : List Tt) : pRun none l = none := by
  induction l with
  | nil => rfl
  | cons x r ih => exact ih
theorem pRun_cons (a : Option (List Tt)) (x : Tt) (r : List Tt) : pRun a (x :: r) = pRun (pStep a x) r := rfl
theorem pRun_append (a : Option (List Tt)) (l m : List Tt) : pRun a (l ++ m) = pRun (pRun a l) m := List.foldl_append
theorem pStep_dot {o : List Tt} {x : Tt} (h : x = [] ∨ x = [46]) : pStep (some o) x = some o := by rw [pStep_some, if_pos h]
theorem pStep_up (o : List Tt) : pStep (some o) [46, 46] = some o.dropLast := by rw [pStep_some, if_neg (by simp), if_pos rfl]
theorem ptOk_ne {x : Tt} (h : ptOk x = true) : ¬ (x = [] ∨ x = [46]) ∧ x ≠ [46, 46] := by
  unfold ptOk at h
  simp only [Bool.and_eq_true, decide_eq_true_eq] at h
  refine ⟨?_, h.2⟩
  rintro (rfl | rfl)
  · simp at h
  · exact h.1.2 rfl
theorem pStep_ok (o : List Tt) {x : Tt} (h : ptOk x = true) : pStep (some o) x = some (o ++ [x]) := by
  rw [pStep_some, if_neg (ptOk_ne h).1, if_neg (ptOk_ne h).2, if_pos h]
theorem pStep_bad (o : List Tt) {x : Tt} (h1 : ¬ (x = [] ∨ x = [46])) (h2 : x ≠ [46, 46]) (h : ptOk x = false) : pStep (some o) x = none := by
  rw [pStep_some, if_neg h1, if_neg h2, if_neg (by rw [h]; decide)]
theorem pRun_ok : ∀ (l : List Tt) (o : List Tt), (∀ x ∈ l, ptOk x = true) → pRun (some o) l = some (o ++ l)
  | [], o, h => by simp [pRun]
  | x :: r, o, h => by
    rw [pRun_cons, pStep_ok o (h x (by simp)), pRun_ok r _ fun y hy => h y (List.mem_cons_of_mem _ hy), List.append_assoc]; rfl
/-- only right names come out -/
theorem pRun_all : ∀ (l : List Tt) (o o' : List Tt), (∀ x ∈ o, ptOk x = true) → pRun (some o) l = some o' → ∀ x ∈ o', ptOk x = true
  | [], o, o', ho, h => by injection h with h; subst h; exact ho
  | y :: r, o, o', ho, h => by
    rw [pRun_cons] at h
    rw [pStep_some] at h
    split at h
    · exact pRun_all r o o' ho h
    · split at h
      · exact pRun_all r _ o' (fun x hx => ho x (List.dropLast_subset _ hx)) h
      · split at h
        · rename_i hk
          refine pRun_all r _ o' (fun x hx => ?_) h
          rcases List.mem_append.1 hx with hx | hx
          · exact ho x hx
          · rw [List.mem_singleton.1 hx]; exact hk
        · rw [pRun_none] at h; cases h
/-- how long what comes out is -/
def ptLen (l : List Tt) : Nat := (l.map fun x => x.length + 1).sum
theorem ptLen_append (l m : List Tt) : ptLen (l ++ m) = ptLen l + ptLen m := by simp [ptLen]
theorem ptLen_dropLast (l : List Tt) : ptLen l.dropLast ≤ ptLen l := by
  by_cases h : l = []
  · subst h; simp
  · have e := congrArg ptLen (List.dropLast_concat_getLast h)
    rw [ptLen_append] at e; omega
theorem pRun_len : ∀ (l : List Tt) (o o' : List Tt), pRun (some o) l = some o' → ptLen o' ≤ ptLen o + ptLen l ∧ o'.length ≤ o.length + l.length
  | [], o, o', h => by injection h with h; subst h; exact ⟨by omega, by simp⟩
  | y :: r, o, o', h => by
    rw [pRun_cons] at h
    have e : ptLen (y :: r) = (y.length + 1) + ptLen r := by simp [ptLen]
    rw [pStep_some] at h
    split at h
    · have := pRun_len r o o' h; rw [e, List.length_cons]; omega
    · split at h
      · have := pRun_len r _ o' h
        have h1 := ptLen_dropLast o
        have h2 : o.dropLast.length ≤ o.length := by simp
        rw [e, List.length_cons]; omega
      · split at h
        · have := pRun_len r _ o' h
          rw [ptLen_append, List.length_append] at this
          have e2 : ptLen [y] = y.length + 1 := by simp [ptLen]
          rw [e, List.length_cons]
          simp only [List.length_cons, List.length_nil] at this
          omega
        · rw [pRun_none] at h; cases h
theorem ptLen_parts (c : UInt8) : ∀ s : Tt, ptLen (parts c s) = s.length + 1
  | [] => by simp [parts, ptLen]
  | x :: l => by
    have ih := ptLen_parts c l
    by_cases h : x = c
    · subst h; rw [parts_hit]
      have e : ptLen ([] :: parts x l) = 1 + ptLen (parts x l) := by simp [ptLen]
      rw [e, ih, List.length_cons]; omega
    · rw [parts_cons h]
      cases hp : parts c l with
      | nil => exact absurd hp (parts_ne c l)
      | cons a t =>
        rw [hp] at ih
        simp only [pre, ptLen, List.map_cons, List.sum_cons, List.length_append, List.length_cons, List.length_nil] at ih ⊢
        omega
theorem joinc_len (c : UInt8) : ∀ l : List Tt, l ≠ [] → (joinc c l).length + 1 = ptLen l
  | [], h => absurd rfl h
  | [x], _ => by simp [joinc, ptLen]
  | x :: y :: r, _ => by
    have h := joinc_len c (y :: r) (by simp)
    rw [joinc_cons c x (by simp)]
    have e : ptLen (x :: y :: r) = (x.length + 1) + ptLen (y :: r) := by simp [ptLen]
    rw [e, ← h]; simp; omega
theorem pJoin_len (l : List Tt) : (pJoin l).length ≤ ptLen l + 1 ∧ (l ≠ [] → (pJoin l).length = ptLen l) ∧ 0 < (pJoin l).length := by
  unfold pJoin
  by_cases h : l = []
  · subst h; exact ⟨by simp, fun h => absurd rfl h, by simp⟩
  · rw [if_neg h]
    have := joinc_len 47 l h
    exact ⟨by rw [List.length_cons]; omega, fun _ => by rw [List.length_cons]; omega, by simp⟩
theorem pSplit_of {s : Tt} (h : s.length ≤ 200) : pSplit s = match pRun (some []) (parts 47 s) with | none => ([], 20) | some l => (l, 0) := by
  unfold pSplit; rw [if_neg (by omega)]
theorem pSplit_some {s : Tt} {l : List Tt} (h : s.length ≤ 200) (e : pRun (some []) (parts 47 s) = some l) : pSplit s = (l, 0) := by rw [pSplit_of h, e]
theorem pSplit_none {s : Tt} (h : s.length ≤ 200) (e : pRun (some []) (parts 47 s) = none) : pSplit s = ([], 20) := by rw [pSplit_of h, e]
theorem pSplit_cases {s : Tt} (h : s.length ≤ 200) : (pRun (some []) (parts 47 s) = none ∧ pSplit s = ([], 20)) ∨ ∃ l, pRun (some []) (parts 47 s) = some l ∧ pSplit s = (l, 0) := by
  cases e : pRun (some []) (parts 47 s) with
  | none => exact .inl ⟨rfl, pSplit_none h e⟩
  | some l => exact .inr ⟨l, rfl, pSplit_some h e⟩
theorem pSplit_size (s : Tt) : (pSplit s).1.length ≤ s.length + 1 ∧ ∀ x ∈ (pSplit s).1, x.length ≤ 30 := by
  unfold pSplit
  split
  · exact ⟨by simp, fun x hx => by cases hx⟩
  · cases e : pRun (some []) (parts 47 s) with
    | none => exact ⟨by simp, fun x hx => by cases hx⟩
    | some l =>
      have h1 := (pRun_len _ _ _ e).2
      have h2 := parts_length_le 47 s
      refine ⟨by simp at h1 ⊢; omega, fun x hx => ?_⟩
      have h3 := pRun_all _ _ _ (fun x hx => by cases hx) e x hx
      unfold ptOk at h3
      simp only [Bool.and_eq_true, decide_eq_true_eq] at h3
      exact h3.1.1.2
theorem parts_snoc (c : UInt8) (a b : Tt) : parts c (a ++ c :: b) = parts c a ++ parts c b := by
  induction a with
  | nil => rw [List.nil_append, parts_hit]; rfl
  | cons x l ih =>
    by_cases h : x = c
    · subst h; rw [List.cons_append, parts_hit, parts_hit, ih]; rfl
    · rw [List.cons_append, parts_cons h, parts_cons h, ih]
      cases hp : parts c l with
      | nil => exact absurd hp (parts_ne c l)
      | cons u t => rfl
theorem parts_joinc_all (c : UInt8) : ∀ l : List Tt, l ≠ [] → parts c (joinc c l) = l.flatMap (parts c)
  | [], h => absurd rfl h
  | [x], _ => by simp [joinc]
  | x :: y :: r, _ => by
    rw [joinc_cons c x (by simp), parts_snoc, parts_joinc_all c (y :: r) (by simp)]; simp [List.flatMap_cons]
/-- the parts of what was joined: an empty one first -/
theorem parts_pJoin (l : List Tt) : parts 47 (pJoin l) = [] :: (if l = [] then [[]] else l.flatMap (parts 47)) := by
  unfold pJoin
  split
  · rfl
  · rename_i h; rw [parts_hit, parts_joinc_all 47 l h]
theorem ptOk_parts {x : Tt} (h : ptOk x = true) : parts 47 x = [x] := parts_one fun b hb e => by
  unfold ptOk at h
  simp only [Bool.and_eq_true] at h
  have h1 := List.all_eq_true.1 h.1.1.1.1 b hb
  rw [e] at h1; cases h1
theorem flat_ok : ∀ l : List Tt, (∀ x ∈ l, ptOk x = true) → l.flatMap (parts 47) = l
  | [], _ => rfl
  | x :: r, h => by rw [List.flatMap_cons, ptOk_parts (h x (by simp)), flat_ok r fun y hy => h y (List.mem_cons_of_mem _ hy)]; rfl
theorem pRun_dot {o : List Tt} (x : Tt) (h : x = [] ∨ x = [46]) (r : List Tt) : pRun (some o) (x :: r) = pRun (some o) r := by rw [pRun_cons, pStep_dot h]
theorem pRun_pJoin (o : List Tt) (l : List Tt) : pRun (some o) (parts 47 (pJoin l)) = pRun (some o) (l.flatMap (parts 47)) := by
  rw [parts_pJoin, pRun_dot _ (.inl rfl)]
  split
  · rename_i h; subst h; rfl
  · rfl
/-- right names that are joined come back -/
theorem pSplit_join {l : List Tt} (h : ∀ x ∈ l, ptOk x = true) (hl : (pJoin l).length ≤ 200) : pSplit (pJoin l) = (l, 0) :=
  pSplit_some hl (by rw [pRun_pJoin, flat_ok l h, pRun_ok l [] h]; rfl)
end Go.Sx
