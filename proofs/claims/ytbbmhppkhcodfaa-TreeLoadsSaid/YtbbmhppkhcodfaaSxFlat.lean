/-
  Lists of things of k cells each, laid one behind the other; slices of them: an element, a part, one that is set; views.
-/
import Derived.Test.YtbbmhppkhcodfaaSxAuto
namespace Go.Sx
set_option linter.unusedVariables false
/-- the cells of things, one behind the other -/
def flat {α : Type} (f : α → List Value) (l : List α) : List Value := l.flatMap f
section
variable {α : Type} {f : α → List Value} {k : Nat}
theorem flat_nil : flat f [] = [] := rfl
theorem flat_cons (x : α) (l : List α) : flat f (x :: l) = f x ++ flat f l := List.flatMap_cons
theorem flat_append (l m : List α) : flat f (l ++ m) = flat f l ++ flat f m := List.flatMap_append
theorem flat_one (x : α) : flat f [x] = f x := by simp [flat]
theorem flat_len (hk : ∀ x, (f x).length = k) : ∀ l : List α, (flat f l).length = l.length * k
  | [] => by simp [flat]
  | x :: l => by rw [flat_cons, List.length_append, hk, flat_len hk l, List.length_cons, Nat.succ_mul, Nat.add_comm]
theorem flat_get (hk : ∀ x, (f x).length = k) {l : List α} {i j : Nat} {x : α} {u : Value} (hi : l[i]? = some x) (hj : (f x)[j]? = some u) : (flat f l)[i * k + j]? = some u := by
  induction l generalizing i with
  | nil => cases hi
  | cons y l ih =>
    cases i with
    | zero =>
      simp at hi; subst hi
      rw [flat_cons, Nat.zero_mul, Nat.zero_add, List.getElem?_append_left (List.getElem?_eq_some_iff.1 hj).1]; exact hj
    | succ i =>
      have h := ih (by simpa using hi)
      rw [flat_cons, List.getElem?_append_right (by rw [hk, Nat.succ_mul]; omega), hk, show (i + 1) * k + j - k = i * k + j by rw [Nat.succ_mul]; omega]; exact h
theorem flat_take (hk : ∀ x, (f x).length = k) : ∀ (l : List α) (n : Nat), (flat f l).take (n * k) = flat f (l.take n)
  | [], n => by simp [flat]
  | x :: l, 0 => by simp [flat]
  | x :: l, n + 1 => by
    rw [flat_cons, List.take_succ_cons, flat_cons, ← flat_take hk l n, Nat.succ_mul, Nat.add_comm, ← hk x, List.take_length_add_append]
theorem flat_drop (hk : ∀ x, (f x).length = k) : ∀ (l : List α) (n : Nat), (flat f l).drop (n * k) = flat f (l.drop n)
  | [], n => by simp [flat]
  | x :: l, 0 => by simp [flat]
  | x :: l, n + 1 => by
    rw [flat_cons, List.drop_succ_cons, ← flat_drop hk l n, Nat.succ_mul, Nat.add_comm, ← hk x, List.drop_length_add_append]
theorem flat_over (hk : ∀ x, (f x).length = k) {l : List α} {i : Nat} (x : α) (hi : i < l.length) : over (flat f l) (i * k) (f x) = flat f (l.set i x) := by
  induction l generalizing i with
  | nil => simp at hi
  | cons y l ih =>
    cases i with
    | zero =>
      rw [List.set_cons_zero, flat_cons, flat_cons]
      simp only [over, Nat.zero_mul, List.take_zero, List.nil_append, Nat.zero_add]
      rw [hk x, ← hk y, List.drop_left]
    | succ i =>
      have h := ih (i := i) (by simpa using hi)
      rw [List.set_cons_succ, flat_cons, flat_cons, ← h]
      simp only [over]
      rw [show (i + 1) * k = (f y).length + i * k by rw [hk, Nat.succ_mul, Nat.add_comm], List.take_length_add_append, Nat.add_assoc, List.drop_length_add_append]
      simp only [List.append_assoc]
theorem flat_set (hk : ∀ x, (f x).length = k) {l : List α} {i j : Nat} {x y : α} {u : Value} (hi : l[i]? = some x) (hj : j < k) (hy : f y = (f x).set j u) : (flat f l).set (i * k + j) u = flat f (l.set i y) := by
  induction l generalizing i with
  | nil => cases hi
  | cons z l ih =>
    cases i with
    | zero =>
      simp at hi; subst hi
      rw [List.set_cons_zero, flat_cons, flat_cons, hy, Nat.zero_mul, Nat.zero_add, List.set_append_left _ _ (by rw [hk]; exact hj)]
    | succ i =>
      have h := ih (by simpa using hi)
      rw [List.set_cons_succ, flat_cons, flat_cons, ← h, List.set_append_right _ _ (by rw [hk, Nat.succ_mul]; omega), hk, show (i + 1) * k + j - k = i * k + j by rw [Nat.succ_mul]; omega]
theorem flat_one' (h1 : ∀ x, ∀ v ∈ f x, v.oneCell' = true) (l : List α) : ∀ v ∈ flat f l, v.oneCell' = true := fun v hv => by
  obtain ⟨x, _, hx⟩ := List.mem_flatMap.1 hv; exact h1 x v hx
end
/-! ### Views -/
theorem vw_rdn {V : HProp} {b o n c : Nat} {xs : List Value} (h : Vw V (.slice (some ⟨b, o, none⟩) n c) n xs) : RdN V b o xs := fun j u hj w R s => by
  rcases h w R s with ⟨a, _, _, h3⟩ | ⟨b', o', cap, h1, h2⟩
  · subst h3; simp at hj
  · injection h1 with h1 _ h3; injection h1 with h1; injection h1 with h1 h4; subst h1; subst h4; exact h2 j u hj
theorem vw_ptr {L : HProp} {n c : Nat} {q : Option Addr} {xs : List Value} (h : Vw L (.slice q n c) n xs) {w : World} {R : HProp} (s : sat w (star L R)) (h0 : n ≠ 0) : ∃ b o, q = some ⟨b, o, none⟩ := by
  rcases h w R s with ⟨_, _, h2, _⟩ | ⟨b, o, cap, h1, _⟩
  · exact absurd h2 h0
  · injection h1 with h1 _ _; exact ⟨b, o, h1⟩
theorem Vw.len_nil {L : HProp} {n c : Nat} {xs : List Value} (h : Vw L (.slice none n c) n xs) {w : World} {R : HProp} (s : sat w (star L R)) : n = 0 ∧ c = 0 ∧ xs = [] := by
  rcases h w R s with ⟨a, h1, h2, h3⟩ | ⟨b, o, cap, h1, _⟩
  · injection h1 with _ h4 h5; exact ⟨h2, h5, h3⟩
  · cases h1
/-- one element of a view -/
theorem RdN.sub {V : HProp} {b o k : Nat} {xs ys : List Value} (h : RdN V b o xs) (hk : ∀ j u, ys[j]? = some u → xs[k + j]? = some u) : RdN V b (o + k) ys := fun j u hj => by
  rw [Nat.add_assoc]; exact h _ u (hk j u hj)
theorem RdN.elem {V : HProp} {b o k i : Nat} {α : Type} {f : α → List Value} {l : List α} {x : α} (h : RdN V b o (flat f l)) (hk : ∀ x, (f x).length = k) (hi : l[i]? = some x) : RdN V b (o + i * k) (f x) := h.sub fun j u hj => flat_get hk hi hj
theorem Rd.elem {V : HProp} {b o k i j : Nat} {α : Type} {f : α → List Value} {l : List α} {x : α} {u : Value} (h : RdN V b o (flat f l)) (hk : ∀ x, (f x).length = k) (hi : l[i]? = some x) (hj : (f x)[j]? = some u) : Rd V b (o + i * k + j) u := RdN.elem h hk hi j u hj
theorem Rd.of_n {V : HProp} {b o o' j : Nat} {xs : List Value} {u : Value} (h : RdN V b o xs) (e : o' = o + j) (hj : xs[j]? = some u) : Rd V b o' u := e ▸ h j u hj
/-- a row's element -/
theorem row_elem {e : TypeId} {size m b cap i : Nat} {α : Type} {f : α → List Value} {l : List α} {x : α} (hk : ∀ x, (f x).length = size) (hi : l[i]? = some x) : RdN (row e size (.slice (some ⟨b, 0, none⟩) m cap) m (flat f l)) b (0 + i * size) (f x) := RdN.elem RdN.row hk hi
end Go.Sx
