/-
  The logic of the Sx texts as the walker uses it: states up to what is let go, loops and cuts that keep the frame's slots, tests that are split.
  Lists of things of k cells each, laid one behind the other; slices of them: an element, a part, one that is set; views.
  Appends and slice literals as rows: of bytes, of things of k cells each.
  Texts as lists of bytes; slices of views.
  The reader of package wire: states that are all right; texts.
  Lists of texts: held against one another, cut short.
  More of the reader of package wire.
-/
import Derived.Test.YtigaolglnnjnmaaSxLock
import Derived.Laws.Small
import Derived.Test.YtigaolglnnjnmaaRead
import Derived.Test.YtigaolglnnjnmaaTy
import Derived.Test.YtigaolglnnjnmaaWire2
namespace Go.Sx
set_option linter.unusedVariables false
/-- of these atoms, those: the others are let go -/
def SubH (H L : List HProp) : Prop := ∀ w F, sat w (star (St H) F) → sat w (star (St L) F)
theorem SubH.refl (H : List HProp) : SubH H H := fun _ _ s => s
theorem SubH.trans {H K L : List HProp} (h1 : SubH H K) (h2 : SubH K L) : SubH H L := fun w F s => h2 w F (h1 w F s)
theorem SubH.nil (H : List HProp) : SubH H [] := fun w F s => by rw [St_nil, emp_star]; exact sat_star_right s
theorem SubH.cons {H L : List HProp} (i : Nat) {A : HProp} (hi : H[i]? = some A) (h : SubH (H.eraseIdx i) L) : SubH H (A :: L) := fun w F s => by
  rw [perm_front hi] at s
  rw [St_cons, star_assoc]
  have h2 := h w (star A F) (by rw [star_left_comm]; exact s)
  rw [star_left_comm] at h2; exact h2
theorem SubH.append {H H' K L : List HProp} (h : SubH H K) (h' : SubH H' L) : SubH (H ++ H') (K ++ L) := fun w F s => by
  rw [St_append, star_assoc] at s ⊢
  have h2 := h w _ s
  rw [star_left_comm] at h2 ⊢
  exact h' w _ h2
/-- an atom is turned -/
theorem SubH.turn {H : List HProp} (i : Nat) {A B : HProp} (hi : H[i]? = some A) (h : ∀ w F, sat w (star A F) → sat w (star B F)) : SubH H (H.set i B) := fun w F s => by
  rw [perm_front hi] at s; rw [St_set hi, star_assoc]; exact h w _ s
theorem SubH.unfold {H : List HProp} (i : Nat) {A : HProp} {L : List HProp} (hi : H[i]? = some A) (h : ∀ w F, sat w (star A F) → sat w (star (St L) F)) : SubH H (L ++ H.eraseIdx i) := fun w F s => by
  rw [perm_front hi] at s; rw [St_append, star_assoc]; exact h w _ s
theorem wp_sub' {P : Program} {n : Nat} {c : Code} {Γ : Env} {H L : List HProp} {Q : Post} (hs : SubH H L) (h : Wp P n c Γ L Q) : Wp P n c Γ H Q := wp_heap hs h
theorem ops_sub' {P : Program} {n : Nat} {ops : Array Oper} {l : List Oper} {Γ : Env} {H L : List HProp} {Q : Post} (hs : SubH H L) (h : Ops P n ops l Γ L Q) : Ops P n ops l Γ H Q := ops_heap hs h
/-- What a function leaves, up to what is let go. -/
def DoneS (P : Program) (fn : Func) (n : Nat) (Ψ : Value → List HProp → Prop) : Post
  | .ret, Γ, H => ∃ v L, Res P fn n Γ H v ∧ Ψ v L ∧ SubH H L
  | .normal, Γ, H => ∃ v L, Res P fn n Γ H v ∧ Ψ v L ∧ SubH H L
  | _, _, _ => False
theorem lift_doneS {P : Program} {fn : Func} {n : Nat} {F : HProp} {Ψ : Value → List HProp → Prop} {e : Exit} {a : Act} {w : World} (h : Lift n F (DoneS P fn n Ψ) e a w) : (e = .ret ∨ e = .normal) ∧ a.defers = [] ∧ ∃ v L, (results fn a.tmps).run P w = .ok v w ∧ Ψ v L ∧ sat w (star (St L) F) := by
  obtain ⟨Γ', H', q, f', s'⟩ := h
  cases e with
  | ret => obtain ⟨v, L, hr, hp, hs⟩ := q; exact ⟨.inl rfl, f'.defers, v, L, hr _ _ F f' s', hp, hs _ _ s'⟩
  | normal => obtain ⟨v, L, hr, hp, hs⟩ := q; exact ⟨.inr rfl, f'.defers, v, L, hr _ _ F f' s', hp, hs _ _ s'⟩
  | exit _ => exact q.elim
  | goto _ => exact q.elim
  | panic _ => exact q.elim
  | outgrown => exact q.elim
theorem tri_of_wpS {P : Program} {f : FuncId} {fn : Func} {c : Code} {n : Nat} {args : List Value} {Pre : List HProp} {Ψ : Value → List HProp → Prop}
    (hf : P.funcs[f]? = some fn) (hb : fn.body = some c) (hn : fn.ntmps = n) (hl : args.length ≤ n)
    (h : Wp P n c (argEnv 0 args) Pre (DoneS P fn n Ψ)) : Tri P f args Pre Ψ := fun w F s => by
  refine calls_of_wp hf hb (wp_mono (h _ w F ⟨?_, rfl, ?_⟩ s) ?_)
  · simp; omega
  · intro i v hi
    obtain ⟨_, h2⟩ := get_argEnv args 0 i v hi
    have hlt : i < args.length := (List.getElem?_eq_some_iff.1 (by simpa using h2)).1
    simp only [Nat.sub_zero] at h2
    have h3 : args[i] = v := by simpa [List.getElem?_eq_getElem hlt] using h2
    simp [Array.getD_eq_getD_getElem?, Array.getElem?_append, hlt, h3]
  · rintro e a' w' q
    obtain ⟨he, hd, v, L, hr, hp, s'⟩ := lift_doneS q
    rcases he with rfl | rfl
    · exact ⟨hd, v, hr, v, L, rfl, hp, s'⟩
    · exact ⟨hd, v, hr, v, L, rfl, hp, s'⟩
section
variable {P : Program} {fn : Func} {n : Nat} {Γ : Env} {H L : List HProp} {Q : Post} {v : Value} {Ψ : Value → List HProp → Prop}
theorem doneS_ret (hr : Res P fn n Γ H v) (h : Ψ v L) (hs : SubH H L) : DoneS P fn n Ψ .ret Γ H := ⟨v, L, hr, h, hs⟩
/-- a mark for the walker -/
def Tag (k : Nat) (p : Prop) : Prop := p
theorem get_append (Δ Δ' : Env) (i : Nat) (v : Value) : get (Δ ++ Δ') i = some v → get Δ i = some v ∨ get Δ' i = some v := by
  induction Δ with
  | nil => exact .inr
  | cons x t ih =>
    obtain ⟨k, u⟩ := x
    intro h
    simp only [List.cons_append, get] at h ⊢
    cases hb : Nat.beq k i with
    | true => rw [hb] at h; exact .inl h
    | false => rw [hb] at h; exact ih h
theorem Has.append {Δ Δ' : Env} (h1 : Has Γ Δ) (h2 : Has Γ Δ') : Has Γ (Δ ++ Δ') := fun i v h => (get_append Δ Δ' i v h).elim (h1 i v) (h2 i v)
theorem Has.trans {Γ Δ E : Env} (h1 : Has Γ Δ) (h2 : Has Δ E) : Has Γ E := fun i v h => h1 i v (h2 i v h)
/-- What a loop's head, a cut, keeps: the slots that turn (Δ), those that stay (K), the atoms. -/
def Kept (J : Env → List HProp → Prop) (K Γ : Env) (H : List HProp) : Prop := ∃ Δ L, J Δ L ∧ Has Γ Δ ∧ Has Γ K ∧ SubH H L
theorem wp_loopK {c : Code} (k : Nat) (J : Nat → Env → List HProp → Prop) {m : Nat} {K : Env} (hk : Has Γ K) (h0 : Kept (J m) K Γ H)
    (round : ∀ m Δ L, J m Δ L → Wp P n c (Δ ++ K) L (Then (fun Γ' H' => Tag k (∃ m', m' < m ∧ Kept (J m') K Γ' H')) Q)) : Wp P n (.loop c) Γ H Q := by
  refine wp_loop' (fun m Γ H => Kept (J m) K Γ H) h0 ?_
  rintro m Γ H ⟨Δ, L, hJ, h1, h2, h3⟩
  exact wp_has (Has.append h1 h2) (wp_heap h3 (round m Δ L hJ))
theorem wp_cutK {x y : Code} (k : Nat) (J : Env → List HProp → Prop) {K : Env} (hk : Has Γ K) (h1 : Wp P n x Γ H (Then (fun Γ' H' => Tag k (Kept J K Γ' H')) Q))
    (h2 : ∀ Δ L, J Δ L → Wp P n y (Δ ++ K) L Q) : Wp P n (.seq x y) Γ H Q := by
  refine wp_cut (fun Γ H => Kept J K Γ H) h1 ?_
  rintro Γ H ⟨Δ, L, hJ, h1, h2', h3⟩
  exact wp_has (Has.append h1 h2') (wp_heap h3 (h2 Δ L hJ))
theorem kept {J : Env → List HProp → Prop} {K : Env} {Δ : Env} {L : List HProp} (hJ : J Δ L) (h1 : Has Γ Δ) (h2 : Has Γ K) (h3 : SubH H L) : Kept J K Γ H := ⟨Δ, L, hJ, h1, h2, h3⟩
theorem back {k m : Nat} {J : Nat → Env → List HProp → Prop} {K : Env} (m' : Nat) (h : m' < m) (hk : Kept (J m') K Γ H) : Tag k (∃ m', m' < m ∧ Kept (J m') K Γ H) := ⟨m', h, hk⟩
theorem over_cut {k : Nat} {J : Env → List HProp → Prop} {K : Env} (hk : Kept J K Γ H) : Tag k (Kept J K Γ H) := hk
/-- a test that later operations hang on is split -/
theorem ops_split {ops : Array Oper} {l : List Oper} {d : Tmp} {x : Operand} {ty : TypeId} {pos : String} {aft : Array Edge} {g : Option (Nat × Bool)} {b : Bool} (hw : wnt Γ ops ⟨some d, .move x, ty, pos, aft, g⟩ = some true) (hx : ev Γ x = some (.bool b)) (hd : Nat.blt d n = true)
    (ht : b = true → Ops P n ops l ((d, .bool true) :: Γ) H Q) (hf : b = false → Ops P n ops l ((d, .bool false) :: Γ) H Q) : Ops P n ops (⟨some d, .move x, ty, pos, aft, g⟩ :: l) Γ H Q := by
  refine ops_ro' hw (ro_move hx) hd ?_
  cases b
  · exact hf rfl
  · exact ht rfl
end
/-! ### Whole numbers, in the forms that walks want -/
theorem wrap_inc {k : Nat} (h : k + 1 < 9223372036854775808) : IntKind.i64.wrap ((k : Int) + 1) = ((k + 1 : Nat) : Int) := by rw [wrap_i64_in (by omega) (by omega)]; omega
theorem wrap_dec {k : Nat} (h : 0 < k) (h2 : k < 9223372036854775808) : IntKind.i64.wrap ((k : Int) - 1) = ((k - 1 : Nat) : Int) := by rw [wrap_i64_in (by omega) (by omega)]; omega
theorem wrap_natN {a : Nat} (h : a < 9223372036854775808) : IntKind.i64.wrap (a : Int) = (a : Int) := wrap_i64_in (by omega) (by omega)
/-- sum of atoms over a list -/
def bigS {α : Type} (f : α → HProp) : List α → HProp
  | [] => emp
  | x :: l => star (f x) (bigS f l)
end Go.Sx
namespace Go.Sx
set_option linter.unusedVariables false
/-- the cells of things, one behind the other -/
def flat {α : Type} (f : α → List Value) (l : List α) : List Value := l.flatMap f
section
variable {α : Type} {f : α → List Value} {k : Nat}
theorem flat_cons (x : α) (l : List α) : flat f (x :: l) = f x ++ flat f l := List.flatMap_cons
theorem flat_append (l m : List α) : flat f (l ++ m) = flat f l ++ flat f m := List.flatMap_append
theorem flat_len (hk : ∀ x, (f x).length = k) : ∀ l : List α, (flat f l).length = l.length * k
  | [] => by simp [flat]
  | x :: l => by rw [flat_cons, List.length_append, hk, flat_len hk l, List.length_cons, Nat.succ_mul, Nat.add_comm]
theorem flat_get (hk : ∀ x, (f x).length = k) {l : List α} {i j : Nat} {x : α} {u : Value} (hi : l[i]? = some x) (hj : (f x)[j]? = some u) : (flat f l)[i * k + j]? = some u := by
  induction l generalizing i with
  | nil => cases hi
  | cons y l ih =>
    cases i with
    | zero =>
      simp at hi; subst hi
      rw [flat_cons, Nat.zero_mul, Nat.zero_add, List.getElem?_append_left (List.getElem?_eq_some_iff.1 hj).1]; exact hj
    | succ i =>
      have h := ih (by simpa using hi)
      rw [flat_cons, List.getElem?_append_right (by rw [hk, Nat.succ_mul]; omega), hk, show (i + 1) * k + j - k = i * k + j by rw [Nat.succ_mul]; omega]; exact h
theorem flat_one' (h1 : ∀ x, ∀ v ∈ f x, v.oneCell' = true) (l : List α) : ∀ v ∈ flat f l, v.oneCell' = true := fun v hv => by
  obtain ⟨x, _, hx⟩ := List.mem_flatMap.1 hv; exact h1 x v hx
end
/-! ### Views -/
theorem vw_rdn {V : HProp} {b o n c : Nat} {xs : List Value} (h : Vw V (.slice (some ⟨b, o, none⟩) n c) n xs) : RdN V b o xs := fun j u hj w R s => by
  rcases h w R s with ⟨a, _, _, h3⟩ | ⟨b', o', cap, h1, h2⟩
  · subst h3; simp at hj
  · injection h1 with h1 _ h3; injection h1 with h1; injection h1 with h1 h4; subst h1; subst h4; exact h2 j u hj
theorem vw_ptr {L : HProp} {n c : Nat} {q : Option Addr} {xs : List Value} (h : Vw L (.slice q n c) n xs) {w : World} {R : HProp} (s : sat w (star L R)) (h0 : n ≠ 0) : ∃ b o, q = some ⟨b, o, none⟩ := by
  rcases h w R s with ⟨_, _, h2, _⟩ | ⟨b, o, cap, h1, _⟩
  · exact absurd h2 h0
  · injection h1 with h1 _ _; exact ⟨b, o, h1⟩
/-- one element of a view -/
theorem RdN.sub {V : HProp} {b o k : Nat} {xs ys : List Value} (h : RdN V b o xs) (hk : ∀ j u, ys[j]? = some u → xs[k + j]? = some u) : RdN V b (o + k) ys := fun j u hj => by
  rw [Nat.add_assoc]; exact h _ u (hk j u hj)
theorem RdN.elem {V : HProp} {b o k i : Nat} {α : Type} {f : α → List Value} {l : List α} {x : α} (h : RdN V b o (flat f l)) (hk : ∀ x, (f x).length = k) (hi : l[i]? = some x) : RdN V b (o + i * k) (f x) := h.sub fun j u hj => flat_get hk hi hj
theorem Rd.elem {V : HProp} {b o k i j : Nat} {α : Type} {f : α → List Value} {l : List α} {x : α} {u : Value} (h : RdN V b o (flat f l)) (hk : ∀ x, (f x).length = k) (hi : l[i]? = some x) (hj : (f x)[j]? = some u) : Rd V b (o + i * k + j) u := RdN.elem h hk hi j u hj
end Go.Sx
namespace Go.Sx
set_option linter.unusedVariables false
set_option linter.unusedSimpArgs false
theorem SubH.rown {H L : List HProp} {e : TypeId} {size : Nat} (h : SubH H L) : SubH H (row e size (.slice none 0 0) 0 [] :: L) := fun w F s => by
  rw [St_cons, star_assoc]; exact row_nil (h w F s)
section
variable {P : Program} {L : HProp}
theorem Src.celv {src : Value} {l : List UInt8} (h : Vw L src l.length (cel l)) : Src P L 1 src l.length (cel l) := Src.of_vw h (by rw [cel_length, Nat.mul_one]) (cel_one l)
theorem Src.strl {l : List UInt8} : Src P L 1 (.string (Sx.str l)) l.length (cel l) := by
  have h := Src.str (P := P) L (Sx.str l)
  rw [str_size, bts_str] at h; exact h
theorem Src.flatv {α : Type} {f : α → List Value} {size : Nat} {src : Value} {l : List α} (hk : ∀ x, (f x).length = size) (h1 : ∀ x, ∀ v ∈ f x, v.oneCell' = true) (h : Vw L src l.length (flat f l)) : Src P L size src l.length (flat f l) :=
  Src.of_vw h (flat_len hk l) (flat_one' h1 l)
variable {n : Nat} {Γ : Env} {d : Option Tmp} {ty : TypeId} {pos : String} {aft : Array Edge} {g : Option (Nat × Bool)}
/-- bytes behind bytes -/
theorem eff_appB {t t2 e : TypeId} {z : Value} {x y : Operand} {p : Option Addr} {src : Value} {c : Nat} {l l2 : List UInt8} {H : List HProp} (i : Nat) (ht : Slc P t e 1 1 z)
    (h2 : (∃ e', P.underlying t2 = some (.slice e')) ∨ P.underlying t2 = some .string) (hx : ev Γ x = some (.slice p l.length c)) (hy : ev Γ y = some src)
    (hi : H[i]? = some (row e 1 (.slice p l.length c) l.length (cel l))) (hs : Src P (St (H.eraseIdx i)) 1 src l2.length (cel l2)) (hb : l.length + l2.length ≤ 140737488355328) :
    EFF P n Γ ⟨d, .call { callee := .builtin .append, args := #[x, y], argTypes := #[t, t2] }, ty, pos, aft, g⟩ (St H)
      (fun v' H' => ∃ p' c', v' = .slice p' (l ++ l2).length c' ∧ (p' = none ↔ p = none ∧ l2.length = 0) ∧ H' = H.set i (row e 1 (.slice p' (l ++ l2).length c') (l ++ l2).length (cel (l ++ l2)))) := fun a w F K Q f s hK =>
  eff_append i ht h2 hx hy hi hs (by omega) (by simp only [maxLen]; omega) a w F K Q f s fun v' w' H' hp hs' => hK v' w' H' (by
    obtain ⟨A, ⟨p', c', rfl, hn, rfl⟩, rfl⟩ := hp
    refine ⟨p', c', by rw [List.length_append], hn, ?_⟩
    rw [List.length_append, cel_append]) hs'
/-- things behind things -/
theorem eff_appF {α : Type} {f : α → List Value} {t t2 e : TypeId} {size bytes : Nat} {z : Value} {x y : Operand} {p : Option Addr} {src : Value} {c : Nat} {l l2 : List α} {H : List HProp} (i : Nat) (ht : Slc P t e size bytes z)
    (h2 : (∃ e', P.underlying t2 = some (.slice e')) ∨ P.underlying t2 = some .string) (hx : ev Γ x = some (.slice p l.length c)) (hy : ev Γ y = some src)
    (hi : H[i]? = some (row e size (.slice p l.length c) l.length (flat f l))) (hs : Src P (St (H.eraseIdx i)) size src l2.length (flat f l2)) (hb : (l.length + l2.length) * bytes ≤ 140737488355328) (hm : l.length + l2.length ≤ 140737488355328) :
    EFF P n Γ ⟨d, .call { callee := .builtin .append, args := #[x, y], argTypes := #[t, t2] }, ty, pos, aft, g⟩ (St H)
      (fun v' H' => ∃ p' c', v' = .slice p' (l ++ l2).length c' ∧ (p' = none ↔ p = none ∧ l2.length = 0) ∧ H' = H.set i (row e size (.slice p' (l ++ l2).length c') (l ++ l2).length (flat f (l ++ l2)))) := fun a w F K Q f0 s hK =>
  eff_append i ht h2 hx hy hi hs hb (by simp only [maxLen]; omega) a w F K Q f0 s fun v' w' H' hp hs' => hK v' w' H' (by
    obtain ⟨A, ⟨p', c', rfl, hn, rfl⟩, rfl⟩ := hp
    refine ⟨p', c', by rw [List.length_append], hn, ?_⟩
    rw [List.length_append, flat_append]) hs'
/-- a slice literal, as a row -/
theorem eff_lit {t e : TypeId} {k size bytes : Nat} {z : Value} {ps : List (Nat × Operand)} {vs : List (Nat × Value)} {cs : List Value} {H : List HProp} (ht : Slc P t e size bytes z) (hx : evp Γ ps = some vs) (h : SBld P t k vs e cs) (hl : cs.length = k * size) (hk : k ≤ 16777216) :
    EFF P n Γ ⟨d, .buildSlice t k ps.toArray, ty, pos, aft, g⟩ (St H) (fun u H' => ∃ b, u = .slice (some ⟨b, 0, none⟩) k k ∧ H' = row e size (.slice (some ⟨b, 0, none⟩) k k) k cs :: H) := fun a w F K Q f s hK =>
  eff_buildSlice hx h a w F K Q f s fun v' w' H' hp hs' => by
    obtain ⟨b, rfl, rfl⟩ := hp
    refine hK _ w' _ ⟨b, rfl, rfl⟩ ?_
    rw [St_cons, star_assoc] at hs' ⊢
    exact row_mk (Nat.le_refl _) (by simp only [maxLen]; omega) hl (by rw [← hl]; exact List.take_length) (warm_zero cs) hs'
end
end Go.Sx
namespace Go.Sx
/-- a call that takes some atoms, and reads all the others -/
theorem eff_callM {P : Program} {n : Nat} {Γ : Env} {o : Oper} {H Pre Rest : List HProp} {Φ : Value → List HProp → Prop} {f : FuncId} {xs : List Operand} {tys : Array TypeId} {vs : List Value}
    (hc : ∀ args w, (callFunc f args).run P w = .ok (.enter f args) w)
    (hop : o.op = .call { callee := .value (.func f), args := xs.toArray, argTypes := tys }) (hv : evs Γ xs = some vs)
    (hs : Split H Pre Rest) (ht : Tri P f vs (Pre ++ [St Rest]) (fun v H' => ∃ K, Φ v K ∧ H' = K ++ [St Rest])) : EFF P n Γ o (St H) (fun v H' => ∃ K, Φ v K ∧ H' = K ++ Rest) := by
  have h2 : Split H (Pre ++ [St Rest]) [] := by
    unfold Split at *
    rw [hs, St_append, St_cons, St_nil, star_emp, star_emp]
  have h3 := eff_call (n := n) hc hop hv h2 ht
  intro a w F K Q f' s hK
  refine h3 a w F K Q f' s fun v w' H' hp hs' => ?_
  obtain ⟨L, ⟨K', hΦ, rfl⟩, rfl⟩ := hp
  refine hK v w' (K' ++ Rest) ⟨K', hΦ, rfl⟩ ?_
  simp only [St_append, St_cons, St_nil, star_emp] at hs' ⊢
  exact hs'
theorem Vw.cons {A : HProp} {H : List HProp} {v : Value} {n : Nat} {xs : List Value} (h : Vw (St H) v n xs) : Vw (St (A :: H)) v n xs := fun w R s => by
  rw [St_cons, star_comm A, star_assoc] at s; exact h w _ s
theorem RdN.cons {A : HProp} {H : List HProp} {b o : Nat} {xs : List Value} (h : RdN (St H) b o xs) : RdN (St (A :: H)) b o xs := fun j u hj w R s => by
  rw [St_cons, star_comm A, star_assoc] at s; exact h j u hj w _ s
end Go.Sx
namespace Go.Sx
set_option linter.unusedVariables false
set_option linter.unusedSimpArgs false
theorem str_extract (l : List UInt8) (a b : Nat) : (str l).extract a b = str ((l.drop a).take (b - a)) := by
  apply ByteArray.ext
  rw [ByteArray.data_extract]
  show l.toArray.extract a b = ((l.drop a).take (b - a)).toArray
  apply Array.ext'
  simp [List.extract_eq_take_drop]
theorem str_iff {a b : List UInt8} : (str a = str b) ↔ a = b := ⟨str_inj, fun h => by rw [h]⟩
section
variable {P : Program} {n : Nat} {L : HProp} {Γ : Env} {d : Option Tmp} {ty : TypeId} {pos : String} {aft : Array Edge} {g : Option (Nat × Bool)}
theorem ro_lenS {x : Operand} {t t' : TypeId} {l : List UInt8} (ht : P.underlying t = some .string) (hx : ev Γ x = some (.string (str l))) :
    RO P n L Γ ⟨d, .call { callee := .builtin .len, args := #[x], argTypes := #[t] }, ty, pos, aft, g⟩ (.int .i64 l.length) := by
  have h := ro_strLen (P := P) (n := n) (L := L) (d := d) (ty := ty) (pos := pos) (aft := aft) (g := g) (t' := t') ht hx
  rwa [str_size] at h
theorem ro_sliceS {t : TypeId} {x : Operand} {lo hi : Option Operand} {l : List UInt8} {a b : Nat} (ht : P.underlying t = some .string) (hx : ev Γ x = some (.string (str l))) (hl : bnd Γ lo 0 = some a) (hh : bnd Γ hi l.length = some b) (h1 : a ≤ b) (h2 : b ≤ l.length) :
    RO P n L Γ ⟨d, .slice t x lo hi Option.none, ty, pos, aft, g⟩ (.string (str ((l.drop a).take (b - a)))) := by
  have h := ro_sliceStr (P := P) (n := n) (L := L) (d := d) (ty := ty) (pos := pos) (aft := aft) (g := g) ht hx hl (by rw [str_size]; exact hh) h1 (by rw [str_size]; exact h2)
  rwa [str_extract] at h
theorem ro_eqlS {t ty' : TypeId} {x y : Operand} {a b : List UInt8} {c : Bool} (hx : ev Γ x = some (.string (str a))) (hy : ev Γ y = some (.string (str b))) (hz : decide (a = b) = c) :
    RO P n L Γ ⟨d, .binOp .eql t x y ty', ty, pos, aft, g⟩ (.bool c) := ro_strEql hx hy (by rw [← hz]; exact decide_eq_decide.2 str_iff)
theorem Vw.empty (L : HProp) (p : Option Addr) : Vw L (.slice p 0 0) 0 [] := fun w R s => .inl ⟨p, rfl, rfl, rfl⟩
theorem ro_sliceEmpty {t e : TypeId} {x : Operand} {lo hi : Option Operand} {p : Option Addr} {size bytes : Nat} {z : Value} (ht : Slc P t e size bytes z) (hx : ev Γ x = some (.slice p 0 0)) (hl : bnd Γ lo 0 = some 0) (hh : bnd Γ hi 0 = some 0) :
    RO P n L Γ ⟨d, .slice t x lo hi Option.none, ty, pos, aft, g⟩ (.slice p 0 0) := fun a w R f s => by
  cases p with
  | none => exact ro_sliceNil ht hx hl hh a w R f s
  | some p =>
    obtain ⟨inf, i1, i2, i3, i4⟩ := ht.info
    have hsz : (sizeOf e).run P w = .ok size w := by simp [sizeOf, typeInfo, i1, i3]
    have hb := run_sliceBounds (P := P) f (isSlice := true) (cap := 0) (w := w) hl hh (Nat.le_refl _) (Nat.le_refl _)
    simp only [execOp, Instr.sliceAt, Instr.slice, f.ev hx, Sem.run_bind, run_underlying ht.und, Result.andThen_ok, Option.map_none, hb, hsz, Sem.run_pure, Option.map_some]
    simp
/-- a part of a view -/
theorem eff_sliceV {t e : TypeId} {x : Operand} {lo hi' : Option Operand} {p : Option Addr} {m c l h size bytes : Nat} {z : Value} {xs : List Value} {H : List HProp} (i : Nat) {A : HProp} (hi : H[i]? = some A) (ht : Slc P t e size bytes z) (hx : ev Γ x = some (.slice p m c)) (hV : Vw A (.slice p m c) m xs) (hlen : xs.length = m * size)
    (hl : bnd Γ lo 0 = some l) (hh : bnd Γ hi' m = some h) (h1 : l ≤ h) (h2 : h ≤ m) (h3 : m ≤ c) :
    EFF P n Γ ⟨d, .slice t x lo hi' Option.none, ty, pos, aft, g⟩ (St H) (fun v H' => ∃ p', v = .slice p' (h - l) (c - l) ∧ Vw A (.slice p' (h - l) (c - l)) (h - l) ((xs.drop (l * size)).take ((h - l) * size)) ∧ (p' = none ↔ p = none) ∧ H' = H) := fun a w F K Q f s hK => by
  rcases hV w _ (by rw [St_pick hi, star_assoc] at s; exact s) with ⟨q, h4, h5, h6⟩ | ⟨b, o, cap, h4, h5⟩
  · injection h4 with h4 h7 h8; subst h4; subst h7; subst h8; subst h6
    have : h = 0 := by omega
    subst this
    have : l = 0 := by omega
    subst this
    have h9 : RO P n (St H) Γ ⟨d, .slice t x lo hi' Option.none, ty, pos, aft, g⟩ (.slice p 0 0) := ro_sliceEmpty ht hx hl hh
    exact eff_ro h9 a w F K Q f s fun v' w' H' hp hs' => hK v' w' H' ⟨p, hp.1, by simpa using Vw.empty A p, by simp, hp.2⟩ hs'
  · injection h4 with h4 h7 h8; subst h4; subst h8
    have h9 := ro_slice (P := P) (n := n) (L := St H) (d := d) (ty := ty) (pos := pos) (aft := aft) (g := g) ht hx hl hh h1 (by omega : h ≤ c)
    refine eff_ro h9 a w F K Q f s fun v' w' H' hp hs' => hK v' w' H' ⟨_, hp.1, Vw.resl (vw_rdn hV) h1 h2 h3 hlen, by simp, hp.2⟩ hs'
theorem vw_takeB {L : HProp} {p : Option Addr} {c a b : Nat} {l : List UInt8} (h : Vw L (.slice p (b - a) c) (b - a) (((cel l).drop (a * 1)).take ((b - a) * 1))) (hb : b ≤ l.length) :
    Vw L (.slice p ((l.drop a).take (b - a)).length c) ((l.drop a).take (b - a)).length (cel ((l.drop a).take (b - a))) := by
  have e : ((l.drop a).take (b - a)).length = b - a := by simp; omega
  rw [e]
  have e2 : cel ((l.drop a).take (b - a)) = ((cel l).drop (a * 1)).take ((b - a) * 1) := by simp [cel, List.map_take, List.map_drop]
  rw [e2]; exact h
/-- bytes, a part of a view -/
theorem eff_sliceB {t e : TypeId} {x : Operand} {lo hi' : Option Operand} {p : Option Addr} {c a b : Nat} {l : List UInt8} {z : Value} {H : List HProp} (i : Nat) {A : HProp} (hi : H[i]? = some A) (ht : Slc P t e 1 1 z) (hx : ev Γ x = some (.slice p l.length c)) (hV : Vw A (.slice p l.length c) l.length (cel l))
    (hl : bnd Γ lo 0 = some a) (hh : bnd Γ hi' l.length = some b) (h1 : a ≤ b) (h2 : b ≤ l.length) (h3 : l.length ≤ c) :
    EFF P n Γ ⟨d, .slice t x lo hi' Option.none, ty, pos, aft, g⟩ (St H) (fun v H' => ∃ p', v = .slice p' ((l.drop a).take (b - a)).length (c - a) ∧ Vw A (.slice p' ((l.drop a).take (b - a)).length (c - a)) ((l.drop a).take (b - a)).length (cel ((l.drop a).take (b - a))) ∧ (p' = none ↔ p = none) ∧ H' = H) := fun a' w F K Q f s hK =>
  eff_sliceV i hi ht hx hV (by rw [cel_length, Nat.mul_one]) hl hh h1 h2 h3 a' w F K Q f s fun v' w' H' hp hs' => hK v' w' H' (by
    obtain ⟨p', rfl, hv, hn, rfl⟩ := hp
    refine ⟨p', ?_, vw_takeB hv h2, hn, rfl⟩
    have e : ((l.drop a).take (b - a)).length = b - a := by simp; omega
    rw [e]) hs'
theorem row_caps {H : List HProp} (i : Nat) {e : TypeId} {size k c : Nat} {p : Option Addr} {xs : List Value} (hi : H[i]? = some (row e size (.slice p k c) k xs)) {w : World} {F : HProp} (s : sat w (star (St H) F)) : k ≤ c := by
  rcases (row_shape i hi s).2 with ⟨h1, h2, _⟩ | ⟨b, cap, h1, h2, _⟩
  · omega
  · injection h1 with _ _ h3; omega
end
end Go.Sx
namespace Go.Sx
section
variable {P : Program} {n : Nat} {Γ : Env} {d : Option Tmp} {ty : TypeId} {pos : String} {aft : Array Edge} {g : Option (Nat × Bool)}
/-- a byte of a row is set -/
theorem eff_storeB {t : TypeId} {x y : Operand} {b off m cap : Nat} {l : List UInt8} {e : TypeId} {z : Int} {H : List HProp} (i : Nat) (ht : Scal P t) (hx : ev Γ x = some (.pointer (some ⟨b, off, none⟩))) (hy : ev Γ y = some (.int .u8 z)) (h0 : 0 ≤ z) (h1 : z < 256)
    (hi : H[i]? = some (row e 1 (.slice (some ⟨b, 0, none⟩) m cap) m (cel l))) {k : Nat} (hk : off = 0 + k * 1) (ho : k < l.length) :
    EFF P n Γ ⟨d, .store t x y, ty, pos, aft, g⟩ (St H) (fun _ H' => H' = H.set i (row e 1 (.slice (some ⟨b, 0, none⟩) m cap) m (cel (l.set k (UInt8.ofNat z.toNat))))) := fun a w F K Q f s hK =>
  eff_storeRow i ht hx hy rfl hi (by rw [cel_length, hk]; omega) a w F K Q f s fun v w' H' hp hs => hK v w' H' (by
    rw [hp, cel, cel, List.map_set, hk, Nat.zero_add, Nat.mul_one]
    congr 4
    simp only [byteV, UInt8.toNat_ofNat']
    congr 1
    omega) hs
end
end Go.Sx
namespace Go.Sx
section
variable {P : Program} {n : Nat} {L : HProp} {Γ : Env} {d : Option Tmp} {ty : TypeId} {pos : String} {aft : Array Edge} {g : Option (Nat × Bool)}
theorem ro_max {x y : Operand} {t t' : TypeId} {k k' : IntKind} {a b c : Int} (hx : ev Γ x = some (.int k a)) (hy : ev Γ y = some (.int k' b)) (hz : (if b > a then b else a) = c) :
    RO P n L Γ ⟨d, .call { callee := .builtin .max, args := #[x, y], argTypes := #[t, t'] }, ty, pos, aft, g⟩ (.int k c) := fun e w R f s => by
  subst hz
  simp [execOp, f.ev hx, f.ev hy, resolve, invoke, builtin, run_max_int2]
end
end Go.Sx
namespace Go.Sx
section
variable {P : Program} {n : Nat} {L : HProp} {Γ : Env} {d : Option Tmp} {ty : TypeId} {pos : String} {aft : Array Edge} {g : Option (Nat × Bool)}
end
end Go.Sx
namespace Go.Sx
end Go.Sx
namespace Go.Sx
theorem eff_toBytesS {P : Program} {n : Nat} {Γ : Env} {d : Option Tmp} {ty : TypeId} {pos : String} {aft : Array Edge} {g : Option (Nat × Bool)} {t t' e : TypeId} {x : Operand} {l : List UInt8} {H : List HProp} (hs : P.underlying t = some .string) (ht : P.underlying t' = some (.slice e)) (he : P.underlying e = some (.int .u8)) (hx : ev Γ x = some (.string (str l))) (hm : l.length ≤ maxLen) :
    EFF P n Γ ⟨d, .convert t t' x, ty, pos, aft, g⟩ (St H) (fun v H' => ∃ b c, v = .slice (some ⟨b, 0, none⟩) l.length c ∧ H' = row e 1 (.slice (some ⟨b, 0, none⟩) l.length c) l.length (cel l) :: H) := by
  have h := eff_toBytes (P := P) (n := n) (Γ := Γ) (d := d) (ty := ty) (pos := pos) (aft := aft) (g := g) (H := H) hs ht he hx (by rw [str_size]; exact hm)
  rw [str_size] at h
  exact h
end Go.Sx
namespace Go.Sx
end Go.Sx
namespace Go.Sx
end Go.Sx
namespace Go.Sx
/-! ### lists of texts -/
def Tx.cs (x : List UInt8) : List Value := [.string (str x)]
theorem Tx.len (x : List UInt8) : (Tx.cs x).length = 1 := rfl
theorem Tx.one (x : List UInt8) : ∀ v ∈ Tx.cs x, v.oneCell' = true := fun v hv => by rw [List.mem_singleton.1 hv]; rfl
abbrev txs (l : List (List UInt8)) : List Value := flat Tx.cs l
theorem row_ptr' {H : List HProp} (i : Nat) {e : TypeId} {size k c : Nat} {p : Option Addr} {xs : List Value} (hi : H[i]? = some (row e size (.slice p k c) k xs)) {w : World} {F : HProp} (s : sat w (star (St H) F)) (h0 : k ≠ 0) : ∃ b, p = some ⟨b, 0, none⟩ := by
  rcases (row_shape i hi s).2 with ⟨_, h2, _⟩ | ⟨b, cap, h1, _⟩
  · exact absurd h2 h0
  · injection h1 with h1 _ _; exact ⟨b, h1⟩
end Go.Sx
namespace Go.Proofs.Ytigaolglnnjnmaa
open Go.Sx
set_option linter.unusedVariables false
set_option linter.unusedSimpArgs false
set_option maxRecDepth 100000
set_option maxHeartbeats 4000000

structure R.Good (r : R) : Prop where
  len : r.b.length ≤ 140737488355328
  pos : r.pos ≤ r.b.length
theorem R.good_take {r : R} (h : r.Good) (n : Int) : (r.take n).1.Good := ⟨by rw [take_b]; exact h.len, take_pos r n h.pos⟩
theorem R.good_get {r : R} (h : r.Good) (n : Nat) : (r.get n).1.Good := R.good_take h n
theorem R.good_refuse {r : R} (h : r.Good) (w k : Int) : (r.refuse w k).Good := by unfold R.refuse; split; exact ⟨h.len, h.pos⟩; exact h
theorem R.good_fail {r : R} (h : r.Good) (w : Int) : (r.fail w).Good := by unfold R.fail; split; exact h; exact R.good_refuse h _ _
theorem R.good_new (l : List UInt8) (h : l.length ≤ 140737488355328) : (R.new l).Good := ⟨h, Nat.zero_le _⟩
theorem R.good_ite {p : Prop} [Decidable p] {a b : R} (h1 : a.Good) (h2 : b.Good) : (if p then a else b).Good := by split; exact h1; exact h2
/-- a text that is not longer than most -/
def R.text (r : R) (most : Int) : R × List UInt8 :=
  (if (if 0 > most then 0 else most) < ((r.get 4).2 : Int) then (r.get 4).1.refuse 3 r.pos else (r.get 4).1).take ((r.get 4).2 : Nat)
theorem R.good_text {r : R} (h : r.Good) (n : Int) : (r.text n).1.Good := by
  unfold R.text; exact R.good_take (R.good_ite (R.good_refuse (R.good_get h 4) _ _) (R.good_get h 4)) _
theorem rText_spec (pr : Nat) (p : Option Addr) (c : Nat) (r : R) (hg : r.Good) (most : Int) (hm : -9223372036854775808 ≤ most ∧ most ≤ 9223372036854775807) :
    Tri Try.prog 62 [.pointer (some ⟨pr, 0, none⟩), .int .i64 most] (rd pr p c r) (fun v H' => v = .string (str (r.text most).2) ∧ H' = rd pr p c (r.text most).1) := by
  refine tri_of_wpS Try.func62 rfl Try.ntmps62 (by simp) ?_
  refine wp_seq' ?_
  refine wp_region' ?_
  refine ops_ro' rfl (ro_assign rfl) rfl ?_
  refine ops_nil ?_
  refine Then_normal ?_
  refine wp_seq' ?_
  refine wp_region' ?_
  refine ops_ro' rfl (ro_move rfl) rfl ?_
  refine ops_ro' rfl (ro_nilCheck rfl) rfl ?_
  refine ops_ro' rfl (ro_fieldAddr fa141_1 rfl) rfl ?_
  refine ops_ro' rfl (ro_load sc3 rfl (Rd.pick 0 rfl (Rd.own rfl))) rfl ?_
  refine ops_ro' rfl (ro_assign rfl) rfl ?_
  refine ops_nil ?_
  refine Then_normal ?_
  refine wp_seq' ?_
  refine wp_region' ?_
  refine ops_ro' rfl (ro_move rfl) rfl ?_
  refine ops_eff' rfl (eff_call Try.call94 rfl rfl (by repeat (first | exact Split.nil _ | apply Split.cons 0 rfl | apply Split.cons 1 rfl | apply Split.cons 2 rfl | apply Split.cons 3 rfl | apply Split.cons 4 rfl | apply Split.cons 5 rfl | apply Split.cons 6 rfl | apply Split.cons 7 rfl | apply Split.cons 8 rfl | apply Split.cons 9 rfl | apply Split.cons 10 rfl | apply Split.cons 11 rfl)) (get_spec pr p c r 4 (by omega) hg.len hg.pos)) rfl ?_
  rintro _ H' ⟨_, ⟨rfl, rfl⟩, hH⟩
  simp only [List.cons_append, List.nil_append, List.eraseIdx_cons_zero, List.eraseIdx_cons_succ, List.set_cons_zero, List.set_cons_succ] at hH
  subst hH
  have hlt := get_lt r 4
  simp only [Nat.reducePow] at hlt
  have hg1 := R.good_get hg 4
  refine ops_ro' rfl (ro_assign rfl) rfl ?_
  refine ops_nil ?_
  refine Then_normal ?_
  refine wp_cutK 1005 (fun Δ LL => ∃ (q : R), (q.Good ∧ q = (if (if 0 > most then 0 else most) < ((r.get 4).2 : Int) then (r.get 4).1.refuse 3 r.pos else (r.get 4).1)) ∧ Δ = [] ∧ LL = rd pr p c q) (Has.cons (k := 0) rfl (Has.cons (k := 6) rfl (Has.nil _))) ?_ ?_
  · refine wp_seq' ?_
    refine wp_region' ?_
    refine ops_ro' rfl (ro_move rfl) rfl ?_
    refine ops_ro' rfl (ro_move rfl) rfl ?_
    refine ops_ro' rfl (ro_max rfl rfl rfl) rfl ?_
    refine ops_ro' rfl (ro_conv Try.underlying3 Try.underlying52 rfl (wrap_u64_in (by split <;> omega) (by split <;> omega))) rfl ?_
    refine ops_ro' rfl (ro_gtr rfl rfl rfl) rfl ?_
    refine ops_nil ?_
    refine Then_normal ?_
    refine wp_cond' rfl (fun hc17 => ?_) (fun hc17 => ?_)
    · replace hc17 := of_decide_eq_true hc17
      refine wp_region' ?_
      refine ops_ro' rfl (ro_move rfl) rfl ?_
      refine ops_ro' rfl (ro_move rfl) rfl ?_
      refine ops_eff' rfl (eff_call Try.call95 rfl rfl (by repeat (first | exact Split.nil _ | apply Split.cons 0 rfl | apply Split.cons 1 rfl | apply Split.cons 2 rfl | apply Split.cons 3 rfl | apply Split.cons 4 rfl | apply Split.cons 5 rfl | apply Split.cons 6 rfl | apply Split.cons 7 rfl | apply Split.cons 8 rfl | apply Split.cons 9 rfl | apply Split.cons 10 rfl | apply Split.cons 11 rfl)) (refuse_spec pr p c (r.get 4).1 3 r.pos)) rfl ?_
      rintro _ H' ⟨_, ⟨rfl, rfl⟩, hH⟩
      simp only [List.cons_append, List.nil_append, List.eraseIdx_cons_zero, List.eraseIdx_cons_succ, List.set_cons_zero, List.set_cons_succ] at hH
      subst hH
      refine ops_nil ?_
      refine Then_normal ?_
      refine over_cut (kept ⟨_, ⟨R.good_refuse hg1 _ _, (if_pos hc17).symm⟩, rfl, rfl⟩ ?_ ?_ ?_)
      · exact (by repeat (first | exact Has.nil _ | refine Has.cons rfl ?_))
      · exact (by repeat (first | exact Has.nil _ | refine Has.cons rfl ?_))
      · exact SubH.refl _
    · replace hc17 := of_decide_eq_false hc17
      refine wp_skip' ?_
      refine Then_normal ?_
      refine over_cut (kept ⟨_, ⟨hg1, (if_neg hc17).symm⟩, rfl, rfl⟩ ?_ ?_ ?_)
      · exact (by repeat (first | exact Has.nil _ | refine Has.cons rfl ?_))
      · exact (by repeat (first | exact Has.nil _ | refine Has.cons rfl ?_))
      · exact SubH.refl _
  · rintro Δ LL ⟨q, ⟨hq, hqe⟩, rfl, rfl⟩
    simp only [List.cons_append, List.nil_append]
    refine wp_seq' ?_
    refine wp_region' ?_
    refine ops_ro' rfl (ro_move rfl) rfl ?_
    refine ops_ro' rfl (ro_move rfl) rfl ?_
    refine ops_ro' rfl (ro_conv Try.underlying52 Try.underlying3 rfl (wrap_natN (by omega))) rfl ?_
    refine ops_eff' rfl (eff_call Try.call96 rfl rfl (by repeat (first | exact Split.nil _ | apply Split.cons 0 rfl | apply Split.cons 1 rfl | apply Split.cons 2 rfl | apply Split.cons 3 rfl | apply Split.cons 4 rfl | apply Split.cons 5 rfl | apply Split.cons 6 rfl | apply Split.cons 7 rfl | apply Split.cons 8 rfl | apply Split.cons 9 rfl | apply Split.cons 10 rfl | apply Split.cons 11 rfl)) (take_spec pr p c q ((r.get 4).2 : Nat) hq.len hq.pos)) rfl ?_
    rintro _ H' ⟨_, ⟨A, ⟨p', c', rfl, hs, rfl⟩, rfl⟩, hH⟩
    simp only [List.cons_append, List.nil_append, List.eraseIdx_cons_zero, List.eraseIdx_cons_succ, List.set_cons_zero, List.set_cons_succ] at hH
    subst hH
    refine ops_ro' rfl (ro_toStr Try.underlying32 Try.underlying5 Try.underlying9 rfl (Vw.pick 0 rfl Vw.row) rfl) rfl ?_
    refine ops_ro' rfl (ro_assign rfl) rfl ?_
    refine ops_nil ?_
    refine Then_normal ?_
    refine wp_ret' ?_
    refine' doneS_ret (res1 rfl rfl) ?_ ?_
    rotate_left 1
    exact ⟨by unfold R.text; rw [← hqe], by unfold R.text; rw [← hqe]⟩
    exact (SubH.cons 1 rfl (SubH.cons 1 rfl (SubH.nil _)))

end Go.Proofs.Ytigaolglnnjnmaa
namespace Go.Proofs.Ytigaolglnnjnmaa
open Go.Sx
set_option linter.unusedVariables false
set_option linter.unusedSimpArgs false
set_option maxRecDepth 100000
set_option maxHeartbeats 4000000

theorem kHead (l : List UInt8) (n : Nat) : Tri Try.prog 25 [.string (str l), .int .i64 n] [] (fun v H' => v = .string (str (l.take n)) ∧ H' = []) := by
  refine tri_of_wpS Try.func25 rfl Try.ntmps25 (by simp) ?_
  refine wp_seq' ?_
  refine wp_region' ?_
  refine ops_ro' rfl (ro_assign rfl) rfl ?_
  refine ops_nil ?_
  refine Then_normal ?_
  refine wp_seq' ?_
  refine wp_seq' ?_
  refine wp_region' ?_
  refine ops_ro' rfl (ro_move rfl) rfl ?_
  refine ops_ro' rfl (ro_lenS (t' := 0) Try.underlying9 rfl) rfl ?_
  refine ops_ro' rfl (ro_move rfl) rfl ?_
  refine ops_ro' rfl (ro_gtr rfl rfl rfl) rfl ?_
  refine ops_nil ?_
  refine Then_normal ?_
  refine wp_cond' rfl (fun hc8 => ?_) (fun hc8 => ?_)
  · replace hc8 := of_decide_eq_true hc8
    refine wp_seq' ?_
    refine wp_region' ?_
    refine ops_ro' rfl (ro_move rfl) rfl ?_
    refine ops_ro' rfl (ro_move rfl) rfl ?_
    refine ops_ro' rfl (ro_sliceS Try.underlying9 rfl rfl (bnd_of rfl rfl) (by omega) (by omega)) rfl ?_
    refine ops_ro' rfl (ro_assign rfl) rfl ?_
    refine ops_nil ?_
    refine Then_normal ?_
    refine wp_ret' ?_
    refine Then_ret ?_
    refine' doneS_ret (res1 rfl rfl) ?_ ?_
    rotate_left 1
    exact ⟨by simp, rfl⟩
    exact SubH.refl _
  · replace hc8 := of_decide_eq_false hc8
    refine wp_skip' ?_
    refine Then_normal ?_
    refine wp_seq' ?_
    refine wp_region' ?_
    refine ops_ro' rfl (ro_move rfl) rfl ?_
    refine ops_ro' rfl (ro_assign rfl) rfl ?_
    refine ops_nil ?_
    refine Then_normal ?_
    refine wp_ret' ?_
    refine' doneS_ret (res1 rfl rfl) ?_ ?_
    rotate_left 1
    exact ⟨by rw [List.take_of_length_le (by omega)], rfl⟩
    exact SubH.refl _


theorem kCut (V : HProp) (p : Option Addr) (c : Nat) (l : List UInt8) (n : Nat) (hV : Vw V (.slice p l.length c) l.length (cel l)) (hc : l.length ≤ c) :
    Tri Try.prog 22 [.slice p l.length c, .int .i64 n] [V] (fun v H' => ∃ K, (∃ p' c', v = .slice p' (l.take n).length c' ∧ Vw V (.slice p' (l.take n).length c') (l.take n).length (cel (l.take n)) ∧ (l.take n).length ≤ c' ∧ K = []) ∧ H' = K ++ [V]) := by
  refine tri_of_wpS Try.func22 rfl Try.ntmps22 (by simp) ?_
  refine wp_seq' ?_
  refine wp_region' ?_
  refine ops_ro' rfl (ro_assign rfl) rfl ?_
  refine ops_nil ?_
  refine Then_normal ?_
  refine wp_seq' ?_
  refine wp_seq' ?_
  refine wp_region' ?_
  refine ops_ro' rfl (ro_move rfl) rfl ?_
  refine ops_ro' rfl (ro_sliceLen Try.underlying32 rfl) rfl ?_
  refine ops_ro' rfl (ro_move rfl) rfl ?_
  refine ops_ro' rfl (ro_gtr rfl rfl rfl) rfl ?_
  refine ops_nil ?_
  refine Then_normal ?_
  refine wp_cond' rfl (fun hc8 => ?_) (fun hc8 => ?_)
  · replace hc8 := of_decide_eq_true hc8
    refine wp_seq' ?_
    refine wp_region' ?_
    refine ops_ro' rfl (ro_move rfl) rfl ?_
    refine ops_ro' rfl (ro_move rfl) rfl ?_
    refine ops_eff' rfl (eff_sliceB 0 rfl sl32 rfl (hV) rfl (bnd_of rfl rfl) (by omega) (by omega) hc) rfl ?_
    rintro _ _ ⟨p11, rfl, hv11, hn11, rfl⟩
    refine ops_ro' rfl (ro_assign rfl) rfl ?_
    refine ops_nil ?_
    refine Then_normal ?_
    refine wp_ret' ?_
    refine Then_ret ?_
    refine' doneS_ret (res1 rfl rfl) ?_ ?_
    rotate_left 1
    exact ⟨_, ⟨p11, c, rfl, by simpa [St_cons, St_nil, star_emp] using hv11, by simp; omega, rfl⟩, rfl⟩
    exact SubH.refl _
  · replace hc8 := of_decide_eq_false hc8
    refine wp_skip' ?_
    refine Then_normal ?_
    refine wp_seq' ?_
    refine wp_region' ?_
    refine ops_ro' rfl (ro_move rfl) rfl ?_
    refine ops_ro' rfl (ro_assign rfl) rfl ?_
    refine ops_nil ?_
    refine Then_normal ?_
    refine wp_ret' ?_
    refine' doneS_ret (res1 rfl rfl) ?_ ?_
    rotate_left 1
    exact ⟨_, ⟨p, c, by rw [List.take_of_length_le (by omega)], by rw [List.take_of_length_le (by omega)]; exact hV, by rw [List.take_of_length_le (by omega)]; exact hc, rfl⟩, rfl⟩
    exact SubH.refl _


def few2 (l : List (List UInt8)) (most : Nat) : List (List UInt8) := l.map fun x => x.take most
end Go.Proofs.Ytigaolglnnjnmaa
namespace Go.Proofs.Ytigaolglnnjnmaa
open Go.Sx
set_option linter.unusedVariables false
set_option linter.unusedSimpArgs false
set_option maxRecDepth 100000
set_option maxHeartbeats 4000000

theorem text_at (pw : Nat) (p : Option Addr) (c : Nat) (l s : List UInt8) (hs : l.length + 4 + s.length ≤ 140737488355328) :
    Tri Try.prog 51 [.pointer (some ⟨pw, 0, none⟩), .string (str s)] (wr pw p c l) (fun r H' => ∃ p' c', r = .tuple #[] ∧ H' = wr pw p' c' (l ++ be s.length 4 ++ s)) := by
  have h := text_run pw p c l (str s) (by rw [str_size]; exact hs)
  rw [str_size] at h; exact h
theorem R.text_len (r : R) (n : Int) : (r.text n).2.length < 4294967296 := by
  have h1 := get_lt r 4
  have h2 := take_len (if (if 0 > n then 0 else n) < ((r.get 4).2 : Int) then (r.get 4).1.refuse 3 r.pos else (r.get 4).1) ((r.get 4).2 : Nat)
  have e : (r.text n).2.length ≤ ((((r.get 4).2 : Nat) : Int)).toNat := h2
  simp only [Nat.reducePow] at h1
  omega
theorem rByte_spec (pr : Nat) (p : Option Addr) (c : Nat) (r : R) (hg : r.Good) : Tri Try.prog 59 [.pointer (some ⟨pr, 0, none⟩)] (rd pr p c r) (fun v H' => v = .int .i64 (r.get 1).2 ∧ H' = rd pr p c (r.get 1).1) := by
  refine tri_of_wpS Try.func59 rfl Try.ntmps59 (by simp) ?_
  refine wp_seq' ?_
  refine wp_region' ?_
  refine ops_ro' rfl (ro_assign rfl) rfl ?_
  refine ops_nil ?_
  refine Then_normal ?_
  refine wp_seq' ?_
  refine wp_region' ?_
  refine ops_ro' rfl (ro_move rfl) rfl ?_
  refine ops_eff' rfl (eff_call Try.call94 rfl rfl (by repeat (first | exact Split.nil _ | apply Split.cons 0 rfl | apply Split.cons 1 rfl | apply Split.cons 2 rfl | apply Split.cons 3 rfl | apply Split.cons 4 rfl | apply Split.cons 5 rfl | apply Split.cons 6 rfl | apply Split.cons 7 rfl | apply Split.cons 8 rfl | apply Split.cons 9 rfl | apply Split.cons 10 rfl | apply Split.cons 11 rfl)) (get_spec pr p c r 1 (by omega) hg.len hg.pos)) rfl ?_
  rintro _ H' ⟨_, ⟨rfl, rfl⟩, hH⟩
  simp only [List.cons_append, List.nil_append, List.eraseIdx_cons_zero, List.eraseIdx_cons_succ, List.set_cons_zero, List.set_cons_succ] at hH
  subst hH
  have hlt := get_lt r 1
  simp only [Nat.reducePow] at hlt
  refine ops_ro' rfl (ro_conv Try.underlying52 Try.underlying3 rfl (wrap_natN (by omega))) rfl ?_
  refine ops_ro' rfl (ro_assign rfl) rfl ?_
  refine ops_nil ?_
  refine Then_normal ?_
  refine wp_ret' ?_
  refine' doneS_ret (res1 rfl rfl) ?_ ?_
  rotate_left 1
  exact ⟨rfl, rfl⟩
  exact SubH.refl _
/-- a number that is written wrongly -/
def badN : List UInt8 → Bool
  | [] => false
  | [b] => decide (128 ≤ b.toNat) || decide (b.toNat = 0)
  | b :: d :: _ => decide (128 ≤ b.toNat) || (decide (b.toNat = 0) && decide (d.toNat < 128))
def R.mp (r : R) (most : Int) : R × List UInt8 := if (r.text most).1.why ≠ 0 ∨ (r.text most).2 = [] then ((r.text most).1, []) else if badN (r.text most).2 = true then ((r.text most).1.refuse 12 r.pos, []) else ((r.text most).1, bare (r.text most).2)
end Go.Proofs.Ytigaolglnnjnmaa
