/-
  The logic of the Sx texts as the walker uses it: states up to what is let go, loops and cuts that keep the frame's slots, tests that are split.
-/
import Derived.Test.YtbbmhppkhcodfaaSxLock
namespace Go.Sx
set_option linter.unusedVariables false
/-- of these atoms, those: the others are let go -/
def SubH (H L : List HProp) : Prop := ∀ w F, sat w (star (St H) F) → sat w (star (St L) F)
theorem SubH.refl (H : List HProp) : SubH H H := fun _ _ s => s
theorem SubH.trans {H K L : List HProp} (h1 : SubH H K) (h2 : SubH K L) : SubH H L := fun w F s => h2 w F (h1 w F s)
theorem SubH.nil (H : List HProp) : SubH H [] := fun w F s => by rw [St_nil, emp_star]; exact sat_star_right s
theorem SubH.cons {H L : List HProp} (i : Nat) {A : HProp} (hi : H[i]? = some A) (h : SubH (H.eraseIdx i) L) : SubH H (A :: L) := fun w F s => by
  rw [perm_front hi] at s
  rw [St_cons, star_assoc]
  have h2 := h w (star A F) (by rw [star_left_comm]; exact s)
  rw [star_left_comm] at h2; exact h2
theorem SubH.append {H H' K L : List HProp} (h : SubH H K) (h' : SubH H' L) : SubH (H ++ H') (K ++ L) := fun w F s => by
  rw [St_append, star_assoc] at s ⊢
  have h2 := h w _ s
  rw [star_left_comm] at h2 ⊢
  exact h' w _ h2
/-- an atom is turned -/
theorem SubH.turn {H : List HProp} (i : Nat) {A B : HProp} (hi : H[i]? = some A) (h : ∀ w F, sat w (star A F) → sat w (star B F)) : SubH H (H.set i B) := fun w F s => by
  rw [perm_front hi] at s; rw [St_set hi, star_assoc]; exact h w _ s
theorem SubH.unfold {H : List HProp} (i : Nat) {A : HProp} {L : List HProp} (hi : H[i]? = some A) (h : ∀ w F, sat w (star A F) → sat w (star (St L) F)) : SubH H (L ++ H.eraseIdx i) := fun w F s => by
  rw [perm_front hi] at s; rw [St_append, star_assoc]; exact h w _ s
theorem wp_sub' {P : Program} {n : Nat} {c : Code} {Γ : Env} {H L : List HProp} {Q : Post} (hs : SubH H L) (h : Wp P n c Γ L Q) : Wp P n c Γ H Q := wp_heap hs h
theorem ops_sub' {P : Program} {n : Nat} {ops : Array Oper} {l : List Oper} {Γ : Env} {H L : List HProp} {Q : Post} (hs : SubH H L) (h : Ops P n ops l Γ L Q) : Ops P n ops l Γ H Q := ops_heap hs h
theorem any_sub' {P : Program} {n m fuel : Nat} {ops : Array Oper} {L0 : List HProp} {listed : Array Bool} {Γ : Env} {H L : List HProp} {Q : Post} (hs : SubH H L) (h : Any P n ops m L0 fuel listed Γ L Q) : Any P n ops m L0 fuel listed Γ H Q := any_heap hs h
theorem tri_sub {P : Program} {f : FuncId} {args : List Value} {H L : List HProp} {Ψ : Value → List HProp → Prop} (hs : SubH H L) (h : Tri P f args L Ψ) : Tri P f args H Ψ := fun w F s => h w F (hs w F s)

/-- What a function leaves, up to what is let go. -/
def DoneS (P : Program) (fn : Func) (n : Nat) (Ψ : Value → List HProp → Prop) : Post
  | .ret, Γ, H => ∃ v L, Res P fn n Γ H v ∧ Ψ v L ∧ SubH H L
  | .normal, Γ, H => ∃ v L, Res P fn n Γ H v ∧ Ψ v L ∧ SubH H L
  | _, _, _ => False
theorem lift_doneS {P : Program} {fn : Func} {n : Nat} {F : HProp} {Ψ : Value → List HProp → Prop} {e : Exit} {a : Act} {w : World} (h : Lift n F (DoneS P fn n Ψ) e a w) : (e = .ret ∨ e = .normal) ∧ a.defers = [] ∧ ∃ v L, (results fn a.tmps).run P w = .ok v w ∧ Ψ v L ∧ sat w (star (St L) F) := by
  obtain ⟨Γ', H', q, f', s'⟩ := h
  cases e with
  | ret => obtain ⟨v, L, hr, hp, hs⟩ := q; exact ⟨.inl rfl, f'.defers, v, L, hr _ _ F f' s', hp, hs _ _ s'⟩
  | normal => obtain ⟨v, L, hr, hp, hs⟩ := q; exact ⟨.inr rfl, f'.defers, v, L, hr _ _ F f' s', hp, hs _ _ s'⟩
  | exit _ => exact q.elim
  | goto _ => exact q.elim
  | panic _ => exact q.elim
  | outgrown => exact q.elim
theorem tri_of_wpS {P : Program} {f : FuncId} {fn : Func} {c : Code} {n : Nat} {args : List Value} {Pre : List HProp} {Ψ : Value → List HProp → Prop}
    (hf : P.funcs[f]? = some fn) (hb : fn.body = some c) (hn : fn.ntmps = n) (hl : args.length ≤ n)
    (h : Wp P n c (argEnv 0 args) Pre (DoneS P fn n Ψ)) : Tri P f args Pre Ψ := fun w F s => by
  refine calls_of_wp hf hb (wp_mono (h _ w F ⟨?_, rfl, ?_⟩ s) ?_)
  · simp; omega
  · intro i v hi
    obtain ⟨_, h2⟩ := get_argEnv args 0 i v hi
    have hlt : i < args.length := (List.getElem?_eq_some_iff.1 (by simpa using h2)).1
    simp only [Nat.sub_zero] at h2
    have h3 : args[i] = v := by simpa [List.getElem?_eq_getElem hlt] using h2
    simp [Array.getD_eq_getD_getElem?, Array.getElem?_append, hlt, h3]
  · rintro e a' w' q
    obtain ⟨he, hd, v, L, hr, hp, s'⟩ := lift_doneS q
    rcases he with rfl | rfl
    · exact ⟨hd, v, hr, v, L, rfl, hp, s'⟩
    · exact ⟨hd, v, hr, v, L, rfl, hp, s'⟩
section
variable {P : Program} {fn : Func} {n : Nat} {Γ : Env} {H L : List HProp} {Q : Post} {v : Value} {Ψ : Value → List HProp → Prop}
theorem doneS_ret (hr : Res P fn n Γ H v) (h : Ψ v L) (hs : SubH H L) : DoneS P fn n Ψ .ret Γ H := ⟨v, L, hr, h, hs⟩
theorem doneS_normal (hr : Res P fn n Γ H v) (h : Ψ v L) (hs : SubH H L) : DoneS P fn n Ψ .normal Γ H := ⟨v, L, hr, h, hs⟩

/-- a mark for the walker -/
def Tag (k : Nat) (p : Prop) : Prop := p
theorem get_append (Δ Δ' : Env) (i : Nat) (v : Value) : get (Δ ++ Δ') i = some v → get Δ i = some v ∨ get Δ' i = some v := by
  induction Δ with
  | nil => exact .inr
  | cons x t ih =>
    obtain ⟨k, u⟩ := x
    intro h
    simp only [List.cons_append, get] at h ⊢
    cases hb : Nat.beq k i with
    | true => rw [hb] at h; exact .inl h
    | false => rw [hb] at h; exact ih h
theorem Has.append {Δ Δ' : Env} (h1 : Has Γ Δ) (h2 : Has Γ Δ') : Has Γ (Δ ++ Δ') := fun i v h => (get_append Δ Δ' i v h).elim (h1 i v) (h2 i v)
theorem Has.trans {Γ Δ E : Env} (h1 : Has Γ Δ) (h2 : Has Δ E) : Has Γ E := fun i v h => h1 i v (h2 i v h)
/-- What a loop's head, a cut, keeps: the slots that turn (Δ), those that stay (K), the atoms. -/
def Kept (J : Env → List HProp → Prop) (K Γ : Env) (H : List HProp) : Prop := ∃ Δ L, J Δ L ∧ Has Γ Δ ∧ Has Γ K ∧ SubH H L
theorem wp_loopK {c : Code} (k : Nat) (J : Nat → Env → List HProp → Prop) {m : Nat} {K : Env} (hk : Has Γ K) (h0 : Kept (J m) K Γ H)
    (round : ∀ m Δ L, J m Δ L → Wp P n c (Δ ++ K) L (Then (fun Γ' H' => Tag k (∃ m', m' < m ∧ Kept (J m') K Γ' H')) Q)) : Wp P n (.loop c) Γ H Q := by
  refine wp_loop' (fun m Γ H => Kept (J m) K Γ H) h0 ?_
  rintro m Γ H ⟨Δ, L, hJ, h1, h2, h3⟩
  exact wp_has (Has.append h1 h2) (wp_heap h3 (round m Δ L hJ))
theorem wp_cutK {x y : Code} (k : Nat) (J : Env → List HProp → Prop) {K : Env} (hk : Has Γ K) (h1 : Wp P n x Γ H (Then (fun Γ' H' => Tag k (Kept J K Γ' H')) Q))
    (h2 : ∀ Δ L, J Δ L → Wp P n y (Δ ++ K) L Q) : Wp P n (.seq x y) Γ H Q := by
  refine wp_cut (fun Γ H => Kept J K Γ H) h1 ?_
  rintro Γ H ⟨Δ, L, hJ, h1, h2', h3⟩
  exact wp_has (Has.append h1 h2') (wp_heap h3 (h2 Δ L hJ))
theorem wp_againK {x : Code} {lab : Nat} (k : Nat) (J : Nat → Env → List HProp → Prop) {m : Nat} {K : Env} (hk : Has Γ K) (h0 : Kept (J m) K Γ H)
    (pass : ∀ m Δ L, J m Δ L → Wp P n x (Δ ++ K) L (Jump lab (fun Γ' H' => Tag k (∃ m', m' < m ∧ Kept (J m') K Γ' H')) Q)) : Wp P n (.scope (.seq (.label lab) x)) Γ H Q := by
  refine wp_again (fun m Γ H => Kept (J m) K Γ H) h0 ?_
  rintro m Γ H ⟨Δ, L, hJ, h1, h2, h3⟩
  exact wp_has (Has.append h1 h2) (wp_heap h3 (pass m Δ L hJ))
theorem kept {J : Env → List HProp → Prop} {K : Env} {Δ : Env} {L : List HProp} (hJ : J Δ L) (h1 : Has Γ Δ) (h2 : Has Γ K) (h3 : SubH H L) : Kept J K Γ H := ⟨Δ, L, hJ, h1, h2, h3⟩
theorem back {k m : Nat} {J : Nat → Env → List HProp → Prop} {K : Env} (m' : Nat) (h : m' < m) (hk : Kept (J m') K Γ H) : Tag k (∃ m', m' < m ∧ Kept (J m') K Γ H) := ⟨m', h, hk⟩
theorem over_cut {k : Nat} {J : Env → List HProp → Prop} {K : Env} (hk : Kept J K Γ H) : Tag k (Kept J K Γ H) := hk
/-- a test that later operations hang on is split -/
theorem ops_split {ops : Array Oper} {l : List Oper} {d : Tmp} {x : Operand} {ty : TypeId} {pos : String} {aft : Array Edge} {g : Option (Nat × Bool)} {b : Bool} (hw : wnt Γ ops ⟨some d, .move x, ty, pos, aft, g⟩ = some true) (hx : ev Γ x = some (.bool b)) (hd : Nat.blt d n = true)
    (ht : b = true → Ops P n ops l ((d, .bool true) :: Γ) H Q) (hf : b = false → Ops P n ops l ((d, .bool false) :: Γ) H Q) : Ops P n ops (⟨some d, .move x, ty, pos, aft, g⟩ :: l) Γ H Q := by
  refine ops_ro' hw (ro_move hx) hd ?_
  cases b
  · exact hf rfl
  · exact ht rfl
theorem any_split {ops : Array Oper} {m fuel : Nat} {L0 : List HProp} {listed : Array Bool} {d : Tmp} {x : Operand} {ty : TypeId} {pos : String} {aft : Array Edge} {g : Option (Nat × Bool)} {b : Bool} {i : Nat} (hb : takeB ops m listed i = true) (hi : ops[i]? = some ⟨some d, .move x, ty, pos, aft, g⟩) (hw : wnt Γ ops ⟨some d, .move x, ty, pos, aft, g⟩ = some true) (hx : ev Γ x = some (.bool b)) (hd : Nat.blt d n = true)
    (hQ : ∀ Γ H c, ¬ Q (.panic c) Γ H) (ht : b = true → Any P n ops m L0 fuel (listed.setIfInBounds i true) ((d, .bool true) :: Γ) H Q) (hf : b = false → Any P n ops m L0 fuel (listed.setIfInBounds i true) ((d, .bool false) :: Γ) H Q) : Any P n ops m L0 (fuel + 1) listed Γ H Q := by
  refine any_ro' hb hi hw (ro_move hx) hd hQ ?_
  cases b
  · exact hf rfl
  · exact ht rfl
end
/-! ### Whole numbers, in the forms that walks want -/
theorem wrap_inc {k : Nat} (h : k + 1 < 9223372036854775808) : IntKind.i64.wrap ((k : Int) + 1) = ((k + 1 : Nat) : Int) := by rw [wrap_i64_in (by omega) (by omega)]; omega
theorem wrap_dec {k : Nat} (h : 0 < k) (h2 : k < 9223372036854775808) : IntKind.i64.wrap ((k : Int) - 1) = ((k - 1 : Nat) : Int) := by rw [wrap_i64_in (by omega) (by omega)]; omega
theorem wrap_addN {a b : Nat} (h : a + b < 9223372036854775808) : IntKind.i64.wrap ((a : Int) + (b : Int)) = ((a + b : Nat) : Int) := by rw [wrap_i64_in (by omega) (by omega)]; omega
theorem wrap_subN {a b : Nat} (h : b ≤ a) (h2 : a < 9223372036854775808) : IntKind.i64.wrap ((a : Int) - (b : Int)) = ((a - b : Nat) : Int) := by rw [wrap_i64_in (by omega) (by omega)]; omega
theorem wrap_natN {a : Nat} (h : a < 9223372036854775808) : IntKind.i64.wrap (a : Int) = (a : Int) := wrap_i64_in (by omega) (by omega)
theorem tmodN {a b : Nat} : ((a : Int)).tmod (b : Int) = ((a % b : Nat) : Int) := by rw [Int.tmod_eq_emod_of_nonneg (by omega)]; rfl
theorem tdivN {a b : Nat} : ((a : Int)).tdiv (b : Int) = ((a / b : Nat) : Int) := by rw [Int.tdiv_eq_ediv_of_nonneg (by omega)]; rfl
/-- sum of atoms over a list -/
def bigS {α : Type} (f : α → HProp) : List α → HProp
  | [] => emp
  | x :: l => star (f x) (bigS f l)
theorem bigS_append {α : Type} (f : α → HProp) : ∀ l m, bigS f (l ++ m) = star (bigS f l) (bigS f m)
  | [], m => (emp_star _).symm
  | x :: l, m => by simp only [List.cons_append, bigS, bigS_append f l m, star_assoc]
theorem bigS_pick {α : Type} (f : α → HProp) {l : List α} {i : Nat} {x : α} (h : l[i]? = some x) : bigS f l = star (f x) (bigS f (l.eraseIdx i)) := by
  induction l generalizing i with
  | nil => cases h
  | cons y l ih =>
    cases i with
    | zero => simp at h; subst h; rfl
    | succ i => simp at h; rw [List.eraseIdx_cons_succ]; simp only [bigS]; rw [ih h, star_left_comm]
theorem bigS_set {α : Type} (f : α → HProp) {l : List α} {i : Nat} {x y : α} (h : l[i]? = some x) : bigS f (l.set i y) = star (f y) (bigS f (l.eraseIdx i)) := by
  induction l generalizing i with
  | nil => cases h
  | cons z l ih =>
    cases i with
    | zero => rfl
    | succ i => simp at h; rw [List.set_cons_succ, List.eraseIdx_cons_succ]; simp only [bigS]; rw [ih h, star_left_comm]
theorem bigS_congr {α : Type} {f g : α → HProp} : ∀ {l : List α}, (∀ x ∈ l, f x = g x) → bigS f l = bigS g l
  | [], _ => rfl
  | x :: l, h => by simp only [bigS]; rw [h x List.mem_cons_self, bigS_congr fun y hy => h y (List.mem_cons_of_mem _ hy)]
end Go.Sx
