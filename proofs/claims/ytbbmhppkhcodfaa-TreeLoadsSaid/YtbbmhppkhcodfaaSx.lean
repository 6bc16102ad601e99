/-
  A separation logic over the model's worlds, for walks: heaps in part, atoms, states as lists of atoms; rules for operations, regions that draw their order, code, calls. No program in sight.
-/
import Derived.WalkKit
import Derived.OrdersHeld
import Derived.Scope
import Derived.ScopeJumps
namespace Go.Sx
set_option linter.unusedVariables false
set_option linter.unusedSimpArgs false
set_option linter.unusedSectionVars false

/-! ### Partial heaps -/
/-- block ↦ (may it be written?, what lies there) -/
abbrev Hp := Nat → Option (Bool × Obj)
def Hp.none : Hp := fun _ => Option.none
def Hp.sep (g h : Hp) : Prop := ∀ b x y, g b = some x → h b = some y → x = y ∧ x.1 = false
def Hp.join (g h : Hp) : Hp := fun b => match g b with | some x => some x | Option.none => h b

theorem Hp.sep_comm {g h : Hp} (s : Hp.sep g h) : Hp.sep h g := fun b x y hx hy => by
  obtain ⟨e, f⟩ := s b y x hy hx; subst e; exact ⟨rfl, f⟩
theorem Hp.join_comm {g h : Hp} (s : Hp.sep g h) : Hp.join g h = Hp.join h g := by
  funext b; unfold Hp.join
  cases hg : g b with
  | none => cases hh : h b <;> rfl
  | some x => cases hh : h b with
    | none => rfl
    | some y => rw [(s b x y hg hh).1]
theorem Hp.join_assoc (f g h : Hp) : Hp.join (Hp.join f g) h = Hp.join f (Hp.join g h) := by
  funext b; unfold Hp.join; cases f b <;> rfl
theorem Hp.join_none (h : Hp) : Hp.join h Hp.none = h := by
  funext b; unfold Hp.join Hp.none; cases h b <;> rfl
theorem Hp.none_join (h : Hp) : Hp.join Hp.none h = h := rfl
theorem Hp.sep_none (h : Hp) : Hp.sep h Hp.none := fun b x y _ hy => by cases hy
theorem Hp.sep_join {f g h : Hp} : Hp.sep (Hp.join f g) h ↔ (Hp.sep f h ∧ Hp.sep (fun b => match f b with | some _ => Option.none | _ => g b) h) := by
  constructor
  · intro s
    refine ⟨fun b x y hx hy => s b x y (by simp [Hp.join, hx]) hy, fun b x y hx hy => s b x y ?_ hy⟩
    unfold Hp.join; cases hf : f b <;> simp_all
  · rintro ⟨s1, s2⟩ b x y hx hy
    cases hf : f b with
    | some z => simp only [Hp.join, hf] at hx; exact s1 b x y (hf.trans hx) hy
    | none => simp only [Hp.join, hf] at hx; exact s2 b x y (by simp [hf, hx]) hy
theorem Hp.sep_of_join_left {f g h : Hp} (s : Hp.sep (Hp.join f g) h) : Hp.sep f h := fun b x y hx hy => s b x y (by simp [Hp.join, hx]) hy
theorem Hp.sep_of_join_right {f g h : Hp} (s0 : Hp.sep f g) (s : Hp.sep (Hp.join f g) h) : Hp.sep g h :=
  Hp.sep_of_join_left (Hp.join_comm s0 ▸ s)
theorem Hp.sep_join_mk {f g h : Hp} (s1 : Hp.sep f h) (s2 : Hp.sep g h) : Hp.sep (Hp.join f g) h := fun b x y hx hy => by
  cases hf : f b with
  | some z => simp only [Hp.join, hf] at hx; exact s1 b x y (hf.trans hx) hy
  | none => simp only [Hp.join, hf] at hx; exact s2 b x y hx hy

/-- what no walk turns: the outside world, the output -/
abbrev Cx := Os × Array (Nat × ByteArray)
def cx (w : World) : Cx := (w.os, w.output)
abbrev HProp := Cx → Hp → Prop
def emp : HProp := fun _ h => h = Hp.none
def star (A B : HProp) : HProp := fun c h => ∃ g k, Hp.sep g k ∧ h = Hp.join g k ∧ A c g ∧ B c k

theorem star_comm (A B : HProp) : star A B = star B A := by
  funext c h; apply propext; constructor <;>
  · rintro ⟨g, k, s, rfl, ha, hb⟩; exact ⟨k, g, Hp.sep_comm s, Hp.join_comm s, hb, ha⟩
theorem star_assoc (A B C : HProp) : star (star A B) C = star A (star B C) := by
  funext c h; apply propext; constructor
  · rintro ⟨_, k, s, rfl, ⟨f, g, s0, rfl, ha, hb⟩, hc⟩
    refine ⟨f, Hp.join g k, ?_, Hp.join_assoc _ _ _, ha, g, k, Hp.sep_of_join_right s0 s, rfl, hb, hc⟩
    exact Hp.sep_comm (Hp.sep_join_mk (Hp.sep_comm s0) (Hp.sep_comm (Hp.sep_of_join_left s)))
  · rintro ⟨f, _, s, rfl, ha, g, k, s0, rfl, hb, hc⟩
    have s1 : Hp.sep f g := Hp.sep_comm (Hp.sep_of_join_left (Hp.sep_comm s))
    have s2 : Hp.sep f k := Hp.sep_comm (Hp.sep_of_join_right s0 (Hp.sep_comm s))
    exact ⟨Hp.join f g, k, Hp.sep_join_mk s2 s0, (Hp.join_assoc _ _ _).symm, ⟨f, g, s1, rfl, ha, hb⟩, hc⟩
theorem star_left_comm (A B C : HProp) : star A (star B C) = star B (star A C) := by
  rw [← star_assoc, star_comm A B, star_assoc]
theorem star_emp (A : HProp) : star A emp = A := by
  funext c h; apply propext; constructor
  · rintro ⟨g, k, s, rfl, ha, hk⟩; subst hk; rwa [Hp.join_none]
  · intro ha; exact ⟨h, Hp.none, Hp.sep_none h, (Hp.join_none h).symm, ha, rfl⟩
theorem emp_star (A : HProp) : star emp A = A := by rw [star_comm, star_emp]

/-- A state: atoms side by side. -/
def St : List HProp → HProp
  | [] => emp
  | A :: L => star A (St L)
theorem St_nil : St [] = emp := rfl
theorem St_cons (A : HProp) (L : List HProp) : St (A :: L) = star A (St L) := rfl
theorem St_append : ∀ (L M : List HProp), St (L ++ M) = star (St L) (St M)
  | [], M => (emp_star _).symm
  | A :: L, M => by simp only [List.cons_append, St_cons, St_append L M, star_assoc]
theorem St_perm {L M : List HProp} (h : L.Perm M) : St L = St M := by
  induction h with
  | nil => rfl
  | cons A _ ih => simp only [St_cons, ih]
  | swap A B L => simp only [St_cons]; rw [star_left_comm]
  | trans _ _ i1 i2 => exact i1.trans i2
theorem St_pick {L : List HProp} {i : Nat} {A : HProp} (h : L[i]? = some A) : St L = star A (St (L.eraseIdx i)) := by
  induction L generalizing i with
  | nil => cases h
  | cons B L ih =>
    cases i with
    | zero => simp at h; subst h; rfl
    | succ i => simp at h; rw [St_cons, ih h, List.eraseIdx_cons_succ, St_cons, star_left_comm]

theorem St_set {L : List HProp} {i : Nat} {A B : HProp} (h : L[i]? = some A) : St (L.set i B) = star B (St (L.eraseIdx i)) := by
  induction L generalizing i with
  | nil => cases h
  | cons C L ih =>
    cases i with
    | zero => rfl
    | succ i => simp at h; rw [List.set_cons_succ, St_cons, ih h, List.eraseIdx_cons_succ, St_cons, star_left_comm]

/-! ### Worlds -/
def fits (w : World) (h : Hp) : Prop := ∀ b x, h b = some x → w.heap[b]? = some x.2
def sat (w : World) (A : HProp) : Prop := ∃ h, A (cx w) h ∧ fits w h
theorem sat_mono {w : World} {A B : HProp} (h : ∀ c k, A c k → B c k) (s : sat w A) : sat w B := let ⟨k, hk, f⟩ := s; ⟨k, h _ k hk, f⟩
theorem sat_star_left {w : World} {A B : HProp} (s : sat w (star A B)) : sat w A := by
  obtain ⟨_, ⟨g, k, sp, rfl, ha, hb⟩, f⟩ := s
  exact ⟨g, ha, fun b x hx => f b x (by simp [Hp.join, hx])⟩
theorem sat_star_right {w : World} {A B : HProp} (s : sat w (star A B)) : sat w B := sat_star_left (star_comm A B ▸ s)
theorem sat_star_mono {w : World} {A B C D : HProp} (h1 : ∀ c h, A c h → C c h) (h2 : ∀ c h, B c h → D c h) (s : sat w (star A B)) : sat w (star C D) :=
  sat_mono (fun c h ⟨g, k, sp, e, ha, hb⟩ => ⟨g, k, sp, e, h1 c g ha, h2 c k hb⟩) s
theorem fits_heap {w w' : World} (h : w'.heap = w.heap) {k : Hp} : fits w k → fits w' k := fun f b x hx => by rw [h]; exact f b x hx
theorem sat_heap {w w' : World} (h : w'.heap = w.heap) (hc : cx w' = cx w) {A : HProp} (s : sat w A) : sat w' A := let ⟨k, hk, f⟩ := s; ⟨k, hc ▸ hk, fits_heap h f⟩

/-- The general turn of a state: the first part is given up; what it owned, and what is new, may have changed. -/
theorem sat_turn {w w' : World} {A A' R : HProp} (hc : cx w' = cx w) (s : sat w (star A R))
    (h : ∀ g, A (cx w) g → fits w g → ∃ g', A' (cx w) g' ∧ fits w' g' ∧
      (∀ b x, g' b = some x → (∃ o, g b = some (true, o)) ∨ w.heap.size ≤ b ∨ (g b = some x ∧ x.1 = false)) ∧
      (∀ b, b < w.heap.size → (∀ o, g b ≠ some (true, o)) → w'.heap[b]? = w.heap[b]?)) : sat w' (star A' R) := by
  obtain ⟨_, ⟨g, k, sp, rfl, ha, hr⟩, f⟩ := s
  have fk : fits w k := fun b x hx => f b x (by
    unfold Hp.join
    cases hg : g b with
    | none => exact hx
    | some y => rw [(sp b y x hg hx).1])
  obtain ⟨g', ha', f', hd, hk⟩ := h g ha (fun b x hx => f b x (by simp [Hp.join, hx]))
  have lt : ∀ b x, k b = some x → b < w.heap.size := fun b x hx => (Array.getElem?_eq_some_iff.1 (fk b x hx)).1
  refine ⟨Hp.join g' k, ⟨g', k, ?_, rfl, hc ▸ ha', hc ▸ hr⟩, ?_⟩
  · intro b x y hx hy
    rcases hd b x hx with ⟨o, ho⟩ | hn | ⟨hg, hx1⟩
    · have := (sp b _ y ho hy).2; simp at this
    · have := lt b y hy; omega
    · exact sp b x y hg hy
  · intro b x hx
    cases hg' : g' b with
    | some z => simp only [Hp.join, hg'] at hx; injection hx with hx; subst hx; exact f' b z hg'
    | none =>
      simp only [Hp.join, hg'] at hx
      rw [hk b (lt b x hx)]
      · exact fk b x hx
      · intro o ho; have := (sp b _ x ho hx).2; simp at this

/-! ### Atoms -/
def single (b : Nat) (o : Obj) : Hp := fun b' => if b' = b then some (true, o) else Option.none
def own (b : Nat) (o : Obj) : HProp := fun _ h => h = single b o
/-- The whole of an elder world, not to be written. -/
def roH (w0 : World) : Hp := fun b => (w0.heap[b]?).map fun o => (false, o)
def ro (w0 : World) : HProp := fun c h => c = cx w0 ∧ h = roH w0
/-- A fact, as an atom without memory. -/
def pur (p : Prop) : HProp := fun _ h => h = Hp.none ∧ p
def ex {α : Type} (A : α → HProp) : HProp := fun c h => ∃ x, A x c h

theorem ro_dup (w0 : World) : star (ro w0) (ro w0) = ro w0 := by
  funext c h; apply propext
  have sp : Hp.sep (roH w0) (roH w0) := fun b x y hx hy => by
    rw [hx] at hy; injection hy with hy
    refine ⟨hy, ?_⟩
    unfold roH at hx
    cases hb : w0.heap[b]? with
    | none => simp [hb] at hx
    | some o => simp [hb] at hx; rw [← hx]
  have jn : Hp.join (roH w0) (roH w0) = roH w0 := by
    funext b; simp only [Hp.join, roH]; cases w0.heap[b]? <;> rfl
  constructor
  · rintro ⟨g, k, _, rfl, ⟨hc, hg⟩, _, hk⟩; rw [hg, hk]; exact ⟨hc, jn⟩
  · rintro ⟨hc, hh⟩; exact ⟨h, h, by rw [hh]; exact sp, by rw [hh]; exact jn.symm, ⟨hc, hh⟩, hc, hh⟩
theorem sat_ro {w0 w : World} (s : sat w (ro w0)) (b : Nat) (o : Obj) (h : w0.heap[b]? = some o) : w.heap[b]? = some o := by
  obtain ⟨k, ⟨_, hk⟩, f⟩ := s; rw [hk] at f; exact f b (false, o) (by simp [roH, h])
theorem sat_ro_cx {w0 w : World} (s : sat w (ro w0)) : w.os = w0.os ∧ w.output = w0.output := by
  obtain ⟨k, ⟨hc, _⟩, f⟩ := s
  unfold cx at hc
  exact ⟨congrArg Prod.fst hc, congrArg Prod.snd hc⟩
theorem sat_ro_init (w : World) : sat w (ro w) := ⟨_, ⟨rfl, rfl⟩, fun b x hx => by
  unfold roH at hx
  cases hb : w.heap[b]? with
  | none => simp [hb] at hx
  | some o => simp [hb] at hx; rw [← hx]⟩
theorem sat_own {w : World} {b : Nat} {o : Obj} (s : sat w (own b o)) : w.heap[b]? = some o := by
  obtain ⟨k, hk, f⟩ := s; rw [hk] at f; exact f b (true, o) (by simp [single])
theorem star_pur (p : Prop) (R : HProp) {w : World} : sat w (star (pur p) R) ↔ p ∧ sat w R := by
  constructor
  · rintro ⟨_, ⟨g, k, sp, rfl, ⟨rfl, hp⟩, hr⟩, f⟩; exact ⟨hp, k, hr, fun b x hx => f b x hx⟩
  · rintro ⟨hp, k, hr, f⟩; exact ⟨k, ⟨Hp.none, k, Hp.sep_comm (Hp.sep_none k), rfl, ⟨rfl, hp⟩, hr⟩, f⟩
theorem star_ex {α : Type} (A : α → HProp) (R : HProp) {w : World} : sat w (star (ex A) R) ↔ ∃ x, sat w (star (A x) R) := by
  constructor
  · rintro ⟨h, ⟨g, k, sp, e, ⟨x, hx⟩, hr⟩, f⟩; exact ⟨x, h, ⟨g, k, sp, e, hx, hr⟩, f⟩
  · rintro ⟨x, h, ⟨g, k, sp, e, hx, hr⟩, f⟩; exact ⟨h, ⟨g, k, sp, e, ⟨x, hx⟩, hr⟩, f⟩

theorem single_self (b : Nat) (o : Obj) : single b o b = some (true, o) := by simp [single]
theorem single_ne {b k : Nat} (o : Obj) (h : k ≠ b) : single b o k = Option.none := by simp [single, h]
theorem single_inv {b k : Nat} {o : Obj} {x : Bool × Obj} (h : single b o k = some x) : k = b ∧ x = (true, o) := by
  by_cases e : k = b
  · subst e; rw [single_self] at h; exact ⟨rfl, (Option.some.inj h).symm⟩
  · rw [single_ne o e] at h; cases h
/-- A block of the state's own is written. -/
theorem sat_set {w w' : World} {b : Nat} {o o' : Obj} {R : HProp} (hc : cx w' = cx w) (s : sat w (star (own b o) R)) (hb : w'.heap[b]? = some o')
    (hk : ∀ k, k ≠ b → w'.heap[k]? = w.heap[k]?) : sat w' (star (own b o') R) :=
  sat_turn hc s fun g hg fg => by
    subst hg
    refine ⟨_, rfl, ?_, ?_, ?_⟩
    · intro k x hx; obtain ⟨rfl, rfl⟩ := single_inv hx; exact hb
    · intro k x hx; obtain ⟨rfl, rfl⟩ := single_inv hx; exact .inl ⟨o, single_self _ _⟩
    · intro k _ hn; exact hk k fun e => hn o (by subst e; exact single_self _ _)
/-- A new block. -/
theorem sat_alloc {w w' : World} {o : Obj} {R : HProp} (hc : cx w' = cx w) (s : sat w R) (h : w'.heap = w.heap.push o) : sat w' (star (own w.heap.size o) R) := by
  rw [← emp_star R] at s
  refine sat_turn hc s fun g hg fg => ?_
  subst hg
  refine ⟨_, rfl, ?_, ?_, ?_⟩
  · intro k x hx; obtain ⟨rfl, rfl⟩ := single_inv hx; simp [h]
  · intro k x hx; obtain ⟨rfl, rfl⟩ := single_inv hx; exact .inr (.inl (Nat.le_refl _))
  · intro k hk _; rw [h, Array.getElem?_push, if_neg (by omega)]

/-! ### Frames -/
abbrev Env := List (Nat × Value)
theorem beq_ne {d i : Nat} (e : ¬ d = i) : Nat.beq d i = false := by
  cases h : Nat.beq d i with
  | false => rfl
  | true => exact absurd (Nat.eq_of_beq_eq_true h) e
def get : Env → Nat → Option Value
  | [], _ => Option.none
  | (j, v) :: t, i => bif Nat.beq j i then some v else get t i
structure Fits (n : Nat) (Γ : Env) (a : Act) : Prop where
  size : a.tmps.size = n
  defers : a.defers = []
  read : ∀ i v, get Γ i = some v → a.tmps.getD i undef = v
def ev (Γ : Env) : Operand → Option Value
  | .tmp t => get Γ t
  | .const v => some v
  | .global g => some (.pointer (some ⟨g, 0, Option.none⟩))
  | .func f => some (.func (.func f) #[] #[])
def evs (Γ : Env) : List Operand → Option (List Value)
  | [] => some []
  | x :: l => match ev Γ x, evs Γ l with
    | some v, some vs => some (v :: vs)
    | _, _ => Option.none
theorem Fits.ev {n : Nat} {Γ : Env} {a : Act} (h : Fits n Γ a) {x : Operand} {v : Value} (hx : ev Γ x = some v) : a.eval x = v := by
  cases x with
  | tmp t => exact h.read t v hx
  | const u => simpa [Sx.ev, Act.eval] using hx
  | global g => simpa [Sx.ev, Act.eval] using hx
  | func f => simpa [Sx.ev, Act.eval] using hx
theorem Fits.evs {n : Nat} {Γ : Env} {a : Act} (h : Fits n Γ a) : ∀ {l : List Operand} {vs : List Value}, evs Γ l = some vs → l.map a.eval = vs
  | [], vs, hv => by simpa [Sx.evs] using hv
  | x :: l, vs, hv => by
    simp only [Sx.evs] at hv
    cases h1 : Sx.ev Γ x with
    | none => simp [h1] at hv
    | some v => cases h2 : Sx.evs Γ l with
      | none => simp [h1, h2] at hv
      | some us => simp [h1, h2] at hv; subst hv; simp [h.ev h1, h.evs h2]
/-- Slot d holds v from here on. -/
def pt (Γ : Env) (d : Option Tmp) (v : Value) : Env := match d with | some d => (d, v) :: Γ | Option.none => Γ
def okDst (n : Nat) (d : Option Tmp) : Bool := match d with | some d => Nat.blt d n | Option.none => true
theorem Fits.put {n : Nat} {Γ : Env} {a : Act} (h : Fits n Γ a) {d : Option Tmp} (hd : okDst n d = true) (v : Value) : Fits n (pt Γ d v) (a.put d v) := by
  cases d with
  | none => exact h
  | some d =>
    have hlt : d < n := by simpa [okDst, Nat.blt_eq] using hd
    refine ⟨by simp [Act.put, h.size], h.defers, fun i u hu => ?_⟩
    simp only [pt, get] at hu
    by_cases e : d = i
    · subst e; simp at hu; subst hu; simp [Act.put, h.size, hlt]
    · have hb : Nat.beq d i = false := beq_ne e
      rw [hb] at hu
      have := h.read i u (by simpa using hu)
      rw [← this]
      simp [Act.put, Array.getElem?_setIfInBounds_ne e]
/-- Is the operation carried out? -/
def wnt (Γ : Env) (ops : Array Oper) (o : Oper) : Option Bool :=
  match o.guard with
  | Option.none => some true
  | some (j, want) => match (ops[j]?).bind (·.dst) with
    | some t => match get Γ t with
      | some (.bool b) => some (b == want)
      | some _ => some false
      | Option.none => Option.none
    | Option.none => some false
theorem wanted_of {n : Nat} {Γ : Env} {a : Act} (h : Fits n Γ a) {ops : Array Oper} {o : Oper} {t : Bool} (hw : wnt Γ ops o = some t) :
    Region.wanted o (yielded ops a.tmps) = t := by
  unfold wnt at hw; unfold Region.wanted
  cases hg : o.guard with
  | none => simpa [hg] using hw
  | some jw =>
    obtain ⟨j, want⟩ := jw
    simp only [hg] at hw ⊢
    unfold yielded
    cases ht : (ops[j]?).bind (·.dst) with
    | none => simp only [ht] at hw ⊢; simpa using hw
    | some s =>
      simp only [ht] at hw ⊢
      cases hs : get Γ s with
      | none => simp [hs] at hw
      | some v =>
        have hr := h.read s v hs
        have cases' : (a.tmps[s]? = some v) ∨ v = undef := by
          cases e : a.tmps[s]? with
          | none => right; simpa [Array.getD_eq_getD_getElem?, e] using hr.symm
          | some u => left; simp [Array.getD_eq_getD_getElem?, e] at hr; rw [hr]
        rw [hs] at hw
        rcases cases' with e | e
        · simp only [Option.bind_some, e]
          cases v <;> simp_all
        · subst e
          simp only [undef] at hw
          have : t = false := by simpa using hw.symm
          subst this
          cases e2 : a.tmps[s]? with
          | none => simp [e2]
          | some u =>
            simp [Array.getD_eq_getD_getElem?, e2] at hr
            subst hr; simp [e2, undef]

/-! ### Operations -/
/-- It only reads: its value is v in every world that holds L. -/
def RO (P : Program) (n : Nat) (L : HProp) (Γ : Env) (o : Oper) (v : Value) : Prop :=
  ∀ a w R, Fits n Γ a → sat w (star L R) → (execOp a.eval o).run P w = .ok (.value v) w
/-- It acts on H. -/
def EFF (P : Program) (n : Nat) (Γ : Env) (o : Oper) (H : HProp) (Ψ : Value → List HProp → Prop) : Prop :=
  ∀ a w F (K : Act → World → Prop) (Q : Exit → Act → World → Prop), Fits n Γ a → sat w (star H F) →
    (∀ v w' H', Ψ v H' → sat w' (star (St H') F) → K (a.put o.dst v) w') → o.wp P a w K Q
def Post := Exit → Env → List HProp → Prop
def Lift (n : Nat) (F : HProp) (Q : Post) : Exit → Act → World → Prop :=
  fun e a w => ∃ Γ H, Q e Γ H ∧ Fits n Γ a ∧ sat w (star (St H) F)

theorem Lift_mono {n : Nat} {F : HProp} {Q Q' : Post} (h : ∀ e Γ H, Q e Γ H → Q' e Γ H) (e : Exit) (a : Act) (w : World) : Lift n F Q e a w → Lift n F Q' e a w :=
  fun ⟨Γ, H, q, f, s⟩ => ⟨Γ, H, h _ _ _ q, f, s⟩

section
variable {P : Program} {n : Nat} {Γ : Env} {H : List HProp} {Q : Post} {ops : Array Oper} {o : Oper} {l : List Oper}

/-- A list of operations in this order. -/
def Ops (P : Program) (n : Nat) (ops : Array Oper) (l : List Oper) (Γ : Env) (H : List HProp) (Q : Post) : Prop :=
  ∀ a w F, Fits n Γ a → sat w (star (St H) F) → wpList P ops (Lift n F Q) l a w

theorem ops_nil (h : Q .normal Γ H) : Ops P n ops [] Γ H Q := fun a w F f s => wpList_nil ⟨Γ, H, h, f, s⟩
theorem ops_ro {v : Value} (hw : wnt Γ ops o = some true) (hr : RO P n (St H) Γ o v) (hd : okDst n o.dst = true) (h : Ops P n ops l (pt Γ o.dst v) H Q) :
    Ops P n ops (o :: l) Γ H Q := fun a w F f s => by
  refine wpList_step fun K hK => ?_
  rw [wanted_of f hw]
  simp only [if_true, Oper.wp, hr a w F f s, Oper.upon]
  exact hK _ _ (h _ w F (f.put hd v) s)
theorem ops_eff {Ψ : Value → List HProp → Prop} (hw : wnt Γ ops o = some true) (hr : EFF P n Γ o (St H) Ψ) (hd : okDst n o.dst = true)
    (h : ∀ v H', Ψ v H' → Ops P n ops l (pt Γ o.dst v) H' Q) : Ops P n ops (o :: l) Γ H Q := fun a w F f s => by
  refine wpList_step fun K hK => ?_
  rw [wanted_of f hw]
  simp only [if_true]
  exact hr a w F K _ f s fun v w' H' hp hs => hK _ _ (h v H' hp _ w' F (f.put hd v) hs)
theorem ops_skip (hw : wnt Γ ops o = some false) (hd : okDst n o.dst = true) (h : Ops P n ops l (pt Γ o.dst undef) H Q) : Ops P n ops (o :: l) Γ H Q := fun a w F f s => by
  refine wpList_step fun K hK => ?_
  rw [wanted_of f hw]
  simp only [Bool.false_eq_true, if_false]
  exact hK _ _ (h _ w F (f.put hd undef) s)

/-! ### Code -/
def Wp (P : Program) (n : Nat) (c : Code) (Γ : Env) (H : List HProp) (Q : Post) : Prop :=
  ∀ a w F, Fits n Γ a → sat w (star (St H) F) → c.wp P (Lift n F Q) a w
def Then (N : Env → List HProp → Prop) (Q : Post) : Post
  | .normal, Γ, H => N Γ H
  | e, Γ, H => Q e Γ H
def InBlock (id : Nat) (Q : Post) : Post
  | .exit i, Γ, H => bif Nat.beq i id then Q .normal Γ H else Q (.exit i) Γ H
  | e, Γ, H => Q e Γ H

theorem wp_region' {id : Nat} (h : Ops P n l.toArray l Γ H Q) : Wp P n (.region id l.toArray false) Γ H Q := fun a w F f s => wp_region_lit (h a w F f s)
theorem wp_seq' {x y : Code} (h : Wp P n x Γ H (Then (fun Γ' H' => Wp P n y Γ' H' Q) Q)) : Wp P n (.seq x y) Γ H Q := fun a w F f s => by
  refine wp_seq (wp_mono (h a w F f s) ?_)
  rintro e a' w' ⟨Γ', H', q, f', s'⟩
  cases e with
  | normal => exact q a' w' F f' s'
  | _ => exact ⟨Γ', H', q, f', s'⟩
theorem wp_cond' {c : Operand} {x y : Code} {t : Bool} (hc : ev Γ c = some (.bool t)) (ht : t = true → Wp P n x Γ H Q) (hf : t = false → Wp P n y Γ H Q) :
    Wp P n (.cond c x y) Γ H Q := fun a w F f s => wp_cond_split (f.ev hc) (fun e => ht e a w F f s) (fun e => hf e a w F f s)
theorem wp_condT {c : Operand} {x y : Code} (hc : ev Γ c = some (.bool true)) (ht : Wp P n x Γ H Q) : Wp P n (.cond c x y) Γ H Q :=
  wp_cond' hc (fun _ => ht) (fun e => by cases e)
theorem wp_condF {c : Operand} {x y : Code} (hc : ev Γ c = some (.bool false)) (hf : Wp P n y Γ H Q) : Wp P n (.cond c x y) Γ H Q :=
  wp_cond' hc (fun e => by cases e) (fun _ => hf)
theorem wp_skip' (h : Q .normal Γ H) : Wp P n .skip Γ H Q := fun a w F f s => wp_skip ⟨Γ, H, h, f, s⟩
theorem wp_label' {k : Nat} (h : Q .normal Γ H) : Wp P n (.label k) Γ H Q := fun a w F f s => wp_label ⟨Γ, H, h, f, s⟩
theorem wp_ret' (h : Q .ret Γ H) : Wp P n .ret Γ H Q := fun a w F f s => wp_ret ⟨Γ, H, h, f, s⟩
theorem wp_exit' {id : Nat} (h : Q (.exit id) Γ H) : Wp P n (.exit id) Γ H Q := fun a w F f s => wp_exit ⟨Γ, H, h, f, s⟩
theorem wp_goto' {k : Nat} (h : Q (.goto k) Γ H) : Wp P n (.goto k) Γ H Q := fun a w F f s => wp_goto ⟨Γ, H, h, f, s⟩
theorem wp_block' {id : Nat} {c : Code} (h : Wp P n c Γ H (InBlock id Q)) : Wp P n (.block id c) Γ H Q := fun a w F f s => by
  refine wp_block (wp_mono (h a w F f s) ?_)
  rintro e a' w' ⟨Γ', H', q, f', s'⟩
  cases e with
  | exit i =>
    simp only [InBlock] at q
    by_cases e : i = id
    · subst e; simp at q; simp only [Exit.inBlock, if_true]; exact ⟨Γ', H', q, f', s'⟩
    · have hb : Nat.beq i id = false := beq_ne e
      rw [hb] at q; simp only [Exit.inBlock, if_neg e]; exact ⟨Γ', H', q, f', s'⟩
  | _ => exact ⟨Γ', H', q, f', s'⟩
theorem wp_post {c : Code} {Q' : Post} (h : Wp P n c Γ H Q) (hq : ∀ e Γ H, Q e Γ H → Q' e Γ H) : Wp P n c Γ H Q' :=
  fun a w F f s => wp_mono (h a w F f s) (Lift_mono hq)

/-- Less is known of the frame. -/
def Sub : Env → Env → Prop
  | [], _ => True
  | (i, v) :: t, Γ => get Γ i = some v ∧ Sub t Γ
theorem Sub.get {Γ : Env} : ∀ {Δ : Env}, Sub Δ Γ → ∀ i v, get Δ i = some v → get Γ i = some v
  | [], _, i, v, h => by cases h
  | (j, u) :: t, ⟨h1, h2⟩, i, v, h => by
    simp only [Sx.get] at h
    by_cases e : j = i
    · subst e; simp at h; subst h; exact h1
    · have hb : Nat.beq j i = false := beq_ne e
      rw [hb] at h; exact Sub.get h2 i v (by simpa using h)
theorem Fits.sub {Γ Δ : Env} {a : Act} (h : Fits n Γ a) (s : Sub Δ Γ) : Fits n Δ a := ⟨h.size, h.defers, fun i v hi => h.read i v (s.get i v hi)⟩
theorem wp_sub {Δ : Env} {c : Code} (s : Sub Δ Γ) (h : Wp P n c Δ H Q) : Wp P n c Γ H Q := fun a w F f s' => h a w F (f.sub s) s'
theorem wp_heap {H' : List HProp} {c : Code} (e : ∀ w F, sat w (star (St H) F) → sat w (star (St H') F)) (h : Wp P n c Γ H' Q) : Wp P n c Γ H Q :=
  fun a w F f s => h a w F f (e w F s)
theorem ops_heap {H' : List HProp} (e : ∀ w F, sat w (star (St H) F) → sat w (star (St H') F)) (h : Ops P n ops l Γ H' Q) : Ops P n ops l Γ H Q :=
  fun a w F f s => h a w F f (e w F s)

theorem exists_least (p : Nat → Prop) (h : ∃ m, p m) : ∃ m, p m ∧ ∀ k, p k → m ≤ k := by
  obtain ⟨m, hm⟩ := h
  induction m using Nat.strongRecOn with
  | _ m ih =>
    by_cases hk : ∃ k, k < m ∧ p k
    · obtain ⟨k, hlt, hp⟩ := hk; exact ih k hlt hp
    · exact ⟨m, hm, fun k hp => Nat.le_of_not_lt fun hlt => hk ⟨k, hlt, hp⟩⟩
open Classical in
/-- the least index at which p holds -/
noncomputable def least (p : Nat → Prop) : Nat := if h : ∃ m, p m then (exists_least p h).choose else 0
theorem least_spec {p : Nat → Prop} (h : ∃ m, p m) : p (least p) := by
  unfold least; rw [dif_pos h]; exact (exists_least p h).choose_spec.1
theorem least_le {p : Nat → Prop} {k : Nat} (h : p k) : least p ≤ k := by
  have hx : ∃ m, p m := ⟨k, h⟩
  unfold least; rw [dif_pos hx]; exact (exists_least p hx).choose_spec.2 k h

/-- A loop: I m holds at its head; each round lowers m. -/
theorem wp_loop' {c : Code} (I : Nat → Env → List HProp → Prop) {m : Nat} (h0 : I m Γ H)
    (round : ∀ m Γ H, I m Γ H → Wp P n c Γ H (Then (fun Γ' H' => ∃ m', m' < m ∧ I m' Γ' H') Q)) : Wp P n (.loop c) Γ H Q := fun a w F f s => by
  let J : Act → World → Nat → Prop := fun a w m => ∃ Γ H, I m Γ H ∧ Fits n Γ a ∧ sat w (star (St H) F)
  refine wp_loop (fun a w => ∃ m, J a w m) (fun a w => least (J a w)) ⟨m, Γ, H, h0, f, s⟩ fun a w hJ => ?_
  obtain ⟨Γ', H', hI, f', s'⟩ := least_spec hJ
  refine wp_mono (round _ Γ' H' hI a w F f' s') ?_
  rintro e a' w' ⟨Γ2, H2, q, f2, s2⟩
  cases e with
  | normal =>
    obtain ⟨m', hlt, hI'⟩ := q
    have hj : J a' w' m' := ⟨Γ2, H2, hI', f2, s2⟩
    exact ⟨⟨m', hj⟩, Nat.lt_of_le_of_lt (least_le hj) hlt⟩
  | _ => exact ⟨Γ2, H2, q, f2, s2⟩
def NoGoto (Q : Post) : Post
  | .goto _, _, _ => False
  | e, Γ, H => Q e Γ H
theorem wp_scope' {c : Code} (h : Wp P n c Γ H (NoGoto Q)) : Wp P n (.scope c) Γ H Q := fun a w F f s => by
  refine wp_scope_straight (wp_mono (h a w F f s) ?_)
  rintro e a' w' ⟨Γ', H', q, f', s'⟩
  cases e with
  | goto k => exact q.elim
  | _ => exact ⟨Γ', H', q, f', s'⟩
def Jump (k : Nat) (J : Env → List HProp → Prop) (Q : Post) : Post
  | .goto k', Γ, H => k' = k ∧ J Γ H
  | e, Γ, H => Q e Γ H
theorem wp_scopeJ' {c rest : Code} (k : Nat) (I : Nat → Env → List HProp → Prop) (hf : findLabel c k = some rest)
    (first : Wp P n c Γ H (Jump k (fun Γ' H' => ∃ m, I m Γ' H') Q))
    (pass : ∀ m Γ H, I m Γ H → Wp P n rest Γ H (Jump k (fun Γ' H' => ∃ m', m' < m ∧ I m' Γ' H') Q)) : Wp P n (.scope c) Γ H Q := fun a w F f s => by
  let J : Act → World → Nat → Prop := fun a w m => ∃ Γ H, I m Γ H ∧ Fits n Γ a ∧ sat w (star (St H) F)
  refine wp_scope_jumps k (fun a w => ∃ m, J a w m) (fun a w => least (J a w)) hf (wp_mono (first a w F f s) ?_) fun a w hJ => ?_
  · rintro e a' w' ⟨Γ2, H2, q, f2, s2⟩
    cases e with
    | goto k' => obtain ⟨rfl, m, hI⟩ := q; exact ⟨rfl, m, Γ2, H2, hI, f2, s2⟩
    | _ => exact ⟨Γ2, H2, q, f2, s2⟩
  · obtain ⟨Γ', H', hI, f', s'⟩ := least_spec hJ
    refine wp_mono (pass _ Γ' H' hI a w F f' s') ?_
    rintro e a' w' ⟨Γ2, H2, q, f2, s2⟩
    cases e with
    | goto k' =>
      obtain ⟨rfl, m', hlt, hI'⟩ := q
      have hj : J a' w' m' := ⟨Γ2, H2, hI', f2, s2⟩
      exact ⟨rfl, ⟨m', hj⟩, Nat.lt_of_le_of_lt (least_le hj) hlt⟩
    | _ => exact ⟨Γ2, H2, q, f2, s2⟩
end

/-! ### Calls -/
def Tri (P : Program) (f : FuncId) (args : List Value) (Pre : List HProp) (Ψ : Value → List HProp → Prop) : Prop :=
  ∀ w F, sat w (star (St Pre) F) → Calls P f args.toArray w fun e w' => ∃ v H', e = .returned v ∧ Ψ v H' ∧ sat w' (star (St H') F)
/-- What the result's variables hold. -/
def Res (P : Program) (fn : Func) (n : Nat) (Γ : Env) (H : List HProp) (v : Value) : Prop :=
  ∀ a w F, Fits n Γ a → sat w (star (St H) F) → (results fn a.tmps).run P w = .ok v w
def Done (P : Program) (fn : Func) (n : Nat) (Ψ : Value → List HProp → Prop) : Post
  | .ret, Γ, H => ∃ v, Res P fn n Γ H v ∧ Ψ v H
  | .normal, Γ, H => ∃ v, Res P fn n Γ H v ∧ Ψ v H
  | _, _, _ => False
def argEnv : Nat → List Value → Env
  | _, [] => []
  | k, v :: l => (k, v) :: argEnv (k + 1) l
theorem get_argEnv : ∀ (l : List Value) (k i : Nat) (v : Value), get (argEnv k l) i = some v → k ≤ i ∧ l[i - k]? = some v
  | [], _, _, _, h => by cases h
  | u :: l, k, i, v, h => by
    simp only [argEnv, get] at h
    by_cases e : k = i
    · subst e; simp at h; subst h; simp
    · have hb : Nat.beq k i = false := beq_ne e
      rw [hb] at h
      obtain ⟨h1, h2⟩ := get_argEnv l (k + 1) i v (by simpa using h)
      refine ⟨by omega, ?_⟩
      rw [show i - k = (i - (k + 1)) + 1 by omega]; simpa using h2
theorem tri_of_wp {P : Program} {f : FuncId} {fn : Func} {c : Code} {n : Nat} {args : List Value} {Pre : List HProp} {Ψ : Value → List HProp → Prop}
    (hf : P.funcs[f]? = some fn) (hb : fn.body = some c) (hn : fn.ntmps = n) (hl : args.length ≤ n)
    (h : Wp P n c (argEnv 0 args) Pre (Done P fn n Ψ)) : Tri P f args Pre Ψ := fun w F s => by
  refine calls_of_wp hf hb (wp_mono (h _ w F ⟨?_, rfl, ?_⟩ s) ?_)
  · simp; omega
  · intro i v hi
    obtain ⟨_, h2⟩ := get_argEnv args 0 i v hi
    have hlt : i < args.length := (List.getElem?_eq_some_iff.1 (by simpa using h2)).1
    simp only [Nat.sub_zero] at h2
    have h3 : args[i] = v := by simpa [List.getElem?_eq_getElem hlt] using h2
    simp [Array.getD_eq_getD_getElem?, Array.getElem?_append, hlt, h3]
  · rintro e a' w' ⟨Γ', H', q, f', s'⟩
    cases e with
    | ret => obtain ⟨v, hr, hp⟩ := q; exact ⟨f'.defers, v, hr a' w' F f' s', v, H', rfl, hp, s'⟩
    | normal => obtain ⟨v, hr, hp⟩ := q; exact ⟨f'.defers, v, hr a' w' F f' s', v, H', rfl, hp, s'⟩
    | exit _ => exact q.elim
    | goto _ => exact q.elim
    | panic _ => exact q.elim
    | outgrown => exact q.elim
section
variable {P : Program} {fn : Func} {n : Nat} {Γ : Env} {H : List HProp}
theorem res0 (h : fn.results = #[]) : Res P fn n Γ H (.tuple #[]) := fun a w F f s => results_none h _ _ _
theorem res1 {t : Tmp} {v : Value} (h : fn.results = #[.tmp t]) (hv : get Γ t = some v) : Res P fn n Γ H v := fun a w F f s => by
  rw [results_tmp h, f.read t v hv]
theorem res2 {t u : Tmp} {v x : Value} (h : fn.results = #[.tmp t, .tmp u]) (hv : get Γ t = some v) (hx : get Γ u = some x) : Res P fn n Γ H (.tuple #[v, x]) := fun a w F f s => by
  rw [results_tmp2 h, f.read t v hv, f.read u x hx]
theorem res3 {t u r : Tmp} {v x y : Value} (h : fn.results = #[.tmp t, .tmp u, .tmp r]) (hv : get Γ t = some v) (hx : get Γ u = some x) (hy : get Γ r = some y) : Res P fn n Γ H (.tuple #[v, x, y]) := fun a w F f s => by
  rw [results_tmp3 h, f.read t v hv, f.read u x hx, f.read r y hy]
end
/-- Pre is taken out of H. -/
def Split (H Pre Rest : List HProp) : Prop := St H = star (St Pre) (St Rest)
theorem Split.nil (H : List HProp) : Split H [] H := (emp_star _).symm
theorem Split.cons {H Pre Rest : List HProp} (i : Nat) {A : HProp} (hi : H[i]? = some A) (h : Split (H.eraseIdx i) Pre Rest) : Split H (A :: Pre) Rest := by
  unfold Split at *; rw [St_pick hi, h, St_cons, star_assoc]
theorem tri_frame {P : Program} {f : FuncId} {args : List Value} {H Pre Rest : List HProp} {Ψ : Value → List HProp → Prop} (hs : Split H Pre Rest) (h : Tri P f args Pre Ψ) :
    Tri P f args H (fun v H' => ∃ L, Ψ v L ∧ H' = L ++ Rest) := fun w F s => by
  rw [hs, star_assoc] at s
  refine (h w _ s).mono ?_
  rintro e w' ⟨v, L, rfl, hp, s'⟩
  exact ⟨v, L ++ Rest, rfl, ⟨L, hp, rfl⟩, by rw [St_append, star_assoc]; exact s'⟩
theorem eff_call {P : Program} {n : Nat} {Γ : Env} {o : Oper} {H Pre Rest : List HProp} {Ψ : Value → List HProp → Prop} {f : FuncId} {xs : List Operand} {tys : Array TypeId} {vs : List Value}
    (hc : ∀ args w, (callFunc f args).run P w = .ok (.enter f args) w)
    (hop : o.op = .call { callee := .value (.func f), args := xs.toArray, argTypes := tys }) (hv : evs Γ xs = some vs)
    (hs : Split H Pre Rest) (ht : Tri P f vs Pre Ψ) : EFF P n Γ o (St H) (fun v H' => ∃ L, Ψ v L ∧ H' = L ++ Rest) := fun a w F K Q f' s hK => by
  have hm := f'.evs hv
  unfold Oper.wp
  simp only [execOp, hop, resolve, Act.eval, Deferred.ofValue, invoke, Sem.run_bind, Sem.run_pure, Result.andThen_ok, hc, Oper.upon, Array.append_empty, Array.empty_append, List.map_toArray, hm]
  refine (tri_frame hs ht w F s).mono ?_
  rintro e w' ⟨v, H', rfl, hp, s'⟩
  exact hK v w' H' hp s'

/-! ### Regions that draw their order -/
section
variable {P : Program} {ops : Array Oper} {Q : Exit → Act → World → Prop} {md : Region.Mode} {C : World → Prop} {m : Nat}
/-- Whatever order is picked from here on; C holds behind each operation ahead of number m. -/
def wpAnyG (P : Program) (md : Region.Mode) (ops : Array Oper) (Q : Exit → Act → World → Prop) (C : World → Prop) (m : Nat) : Nat → Array Bool → Act → World → Prop
  | 0, listed, a, w => Region.ready md ops listed = [] ∧ Q .normal a w
  | fuel + 1, listed, a, w =>
    (Region.ready md ops listed = [] → Q .normal a w) ∧
    ∀ i ∈ Region.ready md ops listed, wpOp P ops Q i (fun a' w' => (i < m → C w') ∧ wpAnyG P md ops Q C m fuel (listed.setIfInBounds i true) a' w') a w
theorem wpAny_of_G : ∀ (fuel : Nat) (listed : Array Bool) (a : Act) (w : World), wpAnyG P md ops Q C m fuel listed a w → wpAny P md ops Q fuel listed a w
  | 0, _, _, _, h => h
  | fuel + 1, _, _, _, h => ⟨h.1, fun i hi => wpOp_mono (fun a' w' h' => wpAny_of_G fuel _ a' w' h'.2) (h.2 i hi)⟩
theorem ready_unlisted {i : Nat} {listed : Array Bool} (h : i ∈ Region.ready md ops listed) : listed.getD i true = false := (mem_ready.1 h).1
/-- Each operation from m on waits for each ahead of m. -/
def barrier (md : Region.Mode) (ops : Array Oper) (m : Nat) : Bool :=
  (List.range ops.size).all fun j => Nat.blt j m || (List.range m).all fun i => match ops[j]? with
    | some o => o.after.any fun e => Region.binds md e && Nat.beq e.on i
    | none => true
theorem barrier_spec (h : barrier md ops m = true) {i j : Nat} {oj : Oper} (hj : ops[j]? = some oj) (hi : i < m) (hm : m ≤ j) : ∃ e ∈ oj.after, Region.binds md e = true ∧ e.on = i := by
  unfold barrier at h
  have h1 := List.all_eq_true.1 h j (List.mem_range.2 (Array.getElem?_eq_some_iff.1 hj).1)
  have hb : Nat.blt j m = false := by
    cases hh : Nat.blt j m with
    | false => rfl
    | true => exact absurd (show j < m by simpa [Nat.blt_eq] using hh) (by omega)
  rw [hb, Bool.false_or] at h1
  have h2 := List.all_eq_true.1 h1 i (List.mem_range.2 hi)
  simp only [hj] at h2
  obtain ⟨e, he, hh⟩ := Array.any_eq_true'.1 h2
  simp only [Bool.and_eq_true] at hh
  exact ⟨e, he, hh.1, Nat.eq_of_beq_eq_true hh.2⟩
/-- What waits for number i, in the end. -/
def waits (md : Region.Mode) (ops : Array Oper) (i : Nat) : List Nat :=
  (List.range ops.size).foldl (fun acc j => match ops[j]? with
    | some o => if o.after.any fun e => Region.binds md e && (Nat.beq e.on i || acc.any (Nat.beq e.on)) then j :: acc else acc
    | none => acc) []
/-- All from m on wait for number i, in the end, and none of what waits for it has come up. -/
def late (md : Region.Mode) (ops : Array Oper) (m : Nat) (listed : Array Bool) (i : Nat) : Bool :=
  (List.range ops.size).all (fun j => Nat.blt j m || (waits md ops i).any (Nat.beq j)) &&
  (waits md ops i).all fun j => !listed.getD j true && match ops[j]? with
    | some o => o.after.any fun e => Region.binds md e && (Nat.beq e.on i || (waits md ops i).any (Nat.beq e.on))
    | none => true
theorem late_spec {listed : Array Bool} {i : Nat} (h : late md ops m listed i = true) : ∃ D : List Nat, (∀ (j : Nat) (oj : Oper), ops[j]? = some oj → m ≤ j → j ∈ D) ∧
    (∀ j, j ∈ D → ∀ oj, ops[j]? = some oj → ∃ e ∈ oj.after, Region.binds md e = true ∧ (e.on = i ∨ e.on ∈ D)) ∧ ∀ j, j ∈ D → listed.getD j true = false := by
  unfold late at h
  simp only [Bool.and_eq_true, List.all_eq_true] at h
  have hc : ∀ x : Nat, (waits md ops i).any (Nat.beq x) = true → x ∈ waits md ops i := fun x hx => by
    obtain ⟨y, hy, hxy⟩ := List.any_eq_true.1 hx
    rw [Nat.eq_of_beq_eq_true hxy]; exact hy
  refine ⟨waits md ops i, fun j oj hj hm => ?_, fun j hj oj ho => ?_, fun j hj => ?_⟩
  · have h1 := h.1 j (List.mem_range.2 (Array.getElem?_eq_some_iff.1 hj).1)
    have hb : Nat.blt j m = false := by
      cases hh : Nat.blt j m with
      | false => rfl
      | true => exact absurd (show j < m by simpa [Nat.blt_eq] using hh) (by omega)
    rw [hb, Bool.false_or] at h1
    exact hc j h1
  · have h1 := (h.2 j hj).2
    simp only [ho] at h1
    obtain ⟨e, he, hh⟩ := Array.any_eq_true'.1 h1
    simp only [Bool.and_eq_true, Bool.or_eq_true] at hh
    exact ⟨e, he, hh.1, hh.2.imp Nat.eq_of_beq_eq_true (hc _)⟩
  · simpa using (h.2 j hj).1
theorem wpAnyG_first {i : Nat} {oi : Oper} {v : Value} (hi : ops[i]? = some oi) (hsel : ∀ (j : Nat) (o : Oper) cs b, ops[j]? = some o → o.op ≠ .select cs b)
    (hQ : ∀ c a w, Q (.panic c) (a.put oi.dst v) w → Q (.panic c) a w) (D : List Nat) (hD1 : ∀ (j : Nat) (oj : Oper), ops[j]? = some oj → m ≤ j → j ∈ D) (hD2 : ∀ j, j ∈ D → ∀ oj, ops[j]? = some oj → ∃ e ∈ oj.after, Region.binds md e = true ∧ (e.on = i ∨ e.on ∈ D)) :
    ∀ (fuel : Nat) (listed : Array Bool) (a : Act) (w : World),
      (∀ j oj, ops[j]? = some oj → j ≠ i → listed.getD j true = false → (∀ e ∈ oj.after, Region.binds md e = true → e.on ≠ i) → oi.apart ops oj = true) →
      i ∈ Region.ready md ops listed → (∀ j, j ∈ D → listed.getD j true = false) → YieldsIf P ops C oi v a → C w →
      wpAnyG P md ops Q C m fuel (listed.setIfInBounds i true) (a.put oi.dst v) w → wpAnyG P md ops Q C m (fuel + 1) listed a w := by
  intro fuel
  induction fuel with
  | zero =>
    intro listed a w _ hr _ hy hC G
    refine ⟨fun h => (by rw [h] at hr; cases hr), fun j hj => ?_⟩
    by_cases hji : j = i
    · subst hji; exact hy.wpOp hi hC ⟨fun _ => hC, G⟩
    · have h0 := ready_mono hj hji
      rw [G.1] at h0; cases h0
  | succ fuel ih =>
    intro listed a w hfree hr hun hy hC G
    refine ⟨fun h => (by rw [h] at hr; cases hr), fun j hj => ?_⟩
    by_cases hji : j = i
    · subst hji; exact hy.wpOp hi hC ⟨fun _ => hC, G⟩
    · have h1 := G.2 j (ready_mono hj hji)
      obtain ⟨hjun, oj, hoj, hall⟩ := mem_ready.1 hj
      have hnot : ∀ e ∈ oj.after, Region.binds md e = true → e.on ≠ i := fun e he hb heq => by
        have h2 := hall e he hb
        have h3 := ready_unlisted hr
        rw [heq] at h2
        simp only [Array.getD_eq_getD_getElem?] at h2 h3
        cases hh : listed[i]? with
        | none => simp [hh] at h3
        | some t => simp [hh] at h2 h3; rw [h3] at h2; cases h2
      have hjD : j ∉ D := fun hjD => by
        obtain ⟨e, he, hb, hon⟩ := hD2 j hjD oj hoj
        rcases hon with hon | hon
        · exact hnot e he hb hon
        · have h2 := hall e he hb
          have h3 := hun _ hon
          simp only [Array.getD_eq_getD_getElem?] at h2 h3
          cases hh : listed[e.on]? with
          | none => simp [hh] at h3
          | some t => simp [hh] at h2 h3; rw [h3] at h2; cases h2
      have hjm : j < m := Nat.lt_of_not_le fun hle => hjD (hD1 j oj hoj hle)
      have h2 := wpOp_putIf hoj (hfree j oj hoj hji hjun hnot) (fun cs b => hsel i oi cs b hi) (fun cs b => hsel j oj cs b hoj) hQ hy h1
      refine wpOp_mono (fun a' w' h3 => ?_) h2
      obtain ⟨hy', hC', hG'⟩ := h3
      refine ⟨hC', ih (listed.setIfInBounds j true) a' w' ?_ (ready_mono hr (Ne.symm hji)) (fun k hk => by rw [getD_set_ne true (show ¬ j = k from fun e => hjD (by rw [e]; exact hk))]; exact hun k hk) hy' (hC' hjm) ?_⟩
      · intro k ok hk hki hun' hno
        refine hfree k ok hk hki ?_ hno
        by_cases hjk : j = k
        · subst hjk; exact hjun
        · rw [getD_set_ne true hjk] at hun'; exact hun'
      · rw [Array.setIfInBounds_comm _ _ hji]; exact hG'
end

section
variable {P : Program} {n : Nat} {ops : Array Oper} {m : Nat} {L H : List HProp} {Γ : Env} {Q : Post} {fuel : Nat} {listed : Array Bool}
/-- A region that draws: L is only read till all ahead of number m have come up. -/
def Any (P : Program) (n : Nat) (ops : Array Oper) (m : Nat) (L : List HProp) (fuel : Nat) (listed : Array Bool) (Γ : Env) (H : List HProp) (Q : Post) : Prop :=
  ∀ a w F, Fits n Γ a → sat w (star (St L) (star (St H) F)) → wpAnyG P .any ops (Lift n F Q) (fun w => ∃ R, sat w (star (St L) R)) m fuel listed a w
/-- May number i be taken first? -/
def takeB (ops : Array Oper) (m : Nat) (listed : Array Bool) (i : Nat) : Bool :=
  Nat.blt i m && Region.noSelect ops && late .any ops m listed i && Region.free .any ops listed i && (Region.ready .any ops listed).contains i
theorem any_first {i : Nat} {o : Oper} {v : Value} (hb : takeB ops m listed i = true) (hi : ops[i]? = some o) (hd : okDst n o.dst = true)
    (hy : ∀ a, Fits n Γ a → YieldsIf P ops (fun w => ∃ R, sat w (star (St L) R)) o v a)
    (hQ : ∀ Γ H c, ¬ Q (.panic c) Γ H)
    (h : Any P n ops m L fuel (listed.setIfInBounds i true) (pt Γ o.dst v) H Q) : Any P n ops m L (fuel + 1) listed Γ H Q := fun a w F f s => by
  simp only [takeB, Bool.and_eq_true] at hb
  obtain ⟨⟨⟨⟨h1, h2⟩, h3⟩, h4⟩, h5⟩ := hb
  obtain ⟨D, hD1, hD2, hD3⟩ := late_spec h3
  exact wpAnyG_first hi (Region.noSelect_spec h2) (fun c a w ⟨Γ, H, q, _⟩ => (hQ _ _ _ q).elim) D hD1 hD2 fuel listed a w (Region.free_spec hi h4) (by simpa using h5) hD3 (hy a f) ⟨_, s⟩
    (h _ w F (f.put hd v) s)
theorem any_ro {i : Nat} {o : Oper} {v : Value} (hb : takeB ops m listed i = true) (hi : ops[i]? = some o) (hw : wnt Γ ops o = some true) (hr : RO P n (St L) Γ o v) (hd : okDst n o.dst = true)
    (hQ : ∀ Γ H c, ¬ Q (.panic c) Γ H)
    (h : Any P n ops m L fuel (listed.setIfInBounds i true) (pt Γ o.dst v) H Q) : Any P n ops m L (fuel + 1) listed Γ H Q :=
  any_first hb hi hd (fun a f => .inl ⟨wanted_of f hw, fun w ⟨R, s⟩ => hr a w R f s⟩) hQ h
theorem any_skip {i : Nat} {o : Oper} (hb : takeB ops m listed i = true) (hi : ops[i]? = some o) (hw : wnt Γ ops o = some false) (hd : okDst n o.dst = true)
    (hQ : ∀ Γ H c, ¬ Q (.panic c) Γ H)
    (h : Any P n ops m L fuel (listed.setIfInBounds i true) (pt Γ o.dst undef) H Q) : Any P n ops m L (fuel + 1) listed Γ H Q :=
  any_first hb hi hd (fun a f => .inr ⟨wanted_of f hw, rfl⟩) hQ h
/-- Nothing but number i may come up: it acts. -/
theorem any_eff {i : Nat} {o : Oper} {Ψ : Value → List HProp → Prop} (hb : Region.ready .any ops listed = [i]) (hi : ops[i]? = some o) (hw : wnt Γ ops o = some true)
    (hr : EFF P n Γ o (St H) Ψ) (hd : okDst n o.dst = true)
    (h : ∀ v H', Ψ v H' → Any P n ops m L fuel (listed.setIfInBounds i true) (pt Γ o.dst v) H' Q) : Any P n ops m L (fuel + 1) listed Γ H Q := fun a w F f s => by
  refine ⟨fun e => (by rw [hb] at e; cases e), fun j hj => ?_⟩
  rw [hb] at hj
  obtain rfl : j = i := by simpa using hj
  refine wpOp_step hi fun K hK => ?_
  rw [wanted_of f hw]
  simp only [if_true]
  rw [star_left_comm] at s
  refine hr a w _ K _ f s fun v w' H' hp hs => hK _ _ ⟨fun _ => ⟨star (St H') F, ?_⟩, h v H' hp _ w' F (f.put hd v) ?_⟩
  · rw [star_left_comm]; exact hs
  · rw [star_left_comm]; exact hs
/-- Nothing but number i may come up, and it is not carried out. -/
theorem any_skip1 {i : Nat} {o : Oper} (hb : Region.ready .any ops listed = [i]) (hi : ops[i]? = some o) (hw : wnt Γ ops o = some false) (hd : okDst n o.dst = true)
    (h : Any P n ops m L fuel (listed.setIfInBounds i true) (pt Γ o.dst undef) H Q) : Any P n ops m L (fuel + 1) listed Γ H Q := fun a w F f s => by
  refine ⟨fun e => (by rw [hb] at e; cases e), fun j hj => ?_⟩
  rw [hb] at hj
  obtain rfl : j = i := by simpa using hj
  refine wpOp_step hi fun K hK => ?_
  rw [wanted_of f hw]
  simp only [Bool.false_eq_true, if_false]
  exact hK _ _ ⟨fun _ => ⟨_, s⟩, h _ w F (f.put hd undef) s⟩
/-- All ahead of number m have come up, and each that has not come up waits for one that may come up now: the read part is free again. -/
def doneB (ops : Array Oper) (m : Nat) (listed : Array Bool) : Bool := (List.range m).all fun i => listed.getD i true
theorem ready_late {j : Nat} (h : doneB ops m listed = true) (hj : j ∈ Region.ready .any ops listed) : m ≤ j := Nat.le_of_not_lt fun hlt => by
  have h1 := List.all_eq_true.1 h j (List.mem_range.2 hlt)
  rw [ready_unlisted hj] at h1; cases h1
theorem doneB_set (h : doneB ops m listed = true) (j : Nat) : doneB ops m (listed.setIfInBounds j true) = true := by
  unfold doneB at *
  refine List.all_eq_true.2 fun i hi => ?_
  have h1 := List.all_eq_true.1 h i hi
  by_cases e : j = i
  · subst e
    simp only [Array.getD_eq_getD_getElem?]
    by_cases hlt : j < listed.size
    · simp [hlt]
    · simp [Array.getElem?_eq_none (Nat.le_of_not_lt hlt), hlt]
  · rw [getD_set_ne true e]; exact h1
theorem wpAnyG_late {Q : Exit → Act → World → Prop} {C : World → Prop} : ∀ (fuel : Nat) (listed : Array Bool) (a : Act) (w : World), doneB ops m listed = true →
    wpAny P .any ops Q fuel listed a w → wpAnyG P .any ops Q C m fuel listed a w
  | 0, _, _, _, _, h => h
  | fuel + 1, listed, _, _, hd, h => ⟨h.1, fun i hi => wpOp_mono (fun a' w' h' => ⟨fun hlt => absurd (ready_late hd hi) (by omega), wpAnyG_late fuel _ a' w' (doneB_set hd i) h'⟩) (h.2 i hi)⟩
theorem any_unlock {m' : Nat} {L' H' : List HProp} (hd : doneB ops m listed = true) (hs : ∀ w F, sat w (star (St L) (star (St H) F)) → sat w (star (St L') (star (St H') F)))
    (h : Any P n ops m' L' fuel listed Γ H' Q) : Any P n ops m L fuel listed Γ H Q := fun a w F f s =>
  wpAnyG_late fuel listed a w hd (wpAny_of_G fuel listed a w (h a w F f (hs w F s)))
theorem any_done (hb : Region.ready .any ops listed = []) (h : Q .normal Γ (L ++ H)) : Any P n ops m L fuel listed Γ H Q := fun a w F f s => by
  have hq : Lift n F Q .normal a w := ⟨Γ, L ++ H, h, f, by rw [St_append, star_assoc]; exact s⟩
  cases fuel with
  | zero => exact ⟨hb, hq⟩
  | succ k => exact ⟨fun _ => hq, by rw [hb]; simp⟩
theorem wp_draw {id : Nat} {l : List Oper} {Lo Hi : List HProp} (m : Nat) (hm : P.follows .mixedOrders = true) (hs : Split H Lo Hi)
    (h : Any P n l.toArray m Lo l.toArray.size (Array.replicate l.toArray.size false) Γ Hi Q) : Wp P n (.region id l.toArray true) Γ H Q := fun a w F f s => by
  refine wp_region_any hm (wpAny_of_G _ _ _ _ (h a _ F f ?_))
  rw [hs, star_assoc] at s
  exact sat_heap rfl rfl s
theorem any_heap {H' : List HProp} (e : ∀ w F, sat w (star (St H) F) → sat w (star (St H') F)) (h : Any P n ops m L fuel listed Γ H' Q) : Any P n ops m L fuel listed Γ H Q :=
  fun a w F f s => h a w F f (by rw [star_left_comm] at s ⊢; exact e w _ s)
end

/-! ### The rules, as a walk uses them -/
section
variable {P : Program} {n : Nat} {ops : Array Oper} {l : List Oper} {Γ : Env} {H : List HProp} {Q : Post} {d : Tmp} {op : Op} {ty : TypeId} {pos : String} {aft : Array Edge} {g : Option (Nat × Bool)} {v : Value} {Ψ : Value → List HProp → Prop}
theorem ops_ro' (hw : wnt Γ ops ⟨some d, op, ty, pos, aft, g⟩ = some true) (hr : RO P n (St H) Γ ⟨some d, op, ty, pos, aft, g⟩ v) (hd : Nat.blt d n = true) (h : Ops P n ops l ((d, v) :: Γ) H Q) :
    Ops P n ops (⟨some d, op, ty, pos, aft, g⟩ :: l) Γ H Q := ops_ro hw hr hd h
theorem ops_skip' (hw : wnt Γ ops ⟨some d, op, ty, pos, aft, g⟩ = some false) (hd : Nat.blt d n = true) (h : Ops P n ops l ((d, undef) :: Γ) H Q) :
    Ops P n ops (⟨some d, op, ty, pos, aft, g⟩ :: l) Γ H Q := ops_skip hw hd h
theorem ops_eff' (hw : wnt Γ ops ⟨some d, op, ty, pos, aft, g⟩ = some true) (hr : EFF P n Γ ⟨some d, op, ty, pos, aft, g⟩ (St H) Ψ) (hd : Nat.blt d n = true)
    (h : ∀ v H', Ψ v H' → Ops P n ops l ((d, v) :: Γ) H' Q) : Ops P n ops (⟨some d, op, ty, pos, aft, g⟩ :: l) Γ H Q := ops_eff hw hr hd h
theorem ops_eff0 (hw : wnt Γ ops ⟨Option.none, op, ty, pos, aft, g⟩ = some true) (hr : EFF P n Γ ⟨Option.none, op, ty, pos, aft, g⟩ (St H) Ψ) (hd : true = true)
    (h : ∀ v H', Ψ v H' → Ops P n ops l Γ H' Q) : Ops P n ops (⟨Option.none, op, ty, pos, aft, g⟩ :: l) Γ H Q := ops_eff hw hr rfl h
variable {m fuel : Nat} {L : List HProp} {listed : Array Bool}
theorem any_ro' {i : Nat} (hb : takeB ops m listed i = true) (hi : ops[i]? = some ⟨some d, op, ty, pos, aft, g⟩) (hw : wnt Γ ops ⟨some d, op, ty, pos, aft, g⟩ = some true) (hr : RO P n (St L) Γ ⟨some d, op, ty, pos, aft, g⟩ v) (hd : Nat.blt d n = true)
    (hQ : ∀ Γ H c, ¬ Q (.panic c) Γ H) (h : Any P n ops m L fuel (listed.setIfInBounds i true) ((d, v) :: Γ) H Q) : Any P n ops m L (fuel + 1) listed Γ H Q := any_ro hb hi hw hr hd hQ h
theorem any_skip' {i : Nat} (hb : takeB ops m listed i = true) (hi : ops[i]? = some ⟨some d, op, ty, pos, aft, g⟩) (hw : wnt Γ ops ⟨some d, op, ty, pos, aft, g⟩ = some false) (hd : Nat.blt d n = true)
    (hQ : ∀ Γ H c, ¬ Q (.panic c) Γ H) (h : Any P n ops m L fuel (listed.setIfInBounds i true) ((d, undef) :: Γ) H Q) : Any P n ops m L (fuel + 1) listed Γ H Q := any_skip hb hi hw hd hQ h
theorem any_eff' {i : Nat} (hb : Region.ready .any ops listed = [i]) (hi : ops[i]? = some ⟨some d, op, ty, pos, aft, g⟩) (hw : wnt Γ ops ⟨some d, op, ty, pos, aft, g⟩ = some true) (hr : EFF P n Γ ⟨some d, op, ty, pos, aft, g⟩ (St H) Ψ) (hd : Nat.blt d n = true)
    (h : ∀ v H', Ψ v H' → Any P n ops m L fuel (listed.setIfInBounds i true) ((d, v) :: Γ) H' Q) : Any P n ops m L (fuel + 1) listed Γ H Q := any_eff hb hi hw hr hd h
theorem any_eff0 {i : Nat} (hb : Region.ready .any ops listed = [i]) (hi : ops[i]? = some ⟨Option.none, op, ty, pos, aft, g⟩) (hw : wnt Γ ops ⟨Option.none, op, ty, pos, aft, g⟩ = some true) (hr : EFF P n Γ ⟨Option.none, op, ty, pos, aft, g⟩ (St H) Ψ) (hd : true = true)
    (h : ∀ v H', Ψ v H' → Any P n ops m L fuel (listed.setIfInBounds i true) Γ H' Q) : Any P n ops m L (fuel + 1) listed Γ H Q := any_eff hb hi hw hr rfl h
theorem eff_ro {o : Oper} (h : RO P n (St H) Γ o v) : EFF P n Γ o (St H) (fun v' H' => v' = v ∧ H' = H) := fun a w F K Q f s hK => by
  unfold Oper.wp; rw [h a w F f s]; exact hK v w H ⟨rfl, rfl⟩ s
theorem unlock : ∀ w F, sat w (star (St L) (star (St H) F)) → sat w (star (St []) (star (St (L ++ H)) F)) := fun w F s => by
  rw [St_nil, emp_star, St_append, star_assoc]; exact s
theorem any_doneL (hb : Region.ready .any ops listed = []) (h : Q .normal Γ L) : Any P n ops m L fuel listed Γ [] Q := any_done hb (by simpa using h)
theorem any_doneH (hb : Region.ready .any ops listed = []) (h : Q .normal Γ H) : Any P n ops m [] fuel listed Γ H Q := any_done hb (by simpa using h)
theorem Split.all (H : List HProp) : Split H H [] := (star_emp _).symm
/-- of the frame only these slots are kept -/
def keepE (Γ : Env) : List Nat → Env
  | [] => []
  | k :: ks => match get Γ k with | some v => (k, v) :: keepE Γ ks | Option.none => keepE Γ ks
theorem get_keepE (Γ : Env) : ∀ (ks : List Nat) (i : Nat) (v : Value), get (keepE Γ ks) i = some v → get Γ i = some v
  | [], _, _, h => by cases h
  | k :: ks, i, v, h => by
    simp only [keepE] at h
    cases hk : get Γ k with
    | none => simp only [hk] at h; exact get_keepE Γ ks i v h
    | some u =>
      simp only [hk, get] at h
      by_cases e : k = i
      · subst e; simp at h; subst h; exact hk
      · rw [beq_ne e] at h; exact get_keepE Γ ks i v (by simpa using h)
theorem wp_keep {c : Code} (ks : List Nat) (h : Wp P n c (keepE Γ ks) H Q) : Wp P n c Γ H Q :=
  fun a w F f s => h a w F ⟨f.size, f.defers, fun i v hi => f.read i v (get_keepE Γ ks i v hi)⟩ s
/-- what holds between two pieces of code -/
theorem wp_cut {x y : Code} (I : Env → List HProp → Prop) (h1 : Wp P n x Γ H (Then I Q)) (h2 : ∀ Γ H, I Γ H → Wp P n y Γ H Q) : Wp P n (.seq x y) Γ H Q :=
  wp_seq' (wp_post h1 fun e Γ H q => by cases e <;> first | exact h2 _ _ q | exact q)
/-- the frame holds these values -/
def Has (Γ Δ : Env) : Prop := ∀ i v, get Δ i = some v → get Γ i = some v
theorem wp_has {Δ : Env} {c : Code} (s : Has Γ Δ) (h : Wp P n c Δ H Q) : Wp P n c Γ H Q := fun a w F f s' => h a w F ⟨f.size, f.defers, fun i v hi => f.read i v (s i v hi)⟩ s'
theorem Has.nil (Γ : Env) : Has Γ [] := fun i v h => by cases h
theorem Has.cons {Δ : Env} {k : Nat} {u : Value} (h : get Γ k = some u) (t : Has Γ Δ) : Has Γ ((k, u) :: Δ) := fun i v hi => by
  simp only [get] at hi
  by_cases e : k = i
  · subst e; simp at hi; subst hi; exact h
  · rw [beq_ne e] at hi; exact t i v (by simpa using hi)
theorem done_ret {fn : Func} (hr : Res P fn n Γ H v) (h : Ψ v H) : Done P fn n Ψ .ret Γ H := ⟨v, hr, h⟩
theorem done_normal {fn : Func} (hr : Res P fn n Γ H v) (h : Ψ v H) : Done P fn n Ψ .normal Γ H := ⟨v, hr, h⟩
end

/-! ### Ways out, step by step -/
section
variable {Γ : Env} {H : List HProp} {Q : Post} {N J : Env → List HProp → Prop} {id i k : Nat}
theorem Then_normal (h : N Γ H) : Then N Q .normal Γ H := h
theorem Then_ret (h : Q .ret Γ H) : Then N Q .ret Γ H := h
theorem Then_exit (h : Q (.exit id) Γ H) : Then N Q (.exit id) Γ H := h
theorem Then_goto (h : Q (.goto k) Γ H) : Then N Q (.goto k) Γ H := h
theorem InBlock_normal (h : Q .normal Γ H) : InBlock id Q .normal Γ H := h
theorem InBlock_ret (h : Q .ret Γ H) : InBlock id Q .ret Γ H := h
theorem InBlock_goto (h : Q (.goto k) Γ H) : InBlock id Q (.goto k) Γ H := h
theorem InBlock_here (h : Q .normal Γ H) : InBlock id Q (.exit id) Γ H := by simp [InBlock, h]
theorem InBlock_far (hne : Nat.beq i id = false) (h : Q (.exit i) Γ H) : InBlock id Q (.exit i) Γ H := by simp only [InBlock, hne]; exact h
theorem NoGoto_normal (h : Q .normal Γ H) : NoGoto Q .normal Γ H := h
theorem NoGoto_ret (h : Q .ret Γ H) : NoGoto Q .ret Γ H := h
theorem NoGoto_exit (h : Q (.exit id) Γ H) : NoGoto Q (.exit id) Γ H := h
theorem Jump_normal (h : Q .normal Γ H) : Jump k J Q .normal Γ H := h
theorem Jump_ret (h : Q .ret Γ H) : Jump k J Q .ret Γ H := h
theorem Jump_exit (h : Q (.exit id) Γ H) : Jump k J Q (.exit id) Γ H := h
theorem Jump_goto (h : J Γ H) : Jump k J Q (.goto k) Γ H := ⟨rfl, h⟩
end

/-- A piece of code that is gone through again and again by a goto to its beginning. -/
theorem wp_again {P : Program} {n : Nat} {Γ : Env} {H : List HProp} {Q : Post} {x : Code} {k : Nat} (I : Nat → Env → List HProp → Prop) {m : Nat} (h0 : I m Γ H)
    (pass : ∀ m Γ H, I m Γ H → Wp P n x Γ H (Jump k (fun Γ' H' => ∃ m', m' < m ∧ I m' Γ' H') Q)) : Wp P n (.scope (.seq (.label k) x)) Γ H Q := by
  have hf : findLabel (.seq (.label k) x) k = some (.seq .skip x) := by simp [findLabel]
  refine wp_scopeJ' k I hf ?_ ?_
  · refine wp_seq' (wp_label' (Then_normal ?_))
    refine wp_post (pass m Γ H h0) fun e Γ H q => ?_
    cases e with
    | goto k' => obtain ⟨rfl, m', _, hI⟩ := q; exact ⟨rfl, m', hI⟩
    | _ => exact q
  · intro m Γ H hI
    exact wp_seq' (wp_skip' (Then_normal (pass m Γ H hI)))

/-- what is not needed is let go -/
theorem St_drop {H : List HProp} (i : Nat) {w : World} {F : HProp} (s : sat w (star (St H) F)) : sat w (star (St (H.eraseIdx i)) F) := by
  cases h : H[i]? with
  | none => rw [List.eraseIdx_of_length_le (by simpa using h)]; exact s
  | some A => rw [St_pick h, star_assoc] at s; exact sat_star_right s
theorem wp_drop {P : Program} {n : Nat} {c : Code} {Γ : Env} {H : List HProp} {Q : Post} (i : Nat) (h : Wp P n c Γ (H.eraseIdx i) Q) : Wp P n c Γ H Q := wp_heap (fun w F s => St_drop i s) h
theorem ops_drop {P : Program} {n : Nat} {ops : Array Oper} {l : List Oper} {Γ : Env} {H : List HProp} {Q : Post} (i : Nat) (h : Ops P n ops l Γ (H.eraseIdx i) Q) : Ops P n ops l Γ H Q := ops_heap (fun w F s => St_drop i s) h

theorem St_front {H : List HProp} (i : Nat) {A : HProp} (h : H[i]? = some A) {w : World} {F : HProp} (s : sat w (star (St H) F)) : sat w (star (St (A :: H.eraseIdx i)) F) := by rw [St_pick h] at s; exact s
theorem wp_front {P : Program} {n : Nat} {c : Code} {Γ : Env} {H : List HProp} {Q : Post} (i : Nat) {A : HProp} (hi : H[i]? = some A) (h : Wp P n c Γ (A :: H.eraseIdx i) Q) : Wp P n c Γ H Q := wp_heap (fun w F s => St_front i hi s) h
theorem tri_post {P : Program} {f : FuncId} {args : List Value} {Pre : List HProp} {Ψ Ψ' : Value → List HProp → Prop} (h : Tri P f args Pre Ψ) (hp : ∀ v H, Ψ v H → Ψ' v H) : Tri P f args Pre Ψ' := fun w F s =>
  (h w F s).mono fun e w' ⟨v, H', he, hq, s'⟩ => ⟨v, H', he, hp v H' hq, s'⟩

theorem any_front {P : Program} {n m : Nat} {ops : Array Oper} {L H : List HProp} {Γ : Env} {Q : Post} {fuel : Nat} {listed : Array Bool} (i : Nat) {A : HProp} (hi : H[i]? = some A) (h : Any P n ops m L fuel listed Γ (A :: H.eraseIdx i) Q) : Any P n ops m L fuel listed Γ H Q := any_heap (fun w F s => St_front i hi s) h
theorem any_drop {P : Program} {n m : Nat} {ops : Array Oper} {L H : List HProp} {Γ : Env} {Q : Post} {fuel : Nat} {listed : Array Bool} (i : Nat) (h : Any P n ops m L fuel listed Γ (H.eraseIdx i) Q) : Any P n ops m L fuel listed Γ H Q := any_heap (fun w F s => St_drop i s) h
theorem ops_front {P : Program} {n : Nat} {ops : Array Oper} {l : List Oper} {Γ : Env} {H : List HProp} {Q : Post} (i : Nat) {A : HProp} (hi : H[i]? = some A) (h : Ops P n ops l Γ (A :: H.eraseIdx i) Q) : Ops P n ops l Γ H Q := ops_heap (fun w F s => St_front i hi s) h

/-- what it made is let go -/
theorem tri_forget {P : Program} {f : FuncId} {args : List Value} {Pre : List HProp} {Ψ : Value → List HProp → Prop} {Φ : Value → Prop} (h : Tri P f args Pre Ψ) (hp : ∀ v H, Ψ v H → Φ v) : Tri P f args Pre (fun v H' => Φ v ∧ H' = []) := fun w F s =>
  (h w F s).mono fun e w' ⟨v, H', he, hq, s'⟩ => ⟨v, [], he, ⟨hp v H' hq, rfl⟩, by rw [St_nil, emp_star]; exact sat_star_right s'⟩

theorem tri_weak {P : Program} {f : FuncId} {args : List Value} {Pre : List HProp} {Ψ Ψ' : Value → List HProp → Prop} (h : Tri P f args Pre Ψ) (hp : ∀ v H, Ψ v H → ∃ H2, Ψ' v H2 ∧ ∀ w F, sat w (star (St H) F) → sat w (star (St H2) F)) : Tri P f args Pre Ψ' := fun w F s =>
  (h w F s).mono fun e w' ⟨v, H', he, hq, s'⟩ => by
    obtain ⟨H2, h2, hs⟩ := hp v H' hq
    exact ⟨v, H2, he, h2, hs w' F s'⟩
end Go.Sx
