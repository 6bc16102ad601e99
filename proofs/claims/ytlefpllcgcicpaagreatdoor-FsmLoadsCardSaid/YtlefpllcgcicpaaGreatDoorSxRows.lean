/-
  A separation logic yE the model's worlds, for walks: heaps in part, atoms, states as lists of atoms; rules for operations, regions that draw their order, code, calls. No program in sight.
  Rules for the model's operations in the logic of the Sx text: what only reads, what acts.
  Rules for append, conversions between texts and bytes, copy and make, yE rows (slices that own their arrays).
-/
import Derived.WalkKit
import Derived.OrdersHeld
import Derived.Scope
import Derived.ScopeJumps
import Derived.Laws.StructEq
import Derived.Laws.BytesArg
import Derived.Laws.Concat
import Derived.Laws.BytesString
set_option linter.unusedVariables false
set_option linter.unusedSimpArgs false
namespace Go.Sx
universe u
theorem zA {α : Type u} {a : α} {l m : List α} : a :: l ++ m = a :: (l ++ m) := rfl
theorem zB {α : Type u} (l : List α) : [] ++ l = l := rfl
theorem zC {α : Type u} {a : α} {l : List α} : (a :: l).eraseIdx 0 = l := rfl
theorem zD {α : Type u} {a : α} {l : List α} {i : Nat} : (a :: l).eraseIdx (i + 1) = a :: l.eraseIdx i := rfl
theorem zE {α : Type u} {a b : α} {l : List α} : (a :: l).set 0 b = b :: l := rfl
theorem zF {α : Type u} {a b : α} {l : List α} {i : Nat} : (a :: l).set (i + 1) b = a :: l.set i b := rfl
set_option linter.unusedSectionVars false
/-! ### Partial heaps -/
/-- block ↦ (may it be written?, what lies there) -/
abbrev Hp := Nat → Option (Bool × Obj)
def Hp.none : Hp := fun _ => Option.none
def Hp.sep (g h : Hp) : Prop := ∀ b x y, g b = some x → h b = some y → x = y ∧ x.1 = false
def Hp.join (g h : Hp) : Hp := fun b => match g b with | some x => some x | Option.none => h b
theorem Hp.sep_comm {g h : Hp} (s : Hp.sep g h) : Hp.sep h g := fun b x y hx hy => by
 obtain ⟨e, f⟩ := s b y x hy hx; subst e; exact ⟨rfl, f⟩
theorem Hp.join_comm {g h : Hp} (s : Hp.sep g h) : Hp.join g h = Hp.join h g := by
 funext b; unfold Hp.join
 cases hg : g b with
 | none => cases hh : h b <;> rfl
 | some x => cases hh : h b with
  | none => rfl
  | some y => rw [(s b x y hg hh).1]
theorem Hp.join_assoc (f g h : Hp) : Hp.join (Hp.join f g) h = Hp.join f (Hp.join g h) := by
 funext b; unfold Hp.join; cases f b <;> rfl
theorem Hp.join_none (h : Hp) : Hp.join h Hp.none = h := by
 funext b; unfold Hp.join Hp.none; cases h b <;> rfl
theorem Hp.sep_none (h : Hp) : Hp.sep h Hp.none := fun b x y _ hy => by cases hy
theorem Hp.sep_of_join_left {f g h : Hp} (s : Hp.sep (Hp.join f g) h) : Hp.sep f h := fun b x y hx hy => s b x y (by simp [Hp.join, hx]) hy
theorem Hp.sep_of_join_right {f g h : Hp} (s0 : Hp.sep f g) (s : Hp.sep (Hp.join f g) h) : Hp.sep g h :=
 Hp.sep_of_join_left (Hp.join_comm s0 ▸ s)
theorem Hp.sep_join_mk {f g h : Hp} (s1 : Hp.sep f h) (s2 : Hp.sep g h) : Hp.sep (Hp.join f g) h := fun b x y hx hy => by
 cases hf : f b with
 | some z => simp only [Hp.join, hf] at hx; exact s1 b x y (hf.trans hx) hy
 | none => simp only [Hp.join, hf] at hx; exact s2 b x y hx hy
/-- what no walk turns: the outside world, the output -/
abbrev Cx := Os × Array (Nat × ByteArray)
def cx (w : World) : Cx := (w.os, w.output)
abbrev HProp := Cx → Hp → Prop
def emp : HProp := fun _ h => h = Hp.none
def star (A B : HProp) : HProp := fun c h => ∃ g k, Hp.sep g k ∧ h = Hp.join g k ∧ A c g ∧ B c k
theorem star_comm (A B : HProp) : star A B = star B A := by
 funext c h; apply propext; constructor <;>
 ·rintro ⟨g, k, s, rfl, ha, hb⟩; exact ⟨k, g, Hp.sep_comm s, Hp.join_comm s, hb, ha⟩
theorem zv (A B C : HProp) : star (star A B) C = star A (star B C) := by
 funext c h; apply propext; constructor
 ·rintro ⟨_, k, s, rfl, ⟨f, g, s0, rfl, ha, hb⟩, hc⟩; refine ⟨f, Hp.join g k, ?_, Hp.join_assoc _ _ _, ha, g, k, Hp.sep_of_join_right s0 s, rfl, hb, hc⟩; exact Hp.sep_comm (Hp.sep_join_mk (Hp.sep_comm s0) (Hp.sep_comm (Hp.sep_of_join_left s)))
 ·rintro ⟨f, _, s, rfl, ha, g, k, s0, rfl, hb, hc⟩; have s1 : Hp.sep f g := Hp.sep_comm (Hp.sep_of_join_left (Hp.sep_comm s))
  have s2 : Hp.sep f k := Hp.sep_comm (Hp.sep_of_join_right s0 (Hp.sep_comm s))
  exact ⟨Hp.join f g, k, Hp.sep_join_mk s2 s0, (Hp.join_assoc _ _ _).symm, ⟨f, g, s1, rfl, ha, hb⟩, hc⟩
theorem qH (A B C : HProp) : star A (star B C) = star B (star A C) := by
 rw [← zv, star_comm A B, zv]
theorem qt (A : HProp) : star A emp = A := by
 funext c h; apply propext; constructor
 ·rintro ⟨g, k, s, rfl, ha, hk⟩; subst hk; rwa [Hp.join_none]
 ·intro ha; exact ⟨h, Hp.none, Hp.sep_none h, (Hp.join_none h).symm, ha, rfl⟩
theorem emp_star (A : HProp) : star emp A = A := by rw [star_comm, qt]
/-- A state: atoms side by side. -/
def St : List HProp → HProp
 | [] => emp
 | A :: L => star A (St L)
theorem yV : St [] = emp := rfl
theorem qJ (A : HProp) (L : List HProp) : St (A :: L) = star A (St L) := rfl
theorem yC : ∀ (L M : List HProp), St (L ++ M) = star (St L) (St M)
 | [], M => (emp_star _).symm
 | A :: L, M => by simp only [List.cons_append, qJ, yC L M, zv]
theorem yS {L : List HProp} {i : Nat} {A : HProp} (h : L[i]? = some A) : St L = star A (St (L.eraseIdx i)) := by
 induction L generalizing i with
 | nil => cases h
 | cons B L ih =>
  cases i with
  | zero => simp at h; subst h; rfl
  | succ i => simp at h; rw [qJ, ih h, List.eraseIdx_cons_succ, qJ, qH]
theorem St_set {L : List HProp} {i : Nat} {A B : HProp} (h : L[i]? = some A) : St (L.set i B) = star B (St (L.eraseIdx i)) := by
 induction L generalizing i with
 | nil => cases h
 | cons C L ih =>
  cases i with
  | zero => rfl
  | succ i => simp at h; rw [List.set_cons_succ, qJ, ih h, List.eraseIdx_cons_succ, qJ, qH]
/-! ### Worlds -/
def fits (w : World) (h : Hp) : Prop := ∀ b x, h b = some x → w.heap[b]? = some x.2
def sat (w : World) (A : HProp) : Prop := ∃ h, A (cx w) h ∧ fits w h
theorem sat_mono {w : World} {A B : HProp} (h : ∀ c k, A c k → B c k) (s : sat w A) : sat w B := let ⟨k, hk, f⟩ := s; ⟨k, h _ k hk, f⟩
theorem qa {w : World} {A B : HProp} (s : sat w (star A B)) : sat w A := by
 obtain ⟨_, ⟨g, k, sp, rfl, ha, hb⟩, f⟩ := s
 exact ⟨g, ha, fun b x hx => f b x (by simp [Hp.join, hx])⟩
theorem yw {w : World} {A B : HProp} (s : sat w (star A B)) : sat w B := qa (star_comm A B ▸ s)
theorem sat_star_mono {w : World} {A B C D : HProp} (h1 : ∀ c h, A c h → C c h) (h2 : ∀ c h, B c h → D c h) (s : sat w (star A B)) : sat w (star C D) :=
 sat_mono (fun c h ⟨g, k, sp, e, ha, hb⟩ => ⟨g, k, sp, e, h1 c g ha, h2 c k hb⟩) s
theorem fits_heap {w w' : World} (h : w'.heap = w.heap) {k : Hp} : fits w k → fits w' k := fun f b x hx => by rw [h]; exact f b x hx
theorem sat_heap {w w' : World} (h : w'.heap = w.heap) (hc : cx w' = cx w) {A : HProp} (s : sat w A) : sat w' A := let ⟨k, hk, f⟩ := s; ⟨k, hc ▸ hk, fits_heap h f⟩
/-- The general turn of a state: the first part is given up; what it owned, and what is new, may have changed. -/
theorem sat_turn {w w' : World} {A A' R : HProp} (hc : cx w' = cx w) (s : sat w (star A R))
 (h : ∀ g, A (cx w) g → fits w g → ∃ g', A' (cx w) g' ∧ fits w' g' ∧
  (∀ b x, g' b = some x → (∃ o, g b = some (true, o)) ∨ w.heap.size ≤ b ∨ (g b = some x ∧ x.1 = false)) ∧
  (∀ b, b < w.heap.size → (∀ o, g b ≠ some (true, o)) → w'.heap[b]? = w.heap[b]?)) : sat w' (star A' R) := by
 obtain ⟨_, ⟨g, k, sp, rfl, ha, hr⟩, f⟩ := s
 have fk : fits w k := fun b x hx => f b x (by
  unfold Hp.join
  cases hg : g b with
  | none => exact hx
  | some y => rw [(sp b y x hg hx).1])
 obtain ⟨g', ha', f', hd, hk⟩ := h g ha (fun b x hx => f b x (by simp [Hp.join, hx]))
 have lt : ∀ b x, k b = some x → b < w.heap.size := fun b x hx => (Array.getElem?_eq_some_iff.1 (fk b x hx)).1
 refine ⟨Hp.join g' k, ⟨g', k, ?_, rfl, hc ▸ ha', hc ▸ hr⟩, ?_⟩
 ·intro b x y hx hy
  rcases hd b x hx with ⟨o, ho⟩ | hn | ⟨hg, hx1⟩
  ·have := (sp b _ y ho hy).2; simp at this
  ·have := lt b y hy; omega
  ·exact sp b x y hg hy
 ·intro b x hx
  cases hg' : g' b with
  | some z => simp only [Hp.join, hg'] at hx; injection hx with hx; subst hx; exact f' b z hg'
  | none =>
   simp only [Hp.join, hg'] at hx; rw [hk b (lt b x hx)]
   ·exact fk b x hx
   ·intro o ho; have := (sp b _ x ho hx).2; simp at this
/-! ### Atoms -/
def single (b : Nat) (o : Obj) : Hp := fun b' => if b' = b then some (true, o) else Option.none
def own (b : Nat) (o : Obj) : HProp := fun _ h => h = single b o
/-- The whole of an elder world, not to be written. -/
def roH (w0 : World) : Hp := fun b => (w0.heap[b]?).map fun o => (false, o)
def ro (w0 : World) : HProp := fun c h => c = cx w0 ∧ h = roH w0
/-- A fact, as an atom without memory. -/
def pur (p : Prop) : HProp := fun _ h => h = Hp.none ∧ p
def ex {α : Type} (A : α → HProp) : HProp := fun c h => ∃ x, A x c h
theorem sat_ro {w0 w : World} (s : sat w (ro w0)) (b : Nat) (o : Obj) (h : w0.heap[b]? = some o) : w.heap[b]? = some o := by
 obtain ⟨k, ⟨_, hk⟩, f⟩ := s; rw [hk] at f; exact f b (false, o) (by simp [roH, h])
theorem sat_ro_cx {w0 w : World} (s : sat w (ro w0)) : w.os = w0.os ∧ w.output = w0.output := by
 obtain ⟨k, ⟨hc, _⟩, f⟩ := s
 unfold cx at hc; exact ⟨congrArg Prod.fst hc, congrArg Prod.snd hc⟩
theorem sat_ro_init (w : World) : sat w (ro w) := ⟨_, ⟨rfl, rfl⟩, fun b x hx => by
 unfold roH at hx
 cases hb : w.heap[b]? with
 | none => simp [hb] at hx
 | some o => simp [hb] at hx; rw [← hx]⟩
theorem yr {w : World} {b : Nat} {o : Obj} (s : sat w (own b o)) : w.heap[b]? = some o := by
 obtain ⟨k, hk, f⟩ := s; rw [hk] at f; exact f b (true, o) (by simp [single])
theorem single_self (b : Nat) (o : Obj) : single b o b = some (true, o) := by simp [single]
theorem single_ne {b k : Nat} (o : Obj) (h : k ≠ b) : single b o k = Option.none := by simp [single, h]
theorem single_inv {b k : Nat} {o : Obj} {x : Bool × Obj} (h : single b o k = some x) : k = b ∧ x = (true, o) := by
 by_cases e : k = b
 ·subst e; rw [single_self] at h; exact ⟨rfl, (Option.some.inj h).symm⟩
 ·rw [single_ne o e] at h; cases h
/-- A block of the state's own is written. -/
theorem sat_set {w w' : World} {b : Nat} {o o' : Obj} {R : HProp} (hc : cx w' = cx w) (s : sat w (star (own b o) R)) (hb : w'.heap[b]? = some o')
 (hk : ∀ k, k ≠ b → w'.heap[k]? = w.heap[k]?) : sat w' (star (own b o') R) :=
 sat_turn hc s fun g hg fg => by
  subst hg; refine ⟨_, rfl, ?_, ?_, ?_⟩
  ·intro k x hx; obtain ⟨rfl, rfl⟩ := single_inv hx; exact hb
  ·intro k x hx; obtain ⟨rfl, rfl⟩ := single_inv hx; exact .inl ⟨o, single_self _ _⟩
  ·intro k _ hn; exact hk k fun e => hn o (by subst e; exact single_self _ _)
/-- A new block. -/
theorem sat_alloc {w w' : World} {o : Obj} {R : HProp} (hc : cx w' = cx w) (s : sat w R) (h : w'.heap = w.heap.push o) : sat w' (star (own w.heap.size o) R) := by
 rw [← emp_star R] at s; refine sat_turn hc s fun g hg fg => ?_
 subst hg; refine ⟨_, rfl, ?_, ?_, ?_⟩
 ·intro k x hx; obtain ⟨rfl, rfl⟩ := single_inv hx; simp [h]
 ·intro k x hx; obtain ⟨rfl, rfl⟩ := single_inv hx; exact .inr (.inl (Nat.le_refl _))
 ·intro k hk _; rw [h, Array.getElem?_push, if_neg (by omega)]
/-! ### Frames -/
abbrev Env := List (Nat × Value)
theorem beq_ne {d i : Nat} (e : ¬ d = i) : Nat.beq d i = false := by
 cases h : Nat.beq d i with
 | false => rfl
 | true => exact absurd (Nat.eq_of_beq_eq_true h) e
def get : Env → Nat → Option Value
 | [], _ => Option.none
 | (j, v) :: t, i => bif Nat.beq j i then some v else get t i
structure Fits (n : Nat) (Γ : Env) (a : Act) : Prop where
 size : a.tmps.size = n
 defers : a.defers = []
 read : ∀ i v, get Γ i = some v → a.tmps.getD i undef = v
def ev (Γ : Env) : Operand → Option Value
 | .tmp t => get Γ t
 | .const v => some v
 | .global g => some (.pointer (some ⟨g, 0, Option.none⟩))
 | .func f => some (.func (.func f) #[] #[])
def evs (Γ : Env) : List Operand → Option (List Value)
 | [] => some []
 | x :: l => match ev Γ x, evs Γ l with
  | some v, some vs => some (v :: vs)
  | _, _ => Option.none
theorem Fits.ev {n : Nat} {Γ : Env} {a : Act} (h : Fits n Γ a) {x : Operand} {v : Value} (hx : ev Γ x = some v) : a.eval x = v := by
 cases x with
 | tmp t => exact h.read t v hx
 | const u => simpa [Sx.ev, Act.eval] using hx
 | global g => simpa [Sx.ev, Act.eval] using hx
 | func f => simpa [Sx.ev, Act.eval] using hx
theorem Fits.evs {n : Nat} {Γ : Env} {a : Act} (h : Fits n Γ a) : ∀ {l : List Operand} {vs : List Value}, evs Γ l = some vs → l.map a.eval = vs
 | [], vs, hv => by simpa [Sx.evs] using hv
 | x :: l, vs, hv => by
  simp only [Sx.evs] at hv
  cases h1 : Sx.ev Γ x with
  | none => simp [h1] at hv
  | some v => cases h2 : Sx.evs Γ l with
   | none => simp [h1, h2] at hv
   | some us => simp [h1, h2] at hv; subst hv; simp [h.ev h1, h.evs h2]
/-- Slot d holds v from here on. -/
def pt (Γ : Env) (d : Option Tmp) (v : Value) : Env := match d with | some d => (d, v) :: Γ | Option.none => Γ
def okDst (n : Nat) (d : Option Tmp) : Bool := match d with | some d => Nat.blt d n | Option.none => true
theorem Fits.put {n : Nat} {Γ : Env} {a : Act} (h : Fits n Γ a) {d : Option Tmp} (hd : okDst n d = true) (v : Value) : Fits n (pt Γ d v) (a.put d v) := by
 cases d with
 | none => exact h
 | some d =>
  have hlt : d < n := by simpa [okDst, Nat.blt_eq] using hd
  refine ⟨by simp [Act.put, h.size], h.defers, fun i u hu => ?_⟩; simp only [pt, get] at hu
  by_cases e : d = i
  ·subst e; simp at hu; subst hu; simp [Act.put, h.size, hlt]
  ·have hb : Nat.beq d i = false := beq_ne e
   rw [hb] at hu; have := h.read i u (by simpa using hu)
   rw [← this]; simp [Act.put, Array.getElem?_setIfInBounds_ne e]
/-- Is the operation carried out? -/
def wnt (Γ : Env) (ops : Array Oper) (o : Oper) : Option Bool :=
 match o.guard with
 | Option.none => some true
 | some (j, want) => match (ops[j]?).bind (·.dst) with
  | some t => match get Γ t with
   | some (.bool b) => some (b == want)
   | some _ => some false
   | Option.none => Option.none
  | Option.none => some false
theorem xZ {n : Nat} {Γ : Env} {a : Act} (h : Fits n Γ a) {ops : Array Oper} {o : Oper} {t : Bool} (hw : wnt Γ ops o = some t) :
 Region.wanted o (yielded ops a.tmps) = t := by
 unfold wnt at hw; unfold Region.wanted
 cases hg : o.guard with
 | none => simpa [hg] using hw
 | some jw =>
  obtain ⟨j, want⟩ := jw
  simp only [hg] at hw ⊢; unfold yielded
  cases ht : (ops[j]?).bind (·.dst) with
  | none => simp only [ht] at hw ⊢; simpa using hw
  | some s =>
   simp only [ht] at hw ⊢
   cases hs : get Γ s with
   | none => simp [hs] at hw
   | some v =>
    have hr := h.read s v hs
    have cases' : (a.tmps[s]? = some v) ∨ v = undef := by
     cases e : a.tmps[s]? with
     | none => right; simpa [Array.getD_eq_getD_getElem?, e] using hr.symm
     | some u => left; simp [Array.getD_eq_getD_getElem?, e] at hr; rw [hr]
    rw [hs] at hw
    rcases cases' with e | e
    ·simp only [Option.bind_some, e]; cases v <;> simp_all
    ·subst e; simp only [undef] at hw; have : t = false := by simpa using hw.symm
     subst this
     cases e2 : a.tmps[s]? with
     | none => simp [e2]
     | some u =>
      simp [Array.getD_eq_getD_getElem?, e2] at hr
      subst hr; simp [e2, undef]
/-! ### Operations -/
/-- It only reads: its value is v in every world that holds L. -/
def RO (P : Program) (n : Nat) (L : HProp) (Γ : Env) (o : Oper) (v : Value) : Prop :=
 ∀ a w R, Fits n Γ a → sat w (star L R) → (execOp a.eval o).run P w = .ok (.value v) w
/-- It acts on H. -/
def EFF (P : Program) (n : Nat) (Γ : Env) (o : Oper) (H : HProp) (Ψ : Value → List HProp → Prop) : Prop :=
 ∀ a w F (K : Act → World → Prop) (Q : Exit → Act → World → Prop), Fits n Γ a → sat w (star H F) →
  (∀ v w' H', Ψ v H' → sat w' (star (St H') F) → K (a.put o.dst v) w') → o.wp P a w K Q
def Post := Exit → Env → List HProp → Prop
def Lift (n : Nat) (F : HProp) (Q : Post) : Exit → Act → World → Prop :=
 fun e a w => ∃ Γ H, Q e Γ H ∧ Fits n Γ a ∧ sat w (star (St H) F)
theorem Lift_mono {n : Nat} {F : HProp} {Q Q' : Post} (h : ∀ e Γ H, Q e Γ H → Q' e Γ H) (e : Exit) (a : Act) (w : World) : Lift n F Q e a w → Lift n F Q' e a w :=
 fun ⟨Γ, H, q, f, s⟩ => ⟨Γ, H, h _ _ _ q, f, s⟩
section
variable {P : Program} {n : Nat} {Γ : Env} {H : List HProp} {Q : Post} {ops : Array Oper} {o : Oper} {l : List Oper}
/-- A list of operations in this order. -/
def Ops (P : Program) (n : Nat) (ops : Array Oper) (l : List Oper) (Γ : Env) (H : List HProp) (Q : Post) : Prop :=
 ∀ a w F, Fits n Γ a → sat w (star (St H) F) → wpList P ops (Lift n F Q) l a w
theorem zN (h : Q .normal Γ H) : Ops P n ops [] Γ H Q := fun a w F f s => wpList_nil ⟨Γ, H, h, f, s⟩
theorem ops_ro {v : Value} (hw : wnt Γ ops o = some true) (hr : RO P n (St H) Γ o v) (hd : okDst n o.dst = true) (h : Ops P n ops l (pt Γ o.dst v) H Q) :
 Ops P n ops (o :: l) Γ H Q := fun a w F f s => by
 refine wpList_step fun K hK => ?_
 rw [xZ f hw]; simp only [if_true, Oper.wp, hr a w F f s, Oper.upon]; exact hK _ _ (h _ w F (f.put hd v) s)
theorem ops_eff {Ψ : Value → List HProp → Prop} (hw : wnt Γ ops o = some true) (hr : EFF P n Γ o (St H) Ψ) (hd : okDst n o.dst = true)
 (h : ∀ v H', Ψ v H' → Ops P n ops l (pt Γ o.dst v) H' Q) : Ops P n ops (o :: l) Γ H Q := fun a w F f s => by
 refine wpList_step fun K hK => ?_
 rw [xZ f hw]; simp only [if_true]; exact hr a w F K _ f s fun v w' H' hp hs => hK _ _ (h v H' hp _ w' F (f.put hd v) hs)
theorem ops_skip (hw : wnt Γ ops o = some false) (hd : okDst n o.dst = true) (h : Ops P n ops l (pt Γ o.dst undef) H Q) : Ops P n ops (o :: l) Γ H Q := fun a w F f s => by
 refine wpList_step fun K hK => ?_
 rw [xZ f hw]; simp only [Bool.false_eq_true, if_false]; exact hK _ _ (h _ w F (f.put hd undef) s)
/-! ### Code -/
def Wp (P : Program) (n : Nat) (c : Code) (Γ : Env) (H : List HProp) (Q : Post) : Prop :=
 ∀ a w F, Fits n Γ a → sat w (star (St H) F) → c.wp P (Lift n F Q) a w
def Then (N : Env → List HProp → Prop) (Q : Post) : Post
 | .normal, Γ, H => N Γ H
 | e, Γ, H => Q e Γ H
def InBlock (id : Nat) (Q : Post) : Post
 | .exit i, Γ, H => bif Nat.beq i id then Q .normal Γ H else Q (.exit i) Γ H
 | e, Γ, H => Q e Γ H
theorem zK {id : Nat} (h : Ops P n l.toArray l Γ H Q) : Wp P n (.region id l.toArray false) Γ H Q := fun a w F f s => wp_region_lit (h a w F f s)
theorem zM {x y : Code} (h : Wp P n x Γ H (Then (fun Γ' H' => Wp P n y Γ' H' Q) Q)) : Wp P n (.seq x y) Γ H Q := fun a w F f s => by
 refine wp_seq (wp_mono (h a w F f s) ?_); rintro e a' w' ⟨Γ', H', q, f', s'⟩
 cases e with
 | normal => exact q a' w' F f' s'
 | _ => exact ⟨Γ', H', q, f', s'⟩
theorem zq {c : Operand} {x y : Code} {t : Bool} (hc : ev Γ c = some (.bool t)) (ht : t = true → Wp P n x Γ H Q) (hf : t = false → Wp P n y Γ H Q) :
 Wp P n (.cond c x y) Γ H Q := fun a w F f s => wp_cond_split (f.ev hc) (fun e => ht e a w F f s) (fun e => hf e a w F f s)
theorem qG {c : Operand} {x y : Code} (hc : ev Γ c = some (.bool true)) (ht : Wp P n x Γ H Q) : Wp P n (.cond c x y) Γ H Q :=
 zq hc (fun _ => ht) (fun e => by cases e)
theorem qC {c : Operand} {x y : Code} (hc : ev Γ c = some (.bool false)) (hf : Wp P n y Γ H Q) : Wp P n (.cond c x y) Γ H Q :=
 zq hc (fun e => by cases e) (fun _ => hf)
theorem zl (h : Q .normal Γ H) : Wp P n .skip Γ H Q := fun a w F f s => wp_skip ⟨Γ, H, h, f, s⟩
theorem wp_label' {k : Nat} (h : Q .normal Γ H) : Wp P n (.label k) Γ H Q := fun a w F f s => wp_label ⟨Γ, H, h, f, s⟩
theorem zi (h : Q .ret Γ H) : Wp P n .ret Γ H Q := fun a w F f s => wp_ret ⟨Γ, H, h, f, s⟩
theorem yJ {id : Nat} (h : Q (.exit id) Γ H) : Wp P n (.exit id) Γ H Q := fun a w F f s => wp_exit ⟨Γ, H, h, f, s⟩
theorem wp_goto' {k : Nat} (h : Q (.goto k) Γ H) : Wp P n (.goto k) Γ H Q := fun a w F f s => wp_goto ⟨Γ, H, h, f, s⟩
theorem qA {id : Nat} {c : Code} (h : Wp P n c Γ H (InBlock id Q)) : Wp P n (.block id c) Γ H Q := fun a w F f s => by
 refine wp_block (wp_mono (h a w F f s) ?_); rintro e a' w' ⟨Γ', H', q, f', s'⟩
 cases e with
 | exit i =>
  simp only [InBlock] at q
  by_cases e : i = id
  ·subst e; simp at q; simp only [Exit.inBlock, if_true]; exact ⟨Γ', H', q, f', s'⟩
  ·have hb : Nat.beq i id = false := beq_ne e
   rw [hb] at q; simp only [Exit.inBlock, if_neg e]; exact ⟨Γ', H', q, f', s'⟩
 | _ => exact ⟨Γ', H', q, f', s'⟩
theorem wp_post {c : Code} {Q' : Post} (h : Wp P n c Γ H Q) (hq : ∀ e Γ H, Q e Γ H → Q' e Γ H) : Wp P n c Γ H Q' :=
 fun a w F f s => wp_mono (h a w F f s) (Lift_mono hq)
/-- Less is known of the frame. -/
def Sub : Env → Env → Prop
 | [], _ => True
 | (i, v) :: t, Γ => get Γ i = some v ∧ Sub t Γ
theorem Sub.get {Γ : Env} : ∀ {Δ : Env}, Sub Δ Γ → ∀ i v, get Δ i = some v → get Γ i = some v
 | [], _, i, v, h => by cases h
 | (j, u) :: t, ⟨h1, h2⟩, i, v, h => by
  simp only [Sx.get] at h
  by_cases e : j = i
  ·subst e; simp at h; subst h; exact h1
  ·have hb : Nat.beq j i = false := beq_ne e
   rw [hb] at h; exact Sub.get h2 i v (by simpa using h)
theorem Fits.sub {Γ Δ : Env} {a : Act} (h : Fits n Γ a) (s : Sub Δ Γ) : Fits n Δ a := ⟨h.size, h.defers, fun i v hi => h.read i v (s.get i v hi)⟩
theorem qD {H' : List HProp} {c : Code} (e : ∀ w F, sat w (star (St H) F) → sat w (star (St H') F)) (h : Wp P n c Γ H' Q) : Wp P n c Γ H Q :=
 fun a w F f s => h a w F f (e w F s)
theorem qp {H' : List HProp} (e : ∀ w F, sat w (star (St H) F) → sat w (star (St H') F)) (h : Ops P n ops l Γ H' Q) : Ops P n ops l Γ H Q :=
 fun a w F f s => h a w F f (e w F s)
theorem exists_least (p : Nat → Prop) (h : ∃ m, p m) : ∃ m, p m ∧ ∀ k, p k → m ≤ k := by
 obtain ⟨m, hm⟩ := h
 induction m using Nat.strongRecOn with
 | _ m ih =>
  by_cases hk : ∃ k, k < m ∧ p k
  ·obtain ⟨k, hlt, hp⟩ := hk; exact ih k hlt hp
  ·exact ⟨m, hm, fun k hp => Nat.le_of_not_lt fun hlt => hk ⟨k, hlt, hp⟩⟩
open Classical in
/-- the least index at which p holds -/
noncomputable def least (p : Nat → Prop) : Nat := if h : ∃ m, p m then (exists_least p h).choose else 0
theorem least_spec {p : Nat → Prop} (h : ∃ m, p m) : p (least p) := by
 unfold least; rw [dif_pos h]; exact (exists_least p h).choose_spec.1
theorem least_le {p : Nat → Prop} {k : Nat} (h : p k) : least p ≤ k := by
 have hx : ∃ m, p m := ⟨k, h⟩
 unfold least; rw [dif_pos hx]; exact (exists_least p hx).choose_spec.2 k h
/-- A loop: I m holds at its head; each round lowers m. -/
theorem wp_loop' {c : Code} (I : Nat → Env → List HProp → Prop) {m : Nat} (h0 : I m Γ H)
 (round : ∀ m Γ H, I m Γ H → Wp P n c Γ H (Then (fun Γ' H' => ∃ m', m' < m ∧ I m' Γ' H') Q)) : Wp P n (.loop c) Γ H Q := fun a w F f s => by
 let J : Act → World → Nat → Prop := fun a w m => ∃ Γ H, I m Γ H ∧ Fits n Γ a ∧ sat w (star (St H) F)
 refine wp_loop (fun a w => ∃ m, J a w m) (fun a w => least (J a w)) ⟨m, Γ, H, h0, f, s⟩ fun a w hJ => ?_
 obtain ⟨Γ', H', hI, f', s'⟩ := least_spec hJ
 refine wp_mono (round _ Γ' H' hI a w F f' s') ?_; rintro e a' w' ⟨Γ2, H2, q, f2, s2⟩
 cases e with
 | normal =>
  obtain ⟨m', hlt, hI'⟩ := q
  have hj : J a' w' m' := ⟨Γ2, H2, hI', f2, s2⟩
  exact ⟨⟨m', hj⟩, Nat.lt_of_le_of_lt (least_le hj) hlt⟩
 | _ => exact ⟨Γ2, H2, q, f2, s2⟩
def NoGoto (Q : Post) : Post
 | .goto _, _, _ => False
 | e, Γ, H => Q e Γ H
def Jump (k : Nat) (J : Env → List HProp → Prop) (Q : Post) : Post
 | .goto k', Γ, H => k' = k ∧ J Γ H
 | e, Γ, H => Q e Γ H
theorem wp_scopeJ' {c rest : Code} (k : Nat) (I : Nat → Env → List HProp → Prop) (hf : findLabel c k = some rest)
 (first : Wp P n c Γ H (Jump k (fun Γ' H' => ∃ m, I m Γ' H') Q))
 (pass : ∀ m Γ H, I m Γ H → Wp P n rest Γ H (Jump k (fun Γ' H' => ∃ m', m' < m ∧ I m' Γ' H') Q)) : Wp P n (.scope c) Γ H Q := fun a w F f s => by
 let J : Act → World → Nat → Prop := fun a w m => ∃ Γ H, I m Γ H ∧ Fits n Γ a ∧ sat w (star (St H) F)
 refine wp_scope_jumps k (fun a w => ∃ m, J a w m) (fun a w => least (J a w)) hf (wp_mono (first a w F f s) ?_) fun a w hJ => ?_
 ·rintro e a' w' ⟨Γ2, H2, q, f2, s2⟩
  cases e with
  | goto k' => obtain ⟨rfl, m, hI⟩ := q; exact ⟨rfl, m, Γ2, H2, hI, f2, s2⟩
  | _ => exact ⟨Γ2, H2, q, f2, s2⟩
 ·obtain ⟨Γ', H', hI, f', s'⟩ := least_spec hJ
  refine wp_mono (pass _ Γ' H' hI a w F f' s') ?_; rintro e a' w' ⟨Γ2, H2, q, f2, s2⟩
  cases e with
  | goto k' =>
   obtain ⟨rfl, m', hlt, hI'⟩ := q
   have hj : J a' w' m' := ⟨Γ2, H2, hI', f2, s2⟩
   exact ⟨rfl, ⟨m', hj⟩, Nat.lt_of_le_of_lt (least_le hj) hlt⟩
  | _ => exact ⟨Γ2, H2, q, f2, s2⟩
end
/-! ### Calls -/
def Tri (P : Program) (f : FuncId) (args : List Value) (Pre : List HProp) (Ψ : Value → List HProp → Prop) : Prop :=
 ∀ w F, sat w (star (St Pre) F) → Calls P f args.toArray w fun e w' => ∃ v H', e = .returned v ∧ Ψ v H' ∧ sat w' (star (St H') F)
/-- What the result's variables hold. -/
def Res (P : Program) (fn : Func) (n : Nat) (Γ : Env) (H : List HProp) (v : Value) : Prop :=
 ∀ a w F, Fits n Γ a → sat w (star (St H) F) → (results fn a.tmps).run P w = .ok v w
def Done (P : Program) (fn : Func) (n : Nat) (Ψ : Value → List HProp → Prop) : Post
 | .ret, Γ, H => ∃ v, Res P fn n Γ H v ∧ Ψ v H
 | .normal, Γ, H => ∃ v, Res P fn n Γ H v ∧ Ψ v H
 | _, _, _ => False
def argEnv : Nat → List Value → Env
 | _, [] => []
 | k, v :: l => (k, v) :: argEnv (k + 1) l
theorem get_argEnv : ∀ (l : List Value) (k i : Nat) (v : Value), get (argEnv k l) i = some v → k ≤ i ∧ l[i - k]? = some v
 | [], _, _, _, h => by cases h
 | u :: l, k, i, v, h => by
  simp only [argEnv, get] at h
  by_cases e : k = i
  ·subst e; simp at h; subst h; simp
  ·have hb : Nat.beq k i = false := beq_ne e
   rw [hb] at h; obtain ⟨h1, h2⟩ := get_argEnv l (k + 1) i v (by simpa using h)
   refine ⟨by omega, ?_⟩; rw [show i - k = (i - (k + 1)) + 1 by omega]; simpa using h2
theorem qd {P : Program} {f : FuncId} {fn : Func} {c : Code} {n : Nat} {args : List Value} {Pre : List HProp} {Ψ : Value → List HProp → Prop}
 (hf : P.funcs[f]? = some fn) (hb : fn.body = some c) (hn : fn.ntmps = n) (hl : args.length ≤ n)
 (h : Wp P n c (argEnv 0 args) Pre (Done P fn n Ψ)) : Tri P f args Pre Ψ := fun w F s => by
 refine calls_of_wp hf hb (wp_mono (h _ w F ⟨?_, rfl, ?_⟩ s) ?_)
 ·simp; omega
 ·intro i v hi; obtain ⟨_, h2⟩ := get_argEnv args 0 i v hi
  have hlt : i < args.length := (List.getElem?_eq_some_iff.1 (by simpa using h2)).1
  simp only [Nat.sub_zero] at h2; have h3 : args[i] = v := by simpa [List.getElem?_eq_getElem hlt] using h2
  simp [Array.getD_eq_getD_getElem?, Array.getElem?_append, hlt, h3]
 ·rintro e a' w' ⟨Γ', H', q, f', s'⟩
  cases e with
  | ret => obtain ⟨v, hr, hp⟩ := q; exact ⟨f'.defers, v, hr a' w' F f' s', v, H', rfl, hp, s'⟩
  | normal => obtain ⟨v, hr, hp⟩ := q; exact ⟨f'.defers, v, hr a' w' F f' s', v, H', rfl, hp, s'⟩
  | exit _ => exact q.elim
  | goto _ => exact q.elim
  | panic _ => exact q.elim
  | outgrown => exact q.elim
section
variable {P : Program} {fn : Func} {n : Nat} {Γ : Env} {H : List HProp}
theorem res0 (h : fn.results = #[]) : Res P fn n Γ H (.tuple #[]) := fun a w F f s => results_none h _ _ _
theorem qk {t : Tmp} {v : Value} (h : fn.results = #[.tmp t]) (hv : get Γ t = some v) : Res P fn n Γ H v := fun a w F f s => by
 rw [results_tmp h, f.read t v hv]
theorem res2 {t u : Tmp} {v x : Value} (h : fn.results = #[.tmp t, .tmp u]) (hv : get Γ t = some v) (hx : get Γ u = some x) : Res P fn n Γ H (.tuple #[v, x]) := fun a w F f s => by
 rw [results_tmp2 h, f.read t v hv, f.read u x hx]
theorem res3 {t u r : Tmp} {v x y : Value} (h : fn.results = #[.tmp t, .tmp u, .tmp r]) (hv : get Γ t = some v) (hx : get Γ u = some x) (hy : get Γ r = some y) : Res P fn n Γ H (.tuple #[v, x, y]) := fun a w F f s => by
 rw [results_tmp3 h, f.read t v hv, f.read u x hx, f.read r y hy]
end
/-- Pre is taken out of H. -/
def Split (H Pre Rest : List HProp) : Prop := St H = star (St Pre) (St Rest)
theorem zR (H : List HProp) : Split H [] H := (emp_star _).symm
theorem zG {H Pre Rest : List HProp} (i : Nat) {A : HProp} (hi : H[i]? = some A) (h : Split (H.eraseIdx i) Pre Rest) : Split H (A :: Pre) Rest := by
 unfold Split at *; rw [yS hi, h, qJ, zv]
theorem tri_frame {P : Program} {f : FuncId} {args : List Value} {H Pre Rest : List HProp} {Ψ : Value → List HProp → Prop} (hs : Split H Pre Rest) (h : Tri P f args Pre Ψ) :
 Tri P f args H (fun v H' => ∃ L, Ψ v L ∧ H' = L ++ Rest) := fun w F s => by
 rw [hs, zv] at s; refine (h w _ s).mono ?_; rintro e w' ⟨v, L, rfl, hp, s'⟩; exact ⟨v, L ++ Rest, rfl, ⟨L, hp, rfl⟩, by rw [yC, zv]; exact s'⟩
theorem zb {P : Program} {n : Nat} {Γ : Env} {o : Oper} {H Pre Rest : List HProp} {Ψ : Value → List HProp → Prop} {f : FuncId} {xs : List Operand} {tys : Array TypeId} {vs : List Value}
 (hc : ∀ args w, (callFunc f args).run P w = .ok (.enter f args) w)
 (hop : o.op = .call { callee := .value (.func f), args := xs.toArray, argTypes := tys }) (hv : evs Γ xs = some vs)
 (hs : Split H Pre Rest) (ht : Tri P f vs Pre Ψ) : EFF P n Γ o (St H) (fun v H' => ∃ L, Ψ v L ∧ H' = L ++ Rest) := fun a w F K Q f' s hK => by
 have hm := f'.evs hv
 unfold Oper.wp; simp only [execOp, hop, resolve, Act.eval, Deferred.ofValue, invoke, Sem.run_bind, Sem.run_pure, Result.andThen_ok, hc, Oper.upon, Array.append_empty, Array.empty_append, List.map_toArray, hm]; refine (tri_frame hs ht w F s).mono ?_; rintro e w' ⟨v, H', rfl, hp, s'⟩; exact hK v w' H' hp s'
/-! ### Regions that draw their order -/
section
variable {P : Program} {ops : Array Oper} {Q : Exit → Act → World → Prop} {md : Region.Mode} {C : World → Prop} {m : Nat}
/-- Whatever order is picked from here on; C holds behind each operation ahead of number m. -/
def wpAnyG (P : Program) (md : Region.Mode) (ops : Array Oper) (Q : Exit → Act → World → Prop) (C : World → Prop) (m : Nat) : Nat → Array Bool → Act → World → Prop
 | 0, listed, a, w => Region.ready md ops listed = [] ∧ Q .normal a w
 | fuel + 1, listed, a, w =>
  (Region.ready md ops listed = [] → Q .normal a w) ∧
  ∀ i ∈ Region.ready md ops listed, wpOp P ops Q i (fun a' w' => (i < m → C w') ∧ wpAnyG P md ops Q C m fuel (listed.setIfInBounds i true) a' w') a w
theorem wpAny_of_G : ∀ (fuel : Nat) (listed : Array Bool) (a : Act) (w : World), wpAnyG P md ops Q C m fuel listed a w → wpAny P md ops Q fuel listed a w
 | 0, _, _, _, h => h
 | fuel + 1, _, _, _, h => ⟨h.1, fun i hi => wpOp_mono (fun a' w' h' => wpAny_of_G fuel _ a' w' h'.2) (h.2 i hi)⟩
theorem ready_unlisted {i : Nat} {listed : Array Bool} (h : i ∈ Region.ready md ops listed) : listed.getD i true = false := (mem_ready.1 h).1
/-- Each operation from m on waits for each ahead of m. -/
def barrier (md : Region.Mode) (ops : Array Oper) (m : Nat) : Bool :=
 (List.range ops.size).all fun j => Nat.blt j m || (List.range m).all fun i => match ops[j]? with
  | some o => o.after.any fun e => Region.binds md e && Nat.beq e.on i
  | none => true
/-- What waits for number i, in the end. -/
def waits (md : Region.Mode) (ops : Array Oper) (i : Nat) : List Nat :=
 (List.range ops.size).foldl (fun acc j => match ops[j]? with
  | some o => if o.after.any fun e => Region.binds md e && (Nat.beq e.on i || acc.any (Nat.beq e.on)) then j :: acc else acc
  | none => acc) []
/-- All from m on wait for number i, in the end, and none of what waits for it has come up. -/
def late (md : Region.Mode) (ops : Array Oper) (m : Nat) (listed : Array Bool) (i : Nat) : Bool :=
 (List.range ops.size).all (fun j => Nat.blt j m || (waits md ops i).any (Nat.beq j)) &&
 (waits md ops i).all fun j => !listed.getD j true && match ops[j]? with
  | some o => o.after.any fun e => Region.binds md e && (Nat.beq e.on i || (waits md ops i).any (Nat.beq e.on))
  | none => true
theorem late_spec {listed : Array Bool} {i : Nat} (h : late md ops m listed i = true) : ∃ D : List Nat, (∀ (j : Nat) (oj : Oper), ops[j]? = some oj → m ≤ j → j ∈ D) ∧
 (∀ j, j ∈ D → ∀ oj, ops[j]? = some oj → ∃ e ∈ oj.after, Region.binds md e = true ∧ (e.on = i ∨ e.on ∈ D)) ∧ ∀ j, j ∈ D → listed.getD j true = false := by
 unfold late at h; simp only [Bool.and_eq_true, List.all_eq_true] at h
 have hc : ∀ x : Nat, (waits md ops i).any (Nat.beq x) = true → x ∈ waits md ops i := fun x hx => by
  obtain ⟨y, hy, hxy⟩ := List.any_eq_true.1 hx
  rw [Nat.eq_of_beq_eq_true hxy]; exact hy
 refine ⟨waits md ops i, fun j oj hj hm => ?_, fun j hj oj ho => ?_, fun j hj => ?_⟩
 ·have h1 := h.1 j (List.mem_range.2 (Array.getElem?_eq_some_iff.1 hj).1)
  have hb : Nat.blt j m = false := by
   cases hh : Nat.blt j m with
   | false => rfl
   | true => exact absurd (show j < m by simpa [Nat.blt_eq] using hh) (by omega)
  rw [hb, Bool.false_or] at h1; exact hc j h1
 ·have h1 := (h.2 j hj).2
  simp only [ho] at h1; obtain ⟨e, he, hh⟩ := Array.any_eq_true'.1 h1
  simp only [Bool.and_eq_true, Bool.or_eq_true] at hh; exact ⟨e, he, hh.1, hh.2.imp Nat.eq_of_beq_eq_true (hc _)⟩
 ·simpa using (h.2 j hj).1
theorem wpAnyG_first {i : Nat} {oi : Oper} {v : Value} (hi : ops[i]? = some oi) (hsel : ∀ (j : Nat) (o : Oper) cs b, ops[j]? = some o → o.op ≠ .select cs b)
 (hQ : ∀ c a w, Q (.panic c) (a.put oi.dst v) w → Q (.panic c) a w) (D : List Nat) (hD1 : ∀ (j : Nat) (oj : Oper), ops[j]? = some oj → m ≤ j → j ∈ D) (hD2 : ∀ j, j ∈ D → ∀ oj, ops[j]? = some oj → ∃ e ∈ oj.after, Region.binds md e = true ∧ (e.on = i ∨ e.on ∈ D)) :
 ∀ (fuel : Nat) (listed : Array Bool) (a : Act) (w : World),
  (∀ j oj, ops[j]? = some oj → j ≠ i → listed.getD j true = false → (∀ e ∈ oj.after, Region.binds md e = true → e.on ≠ i) → oi.apart ops oj = true) →
  i ∈ Region.ready md ops listed → (∀ j, j ∈ D → listed.getD j true = false) → YieldsIf P ops C oi v a → C w →
  wpAnyG P md ops Q C m fuel (listed.setIfInBounds i true) (a.put oi.dst v) w → wpAnyG P md ops Q C m (fuel + 1) listed a w := by
 intro fuel
 induction fuel with
 | zero =>
  intro listed a w _ hr _ hy hC G; refine ⟨fun h => (by rw [h] at hr; cases hr), fun j hj => ?_⟩
  by_cases hji : j = i
  ·subst hji; exact hy.wpOp hi hC ⟨fun _ => hC, G⟩
  ·have h0 := ready_mono hj hji
   rw [G.1] at h0; cases h0
 | succ fuel ih =>
  intro listed a w hfree hr hun hy hC G; refine ⟨fun h => (by rw [h] at hr; cases hr), fun j hj => ?_⟩
  by_cases hji : j = i
  ·subst hji; exact hy.wpOp hi hC ⟨fun _ => hC, G⟩
  ·have h1 := G.2 j (ready_mono hj hji)
   obtain ⟨hjun, oj, hoj, hall⟩ := mem_ready.1 hj
   have hnot : ∀ e ∈ oj.after, Region.binds md e = true → e.on ≠ i := fun e he hb heq => by
    have h2 := hall e he hb
    have h3 := ready_unlisted hr
    rw [heq] at h2; simp only [Array.getD_eq_getD_getElem?] at h2 h3
    cases hh : listed[i]? with
    | none => simp [hh] at h3
    | some t => simp [hh] at h2 h3; rw [h3] at h2; cases h2
   have hjD : j ∉ D := fun hjD => by
    obtain ⟨e, he, hb, hon⟩ := hD2 j hjD oj hoj
    rcases hon with hon | hon
    ·exact hnot e he hb hon
    ·have h2 := hall e he hb
     have h3 := hun _ hon
     simp only [Array.getD_eq_getD_getElem?] at h2 h3
     cases hh : listed[e.on]? with
     | none => simp [hh] at h3
     | some t => simp [hh] at h2 h3; rw [h3] at h2; cases h2
   have hjm : j < m := Nat.lt_of_not_le fun hle => hjD (hD1 j oj hoj hle)
   have h2 := wpOp_putIf hoj (hfree j oj hoj hji hjun hnot) (fun cs b => hsel i oi cs b hi) (fun cs b => hsel j oj cs b hoj) hQ hy h1
   refine wpOp_mono (fun a' w' h3 => ?_) h2; obtain ⟨hy', hC', hG'⟩ := h3
   refine ⟨hC', ih (listed.setIfInBounds j true) a' w' ?_ (ready_mono hr (Ne.symm hji)) (fun k hk => by rw [getD_set_ne true (show ¬ j = k from fun e => hjD (by rw [e]; exact hk))]; exact hun k hk) hy' (hC' hjm) ?_⟩
   ·intro k ok hk hki hun' hno; refine hfree k ok hk hki ?_ hno
    by_cases hjk : j = k
    ·subst hjk; exact hjun
    ·rw [getD_set_ne true hjk] at hun'; exact hun'
   ·rw [Array.setIfInBounds_comm _ _ hji]; exact hG'
end
section
variable {P : Program} {n : Nat} {ops : Array Oper} {m : Nat} {L H : List HProp} {Γ : Env} {Q : Post} {fuel : Nat} {listed : Array Bool}
/-- A region that draws: L is only read till all ahead of number m have come up. -/
def Any (P : Program) (n : Nat) (ops : Array Oper) (m : Nat) (L : List HProp) (fuel : Nat) (listed : Array Bool) (Γ : Env) (H : List HProp) (Q : Post) : Prop :=
 ∀ a w F, Fits n Γ a → sat w (star (St L) (star (St H) F)) → wpAnyG P .any ops (Lift n F Q) (fun w => ∃ R, sat w (star (St L) R)) m fuel listed a w
/-- May number i be taken first? -/
def takeB (ops : Array Oper) (m : Nat) (listed : Array Bool) (i : Nat) : Bool :=
 Nat.blt i m && Region.noSelect ops && late .any ops m listed i && Region.free .any ops listed i && (Region.ready .any ops listed).contains i
theorem any_first {i : Nat} {o : Oper} {v : Value} (hb : takeB ops m listed i = true) (hi : ops[i]? = some o) (hd : okDst n o.dst = true)
 (hy : ∀ a, Fits n Γ a → YieldsIf P ops (fun w => ∃ R, sat w (star (St L) R)) o v a)
 (hQ : ∀ Γ H c, ¬ Q (.panic c) Γ H)
 (h : Any P n ops m L fuel (listed.setIfInBounds i true) (pt Γ o.dst v) H Q) : Any P n ops m L (fuel + 1) listed Γ H Q := fun a w F f s => by
 simp only [takeB, Bool.and_eq_true] at hb; obtain ⟨⟨⟨⟨h1, h2⟩, h3⟩, h4⟩, h5⟩ := hb
 obtain ⟨D, hD1, hD2, hD3⟩ := late_spec h3
 exact wpAnyG_first hi (Region.noSelect_spec h2) (fun c a w ⟨Γ, H, q, _⟩ => (hQ _ _ _ q).elim) D hD1 hD2 fuel listed a w (Region.free_spec hi h4) (by simpa using h5) hD3 (hy a f) ⟨_, s⟩
  (h _ w F (f.put hd v) s)
theorem any_ro {i : Nat} {o : Oper} {v : Value} (hb : takeB ops m listed i = true) (hi : ops[i]? = some o) (hw : wnt Γ ops o = some true) (hr : RO P n (St L) Γ o v) (hd : okDst n o.dst = true)
 (hQ : ∀ Γ H c, ¬ Q (.panic c) Γ H)
 (h : Any P n ops m L fuel (listed.setIfInBounds i true) (pt Γ o.dst v) H Q) : Any P n ops m L (fuel + 1) listed Γ H Q :=
 any_first hb hi hd (fun a f => .inl ⟨xZ f hw, fun w ⟨R, s⟩ => hr a w R f s⟩) hQ h
theorem any_skip {i : Nat} {o : Oper} (hb : takeB ops m listed i = true) (hi : ops[i]? = some o) (hw : wnt Γ ops o = some false) (hd : okDst n o.dst = true)
 (hQ : ∀ Γ H c, ¬ Q (.panic c) Γ H)
 (h : Any P n ops m L fuel (listed.setIfInBounds i true) (pt Γ o.dst undef) H Q) : Any P n ops m L (fuel + 1) listed Γ H Q :=
 any_first hb hi hd (fun a f => .inr ⟨xZ f hw, rfl⟩) hQ h
/-- Nothing but number i may come up: it acts. -/
theorem any_eff {i : Nat} {o : Oper} {Ψ : Value → List HProp → Prop} (hb : Region.ready .any ops listed = [i]) (hi : ops[i]? = some o) (hw : wnt Γ ops o = some true)
 (hr : EFF P n Γ o (St H) Ψ) (hd : okDst n o.dst = true)
 (h : ∀ v H', Ψ v H' → Any P n ops m L fuel (listed.setIfInBounds i true) (pt Γ o.dst v) H' Q) : Any P n ops m L (fuel + 1) listed Γ H Q := fun a w F f s => by
 refine ⟨fun e => (by rw [hb] at e; cases e), fun j hj => ?_⟩; rw [hb] at hj; obtain rfl : j = i := by simpa using hj
 refine wpOp_step hi fun K hK => ?_
 rw [xZ f hw]; simp only [if_true]; rw [qH] at s; refine hr a w _ K _ f s fun v w' H' hp hs => hK _ _ ⟨fun _ => ⟨star (St H') F, ?_⟩, h v H' hp _ w' F (f.put hd v) ?_⟩
 ·rw [qH]; exact hs
 ·rw [qH]; exact hs
/-- All ahead of number m have come up, and each that has not come up waits for one that may come up now: the read part is free again. -/
def doneB (ops : Array Oper) (m : Nat) (listed : Array Bool) : Bool := (List.range m).all fun i => listed.getD i true
theorem ready_late {j : Nat} (h : doneB ops m listed = true) (hj : j ∈ Region.ready .any ops listed) : m ≤ j := Nat.le_of_not_lt fun hlt => by
 have h1 := List.all_eq_true.1 h j (List.mem_range.2 hlt)
 rw [ready_unlisted hj] at h1; cases h1
theorem doneB_set (h : doneB ops m listed = true) (j : Nat) : doneB ops m (listed.setIfInBounds j true) = true := by
 unfold doneB at *
 refine List.all_eq_true.2 fun i hi => ?_
 have h1 := List.all_eq_true.1 h i hi
 by_cases e : j = i
 ·subst e; simp only [Array.getD_eq_getD_getElem?]
  by_cases hlt : j < listed.size
  ·simp [hlt]
  ·simp [Array.getElem?_eq_none (Nat.le_of_not_lt hlt), hlt]
 ·rw [getD_set_ne true e]; exact h1
theorem wpAnyG_late {Q : Exit → Act → World → Prop} {C : World → Prop} : ∀ (fuel : Nat) (listed : Array Bool) (a : Act) (w : World), doneB ops m listed = true →
 wpAny P .any ops Q fuel listed a w → wpAnyG P .any ops Q C m fuel listed a w
 | 0, _, _, _, _, h => h
 | fuel + 1, listed, _, _, hd, h => ⟨h.1, fun i hi => wpOp_mono (fun a' w' h' => ⟨fun hlt => absurd (ready_late hd hi) (by omega), wpAnyG_late fuel _ a' w' (doneB_set hd i) h'⟩) (h.2 i hi)⟩
theorem qR {m' : Nat} {L' H' : List HProp} (hd : doneB ops m listed = true) (hs : ∀ w F, sat w (star (St L) (star (St H) F)) → sat w (star (St L') (star (St H') F)))
 (h : Any P n ops m' L' fuel listed Γ H' Q) : Any P n ops m L fuel listed Γ H Q := fun a w F f s =>
 wpAnyG_late fuel listed a w hd (wpAny_of_G fuel listed a w (h a w F f (hs w F s)))
theorem qm (hb : Region.ready .any ops listed = []) (h : Q .normal Γ (L ++ H)) : Any P n ops m L fuel listed Γ H Q := fun a w F f s => by
 have hq : Lift n F Q .normal a w := ⟨Γ, L ++ H, h, f, by rw [yC, zv]; exact s⟩
 cases fuel with
 | zero => exact ⟨hb, hq⟩
 | succ k => exact ⟨fun _ => hq, by rw [hb]; simp⟩
theorem qZ {id : Nat} {l : List Oper} {Lo Hi : List HProp} (m : Nat) (hm : P.follows .mixedOrders = true) (hs : Split H Lo Hi)
 (h : Any P n l.toArray m Lo l.toArray.size (Array.replicate l.toArray.size false) Γ Hi Q) : Wp P n (.region id l.toArray true) Γ H Q := fun a w F f s => by
 refine wp_region_any hm (wpAny_of_G _ _ _ _ (h a _ F f ?_)); rw [hs, zv] at s; exact sat_heap rfl rfl s
theorem qu {H' : List HProp} (e : ∀ w F, sat w (star (St H) F) → sat w (star (St H') F)) (h : Any P n ops m L fuel listed Γ H' Q) : Any P n ops m L fuel listed Γ H Q :=
 fun a w F f s => h a w F f (by rw [qH] at s ⊢; exact e w _ s)
end
/-! ### The rules, as a walk uses them -/
section
variable {P : Program} {n : Nat} {ops : Array Oper} {l : List Oper} {Γ : Env} {H : List HProp} {Q : Post} {d : Tmp} {op : Op} {ty : TypeId} {pos : String} {aft : Array Edge} {g : Option (Nat × Bool)} {v : Value} {Ψ : Value → List HProp → Prop}
theorem zH (hw : wnt Γ ops ⟨some d, op, ty, pos, aft, g⟩ = some true) (hr : RO P n (St H) Γ ⟨some d, op, ty, pos, aft, g⟩ v) (hd : Nat.blt d n = true) (h : Ops P n ops l ((d, v) :: Γ) H Q) :
 Ops P n ops (⟨some d, op, ty, pos, aft, g⟩ :: l) Γ H Q := ops_ro hw hr hd h
theorem zZ (hw : wnt Γ ops ⟨some d, op, ty, pos, aft, g⟩ = some false) (hd : Nat.blt d n = true) (h : Ops P n ops l ((d, undef) :: Γ) H Q) :
 Ops P n ops (⟨some d, op, ty, pos, aft, g⟩ :: l) Γ H Q := ops_skip hw hd h
theorem zT (hw : wnt Γ ops ⟨some d, op, ty, pos, aft, g⟩ = some true) (hr : EFF P n Γ ⟨some d, op, ty, pos, aft, g⟩ (St H) Ψ) (hd : Nat.blt d n = true)
 (h : ∀ v H', Ψ v H' → Ops P n ops l ((d, v) :: Γ) H' Q) : Ops P n ops (⟨some d, op, ty, pos, aft, g⟩ :: l) Γ H Q := ops_eff hw hr hd h
theorem zo (hw : wnt Γ ops ⟨Option.none, op, ty, pos, aft, g⟩ = some true) (hr : EFF P n Γ ⟨Option.none, op, ty, pos, aft, g⟩ (St H) Ψ) (hd : true = true)
 (h : ∀ v H', Ψ v H' → Ops P n ops l Γ H' Q) : Ops P n ops (⟨Option.none, op, ty, pos, aft, g⟩ :: l) Γ H Q := ops_eff hw hr rfl h
variable {m fuel : Nat} {L : List HProp} {listed : Array Bool}
theorem xQ {i : Nat} (hb : takeB ops m listed i = true) (hi : ops[i]? = some ⟨some d, op, ty, pos, aft, g⟩) (hw : wnt Γ ops ⟨some d, op, ty, pos, aft, g⟩ = some true) (hr : RO P n (St L) Γ ⟨some d, op, ty, pos, aft, g⟩ v) (hd : Nat.blt d n = true)
 (hQ : ∀ Γ H c, ¬ Q (.panic c) Γ H) (h : Any P n ops m L fuel (listed.setIfInBounds i true) ((d, v) :: Γ) H Q) : Any P n ops m L (fuel + 1) listed Γ H Q := any_ro hb hi hw hr hd hQ h
theorem any_skip' {i : Nat} (hb : takeB ops m listed i = true) (hi : ops[i]? = some ⟨some d, op, ty, pos, aft, g⟩) (hw : wnt Γ ops ⟨some d, op, ty, pos, aft, g⟩ = some false) (hd : Nat.blt d n = true)
 (hQ : ∀ Γ H c, ¬ Q (.panic c) Γ H) (h : Any P n ops m L fuel (listed.setIfInBounds i true) ((d, undef) :: Γ) H Q) : Any P n ops m L (fuel + 1) listed Γ H Q := any_skip hb hi hw hd hQ h
theorem zRO {i : Nat} (hb : takeB ops m listed i = true) (hi : ops[i]? = some ⟨some d, op, ty, pos, aft, g⟩) (hw : wnt Γ ops ⟨some d, op, ty, pos, aft, g⟩ = some true) (hr : RO P n (St L) Γ ⟨some d, op, ty, pos, aft, g⟩ v) (hd : Nat.blt d n = true)
 (h : Any P n ops m L fuel (listed.setIfInBounds i true) ((d, v) :: Γ) H Q) (hQ : ∀ Γ H c, ¬ Q (.panic c) Γ H := by exact fun _ _ _ h => h) : Any P n ops m L (fuel + 1) listed Γ H Q := any_ro hb hi hw hr hd hQ h
theorem zSK {i : Nat} (hb : takeB ops m listed i = true) (hi : ops[i]? = some ⟨some d, op, ty, pos, aft, g⟩) (hw : wnt Γ ops ⟨some d, op, ty, pos, aft, g⟩ = some false) (hd : Nat.blt d n = true)
 (h : Any P n ops m L fuel (listed.setIfInBounds i true) ((d, undef) :: Γ) H Q) (hQ : ∀ Γ H c, ¬ Q (.panic c) Γ H := by exact fun _ _ _ h => h) : Any P n ops m L (fuel + 1) listed Γ H Q := any_skip hb hi hw hd hQ h
theorem qM {i : Nat} (hb : Region.ready .any ops listed = [i]) (hi : ops[i]? = some ⟨some d, op, ty, pos, aft, g⟩) (hw : wnt Γ ops ⟨some d, op, ty, pos, aft, g⟩ = some true) (hr : EFF P n Γ ⟨some d, op, ty, pos, aft, g⟩ (St H) Ψ) (hd : Nat.blt d n = true)
 (h : ∀ v H', Ψ v H' → Any P n ops m L fuel (listed.setIfInBounds i true) ((d, v) :: Γ) H' Q) : Any P n ops m L (fuel + 1) listed Γ H Q := any_eff hb hi hw hr hd h
theorem qq {i : Nat} (hb : Region.ready .any ops listed = [i]) (hi : ops[i]? = some ⟨Option.none, op, ty, pos, aft, g⟩) (hw : wnt Γ ops ⟨Option.none, op, ty, pos, aft, g⟩ = some true) (hr : EFF P n Γ ⟨Option.none, op, ty, pos, aft, g⟩ (St H) Ψ) (hd : true = true)
 (h : ∀ v H', Ψ v H' → Any P n ops m L fuel (listed.setIfInBounds i true) Γ H' Q) : Any P n ops m L (fuel + 1) listed Γ H Q := any_eff hb hi hw hr rfl h
theorem xG {o : Oper} (h : RO P n (St H) Γ o v) : EFF P n Γ o (St H) (fun v' H' => v' = v ∧ H' = H) := fun a w F K Q f s hK => by
 unfold Oper.wp; rw [h a w F f s]; exact hK v w H ⟨rfl, rfl⟩ s
theorem qx : ∀ w F, sat w (star (St L) (star (St H) F)) → sat w (star (St []) (star (St (L ++ H)) F)) := fun w F s => by
 rw [yV, emp_star, yC, zv]; exact s
theorem xW (hb : Region.ready .any ops listed = []) (h : Q .normal Γ L) : Any P n ops m L fuel listed Γ [] Q := qm hb (by simpa using h)
theorem qT (hb : Region.ready .any ops listed = []) (h : Q .normal Γ H) : Any P n ops m [] fuel listed Γ H Q := qm hb (by simpa using h)
theorem Split.all (H : List HProp) : Split H H [] := (qt _).symm
/-- of the frame only these slots are qn -/
def keepE (Γ : Env) : List Nat → Env
 | [] => []
 | k :: ks => match get Γ k with | some v => (k, v) :: keepE Γ ks | Option.none => keepE Γ ks
/-- what holds between two pieces of code -/
theorem wp_cut {x y : Code} (I : Env → List HProp → Prop) (h1 : Wp P n x Γ H (Then I Q)) (h2 : ∀ Γ H, I Γ H → Wp P n y Γ H Q) : Wp P n (.seq x y) Γ H Q :=
 zM (wp_post h1 fun e Γ H q => by cases e <;> first | exact h2 _ _ q | exact q)
/-- the frame holds these values -/
def Has (Γ Δ : Env) : Prop := ∀ i v, get Δ i = some v → get Γ i = some v
theorem wp_has {Δ : Env} {c : Code} (s : Has Γ Δ) (h : Wp P n c Δ H Q) : Wp P n c Γ H Q := fun a w F f s' => h a w F ⟨f.size, f.defers, fun i v hi => f.read i v (s i v hi)⟩ s'
theorem zf (Γ : Env) : Has Γ [] := fun i v h => by cases h
theorem zS {Δ : Env} {k : Nat} {u : Value} (h : get Γ k = some u) (t : Has Γ Δ) : Has Γ ((k, u) :: Δ) := fun i v hi => by
 simp only [get] at hi
 by_cases e : k = i
 ·subst e; simp at hi; subst hi; exact h
 ·rw [beq_ne e] at hi; exact t i v (by simpa using hi)
theorem yG {fn : Func} (hr : Res P fn n Γ H v) (h : Ψ v H) : Done P fn n Ψ .ret Γ H := ⟨v, hr, h⟩
theorem yX {fn : Func} (hr : Res P fn n Γ H v) (h : Ψ v H) : Done P fn n Ψ .normal Γ H := ⟨v, hr, h⟩
end
/-! ### Ways out, step by step -/
section
variable {Γ : Env} {H : List HProp} {Q : Post} {N J : Env → List HProp → Prop} {id i k : Nat}
theorem zI (h : N Γ H) : Then N Q .normal Γ H := h
theorem zh (h : Q .ret Γ H) : Then N Q .ret Γ H := h
theorem qV (h : Q (.exit id) Γ H) : Then N Q (.exit id) Γ H := h
theorem Then_goto (h : Q (.goto k) Γ H) : Then N Q (.goto k) Γ H := h
theorem zQ (h : Q .normal Γ H) : InBlock id Q .normal Γ H := h
theorem zn (h : Q .ret Γ H) : InBlock id Q .ret Γ H := h
theorem InBlock_goto (h : Q (.goto k) Γ H) : InBlock id Q (.goto k) Γ H := h
theorem qe (h : Q .normal Γ H) : InBlock id Q (.exit id) Γ H := by simp [InBlock, h]
theorem InBlock_far (hne : Nat.beq i id = false) (h : Q (.exit i) Γ H) : InBlock id Q (.exit i) Γ H := by simp only [InBlock, hne]; exact h
theorem zV (h : Q .normal Γ H) : NoGoto Q .normal Γ H := h
theorem qr (h : Q .ret Γ H) : NoGoto Q .ret Γ H := h
theorem NoGoto_exit (h : Q (.exit id) Γ H) : NoGoto Q (.exit id) Γ H := h
theorem ze (h : Q .normal Γ H) : Jump k J Q .normal Γ H := h
theorem yH (h : Q .ret Γ H) : Jump k J Q .ret Γ H := h
theorem Jump_exit (h : Q (.exit id) Γ H) : Jump k J Q (.exit id) Γ H := h
theorem Jump_goto (h : J Γ H) : Jump k J Q (.goto k) Γ H := ⟨rfl, h⟩
end
/-- A piece of code that is gone through again and again by a goto to its beginning. -/
theorem wp_again {P : Program} {n : Nat} {Γ : Env} {H : List HProp} {Q : Post} {x : Code} {k : Nat} (I : Nat → Env → List HProp → Prop) {m : Nat} (h0 : I m Γ H)
 (pass : ∀ m Γ H, I m Γ H → Wp P n x Γ H (Jump k (fun Γ' H' => ∃ m', m' < m ∧ I m' Γ' H') Q)) : Wp P n (.scope (.seq (.label k) x)) Γ H Q := by
 have hf : findLabel (.seq (.label k) x) k = some (.seq .skip x) := by simp [findLabel]
 refine wp_scopeJ' k I hf ?_ ?_
 ·refine zM (wp_label' (zI ?_)); refine wp_post (pass m Γ H h0) fun e Γ H q => ?_
  cases e with
  | goto k' => obtain ⟨rfl, m', _, hI⟩ := q; exact ⟨rfl, m', hI⟩
  | _ => exact q
 ·intro m Γ H hI; exact zM (zl (zI (pass m Γ H hI)))
/-- what is not needed is let go -/
theorem St_drop {H : List HProp} (i : Nat) {w : World} {F : HProp} (s : sat w (star (St H) F)) : sat w (star (St (H.eraseIdx i)) F) := by
 cases h : H[i]? with
 | none => rw [List.eraseIdx_of_length_le (by simpa using h)]; exact s
 | some A => rw [yS h, zv] at s; exact yw s
theorem wp_drop {P : Program} {n : Nat} {c : Code} {Γ : Env} {H : List HProp} {Q : Post} (i : Nat) (h : Wp P n c Γ (H.eraseIdx i) Q) : Wp P n c Γ H Q := qD (fun w F s => St_drop i s) h
theorem St_front {H : List HProp} (i : Nat) {A : HProp} (h : H[i]? = some A) {w : World} {F : HProp} (s : sat w (star (St H) F)) : sat w (star (St (A :: H.eraseIdx i)) F) := by rw [yS h] at s; exact s
theorem wp_front {P : Program} {n : Nat} {c : Code} {Γ : Env} {H : List HProp} {Q : Post} (i : Nat) {A : HProp} (hi : H[i]? = some A) (h : Wp P n c Γ (A :: H.eraseIdx i) Q) : Wp P n c Γ H Q := qD (fun w F s => St_front i hi s) h
theorem tri_post {P : Program} {f : FuncId} {args : List Value} {Pre : List HProp} {Ψ Ψ' : Value → List HProp → Prop} (h : Tri P f args Pre Ψ) (hp : ∀ v H, Ψ v H → Ψ' v H) : Tri P f args Pre Ψ' := fun w F s =>
 (h w F s).mono fun e w' ⟨v, H', he, hq, s'⟩ => ⟨v, H', he, hp v H' hq, s'⟩
theorem any_front {P : Program} {n m : Nat} {ops : Array Oper} {L H : List HProp} {Γ : Env} {Q : Post} {fuel : Nat} {listed : Array Bool} (i : Nat) {A : HProp} (hi : H[i]? = some A) (h : Any P n ops m L fuel listed Γ (A :: H.eraseIdx i) Q) : Any P n ops m L fuel listed Γ H Q := qu (fun w F s => St_front i hi s) h
theorem ops_front {P : Program} {n : Nat} {ops : Array Oper} {l : List Oper} {Γ : Env} {H : List HProp} {Q : Post} (i : Nat) {A : HProp} (hi : H[i]? = some A) (h : Ops P n ops l Γ (A :: H.eraseIdx i) Q) : Ops P n ops l Γ H Q := qp (fun w F s => St_front i hi s) h
/-- what it made is let go -/
theorem tri_forget {P : Program} {f : FuncId} {args : List Value} {Pre : List HProp} {Ψ : Value → List HProp → Prop} {Φ : Value → Prop} (h : Tri P f args Pre Ψ) (hp : ∀ v H, Ψ v H → Φ v) : Tri P f args Pre (fun v H' => Φ v ∧ H' = []) := fun w F s =>
 (h w F s).mono fun e w' ⟨v, H', he, hq, s'⟩ => ⟨v, [], he, ⟨hp v H' hq, rfl⟩, by rw [yV, emp_star]; exact yw s'⟩
theorem tri_weak {P : Program} {f : FuncId} {args : List Value} {Pre : List HProp} {Ψ Ψ' : Value → List HProp → Prop} (h : Tri P f args Pre Ψ) (hp : ∀ v H, Ψ v H → ∃ H2, Ψ' v H2 ∧ ∀ w F, sat w (star (St H) F) → sat w (star (St H2) F)) : Tri P f args Pre Ψ' := fun w F s =>
 (h w F s).mono fun e w' ⟨v, H', he, hq, s'⟩ => by
  obtain ⟨H2, h2, hs⟩ := hp v H' hq
  exact ⟨v, H2, he, h2, hs w' F s'⟩
section
variable {P : Program} {n : Nat} {L : HProp} {Γ : Env} {d : Option Tmp} {ty : TypeId} {pos : String} {aft : Array Edge} {g : Option (Nat × Bool)}
theorem zL {x : Operand} {v : Value} (hx : ev Γ x = some v) : RO P n L Γ ⟨d, .move x, ty, pos, aft, g⟩ v := fun a w R f s => by
 simp [execOp, f.ev hx]
theorem zO {x : Operand} {v : Value} (hx : ev Γ x = some v) : RO P n L Γ ⟨d, .assign x, ty, pos, aft, g⟩ v := fun a w R f s => by
 simp [execOp, f.ev hx]
theorem zr {c x y : Operand} {t : Bool} {v : Value} (hc : ev Γ c = some (.bool t)) (h : (bif t then ev Γ x else ev Γ y) = some v) : RO P n L Γ ⟨d, .pick c x y, ty, pos, aft, g⟩ v := fun a w R f s => by
 cases t
 ·simp only [cond_false] at h; simp [execOp, f.ev hc, f.ev h, asBool]
 ·simp only [cond_true] at h; simp [execOp, f.ev hc, f.ev h, asBool]
theorem zU {x : Operand} {p : Addr} (hx : ev Γ x = some (.pointer (some p))) : RO P n L Γ ⟨d, .nilCheck x, ty, pos, aft, g⟩ (.pointer (some p)) := fun a w R f s => by
 simp [execOp, f.ev hx]
/-! ### Whole numbers -/
theorem eqGuard_int {op : BinOp} {t : TypeId} {x y : Operand} {k k' : IntKind} {a b : Int} {w : World} : (eqGuard op t x y (.int k a) (.int k' b)).run P w = .ok () w := by
 unfold eqGuard; split <;> rfl
theorem ro_int {op : BinOp} {t ty' : TypeId} {x y : Operand} {k k' : IntKind} {a b : Int} {v : Value} (hx : ev Γ x = some (.int k a)) (hy : ev Γ y = some (.int k' b))
 (h : ∀ w, (binOp op t (.int k a) (.int k' b)).run P w = .ok v w) : RO P n L Γ ⟨d, .binOp op t x y ty', ty, pos, aft, g⟩ v := fun c w R f s => by
 simp [execOp, f.ev hx, f.ev hy, eqGuard_int, h]
theorem ql {t ty' : TypeId} {x y : Operand} {k : IntKind} {a b c : Int} (hx : ev Γ x = some (.int k a)) (hy : ev Γ y = some (.int k b)) (hz : k.wrap (a + b) = c) :
 RO P n L Γ ⟨d, .binOp .add t x y ty', ty, pos, aft, g⟩ (.int k c) := ro_int hx hy fun w => by simp [binOp, Op.intArith, hz]
theorem yi {t ty' : TypeId} {x y : Operand} {k : IntKind} {a b c : Int} (hx : ev Γ x = some (.int k a)) (hy : ev Γ y = some (.int k b)) (hz : k.wrap (a - b) = c) :
 RO P n L Γ ⟨d, .binOp .sub t x y ty', ty, pos, aft, g⟩ (.int k c) := ro_int hx hy fun w => by simp [binOp, Op.intArith, hz]
theorem ro_mul {t ty' : TypeId} {x y : Operand} {k : IntKind} {a b c : Int} (hx : ev Γ x = some (.int k a)) (hy : ev Γ y = some (.int k b)) (hz : k.wrap (a * b) = c) :
 RO P n L Γ ⟨d, .binOp .mul t x y ty', ty, pos, aft, g⟩ (.int k c) := ro_int hx hy fun w => by simp [binOp, Op.intArith, hz]
theorem ro_rem {t ty' : TypeId} {x y : Operand} {k : IntKind} {a b c : Int} (hx : ev Γ x = some (.int k a)) (hy : ev Γ y = some (.int k b)) (h0 : b ≠ 0) (hz : a.tmod b = c) :
 RO P n L Γ ⟨d, .binOp .rem t x y ty', ty, pos, aft, g⟩ (.int k c) := ro_int hx hy fun w => by simp [binOp, Op.intDiv, hz, h0]
theorem qQ {t ty' : TypeId} {x y : Operand} {k : IntKind} {a b : Int} {c : Bool} (hx : ev Γ x = some (.int k a)) (hy : ev Γ y = some (.int k b)) (hz : decide (a = b) = c) :
 RO P n L Γ ⟨d, .binOp .eql t x y ty', ty, pos, aft, g⟩ (.bool c) := ro_int hx hy fun w => by
 have : (a == b) = c := by rw [← hz]; rfl
 simp [binOp, Op.intCmp, this]
theorem q9 {t ty' : TypeId} {x y : Operand} {k : IntKind} {a b : Int} {c : Bool} (hx : ev Γ x = some (.int k a)) (hy : ev Γ y = some (.int k b)) (hz : decide (a ≠ b) = c) :
 RO P n L Γ ⟨d, .binOp .neq t x y ty', ty, pos, aft, g⟩ (.bool c) := ro_int hx hy fun w => by
 have : (a != b) = c := by rw [← hz]; by_cases h : a = b <;> simp [bne, h]
 simp [binOp, Op.intCmp, this]
theorem yP {t ty' : TypeId} {x y : Operand} {k : IntKind} {a b : Int} {c : Bool} (hx : ev Γ x = some (.int k a)) (hy : ev Γ y = some (.int k b)) (hz : decide (a < b) = c) :
 RO P n L Γ ⟨d, .binOp .lss t x y ty', ty, pos, aft, g⟩ (.bool c) := ro_int hx hy fun w => by simp [binOp, Op.intCmp, hz]
theorem ro_leq {t ty' : TypeId} {x y : Operand} {k : IntKind} {a b : Int} {c : Bool} (hx : ev Γ x = some (.int k a)) (hy : ev Γ y = some (.int k b)) (hz : decide (a ≤ b) = c) :
 RO P n L Γ ⟨d, .binOp .leq t x y ty', ty, pos, aft, g⟩ (.bool c) := ro_int hx hy fun w => by simp [binOp, Op.intCmp, hz]
theorem yd {t ty' : TypeId} {x y : Operand} {k : IntKind} {a b : Int} {c : Bool} (hx : ev Γ x = some (.int k a)) (hy : ev Γ y = some (.int k b)) (hz : decide (b < a) = c) :
 RO P n L Γ ⟨d, .binOp .gtr t x y ty', ty, pos, aft, g⟩ (.bool c) := ro_int hx hy fun w => by simp [binOp, Op.intCmp, hz]
theorem ro_geq {t ty' : TypeId} {x y : Operand} {k : IntKind} {a b : Int} {c : Bool} (hx : ev Γ x = some (.int k a)) (hy : ev Γ y = some (.int k b)) (hz : decide (b ≤ a) = c) :
 RO P n L Γ ⟨d, .binOp .geq t x y ty', ty, pos, aft, g⟩ (.bool c) := ro_int hx hy fun w => by simp [binOp, Op.intCmp, hz]
/-- &, |, ^, &^ -/
def bits (op : BinOp) (k : IntKind) (x y : Int) : Int :=
 match op with
 | .and => k.wrap ((BitVec.ofInt k.bits x &&& BitVec.ofInt k.bits y).toNat : Int)
 | .or => k.wrap ((BitVec.ofInt k.bits x ||| BitVec.ofInt k.bits y).toNat : Int)
 | .xor => k.wrap ((BitVec.ofInt k.bits x ^^^ BitVec.ofInt k.bits y).toNat : Int)
 | _ => k.wrap ((BitVec.ofInt k.bits x &&& ~~~ BitVec.ofInt k.bits y).toNat : Int)
theorem ya {t ty' : TypeId} {x y : Operand} {k : IntKind} {a b c : Int} (hx : ev Γ x = some (.int k a)) (hy : ev Γ y = some (.int k b)) (hz : bits .and k a b = c) :
 RO P n L Γ ⟨d, .binOp .and t x y ty', ty, pos, aft, g⟩ (.int k c) := ro_int hx hy fun w => by subst hz; simp [binOp, Op.intBits, bits]
theorem ro_or {t ty' : TypeId} {x y : Operand} {k : IntKind} {a b c : Int} (hx : ev Γ x = some (.int k a)) (hy : ev Γ y = some (.int k b)) (hz : bits .or k a b = c) :
 RO P n L Γ ⟨d, .binOp .or t x y ty', ty, pos, aft, g⟩ (.int k c) := ro_int hx hy fun w => by subst hz; simp [binOp, Op.intBits, bits]
theorem ro_xor {t ty' : TypeId} {x y : Operand} {k : IntKind} {a b c : Int} (hx : ev Γ x = some (.int k a)) (hy : ev Γ y = some (.int k b)) (hz : bits .xor k a b = c) :
 RO P n L Γ ⟨d, .binOp .xor t x y ty', ty, pos, aft, g⟩ (.int k c) := ro_int hx hy fun w => by subst hz; simp [binOp, Op.intBits, bits]
theorem ro_andNot {t ty' : TypeId} {x y : Operand} {k : IntKind} {a b c : Int} (hx : ev Γ x = some (.int k a)) (hy : ev Γ y = some (.int k b)) (hz : bits .andNot k a b = c) :
 RO P n L Γ ⟨d, .binOp .andNot t x y ty', ty, pos, aft, g⟩ (.int k c) := ro_int hx hy fun w => by subst hz; simp [binOp, Op.intBits, bits]
theorem ro_shl {t ty' : TypeId} {x y : Operand} {k k' : IntKind} {a b c : Int} (hx : ev Γ x = some (.int k a)) (hy : ev Γ y = some (.int k' b)) (h0 : 0 ≤ b) (hz : k.wrap (a * 2 ^ (min b.toNat k.bits)) = c) :
 RO P n L Γ ⟨d, .binOp .shl t x y ty', ty, pos, aft, g⟩ (.int k c) := ro_int hx hy fun w => by simp [binOp, Op.shift, hz, Int.not_lt.2 h0]
theorem ro_shr {t ty' : TypeId} {x y : Operand} {k k' : IntKind} {a b c : Int} (hx : ev Γ x = some (.int k a)) (hy : ev Γ y = some (.int k' b)) (h0 : 0 ≤ b) (hz : a.fdiv (2 ^ (min b.toNat k.bits)) = c) :
 RO P n L Γ ⟨d, .binOp .shr t x y ty', ty, pos, aft, g⟩ (.int k c) := ro_int hx hy fun w => by simp [binOp, Op.shift, hz, Int.not_lt.2 h0]
theorem qy {t : TypeId} {x : Operand} {b c : Bool} (hx : ev Γ x = some (.bool b)) (hz : (!b) = c) : RO P n L Γ ⟨d, .unOp .not t x, ty, pos, aft, g⟩ (.bool c) := fun a w R f s => by
 subst hz; simp [execOp, f.ev hx, Op.unary]
theorem run_eqlOf {t : TypeId} {a b : Value} {w : World} {r : Bool} (h1 : binOp .eql t a b = (do let r ← Op.equal t a b; pure (.bool r))) (h : (Op.equalIn (9999 + 1) t a b).run P w = .ok r w) : (binOp .eql t a b).run P w = .ok (.bool r) w := by
 rw [h1]; simp only [Sem.run_bind, Op.equal]
 change ((Op.equalIn (9999 + 1) t a b).run P w).andThen _ = _
 rw [h]; rfl
theorem run_neqOf {t : TypeId} {a b : Value} {w : World} {r : Bool} (h1 : binOp .neq t a b = (do let r ← Op.equal t a b; pure (.bool (!r)))) (h : (Op.equalIn (9999 + 1) t a b).run P w = .ok r w) : (binOp .neq t a b).run P w = .ok (.bool (!r)) w := by
 rw [h1]; simp only [Sem.run_bind, Op.equal]
 change ((Op.equalIn (9999 + 1) t a b).run P w).andThen _ = _
 rw [h]; rfl
theorem ro_cmpOf {op : BinOp} {t ty' : TypeId} {x y : Operand} {a b v : Value} (hx : ev Γ x = some a) (hy : ev Γ y = some b) (hg : ∀ w, (eqGuard op t x y a b).run P w = .ok () w) (h : ∀ w, (binOp op t a b).run P w = .ok v w) :
 RO P n L Γ ⟨d, .binOp op t x y ty', ty, pos, aft, g⟩ v := fun e w R f s => by
 simp only [execOp, f.ev hx, f.ev hy, Sem.run_bind, hg, Result.andThen_ok, h, Sem.run_pure]
theorem eqGuard_bool {op : BinOp} {t : TypeId} {x y : Operand} {a b : Bool} {w : World} : (eqGuard op t x y (.bool a) (.bool b)).run P w = .ok () w := by
 unfold eqGuard; split <;> rfl
theorem equalIn_ptrNil (k : Nat) {t el : TypeId} {a : Option Addr} {w : World} (ht : P.underlying t = some (.pointer el)) : (Op.equalIn (k + 1) t (.pointer a) (.pointer Option.none)).run P w = .ok a.isNone w := by
 cases a <;> simp [Op.equalIn, run_underlying ht]
theorem equalIn_sliceNil (k : Nat) {t el : TypeId} {a : Option Addr} {m c m' c' : Nat} {w : World} (ht : P.underlying t = some (.slice el)) : (Op.equalIn (k + 1) t (.slice a m c) (.slice Option.none m' c')).run P w = .ok a.isNone w := by
 cases a <;> simp [Op.equalIn, run_underlying ht]
theorem ro_neq_bool {t ty' : TypeId} {x y : Operand} {a b c : Bool} (ht : P.underlying t = some .bool) (hx : ev Γ x = some (.bool a)) (hy : ev Γ y = some (.bool b)) (hz : (a != b) = c) :
 RO P n L Γ ⟨d, .binOp .neq t x y ty', ty, pos, aft, g⟩ (.bool c) := fun e w R f s => by
 subst hz; exact ro_cmpOf hx hy (fun w => eqGuard_bool) (fun w => run_neqOf rfl (run_equalIn_bool' w 9999 t a b ht)) e w R f s
/-- a whole number's conversion -/
theorem yF {t t' : TypeId} {x : Operand} {k k' : IntKind} {dd : TypeDesc} {a c : Int} (hs : P.underlying t = some dd) (ht : P.underlying t' = some (.int k)) (hx : ev Γ x = some (.int k' a)) (hz : k.wrap a = c) :
 RO P n L Γ ⟨d, .convert t t' x, ty, pos, aft, g⟩ (.int k c) := fun e w R f s => by
 subst hz; cases dd <;> simp [execOp, f.ev hx, convert, run_underlying hs, run_underlying ht, Conv.intToInt]
/-! ### Texts -/
theorem beqBytes (a b : ByteArray) : (a.toList == b.toList) = decide (a = b) := by
 rw [ByteArray.toList_eq, ByteArray.toList_eq]; obtain ⟨⟨x⟩⟩ := a
 obtain ⟨⟨y⟩⟩ := b
 by_cases h : x = y
 ·subst h; simp
 ·have h1 : (x == y) = false := by simpa using h
  simp only [h1]; simp [h]
theorem eqGuard_str {op : BinOp} {t : TypeId} {x y : Operand} {a b : ByteArray} {w : World} : (eqGuard op t x y (.string a) (.string b)).run P w = .ok () w := by
 unfold eqGuard; split <;> rfl
theorem ro_strEql {t ty' : TypeId} {x y : Operand} {a b : ByteArray} {c : Bool} (hx : ev Γ x = some (.string a)) (hy : ev Γ y = some (.string b)) (hz : decide (a = b) = c) :
 RO P n L Γ ⟨d, .binOp .eql t x y ty', ty, pos, aft, g⟩ (.bool c) := fun e w R f s => by
 have : (a.toList == b.toList) = c := by rw [beqBytes, hz]
 simp [execOp, f.ev hx, f.ev hy, eqGuard_str, binOp, Op.stringOp, this]
theorem ro_strNeq {t ty' : TypeId} {x y : Operand} {a b : ByteArray} {c : Bool} (hx : ev Γ x = some (.string a)) (hy : ev Γ y = some (.string b)) (hz : decide (a ≠ b) = c) :
 RO P n L Γ ⟨d, .binOp .neq t x y ty', ty, pos, aft, g⟩ (.bool c) := fun e w R f s => by
 have : (!(a.toList == b.toList)) = c := by rw [beqBytes, ← hz]; simp
 simp [execOp, f.ev hx, f.ev hy, eqGuard_str, binOp, Op.stringOp, this]
theorem ro_strAdd {t ty' : TypeId} {x y : Operand} {a b : ByteArray} (hx : ev Γ x = some (.string a)) (hy : ev Γ y = some (.string b)) (hz : a.size + b.size ≤ 9223372036854775807) :
 RO P n L Γ ⟨d, .binOp .add t x y ty', ty, pos, aft, g⟩ (.string (a ++ b)) := fun e w R f s => by
 simp only [execOp, f.ev hx, f.ev hy, Sem.run_bind, eqGuard_str, Result.andThen_ok, binOp, run_string_add_sum w a b hz, Sem.run_pure]
theorem ro_strIndex {t : TypeId} {x ix : Operand} {k : IntKind} {a : ByteArray} {i : Nat} {ii : Int} (ht : P.underlying t = some .string) (hx : ev Γ x = some (.string a)) (hi : ev Γ ix = some (.int k ii)) (hj : ii = (i : Int)) (hlt : i < a.size) :
 RO P n L Γ ⟨d, .index t x ix, ty, pos, aft, g⟩ (.int .u8 (a[i].toNat : Int)) := fun e w R f s => by
 subst hj; simp [execOp, f.ev hx, f.ev hi, Instr.index, asIntOf, run_underlying ht, hlt]
theorem ro_strLen {x : Operand} {t t' : TypeId} {a : ByteArray} (ht : P.underlying t = some .string) (hx : ev Γ x = some (.string a)) :
 RO P n L Γ ⟨d, .call { callee := .builtin .len, args := #[x], argTypes := #[t] }, ty, pos, aft, g⟩ (.int .i64 a.size) := fun e w R f s => by
 simp [execOp, f.ev hx, resolve, invoke, builtin, Builtin.len_, run_underlying ht, goInt]
theorem zw {x : Operand} {t el : TypeId} {p : Option Addr} {m c : Nat} (ht : P.underlying t = some (.slice el)) (hx : ev Γ x = some (.slice p m c)) :
 RO P n L Γ ⟨d, .call { callee := .builtin .len, args := #[x], argTypes := #[t] }, ty, pos, aft, g⟩ (.int .i64 m) := fun e w R f s => by
 simp [execOp, f.ev hx, resolve, invoke, builtin, Builtin.len_, run_underlying ht, goInt]
theorem ro_sliceCap {x : Operand} {t el : TypeId} {p : Option Addr} {m c : Nat} (ht : P.underlying t = some (.slice el)) (hx : ev Γ x = some (.slice p m c)) :
 RO P n L Γ ⟨d, .call { callee := .builtin .cap, args := #[x], argTypes := #[t] }, ty, pos, aft, g⟩ (.int .i64 c) := fun e w R f s => by
 simp [execOp, f.ev hx, resolve, invoke, builtin, Builtin.cap_, run_underlying ht, goInt]
/-! ### Pointers, slices held against nil -/
theorem eqGuard_ptr {op : BinOp} {t : TypeId} {x y : Operand} {a b : Option Addr} {w : World} : (eqGuard op t x y (.pointer a) (.pointer b)).run P w = .ok () w := by
 unfold eqGuard; split <;> rfl
theorem qI {t ty' el : TypeId} {x y : Operand} {a : Option Addr} {c : Bool} (ht : P.underlying t = some (.pointer el)) (hx : ev Γ x = some (.pointer a)) (hy : ev Γ y = some (.pointer Option.none)) (hz : a.isNone = c) :
 RO P n L Γ ⟨d, .binOp .eql t x y ty', ty, pos, aft, g⟩ (.bool c) := fun e w R f s => by
 subst hz; exact ro_cmpOf hx hy (fun w => eqGuard_ptr) (fun w => run_eqlOf (by cases a <;> rfl) (equalIn_ptrNil 9999 ht)) e w R f s
theorem xR {t ty' el : TypeId} {x y : Operand} {a : Option Addr} {c : Bool} (ht : P.underlying t = some (.pointer el)) (hx : ev Γ x = some (.pointer a)) (hy : ev Γ y = some (.pointer Option.none)) (hz : a.isSome = c) :
 RO P n L Γ ⟨d, .binOp .neq t x y ty', ty, pos, aft, g⟩ (.bool c) := fun e w R f s => by
 subst hz; have h : a.isSome = !a.isNone := by cases a <;> rfl
 rw [h]; exact ro_cmpOf hx hy (fun w => eqGuard_ptr) (fun w => run_neqOf (by cases a <;> rfl) (equalIn_ptrNil 9999 ht)) e w R f s
theorem eqGuard_slice {op : BinOp} {t : TypeId} {x y : Operand} {a b : Option Addr} {m c m' c' : Nat} {w : World} : (eqGuard op t x y (.slice a m c) (.slice b m' c')).run P w = .ok () w := by
 unfold eqGuard; split <;> rfl
theorem ro_sliceEqlNil {t ty' el : TypeId} {x y : Operand} {a : Option Addr} {m c' m' c'' : Nat} {c : Bool} (ht : P.underlying t = some (.slice el)) (hx : ev Γ x = some (.slice a m c')) (hy : ev Γ y = some (.slice Option.none m' c'')) (hz : a.isNone = c) :
 RO P n L Γ ⟨d, .binOp .eql t x y ty', ty, pos, aft, g⟩ (.bool c) := fun e w R f s => by
 subst hz; exact ro_cmpOf hx hy (fun w => eqGuard_slice) (fun w => run_eqlOf (by cases a <;> rfl) (equalIn_sliceNil 9999 ht)) e w R f s
end
/-! ### What is known of types (facts of a program, each shown once) -/
/-- one cell -/
structure Scal (P : Program) (t : TypeId) : Prop where
 agg : ∀ w, (isAgg t).run P w = .ok false w
 size : ∀ w, (sizeOf t).run P w = .ok 1 w
/-- k cells, in a struct or an array -/
structure Aggr (P : Program) (t : TypeId) (k : Nat) : Prop where
 agg : ∀ w, (isAgg t).run P w = .ok true w
 size : ∀ w, (sizeOf t).run P w = .ok k w
def Zero (P : Program) (t : TypeId) (v : Value) : Prop := ∀ w, (zeroValue t).run P w = .ok v w
/-- field number k of the struct s lies at offset k' -/
def FieldAt (P : Program) (s : TypeId) (k off : Nat) : Prop := ∀ w (a : Addr), (Instr.fieldAt s (.pointer (some a)) k).run P w = .ok (.pointer (some (a.add off))) w
/-- a slice type: its element type, cells and bytes of an element -/
structure Slc (P : Program) (t e : TypeId) (size bytes : Nat) (z : Value) : Prop where
 und : P.underlying t = some (.slice e)
 info : ∃ i, P.info? e = some i ∧ i.zero = some z ∧ i.size = size ∧ i.bytes = bytes
 zs : z.cells.size = size
 pos : 0 < size
theorem Slc.of {P : Program} {t e : TypeId} {size bytes : Nat} {z : Value} (hu : P.underlying t = some (.slice e)) (hi : (P.info? e).map (fun i => (i.zero, i.size, i.bytes)) = some (some z, size, bytes)) (hz : z.cells.size = size) (hp : 0 < size) : Slc P t e size bytes z := by
 refine ⟨hu, ?_, hz, hp⟩
 cases h : P.info? e with
 | none => simp [h] at hi
 | some i => simp [h] at hi; exact ⟨i, rfl, hi.1, hi.2.1, hi.2.2⟩
theorem yR (b o k : Nat) : (⟨b, o, Option.none⟩ : Addr).add k = ⟨b, o + k, Option.none⟩ := Addr.add_lit b o k
/-! ### Reading -/
/-- L holds v at that place. -/
def Rd (L : HProp) (b o : Nat) (v : Value) : Prop := ∀ w R, sat w (star L R) → w.cell? ⟨b, o, Option.none⟩ = some v
def RdN (L : HProp) (b o : Nat) (vs : List Value) : Prop := ∀ j v, vs[j]? = some v → Rd L b (o + j) v
theorem cell_of {w : World} {b o : Nat} {cs : Array Value} {t : TypeId} {fr : Nat × Nat} (h : w.heap[b]? = some (.cells cs t fr)) : w.cell? ⟨b, o, Option.none⟩ = cs[o]? := by
 simp [World.cell?, h]
theorem Rd.pick {H : List HProp} {A : HProp} {b o : Nat} {v : Value} (i : Nat) (hi : H[i]? = some A) (h : Rd A b o v) : Rd (St H) b o v := fun w R s => by
 rw [yS hi, zv] at s; exact h w _ s
theorem Rd.own {b o : Nat} {cs : List Value} {t : TypeId} {fr : Nat × Nat} {v : Value} (h : cs[o]? = some v) : Rd (own b (.cells cs.toArray t fr)) b o v := fun w R s => by
 rw [cell_of (yr (qa s))]; simpa using h
theorem Rd.ro {w0 : World} {b o : Nat} {v : Value} (h : w0.cell? ⟨b, o, Option.none⟩ = some v) : Rd (ro w0) b o v := fun w R s => by
 have s1 := qa s
 unfold World.cell? at h ⊢
 cases hb : w0.heap[b]? with
 | none => simp [hb] at h
 | some ob => simp only [hb] at h; simp only [sat_ro s1 b ob hb]; exact h
theorem RdN.of_pick {H : List HProp} {A : HProp} {b o : Nat} {vs : List Value} (i : Nat) (hi : H[i]? = some A) (h : RdN A b o vs) : RdN (St H) b o vs := fun j v hj => (h j v hj).pick i hi
theorem RdN.own {b o : Nat} {cs vs : List Value} {t : TypeId} {fr : Nat × Nat} (h : (cs.drop o).take vs.length = vs) : RdN (own b (.cells cs.toArray t fr)) b o vs := fun j v hj => by
 refine Rd.own ?_; have hlt : j < vs.length := (List.getElem?_eq_some_iff.1 hj).1
 rw [← h, List.getElem?_take, if_pos hlt, List.getElem?_drop] at hj; exact hj
theorem rdn_sub (k : Nat) {b o : Nat} {cs : List Value} {t : TypeId} {fr : Nat × Nat} : RdN (own b (.cells cs.toArray t fr)) b o ((cs.drop o).take k) := fun j v hj => by
 rw [List.getElem?_take] at hj
 split at hj
 ·rw [List.getElem?_drop] at hj; exact Rd.own hj
 ·cases hj
theorem zx {b : Nat} {cs : List Value} {t : TypeId} {fr : Nat × Nat} : RdN (own b (.cells cs.toArray t fr)) b 0 cs := RdN.own (by simp)
section
variable {P : Program} {n : Nat} {L : HProp} {Γ : Env} {d : Option Tmp} {ty : TypeId} {pos : String} {aft : Array Edge} {g : Option (Nat × Bool)}
theorem zW {t : TypeId} {x : Operand} {b o : Nat} {v : Value} (ht : Scal P t) (hx : ev Γ x = some (.pointer (some ⟨b, o, Option.none⟩))) (hr : Rd L b o v) :
 RO P n L Γ ⟨d, .load t x, ty, pos, aft, g⟩ v := fun e w R f s => by
 simp [execOp, f.ev hx, Instr.loadAt, Instr.sureAddr, loadVar, ht.agg, hr w R s]
theorem qX {t : TypeId} {x : Operand} {b o k : Nat} {vs : List Value} (ht : Aggr P t k) (hx : ev Γ x = some (.pointer (some ⟨b, o, Option.none⟩))) (hr : RdN L b o vs) (hl : vs.length = k) :
 RO P n L Γ ⟨d, .load t x, ty, pos, aft, g⟩ (.agg vs.toArray) := fun e w R f s => by
 subst hl; have h := run_loadCells_list (P := P) w ⟨b, o, Option.none⟩ vs (fun j v hj => by rw [yR]; exact hr j v hj w R s)
 simp [execOp, f.ev hx, Instr.loadAt, Instr.sureAddr, loadVar, ht.agg, ht.size, h]
theorem zP {t : TypeId} {x : Operand} {b o k off : Nat} (ht : FieldAt P t k off) (hx : ev Γ x = some (.pointer (some ⟨b, o, Option.none⟩))) :
 RO P n L Γ ⟨d, .fieldAddr t x k, ty, pos, aft, g⟩ (.pointer (some ⟨b, o + off, Option.none⟩)) := fun e w R f s => by
 simp [execOp, f.ev hx, ht w, yR]
theorem qO {t el : TypeId} {x ix : Operand} {k : IntKind} {b o m c size bytes : Nat} {z : Value} {i : Nat} {ii : Int} (ht : Slc P t el size bytes z) (hx : ev Γ x = some (.slice (some ⟨b, o, Option.none⟩) m c)) (hi : ev Γ ix = some (.int k ii)) (hj : ii = (i : Int)) (hlt : i < m) :
 RO P n L Γ ⟨d, .indexAddr t x ix, ty, pos, aft, g⟩ (.pointer (some ⟨b, o + i * size, Option.none⟩)) := fun e w R f s => by
 subst hj; obtain ⟨inf, h1, h2, h3, h4⟩ := ht.info
 have hsz : (sizeOf el).run P w = .ok size w := by simp [sizeOf, typeInfo, h1, h3]
 simp [execOp, f.ev hx, f.ev hi, Instr.indexAt, asIntOf, run_underlying ht.und, hlt, hsz, yR]
theorem xD {t el : TypeId} {x ix : Operand} {k : IntKind} {b o m size : Nat} {i : Nat} {ii : Int} (ht : P.underlying t = some (.array m el)) (hsz : ∀ w, (sizeOf el).run P w = .ok size w) (hx : ev Γ x = some (.pointer (some ⟨b, o, Option.none⟩))) (hi : ev Γ ix = some (.int k ii)) (hj : ii = (i : Int)) (hlt : i < m) :
 RO P n L Γ ⟨d, .indexAddr t x ix, ty, pos, aft, g⟩ (.pointer (some ⟨b, o + i * size, Option.none⟩)) := fun e w R f s => by
 subst hj; simp [execOp, f.ev hx, f.ev hi, Instr.indexAt, Instr.sureAddr, asIntOf, run_underlying ht, hlt, hsz, yR]
theorem zu {x : Operand} {vs : List Value} {k : Nat} {v : Value} (hx : ev Γ x = some (.tuple vs.toArray)) (h : vs[k]? = some v) : RO P n L Γ ⟨d, .extract x k, ty, pos, aft, g⟩ v := fun e w R f s => by
 simp [execOp, f.ev hx, Instr.extract, h]
/-- a part of a struct that is a value -/
def Part (P : Program) (s : TypeId) (k : Nat) (cs : List Value) (v : Value) : Prop := ∀ w, (Instr.field s (.agg cs.toArray) k).run P w = .ok v w
/-- a struct is built -/
def Bld (P : Program) (t : TypeId) (parts : List (Nat × Value)) (v : Value) : Prop := ∀ w, (Instr.build t parts.toArray).run P w = .ok v w
def evp (Γ : Env) : List (Nat × Operand) → Option (List (Nat × Value))
 | [] => some []
 | (i, x) :: l => match ev Γ x, evp Γ l with
  | some v, some vs => some ((i, v) :: vs)
  | _, _ => Option.none
theorem Fits.evp {Γ : Env} {a : Act} (h : Fits n Γ a) : ∀ {l : List (Nat × Operand)} {vs : List (Nat × Value)}, evp Γ l = some vs → l.map (fun p => (p.1, a.eval p.2)) = vs
 | [], vs, hv => by simpa [Sx.evp] using hv
 | (i, x) :: l, vs, hv => by
  simp only [Sx.evp] at hv
  cases h1 : Sx.ev Γ x with
  | none => simp [h1] at hv
  | some v => cases h2 : Sx.evp Γ l with
   | none => simp [h1, h2] at hv
   | some us => simp [h1, h2] at hv; subst hv; simp [h.ev h1, Fits.evp h h2]
theorem qY {t : TypeId} {ps : List (Nat × Operand)} {vs : List (Nat × Value)} {v : Value} (hx : evp Γ ps = some vs) (h : Bld P t vs v) : RO P n L Γ ⟨d, .build t ps.toArray, ty, pos, aft, g⟩ v := fun e w R f s => by
 have hm := f.evp hx
 simp only [execOp, List.map_toArray]; rw [show (List.map (fun x => (match x with | (i, x) => (i, e.eval x) : Nat × Value)) ps) = vs from hm]; simp [h w]
/-! ### Acting -/
theorem yv {o : Oper} {H : HProp} {Ψ : Value → List HProp → Prop} (h : ∀ a w F, Fits n Γ a → sat w (star H F) → ∃ v w' H', (execOp a.eval o).run P w = .ok (.value v) w' ∧ Ψ v H' ∧ sat w' (star (St H') F)) : EFF P n Γ o H Ψ :=
 fun a w F K Q f s hK => by
  obtain ⟨v, w', H', hr, hp, hs⟩ := h a w F f s
  unfold Oper.wp; rw [hr]; exact hK v w' H' hp hs
theorem eff_skip {o : Oper} {H : HProp} {Ψ : Value → List HProp → Prop} (h : ∀ a w F, Fits n Γ a → sat w (star H F) → ∃ w' H', (execOp a.eval o).run P w = .ok .skip w' ∧ Ψ undef H' ∧ sat w' (star (St H') F)) : EFF P n Γ o H Ψ :=
 fun a w F K Q f s hK => by
  obtain ⟨w', H', hr, hp, hs⟩ := h a w F f s
  unfold Oper.wp; rw [hr]; exact hK _ w' H' hp hs
/-- no cell of the block is frozen -/
def warm (cs : List Value) (fr : Nat × Nat) : Prop := ∀ j, j < cs.length → ¬ (fr.1 ≤ j ∧ j < fr.2)
theorem zg (cs : List Value) : warm cs (0, 0) := fun j _ h => by simp at h
theorem frozen_of {w : World} {b o : Nat} {cs : List Value} {t : TypeId} {fr : Nat × Nat} (h : w.heap[b]? = some (.cells cs.toArray t fr)) (hw : warm cs fr) (ho : o < cs.length) : w.frozen? ⟨b, o, Option.none⟩ = false := by
 obtain ⟨lo, hi⟩ := fr
 have := hw o ho
 simp only [World.frozen?, h]; simp only [Bool.and_eq_false_iff, decide_eq_false_iff_not]
 by_cases h1 : lo ≤ o
 ·exact .inr fun h2 => this ⟨h1, h2⟩
 ·exact .inl h1
theorem xS {w : World} {b o : Nat} {cs : List Value} {t : TypeId} {fr : Nat × Nat} {v : Value} (h : w.heap[b]? = some (.cells cs.toArray t fr)) :
 (w.setCell ⟨b, o, Option.none⟩ v).heap[b]? = some (.cells (cs.set o v).toArray t fr) ∧ ∀ k, k ≠ b → (w.setCell ⟨b, o, Option.none⟩ v).heap[k]? = w.heap[k]? := by
 constructor
 ·simp [World.setCell, Array.getElem?_modify, h]
 ·intro k hk; simp [World.setCell, Array.getElem?_modify, Ne.symm hk]
theorem qP {t : TypeId} {x y : Operand} {b off : Nat} {cs : List Value} {tb : TypeId} {fr : Nat × Nat} {v : Value} {H : List HProp} (i : Nat) (ht : Scal P t) (hx : ev Γ x = some (.pointer (some ⟨b, off, Option.none⟩))) (hy : ev Γ y = some v) (h1 : v.oneCell' = true)
 (hi : H[i]? = some (own b (.cells cs.toArray tb fr))) (ho : off < cs.length) (hw : warm cs fr) :
 EFF P n Γ ⟨d, .store t x y, ty, pos, aft, g⟩ (St H) (fun _ H' => H' = H.set i (own b (.cells (cs.set off v).toArray tb fr))) := eff_skip fun a w F f s => by
 rw [yS hi, zv] at s; have hb := yr (qa s)
 have hc : w.cell? ⟨b, off, Option.none⟩ = some cs[off] := by rw [cell_of hb]; simp [ho]
 have hv : v.cells = #[v] := by cases v <;> first | rfl | simp [Value.oneCell'] at h1
 refine ⟨w.setCell ⟨b, off, Option.none⟩ v, _, ?_, rfl, ?_⟩
 ·simp [execOp, f.ev hx, f.ev hy, Instr.storeAt, Instr.sureAddr, storeVar, ht.size, hv, storeCells, yR, run_store P w _ v .plain h1, hc, frozen_of hb hw ho]
 ·rw [St_set hi, zv]; exact sat_set (w := w) rfl s (xS hb).1 (xS hb).2
/-- vs laid yE cs from o on -/
def yE (cs : List Value) (o : Nat) (vs : List Value) : List Value := cs.take o ++ vs ++ cs.drop (o + vs.length)
theorem yc {cs vs : List Value} {o : Nat} (h : o + vs.length ≤ cs.length) : (yE cs o vs).length = cs.length := by
 simp [yE, List.length_take, List.length_drop]; omega
theorem over_nil (cs : List Value) (o : Nat) : yE cs o [] = cs := by simp [yE]
theorem over_cons {cs : List Value} {o : Nat} {v : Value} {vs : List Value} (h : o + (v :: vs).length ≤ cs.length) : yE (cs.set o v) (o + 1) vs = yE cs o (v :: vs) := by
 have ho : o < cs.length := by simp at h; omega
 have e1 : (cs.set o v).take (o + 1) = cs.take o ++ [v] := by
  rw [List.take_succ_eq_append_getElem (by simpa using ho)]; simp [List.take_set_of_le]
 have e2 : (cs.set o v).drop (o + 1 + vs.length) = cs.drop (o + (v :: vs).length) := by
  rw [List.drop_set_of_lt (by omega), show o + 1 + vs.length = o + (v :: vs).length by simp; omega]
 unfold yE; rw [e1, e2]; simp
theorem yy {b : Nat} {t : TypeId} {fr : Nat × Nat} : ∀ (vs : List Value) (i o : Nat) (cs : List Value) (w : World), w.heap[b]? = some (.cells cs.toArray t fr) → warm cs fr →
 o + i + vs.length ≤ cs.length → (∀ v ∈ vs, v.oneCell' = true) →
 ∃ w', (storeCells ⟨b, o, Option.none⟩ vs i).run P w = .ok () w' ∧ w'.heap[b]? = some (.cells (yE cs (o + i) vs).toArray t fr) ∧ (∀ k, k ≠ b → w'.heap[k]? = w.heap[k]?) ∧ cx w' = cx w ∧ w'.heap.size = w.heap.size
 | [], i, o, cs, w, h, hw, hl, h1 => ⟨w, rfl, by rw [over_nil]; exact h, fun _ _ => rfl, rfl, rfl⟩
 | v :: vs, i, o, cs, w, h, hw, hl, h1 => by
  have ho : o + i < cs.length := by simp at hl; omega
  have hc : w.cell? ⟨b, o + i, Option.none⟩ = some cs[o + i] := by rw [cell_of h]; simp [ho]
  have hs := xS (o := o + i) (v := v) h
  obtain ⟨w', hr, hb, hk, hx, hsz⟩ := yy vs (i + 1) o (cs.set (o + i) v) (w.setCell ⟨b, o + i, Option.none⟩ v) hs.1 (fun j hj => hw j (by simpa using hj)) (by simp at hl ⊢; omega) (fun u hu => h1 u (List.mem_cons_of_mem _ hu))
  refine ⟨w', ?_, ?_, fun k hk' => (hk k hk').trans (hs.2 k hk'), hx, hsz.trans (by simp [World.setCell])⟩
  ·simp only [storeCells, Sem.run_bind, yR, run_store P w _ v .plain (h1 v List.mem_cons_self), hc, frozen_of h hw ho, Bool.false_eq_true, if_false, Result.andThen_ok, hr]
  ·rw [hb, show o + (i + 1) = (o + i) + 1 by omega, over_cons hl]
theorem zm {t : TypeId} {x y : Operand} {b off k : Nat} {cs vs : List Value} {tb : TypeId} {fr : Nat × Nat} {H : List HProp} (i : Nat) (ht : Aggr P t k) (hx : ev Γ x = some (.pointer (some ⟨b, off, Option.none⟩))) (hy : ev Γ y = some (.agg vs.toArray)) (hl : vs.length = k) (h1' : vs.all Value.oneCell' = true)
 (hi : H[i]? = some (own b (.cells cs.toArray tb fr))) (ho : off + vs.length ≤ cs.length) (hw : warm cs fr) :
 EFF P n Γ ⟨d, .store t x y, ty, pos, aft, g⟩ (St H) (fun _ H' => H' = H.set i (own b (.cells (yE cs off vs).toArray tb fr))) := eff_skip fun a w F f s => by
 rw [yS hi, zv] at s; have hb := yr (qa s)
 have h1 : ∀ v ∈ vs, v.oneCell' = true := List.all_eq_true.1 h1'
 obtain ⟨w', hr, hb', hk, hx', hsz⟩ := yy (P := P) vs 0 off cs w hb hw (by simpa using ho) h1
 refine ⟨w', _, ?_, rfl, ?_⟩
 ·simp [execOp, f.ev hx, f.ev hy, Instr.storeAt, Instr.sureAddr, storeVar, ht.size, Value.cells, hl, hr]
 ·rw [St_set hi, zv]; exact sat_set (w := w) hx' s hb' hk
theorem eff_new {o : Oper} {H : List HProp} {cs : Array Value} {tb : TypeId} (V : Nat → Value) (h : ∀ a w, Fits n Γ a → (execOp a.eval o).run P w = .ok (.value (V w.heap.size)) (w.alloc (.cells cs tb))) :
 EFF P n Γ o (St H) (fun v H' => ∃ b, v = V b ∧ H' = own b (.cells cs tb) :: H) := yv fun a w F f s => by
 exact ⟨_, _, own w.heap.size (.cells cs tb) :: H, h a w f, ⟨_, rfl, rfl⟩, by rw [qJ, zv]; exact sat_alloc (w := w) rfl s rfl⟩
theorem qL {t : TypeId} {H : List HProp} {z : Value} (ht : Zero P t z) :
 EFF P n Γ ⟨d, .alloc t, ty, pos, aft, g⟩ (St H) (fun v H' => ∃ b, v = .pointer (some ⟨b, 0, Option.none⟩) ∧ H' = own b (.cells z.cells t) :: H) :=
 eff_new (fun b => .pointer (some ⟨b, 0, Option.none⟩)) fun a w f => by
  simp [execOp, Instr.alloc, ht w, newVar, newRow]
theorem qj {t : TypeId} {x : Operand} {H : List HProp} {v : Value} (hx : ev Γ x = some v) :
 EFF P n Γ ⟨d, .box t x, ty, pos, aft, g⟩ (St H) (fun u H' => ∃ b, u = .pointer (some ⟨b, 0, Option.none⟩) ∧ H' = own b (.cells v.cells t) :: H) :=
 eff_new (fun b => .pointer (some ⟨b, 0, Option.none⟩)) fun a w f => by
  simp [execOp, Instr.box, f.ev hx, newVar, newRow]
/-- a slice literal's cells -/
def SBld (P : Program) (t : TypeId) (k : Nat) (parts : List (Nat × Value)) (e : TypeId) (cs : List Value) : Prop :=
 ∀ w, (Instr.buildSlice t k parts.toArray).run P w = .ok (.slice (some ⟨w.heap.size, 0, Option.none⟩) k k) (w.alloc (.cells cs.toArray e))
theorem xL {t e : TypeId} {k : Nat} {ps : List (Nat × Operand)} {vs : List (Nat × Value)} {cs : List Value} {H : List HProp} (hx : evp Γ ps = some vs) (h : SBld P t k vs e cs) :
 EFF P n Γ ⟨d, .buildSlice t k ps.toArray, ty, pos, aft, g⟩ (St H) (fun u H' => ∃ b, u = .slice (some ⟨b, 0, Option.none⟩) k k ∧ H' = own b (.cells cs.toArray e) :: H) :=
 eff_new (fun b => .slice (some ⟨b, 0, Option.none⟩) k k) fun a w f => by
  have hm := f.evp hx
  simp only [execOp, List.map_toArray]; rw [show (List.map (fun x => (match x with | (i, x) => (i, a.eval x) : Nat × Value)) ps) = vs from hm]; simp [h w]
end
/-! ### Rows: a slice that owns its array -/
/-- v is a slice of n elements of `size` cells each, which are xs; nobody else knows of its array. -/
def row (e : TypeId) (size : Nat) (v : Value) (n : Nat) (xs : List Value) : HProp := fun _ h =>
 xs.length = n * size ∧ ((v = .slice Option.none 0 0 ∧ n = 0 ∧ h = Hp.none) ∨
  ∃ b cap cs fr, v = .slice (some ⟨b, 0, Option.none⟩) n cap ∧ n ≤ cap ∧ cap ≤ maxLen ∧ cs.length = cap * size ∧ cs.take (n * size) = xs ∧ warm cs fr ∧ h = single b (.cells cs.toArray e fr))
theorem sat_row {w : World} {e : TypeId} {size : Nat} {v : Value} {n : Nat} {xs : List Value} {R : HProp} (s : sat w (star (row e size v n xs) R)) :
 xs.length = n * size ∧ ((v = .slice Option.none 0 0 ∧ n = 0 ∧ xs = [] ∧ sat w R) ∨
 ∃ b cap cs fr, v = .slice (some ⟨b, 0, Option.none⟩) n cap ∧ n ≤ cap ∧ cap ≤ maxLen ∧ cs.length = cap * size ∧ cs.take (n * size) = xs ∧ warm cs fr ∧ sat w (star (own b (.cells cs.toArray e fr)) R)) := by
 obtain ⟨_, ⟨p, k, sp, rfl, ⟨hl, h⟩, hr⟩, f⟩ := s
 refine ⟨hl, ?_⟩
 rcases h with ⟨rfl, rfl, rfl⟩ | ⟨b, cap, cs, fr, rfl, h1, h2, h3, h4, h5, rfl⟩
 ·exact .inl ⟨rfl, rfl, List.eq_nil_of_length_eq_zero (by simpa using hl), k, hr, fun b x hx => f b x hx⟩
 ·exact .inr ⟨b, cap, cs, fr, rfl, h1, h2, h3, h4, h5, _, ⟨_, k, sp, rfl, rfl, hr⟩, f⟩
theorem row_nil {e : TypeId} {size : Nat} {w : World} {R : HProp} (s : sat w R) : sat w (star (row e size (.slice Option.none 0 0) 0 []) R) := by
 obtain ⟨k, hr, f⟩ := s
 exact ⟨k, ⟨Hp.none, k, Hp.sep_comm (Hp.sep_none k), rfl, ⟨by simp, .inl ⟨rfl, rfl, rfl⟩⟩, hr⟩, f⟩
theorem row_mk {e : TypeId} {size n cap b : Nat} {cs xs : List Value} {fr : Nat × Nat} {w : World} {R : HProp} (h1 : n ≤ cap) (h2 : cap ≤ maxLen) (h3 : cs.length = cap * size) (h4 : cs.take (n * size) = xs) (h5 : warm cs fr)
 (s : sat w (star (own b (.cells cs.toArray e fr)) R)) : sat w (star (row e size (.slice (some ⟨b, 0, Option.none⟩) n cap) n xs) R) :=
 sat_star_mono (fun c k hk => ⟨by rw [← h4, List.length_take, h3]; exact Nat.min_eq_left (Nat.mul_le_mul_right _ h1), .inr ⟨b, cap, cs, fr, rfl, h1, h2, h3, h4, h5, hk⟩⟩) (fun _ _ h => h) s
/-- L can be read at the slice v: n elements, whose cells are xs. -/
def Vw (L : HProp) (v : Value) (n : Nat) (xs : List Value) : Prop := ∀ w R, sat w (star L R) →
 (∃ a, v = .slice a 0 0 ∧ n = 0 ∧ xs = []) ∨ ∃ b o cap, v = .slice (some ⟨b, o, Option.none⟩) n cap ∧ ∀ j u, xs[j]? = some u → w.cell? ⟨b, o + j, Option.none⟩ = some u
theorem Vw.pick {H : List HProp} {A : HProp} {v : Value} {n : Nat} {xs : List Value} (i : Nat) (hi : H[i]? = some A) (h : Vw A v n xs) : Vw (St H) v n xs := fun w R s => by
 rw [yS hi, zv] at s; exact h w _ s
theorem Vw.nil (L : HProp) : Vw L (.slice Option.none 0 0) 0 [] := fun w R s => .inl ⟨Option.none, rfl, rfl, rfl⟩
theorem Vw.rd {L : HProp} {b o n cap : Nat} {xs : List Value} (h : RdN L b o xs) : Vw L (.slice (some ⟨b, o, Option.none⟩) n cap) n xs := fun w R s => .inr ⟨b, o, cap, rfl, fun j u hj => h j u hj w R s⟩
theorem Vw.row {e : TypeId} {size n : Nat} {v : Value} {xs : List Value} : Vw (row e size v n xs) v n xs := fun w R s => by
 rcases (sat_row s).2 with ⟨h1, h2, h3, _⟩ | ⟨b, cap, cs, fr, h1, _, _, _, h5, _, s'⟩
 ·exact .inl ⟨_, h1, h2, h3⟩
 ·refine .inr ⟨b, 0, cap, h1, fun j u hj => ?_⟩; rw [Nat.zero_add, cell_of (yr (qa s'))]; rw [← h5, List.getElem?_take] at hj
  split at hj
  ·simpa using hj
  ·cases hj
theorem Rd.row {e : TypeId} {size n b cap j : Nat} {u : Value} {xs : List Value} (hj : xs[j]? = some u) : Rd (row e size (.slice (some ⟨b, 0, Option.none⟩) n cap) n xs) b j u := fun w R s => by
 rcases Vw.row w R s with ⟨a, h, _, h3⟩ | ⟨b', o, cap', h, hh⟩
 ·subst h3; simp at hj
 ·injection h with h _ _; injection h with h; injection h with h1 h2; subst h1; subst h2
  have := hh j u hj; rwa [Nat.zero_add] at this
theorem Vw.len {P : Program} {n' : Nat} {L : HProp} {Γ : Env} {d : Option Tmp} {ty : TypeId} {pos : String} {aft : Array Edge} {g : Option (Nat × Bool)} {x : Operand} {t el : TypeId} {v : Value} {n : Nat} {xs : List Value} (ht : P.underlying t = some (.slice el)) (hx : ev Γ x = some v) (h : Vw L v n xs) :
 RO P n' L Γ ⟨d, .call { callee := .builtin .len, args := #[x], argTypes := #[t] }, ty, pos, aft, g⟩ (.int .i64 n) := fun a w R f s => by
 rcases h w R s with ⟨q, rfl, rfl, rfl⟩ | ⟨b, o, cap, rfl, hh⟩
 ·exact zw ht hx a w R f s
 ·exact zw ht hx a w R f s
/-- the shape of a row's slice, as plain facts -/
theorem row_shape {H : List HProp} (i : Nat) {e : TypeId} {size n : Nat} {v : Value} {xs : List Value} (hi : H[i]? = some (row e size v n xs)) {w : World} {F : HProp} (s : sat w (star (St H) F)) :
 xs.length = n * size ∧ ((v = .slice Option.none 0 0 ∧ n = 0 ∧ xs = []) ∨ ∃ b cap, v = .slice (some ⟨b, 0, Option.none⟩) n cap ∧ n ≤ cap ∧ cap ≤ maxLen) := by
 rw [yS hi, zv] at s; obtain ⟨hl, h⟩ := sat_row s
 refine ⟨hl, ?_⟩
 rcases h with ⟨h1, h2, h3, _⟩ | ⟨b, cap, cs, fr, h1, h2, h3, _⟩
 ·exact .inl ⟨h1, h2, h3⟩
 ·exact .inr ⟨b, cap, h1, h2, h3⟩
theorem yN {P : Program} {n : Nat} {c : Code} {Γ : Env} {H : List HProp} {Q : Post} {p : Prop} (hp : ∀ w F, sat w (star (St H) F) → p) (h : p → Wp P n c Γ H Q) : Wp P n c Γ H Q :=
 fun a w F f s => h (hp w F s) a w F f s
theorem ops_know {P : Program} {n : Nat} {ops : Array Oper} {l : List Oper} {Γ : Env} {H : List HProp} {Q : Post} {p : Prop} (hp : ∀ w F, sat w (star (St H) F) → p) (h : p → Ops P n ops l Γ H Q) : Ops P n ops l Γ H Q :=
 fun a w F f s => h (hp w F s) a w F f s
theorem tri_know {P : Program} {f : FuncId} {args : List Value} {Pre : List HProp} {Ψ : Value → List HProp → Prop} {p : Prop} (hp : ∀ w F, sat w (star (St Pre) F) → p) (h : p → Tri P f args Pre Ψ) : Tri P f args Pre Ψ :=
 fun w F s => h (hp w F s) w F s
/-! ### Results, some of which lie in memory -/
def rvSem (tmps : Array Value) : ResultVar → Sem Value
 | .tmp t => pure (tmps.getD t undef)
 | .cell a t => do loadVar t (← asAddr (tmps.getD a undef))
theorem results_eq (fn : Func) (tmps : Array Value) : results fn tmps = (do let vs ← fn.results.mapM (rvSem tmps); pure (if h : vs.size = 1 then vs[0] else .tuple vs)) := by
 unfold results
 have : (fun x => match x with | ResultVar.tmp t => (pure (tmps.getD t undef) : Sem Value) | ResultVar.cell a t => do loadVar t (← asAddr (tmps.getD a undef))) = rvSem tmps := by funext x; cases x <;> rfl
 rw [← this]
 rfl
section
variable {P : Program} {n : Nat} {Γ : Env} {H : List HProp} {fn : Func}
def RV (P : Program) (n : Nat) (Γ : Env) (H : List HProp) (r : ResultVar) (v : Value) : Prop := ∀ (a : Act) w F, Fits n Γ a → sat w (star (St H) F) → (rvSem a.tmps r).run P w = .ok v w
theorem yn {t : Tmp} {v : Value} (h : get Γ t = some v) : RV P n Γ H (.tmp t) v := fun a w F f s => by simp only [rvSem, f.read t v h, Sem.run_pure]
theorem qB {t : Tmp} {ty : TypeId} {b o k : Nat} {vs : List Value} (ht : Aggr P ty k) (h : get Γ t = some (.pointer (some ⟨b, o, Option.none⟩))) (hr : RdN (St H) b o vs) (hl : vs.length = k) : RV P n Γ H (.cell t ty) (.agg vs.toArray) := fun a w F f s => by
 subst hl; have h2 := run_loadCells_list (P := P) w ⟨b, o, Option.none⟩ vs (fun j v hj => by rw [yR]; exact hr j v hj w F s)
 simp only [rvSem, f.read t _ h, asAddr, Sem.run_bind, Sem.run_pure, Result.andThen_ok, loadVar, ht.agg, if_true, ht.size, h2]
theorem qg {r : ResultVar} {v : Value} (h : fn.results = #[r]) (h1 : RV P n Γ H r v) : Res P fn n Γ H v := fun a w F f s => by
 rw [results_eq, h]; simp [h1 a w F f s]
theorem resv2 {r q : ResultVar} {v u : Value} (h : fn.results = #[r, q]) (h1 : RV P n Γ H r v) (h2 : RV P n Γ H q u) : Res P fn n Γ H (.tuple #[v, u]) := fun a w F f s => by
 rw [results_eq, h]; simp [h1 a w F f s, h2 a w F f s]
end
/-- what src (a slice or a text) is read as, in every world that holds L -/
structure Src (P : Program) (L : HProp) (size : Nat) (src : Value) (m : Nat) (news : List Value) : Prop where
 len : ∀ w R, sat w (star L R) → (Builtin.lenOf src).run P w = .ok m w
 cells : ∀ w R, sat w (star L R) → (Builtin.firstCells size m src).run P w = .ok news.toArray w
 size : news.length = m * size
 one : ∀ v ∈ news, v.oneCell' = true
section
variable {P : Program}
theorem Src.of_vw {L : HProp} {size : Nat} {src : Value} {m : Nat} {news : List Value} (h : Vw L src m news) (hs : news.length = m * size) (h1 : ∀ v ∈ news, v.oneCell' = true) : Src P L size src m news := by
 refine ⟨fun w R s => ?_, fun w R s => ?_, hs, h1⟩
 ·rcases h w R s with ⟨q, rfl, rfl, rfl⟩ | ⟨b, o, cap, rfl, hr⟩ <;> rfl
 ·rcases h w R s with ⟨q, rfl, rfl, rfl⟩ | ⟨b, o, cap, rfl, hr⟩
  ·cases q with
   | none => rfl
   | some q => exact run_firstCells_some w size 0 q 0 0 [] (by simp) (fun j v hj => by simp at hj)
  ·exact run_firstCells_some w size m ⟨b, o, Option.none⟩ m cap news hs (fun j v hj => by rw [yR]; exact hr j v hj)
def byteV (b : UInt8) : Value := .int .u8 (b.toNat : Int)
/-- a text's bytes, as cells -/
def bts (s : ByteArray) : List Value := s.data.toList.map byteV
theorem bts_length (s : ByteArray) : (bts s).length = s.size := by show (s.data.toList.map byteV).length = s.data.size; rw [List.length_map, Array.length_toList]
theorem Src.str (L : HProp) (s : ByteArray) : Src P L 1 (.string s) s.size (bts s) := by
 refine ⟨fun w _ _ => rfl, fun w R _ => ?_, by rw [bts_length, Nat.mul_one], fun v hv => ?_⟩
 ·have hx : (Array.map (fun b : UInt8 => Value.int IntKind.u8 (b.toNat : Int)) s.data) = (bts s).toArray := by
   apply Array.ext'; rw [Array.toList_map]; rfl
  have he : (s.extract 0 s.size) = s := by apply ByteArray.ext; rw [ByteArray.data_extract]; show s.data.extract 0 s.data.size = s.data; rw [Array.extract_size]
  simp only [Builtin.firstCells, he, hx]; rfl
 ·obtain ⟨b, _, rfl⟩ := List.mem_map.1 hv; rfl
theorem growCap_facts (w : World) {need old : Nat} {e : TypeId} (h : need ≤ maxLen) : need ≤ grownCap w need old e ∧ grownCap w need old e ≤ maxLen := ⟨grownCap_ge w need old e, grownCap_le_maxLen w need old e h⟩
theorem run_append_row {t t2 ty e : TypeId} {size bytes : Nat} {z : Value} (ht : Slc P t e size bytes z) (h2 : (∃ e', P.underlying t2 = some (.slice e')) ∨ P.underlying t2 = some .string)
 {v src : Value} {n m : Nat} {xs news : List Value} {L R : HProp} (hsrc : Src P L size src m news) (hb : (n + m) * bytes ≤ 140737488355328) (hm : n + m ≤ maxLen) (w : World)
 (s : sat w (star (row e size v n xs) (star L R))) :
 ∃ v' w', (Builtin.append_ #[t, t2] ty #[v, src]).run P w = .ok v' w' ∧ sat w' (star (row e size v' (n + m) (xs ++ news)) (star L R)) ∧ (v' = .slice Option.none 0 0 ↔ v = .slice Option.none 0 0 ∧ m = 0) := by
 obtain ⟨i, hi, hz, hsz, hby⟩ := ht.info
 have hzero : ∀ w, (do let d ← underlying t2; pure (match d with | TypeDesc.int _ => true | _ => false) : Sem Bool).run P w = .ok false w := by
  intro w; rcases h2 with ⟨e', h2⟩ | h2 <;> simp [run_underlying h2]
 have hsmall : n + m ≤ 9223372036854775807 := by simp only [maxLen] at hm; omega
 obtain ⟨hl, hr⟩ := sat_row s
 rcases hr with ⟨rfl, rfl, rfl, s'⟩ | ⟨b, cap, cs, fr, rfl, hnc, hcm, hcs, htk, hw, s'⟩
 ·by_cases h0 : m = 0
  ·subst h0; have hn : news = [] := List.eq_nil_of_length_eq_zero (by simpa using hsrc.size)
   subst hn; refine ⟨.slice Option.none 0 0, w, ?_, row_nil s', by simp⟩; have hc := hsrc.cells w R s'
   have hln := hsrc.len w R s'
   rcases h2 with ⟨e', h2⟩ | h2 <;> simp [Builtin.append_, run_underlying ht.und, run_underlying h2, sizeOf, typeInfo, hi, hsz, hln, hc]
  ·have hns : ¬ (9223372036854775807 < (m : Int)) := by omega
   have h48 : ¬ (281474976710656 < Builtin.nextslicecap m 0 * bytes) := by rw [nextslicecap_zero (by omega)]; simp only [Nat.zero_add] at hb; omega
   have hc := hsrc.cells w.drew R (sat_heap (w := w) rfl rfl s')
   have hln := hsrc.len w R s'
   have hg := growCap_facts w (need := m) (old := 0) (e := e) (by omega)
   refine ⟨.slice (some ⟨w.heap.size, 0, Option.none⟩) m (grownCap w m 0 e), w.drew.alloc (.cells (news ++ (Builtin.zeroCells z.cells (grownCap w m 0 e - m)).toList).toArray e), ?_, ?_, by simp [h0]⟩
   ·rcases h2 with ⟨e', h2⟩ | h2 <;>
    ·simp [Builtin.append_, run_underlying ht.und, run_underlying h2, sizeOf, typeInfo, zeroValue, hi, hz, hsz, hby, hln, h0, hns, h48, Question.forced, run_firstCells_none, hc, newRow, grownCap]
     congr 2
     apply Array.ext'
     simp
   ·simp only [Nat.zero_add, List.nil_append]; refine row_mk hg.1 hg.2 ?_ ?_ (zg _) (sat_alloc (w := w) rfl s' rfl)
    ·rw [List.length_append, hsrc.size, Array.length_toList, size_zeroCells, ht.zs, ← Nat.add_mul]; congr 1; omega
    ·rw [← hsrc.size]; exact List.take_left
 ·by_cases hroom : n + m ≤ cap
  ·have hc := hsrc.cells w (star (own b (.cells cs.toArray e fr)) R) (by rw [qH]; exact s')
   have hln := hsrc.len w (star (own b (.cells cs.toArray e fr)) R) (by rw [qH]; exact s')
   have hb' := yr (qa s')
   have hfit : n * size + 0 + news.length ≤ cs.length := by rw [hsrc.size, hcs, Nat.add_zero, ← Nat.add_mul]; exact Nat.mul_le_mul_right _ hroom
   obtain ⟨w', hst, hb2, hk, hx, _⟩ := yy (P := P) news 0 (n * size) cs w hb' hw hfit hsrc.one
   refine ⟨.slice (some ⟨b, 0, Option.none⟩) (n + m) cap, w', ?_, ?_, by simp⟩
   ·rcases h2 with ⟨e', h2⟩ | h2 <;>
     simp [Builtin.append_, run_underlying ht.und, run_underlying h2, sizeOf, typeInfo, hi, hsz, hln, hroom, hc, yR, hst]
   ·simp only [Nat.add_zero] at hb2; refine row_mk hroom hcm (by rw [yc (by omega), hcs]) ?_ (fun j hj => hw j (by rwa [yc (by omega)] at hj)) (sat_set (w := w) hx s' hb2 hk); unfold yE; rw [Nat.add_mul, ← hsrc.size, ← htk]; have e1 : (List.take (n * size) cs ++ news).length = n * size + news.length := by rw [List.length_append, List.length_take, Nat.min_eq_left (by omega)]
    rw [← e1]; exact List.take_left
  ·have hn : ¬ (n + m ≤ cap) := hroom
   have hns : ¬ (9223372036854775807 < ((n : Int) + (m : Int))) := by omega
   have h48 : ¬ (281474976710656 < Builtin.nextslicecap (n + m) cap * bytes) := by have := growslice_fits (need := n + m) (old := cap) (bytes := bytes) (by omega) hb; omega
   have hc := hsrc.cells w.drew (star (own b (.cells cs.toArray e fr)) R) (by rw [qH]; exact sat_heap (w := w) rfl rfl s')
   have hln := hsrc.len w (star (own b (.cells cs.toArray e fr)) R) (by rw [qH]; exact s')
   have hb' := yr (qa s')
   have hold : (Builtin.firstCells size n (.slice (some ⟨b, 0, Option.none⟩) n cap)).run P w.drew = .ok xs.toArray w.drew := run_firstCells_some w.drew size n ⟨b, 0, Option.none⟩ n cap xs hl (fun j u hj => by
    rw [yR, Nat.zero_add, World.cell?_drew, cell_of hb']; rw [← htk, List.getElem?_take] at hj
    split at hj
    ·simpa using hj
    ·cases hj)
   have hg := growCap_facts w (need := n + m) (old := cap) (e := e) (by omega)
   have s2 : sat w (star L R) := yw s'
   refine ⟨.slice (some ⟨w.heap.size, 0, Option.none⟩) (n + m) (grownCap w (n + m) cap e), w.drew.alloc (.cells (xs ++ news ++ (Builtin.zeroCells z.cells (grownCap w (n + m) cap e - (n + m))).toList).toArray e), ?_, ?_, by simp⟩
   ·rcases h2 with ⟨e', h2⟩ | h2 <;>
    ·simp [Builtin.append_, run_underlying ht.und, run_underlying h2, sizeOf, typeInfo, zeroValue, hi, hz, hsz, hby, hln, hn, hns, h48, Question.forced, hold, hc, newRow, grownCap]
     congr 2
     apply Array.ext'
     simp [List.append_assoc]
   ·refine row_mk hg.1 hg.2 ?_ ?_ (zg _) (sat_alloc (w := w) rfl s2 rfl)
    ·rw [List.length_append, List.length_append, hsrc.size, hl, Array.length_toList, size_zeroCells, ht.zs, ← Nat.add_mul, ← Nat.add_mul]; congr 1; omega
    ·have e1 : (xs ++ news).length = (n + m) * size := by rw [List.length_append, hl, hsrc.size, ← Nat.add_mul]
     rw [← e1]; exact List.take_left
/-! ### append, as an operation -/
variable {n : Nat} {Γ : Env} {d : Option Tmp} {ty : TypeId} {pos : String} {aft : Array Edge} {g : Option (Nat × Bool)}
theorem execOp_append {a : Act} {w : World} {x y : Operand} {t t2 : TypeId} {v src : Value} (f : Fits n Γ a) (hx : ev Γ x = some v) (hy : ev Γ y = some src) {v' : Value} {w' : World}
 (h : (Builtin.append_ #[t, t2] ty #[v, src]).run P w = .ok v' w') :
 (execOp a.eval ⟨d, .call { callee := .builtin .append, args := #[x, y], argTypes := #[t, t2] }, ty, pos, aft, g⟩).run P w = .ok (.value v') w' := by
 simp only [execOp, resolve, invoke, builtin, Sem.run_bind, Sem.run_pure, Result.andThen_ok, List.map_toArray, List.map_cons, List.map_nil, f.ev hx, f.ev hy, h]
theorem yU {H : List HProp} {i : Nat} {A : HProp} (hi : H[i]? = some A) (F : HProp) : star (St H) F = star A (star (St (H.eraseIdx i)) F) := by rw [yS hi, zv]
/-- what an append leaves: a slice of so many elements -/
def Grew (e : TypeId) (size : Nat) (p : Option Addr) (k m : Nat) (xs : List Value) (v' : Value) (A : HProp) : Prop :=
 ∃ p' c', v' = .slice p' (k + m) c' ∧ (p' = Option.none ↔ p = Option.none ∧ m = 0) ∧ A = row e size (.slice p' (k + m) c') (k + m) xs
theorem row_form {e : TypeId} {size k : Nat} {v : Value} {xs : List Value} {w : World} {R : HProp} (s : sat w (star (row e size v k xs) R)) : ∃ p c, v = .slice p k c ∧ (p = Option.none ↔ v = .slice Option.none 0 0) := by
 rcases (sat_row s).2 with ⟨h1, h2, _, _⟩ | ⟨b, cap, _, _, h1, _⟩
 ·subst h2; exact ⟨Option.none, 0, h1, by simp [h1]⟩
 ·exact ⟨some ⟨b, 0, Option.none⟩, cap, h1, by simp [h1]⟩
theorem eff_append {t t2 e : TypeId} {size bytes : Nat} {z : Value} {x y : Operand} {p : Option Addr} {src : Value} {k c m : Nat} {xs news : List Value} {H : List HProp} (i : Nat) (ht : Slc P t e size bytes z)
 (h2 : (∃ e', P.underlying t2 = some (.slice e')) ∨ P.underlying t2 = some .string) (hx : ev Γ x = some (.slice p k c)) (hy : ev Γ y = some src)
 (hi : H[i]? = some (row e size (.slice p k c) k xs)) (hs : Src P (St (H.eraseIdx i)) size src m news) (hb : (k + m) * bytes ≤ 140737488355328) (hm : k + m ≤ maxLen) :
 EFF P n Γ ⟨d, .call { callee := .builtin .append, args := #[x, y], argTypes := #[t, t2] }, ty, pos, aft, g⟩ (St H)
  (fun v' H' => ∃ A, Grew e size p k m (xs ++ news) v' A ∧ H' = H.set i A) := yv fun a w F f s => by
 rw [yU hi] at s; obtain ⟨v', w', hr, s', hn⟩ := run_append_row ht h2 hs hb hm (ty := ty) w s
 obtain ⟨p', c', hv, hp⟩ := row_form s'
 obtain ⟨p2, c2, hv2, hp2⟩ := row_form s
 injection hv2 with e1 _ e2; subst e1; subst e2
 subst hv; refine ⟨_, w', _, execOp_append f hx hy hr, ⟨_, ⟨p', c', rfl, ?_, rfl⟩, rfl⟩, by rw [St_set hi, zv]; exact s'⟩; rw [hp, hn, hp2]
theorem qv {H : List HProp} (e : TypeId) (size : Nat) (w : World) (F : HProp) (s : sat w (star (St H) F)) : sat w (star (St (row e size (.slice Option.none 0 0) 0 [] :: H)) F) := by
 rw [qJ, zv]; exact row_nil s
/-- appended to a slice literal -/
theorem eff_appendLit {t t2 e : TypeId} {size bytes k m b : Nat} {z : Value} {x y : Operand} {src : Value} {cs news : List Value} {H : List HProp} (i : Nat) (ht : Slc P t e size bytes z)
 (h2 : (∃ e', P.underlying t2 = some (.slice e')) ∨ P.underlying t2 = some .string) (hx : ev Γ x = some (.slice (some ⟨b, 0, Option.none⟩) k k)) (hy : ev Γ y = some src)
 (hi : H[i]? = some (own b (.cells cs.toArray e (0, 0)))) (hl : cs.length = k * size) (hs : Src P (St (H.eraseIdx i)) size src m news) (hb : (k + m) * bytes ≤ 140737488355328) (hm : k + m ≤ maxLen) :
 EFF P n Γ ⟨d, .call { callee := .builtin .append, args := #[x, y], argTypes := #[t, t2] }, ty, pos, aft, g⟩ (St H)
  (fun v' H' => ∃ b' c', v' = .slice (some ⟨b', 0, Option.none⟩) (k + m) c' ∧ H' = H.set i (row e size (.slice (some ⟨b', 0, Option.none⟩) (k + m) c') (k + m) (cs ++ news))) := yv fun a w F f s => by
 rw [yU hi] at s; have s2 := row_mk (e := e) (size := size) (n := k) (cap := k) (Nat.le_refl _) (by omega) hl (xs := cs) (by rw [← hl]; exact List.take_length) (zg cs) s
 obtain ⟨v', w', hr, s', hn⟩ := run_append_row ht h2 hs hb hm (ty := ty) w s2
 rcases (sat_row s').2 with ⟨h1, _⟩ | ⟨b', c', _, _, h1, _⟩
 ·have := (hn.1 h1).1; simp at this
 ·subst h1; exact ⟨_, w', _, execOp_append f hx hy hr, ⟨b', c', rfl, rfl⟩, by rw [St_set hi, zv]; exact s'⟩
end
theorem zy7 : (∀ {α : Type u} {a : α} {l m : List α}, a :: l ++ m = a :: (l ++ m)) ∧ (∀ {α : Type u} (l : List α), [] ++ l = l) ∧ (∀ {α : Type u} {a : α} {l : List α}, (a :: l).eraseIdx 0 = l) ∧ (∀ {α : Type u} {a : α} {l : List α} {i : Nat}, (a :: l).eraseIdx (i + 1) = a :: l.eraseIdx i) ∧ (∀ {α : Type u} {a b : α} {l : List α}, (a :: l).set 0 b = b :: l) ∧ (∀ {α : Type u} {a b : α} {l : List α} {i : Nat}, (a :: l).set (i + 1) b = a :: l.set i b) := ⟨by intros; rfl, by intros; rfl, by intros; rfl, by intros; rfl, by intros; rfl, by intros; rfl⟩
theorem zy4 : type_of% @Rd.pick := @Rd.pick
theorem zy5 : type_of% @Vw.pick := @Vw.pick
theorem zy6 : type_of% @RdN.of_pick := @RdN.of_pick
theorem zy1 : type_of% @Nat.le_of_ble_eq_true := @Nat.le_of_ble_eq_true
theorem zy2 : type_of% @of_decide_eq_true := @of_decide_eq_true
theorem zy3 : type_of% @of_decide_eq_false := @of_decide_eq_false
end Go.Sx
