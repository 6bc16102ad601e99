/-
  Rules for the model's operations in the logic of the Sx text: what only reads, what acts.
-/
import Derived.Test.YtbbmhppkhcodfaaSx
import Derived.Laws.StructEq
import Derived.Laws.BytesArg
import Derived.Laws.Concat
namespace Go.Sx
set_option linter.unusedVariables false
set_option linter.unusedSimpArgs false

section
variable {P : Program} {n : Nat} {L : HProp} {Γ : Env} {d : Option Tmp} {ty : TypeId} {pos : String} {aft : Array Edge} {g : Option (Nat × Bool)}

theorem ro_move {x : Operand} {v : Value} (hx : ev Γ x = some v) : RO P n L Γ ⟨d, .move x, ty, pos, aft, g⟩ v := fun a w R f s => by
  simp [execOp, f.ev hx]
theorem ro_assign {x : Operand} {v : Value} (hx : ev Γ x = some v) : RO P n L Γ ⟨d, .assign x, ty, pos, aft, g⟩ v := fun a w R f s => by
  simp [execOp, f.ev hx]
theorem ro_pick {c x y : Operand} {t : Bool} {v : Value} (hc : ev Γ c = some (.bool t)) (h : (bif t then ev Γ x else ev Γ y) = some v) : RO P n L Γ ⟨d, .pick c x y, ty, pos, aft, g⟩ v := fun a w R f s => by
  cases t
  · simp only [cond_false] at h; simp [execOp, f.ev hc, f.ev h, asBool]
  · simp only [cond_true] at h; simp [execOp, f.ev hc, f.ev h, asBool]
theorem ro_nilCheck {x : Operand} {p : Addr} (hx : ev Γ x = some (.pointer (some p))) : RO P n L Γ ⟨d, .nilCheck x, ty, pos, aft, g⟩ (.pointer (some p)) := fun a w R f s => by
  simp [execOp, f.ev hx]

/-! ### Whole numbers -/
theorem eqGuard_int {op : BinOp} {t : TypeId} {x y : Operand} {k k' : IntKind} {a b : Int} {w : World} : (eqGuard op t x y (.int k a) (.int k' b)).run P w = .ok () w := by
  unfold eqGuard; split <;> rfl
theorem ro_int {op : BinOp} {t ty' : TypeId} {x y : Operand} {k k' : IntKind} {a b : Int} {v : Value} (hx : ev Γ x = some (.int k a)) (hy : ev Γ y = some (.int k' b))
    (h : ∀ w, (binOp op t (.int k a) (.int k' b)).run P w = .ok v w) : RO P n L Γ ⟨d, .binOp op t x y ty', ty, pos, aft, g⟩ v := fun c w R f s => by
  simp [execOp, f.ev hx, f.ev hy, eqGuard_int, h]
theorem ro_add {t ty' : TypeId} {x y : Operand} {k : IntKind} {a b c : Int} (hx : ev Γ x = some (.int k a)) (hy : ev Γ y = some (.int k b)) (hz : k.wrap (a + b) = c) :
    RO P n L Γ ⟨d, .binOp .add t x y ty', ty, pos, aft, g⟩ (.int k c) := ro_int hx hy fun w => by simp [binOp, Op.intArith, hz]
theorem ro_sub {t ty' : TypeId} {x y : Operand} {k : IntKind} {a b c : Int} (hx : ev Γ x = some (.int k a)) (hy : ev Γ y = some (.int k b)) (hz : k.wrap (a - b) = c) :
    RO P n L Γ ⟨d, .binOp .sub t x y ty', ty, pos, aft, g⟩ (.int k c) := ro_int hx hy fun w => by simp [binOp, Op.intArith, hz]
theorem ro_mul {t ty' : TypeId} {x y : Operand} {k : IntKind} {a b c : Int} (hx : ev Γ x = some (.int k a)) (hy : ev Γ y = some (.int k b)) (hz : k.wrap (a * b) = c) :
    RO P n L Γ ⟨d, .binOp .mul t x y ty', ty, pos, aft, g⟩ (.int k c) := ro_int hx hy fun w => by simp [binOp, Op.intArith, hz]
theorem ro_quo {t ty' : TypeId} {x y : Operand} {k : IntKind} {a b c : Int} (hx : ev Γ x = some (.int k a)) (hy : ev Γ y = some (.int k b)) (h0 : b ≠ 0) (hz : k.wrap (a.tdiv b) = c) :
    RO P n L Γ ⟨d, .binOp .quo t x y ty', ty, pos, aft, g⟩ (.int k c) := ro_int hx hy fun w => by simp [binOp, Op.intDiv, hz, h0]
theorem ro_rem {t ty' : TypeId} {x y : Operand} {k : IntKind} {a b c : Int} (hx : ev Γ x = some (.int k a)) (hy : ev Γ y = some (.int k b)) (h0 : b ≠ 0) (hz : a.tmod b = c) :
    RO P n L Γ ⟨d, .binOp .rem t x y ty', ty, pos, aft, g⟩ (.int k c) := ro_int hx hy fun w => by simp [binOp, Op.intDiv, hz, h0]
theorem ro_eql {t ty' : TypeId} {x y : Operand} {k : IntKind} {a b : Int} {c : Bool} (hx : ev Γ x = some (.int k a)) (hy : ev Γ y = some (.int k b)) (hz : decide (a = b) = c) :
    RO P n L Γ ⟨d, .binOp .eql t x y ty', ty, pos, aft, g⟩ (.bool c) := ro_int hx hy fun w => by
  have : (a == b) = c := by rw [← hz]; rfl
  simp [binOp, Op.intCmp, this]
theorem ro_neq {t ty' : TypeId} {x y : Operand} {k : IntKind} {a b : Int} {c : Bool} (hx : ev Γ x = some (.int k a)) (hy : ev Γ y = some (.int k b)) (hz : decide (a ≠ b) = c) :
    RO P n L Γ ⟨d, .binOp .neq t x y ty', ty, pos, aft, g⟩ (.bool c) := ro_int hx hy fun w => by
  have : (a != b) = c := by rw [← hz]; by_cases h : a = b <;> simp [bne, h]
  simp [binOp, Op.intCmp, this]
theorem ro_lss {t ty' : TypeId} {x y : Operand} {k : IntKind} {a b : Int} {c : Bool} (hx : ev Γ x = some (.int k a)) (hy : ev Γ y = some (.int k b)) (hz : decide (a < b) = c) :
    RO P n L Γ ⟨d, .binOp .lss t x y ty', ty, pos, aft, g⟩ (.bool c) := ro_int hx hy fun w => by simp [binOp, Op.intCmp, hz]
theorem ro_leq {t ty' : TypeId} {x y : Operand} {k : IntKind} {a b : Int} {c : Bool} (hx : ev Γ x = some (.int k a)) (hy : ev Γ y = some (.int k b)) (hz : decide (a ≤ b) = c) :
    RO P n L Γ ⟨d, .binOp .leq t x y ty', ty, pos, aft, g⟩ (.bool c) := ro_int hx hy fun w => by simp [binOp, Op.intCmp, hz]
theorem ro_gtr {t ty' : TypeId} {x y : Operand} {k : IntKind} {a b : Int} {c : Bool} (hx : ev Γ x = some (.int k a)) (hy : ev Γ y = some (.int k b)) (hz : decide (b < a) = c) :
    RO P n L Γ ⟨d, .binOp .gtr t x y ty', ty, pos, aft, g⟩ (.bool c) := ro_int hx hy fun w => by simp [binOp, Op.intCmp, hz]
theorem ro_geq {t ty' : TypeId} {x y : Operand} {k : IntKind} {a b : Int} {c : Bool} (hx : ev Γ x = some (.int k a)) (hy : ev Γ y = some (.int k b)) (hz : decide (b ≤ a) = c) :
    RO P n L Γ ⟨d, .binOp .geq t x y ty', ty, pos, aft, g⟩ (.bool c) := ro_int hx hy fun w => by simp [binOp, Op.intCmp, hz]
/-- &, |, ^, &^ -/
def bits (op : BinOp) (k : IntKind) (x y : Int) : Int :=
  match op with
  | .and => k.wrap ((BitVec.ofInt k.bits x &&& BitVec.ofInt k.bits y).toNat : Int)
  | .or => k.wrap ((BitVec.ofInt k.bits x ||| BitVec.ofInt k.bits y).toNat : Int)
  | .xor => k.wrap ((BitVec.ofInt k.bits x ^^^ BitVec.ofInt k.bits y).toNat : Int)
  | _ => k.wrap ((BitVec.ofInt k.bits x &&& ~~~ BitVec.ofInt k.bits y).toNat : Int)
theorem ro_and {t ty' : TypeId} {x y : Operand} {k : IntKind} {a b c : Int} (hx : ev Γ x = some (.int k a)) (hy : ev Γ y = some (.int k b)) (hz : bits .and k a b = c) :
    RO P n L Γ ⟨d, .binOp .and t x y ty', ty, pos, aft, g⟩ (.int k c) := ro_int hx hy fun w => by subst hz; simp [binOp, Op.intBits, bits]
theorem ro_or {t ty' : TypeId} {x y : Operand} {k : IntKind} {a b c : Int} (hx : ev Γ x = some (.int k a)) (hy : ev Γ y = some (.int k b)) (hz : bits .or k a b = c) :
    RO P n L Γ ⟨d, .binOp .or t x y ty', ty, pos, aft, g⟩ (.int k c) := ro_int hx hy fun w => by subst hz; simp [binOp, Op.intBits, bits]
theorem ro_xor {t ty' : TypeId} {x y : Operand} {k : IntKind} {a b c : Int} (hx : ev Γ x = some (.int k a)) (hy : ev Γ y = some (.int k b)) (hz : bits .xor k a b = c) :
    RO P n L Γ ⟨d, .binOp .xor t x y ty', ty, pos, aft, g⟩ (.int k c) := ro_int hx hy fun w => by subst hz; simp [binOp, Op.intBits, bits]
theorem ro_andNot {t ty' : TypeId} {x y : Operand} {k : IntKind} {a b c : Int} (hx : ev Γ x = some (.int k a)) (hy : ev Γ y = some (.int k b)) (hz : bits .andNot k a b = c) :
    RO P n L Γ ⟨d, .binOp .andNot t x y ty', ty, pos, aft, g⟩ (.int k c) := ro_int hx hy fun w => by subst hz; simp [binOp, Op.intBits, bits]
theorem ro_shl {t ty' : TypeId} {x y : Operand} {k k' : IntKind} {a b c : Int} (hx : ev Γ x = some (.int k a)) (hy : ev Γ y = some (.int k' b)) (h0 : 0 ≤ b) (hz : k.wrap (a * 2 ^ (min b.toNat k.bits)) = c) :
    RO P n L Γ ⟨d, .binOp .shl t x y ty', ty, pos, aft, g⟩ (.int k c) := ro_int hx hy fun w => by simp [binOp, Op.shift, hz, Int.not_lt.2 h0]
theorem ro_shr {t ty' : TypeId} {x y : Operand} {k k' : IntKind} {a b c : Int} (hx : ev Γ x = some (.int k a)) (hy : ev Γ y = some (.int k' b)) (h0 : 0 ≤ b) (hz : a.fdiv (2 ^ (min b.toNat k.bits)) = c) :
    RO P n L Γ ⟨d, .binOp .shr t x y ty', ty, pos, aft, g⟩ (.int k c) := ro_int hx hy fun w => by simp [binOp, Op.shift, hz, Int.not_lt.2 h0]
theorem ro_not {t : TypeId} {x : Operand} {b c : Bool} (hx : ev Γ x = some (.bool b)) (hz : (!b) = c) : RO P n L Γ ⟨d, .unOp .not t x, ty, pos, aft, g⟩ (.bool c) := fun a w R f s => by
  subst hz; simp [execOp, f.ev hx, Op.unary]
theorem ro_neg {t : TypeId} {x : Operand} {k : IntKind} {a c : Int} (hx : ev Γ x = some (.int k a)) (hz : k.wrap (0 - a) = c) : RO P n L Γ ⟨d, .unOp .neg t x, ty, pos, aft, g⟩ (.int k c) := fun e w R f s => by
  subst hz; simp [execOp, f.ev hx, Op.unary, Op.intArith]
theorem run_eqlOf {t : TypeId} {a b : Value} {w : World} {r : Bool} (h1 : binOp .eql t a b = (do let r ← Op.equal t a b; pure (.bool r))) (h : (Op.equalIn (9999 + 1) t a b).run P w = .ok r w) : (binOp .eql t a b).run P w = .ok (.bool r) w := by
  rw [h1]; simp only [Sem.run_bind, Op.equal]
  change ((Op.equalIn (9999 + 1) t a b).run P w).andThen _ = _
  rw [h]; rfl
theorem run_neqOf {t : TypeId} {a b : Value} {w : World} {r : Bool} (h1 : binOp .neq t a b = (do let r ← Op.equal t a b; pure (.bool (!r)))) (h : (Op.equalIn (9999 + 1) t a b).run P w = .ok r w) : (binOp .neq t a b).run P w = .ok (.bool (!r)) w := by
  rw [h1]; simp only [Sem.run_bind, Op.equal]
  change ((Op.equalIn (9999 + 1) t a b).run P w).andThen _ = _
  rw [h]; rfl
theorem ro_cmpOf {op : BinOp} {t ty' : TypeId} {x y : Operand} {a b v : Value} (hx : ev Γ x = some a) (hy : ev Γ y = some b) (hg : ∀ w, (eqGuard op t x y a b).run P w = .ok () w) (h : ∀ w, (binOp op t a b).run P w = .ok v w) :
    RO P n L Γ ⟨d, .binOp op t x y ty', ty, pos, aft, g⟩ v := fun e w R f s => by
  simp only [execOp, f.ev hx, f.ev hy, Sem.run_bind, hg, Result.andThen_ok, h, Sem.run_pure]
theorem eqGuard_bool {op : BinOp} {t : TypeId} {x y : Operand} {a b : Bool} {w : World} : (eqGuard op t x y (.bool a) (.bool b)).run P w = .ok () w := by
  unfold eqGuard; split <;> rfl
theorem equalIn_ptrNil (k : Nat) {t el : TypeId} {a : Option Addr} {w : World} (ht : P.underlying t = some (.pointer el)) : (Op.equalIn (k + 1) t (.pointer a) (.pointer Option.none)).run P w = .ok a.isNone w := by
  cases a <;> simp [Op.equalIn, run_underlying ht]
theorem equalIn_sliceNil (k : Nat) {t el : TypeId} {a : Option Addr} {m c m' c' : Nat} {w : World} (ht : P.underlying t = some (.slice el)) : (Op.equalIn (k + 1) t (.slice a m c) (.slice Option.none m' c')).run P w = .ok a.isNone w := by
  cases a <;> simp [Op.equalIn, run_underlying ht]
theorem ro_eql_bool {t ty' : TypeId} {x y : Operand} {a b c : Bool} (ht : P.underlying t = some .bool) (hx : ev Γ x = some (.bool a)) (hy : ev Γ y = some (.bool b)) (hz : (a == b) = c) :
    RO P n L Γ ⟨d, .binOp .eql t x y ty', ty, pos, aft, g⟩ (.bool c) := fun e w R f s => by
  subst hz; exact ro_cmpOf hx hy (fun w => eqGuard_bool) (fun w => run_eqlOf rfl (run_equalIn_bool' w 9999 t a b ht)) e w R f s
theorem ro_neq_bool {t ty' : TypeId} {x y : Operand} {a b c : Bool} (ht : P.underlying t = some .bool) (hx : ev Γ x = some (.bool a)) (hy : ev Γ y = some (.bool b)) (hz : (a != b) = c) :
    RO P n L Γ ⟨d, .binOp .neq t x y ty', ty, pos, aft, g⟩ (.bool c) := fun e w R f s => by
  subst hz; exact ro_cmpOf hx hy (fun w => eqGuard_bool) (fun w => run_neqOf rfl (run_equalIn_bool' w 9999 t a b ht)) e w R f s
/-- a whole number's conversion -/
theorem ro_conv {t t' : TypeId} {x : Operand} {k k' : IntKind} {dd : TypeDesc} {a c : Int} (hs : P.underlying t = some dd) (ht : P.underlying t' = some (.int k)) (hx : ev Γ x = some (.int k' a)) (hz : k.wrap a = c) :
    RO P n L Γ ⟨d, .convert t t' x, ty, pos, aft, g⟩ (.int k c) := fun e w R f s => by
  subst hz
  cases dd <;> simp [execOp, f.ev hx, convert, run_underlying hs, run_underlying ht, Conv.intToInt]
/-! ### Texts -/
theorem beqBytes (a b : ByteArray) : (a.toList == b.toList) = decide (a = b) := by
  rw [ByteArray.toList_eq, ByteArray.toList_eq]
  obtain ⟨⟨x⟩⟩ := a
  obtain ⟨⟨y⟩⟩ := b
  by_cases h : x = y
  · subst h; simp
  · have h1 : (x == y) = false := by simpa using h
    simp only [h1]; simp [h]
theorem eqGuard_str {op : BinOp} {t : TypeId} {x y : Operand} {a b : ByteArray} {w : World} : (eqGuard op t x y (.string a) (.string b)).run P w = .ok () w := by
  unfold eqGuard; split <;> rfl
theorem ro_strEql {t ty' : TypeId} {x y : Operand} {a b : ByteArray} {c : Bool} (hx : ev Γ x = some (.string a)) (hy : ev Γ y = some (.string b)) (hz : decide (a = b) = c) :
    RO P n L Γ ⟨d, .binOp .eql t x y ty', ty, pos, aft, g⟩ (.bool c) := fun e w R f s => by
  have : (a.toList == b.toList) = c := by rw [beqBytes, hz]
  simp [execOp, f.ev hx, f.ev hy, eqGuard_str, binOp, Op.stringOp, this]
theorem ro_strNeq {t ty' : TypeId} {x y : Operand} {a b : ByteArray} {c : Bool} (hx : ev Γ x = some (.string a)) (hy : ev Γ y = some (.string b)) (hz : decide (a ≠ b) = c) :
    RO P n L Γ ⟨d, .binOp .neq t x y ty', ty, pos, aft, g⟩ (.bool c) := fun e w R f s => by
  have : (!(a.toList == b.toList)) = c := by rw [beqBytes, ← hz]; simp
  simp [execOp, f.ev hx, f.ev hy, eqGuard_str, binOp, Op.stringOp, this]
theorem ro_strAdd {t ty' : TypeId} {x y : Operand} {a b : ByteArray} (hx : ev Γ x = some (.string a)) (hy : ev Γ y = some (.string b)) (hz : a.size + b.size ≤ 9223372036854775807) :
    RO P n L Γ ⟨d, .binOp .add t x y ty', ty, pos, aft, g⟩ (.string (a ++ b)) := fun e w R f s => by
  simp only [execOp, f.ev hx, f.ev hy, Sem.run_bind, eqGuard_str, Result.andThen_ok, binOp, run_string_add_sum w a b hz, Sem.run_pure]
theorem ro_strIndex {t : TypeId} {x ix : Operand} {k : IntKind} {a : ByteArray} {i : Nat} {ii : Int} (ht : P.underlying t = some .string) (hx : ev Γ x = some (.string a)) (hi : ev Γ ix = some (.int k ii)) (hj : ii = (i : Int)) (hlt : i < a.size) :
    RO P n L Γ ⟨d, .index t x ix, ty, pos, aft, g⟩ (.int .u8 (a[i].toNat : Int)) := fun e w R f s => by
  subst hj
  simp [execOp, f.ev hx, f.ev hi, Instr.index, asIntOf, run_underlying ht, hlt]
theorem ro_strLen {x : Operand} {t t' : TypeId} {a : ByteArray} (ht : P.underlying t = some .string) (hx : ev Γ x = some (.string a)) :
    RO P n L Γ ⟨d, .call { callee := .builtin .len, args := #[x], argTypes := #[t] }, ty, pos, aft, g⟩ (.int .i64 a.size) := fun e w R f s => by
  simp [execOp, f.ev hx, resolve, invoke, builtin, Builtin.len_, run_underlying ht, goInt]
theorem ro_sliceLen {x : Operand} {t el : TypeId} {p : Option Addr} {m c : Nat} (ht : P.underlying t = some (.slice el)) (hx : ev Γ x = some (.slice p m c)) :
    RO P n L Γ ⟨d, .call { callee := .builtin .len, args := #[x], argTypes := #[t] }, ty, pos, aft, g⟩ (.int .i64 m) := fun e w R f s => by
  simp [execOp, f.ev hx, resolve, invoke, builtin, Builtin.len_, run_underlying ht, goInt]
theorem ro_sliceCap {x : Operand} {t el : TypeId} {p : Option Addr} {m c : Nat} (ht : P.underlying t = some (.slice el)) (hx : ev Γ x = some (.slice p m c)) :
    RO P n L Γ ⟨d, .call { callee := .builtin .cap, args := #[x], argTypes := #[t] }, ty, pos, aft, g⟩ (.int .i64 c) := fun e w R f s => by
  simp [execOp, f.ev hx, resolve, invoke, builtin, Builtin.cap_, run_underlying ht, goInt]
theorem ro_arrLen {x : Operand} {t el : TypeId} {m : Nat} {v : Value} (ht : P.underlying t = some (.array m el)) (hx : ev Γ x = some v) :
    RO P n L Γ ⟨d, .call { callee := .builtin .len, args := #[x], argTypes := #[t] }, ty, pos, aft, g⟩ (.int .i64 m) := fun e w R f s => by
  simp [execOp, f.ev hx, resolve, invoke, builtin, Builtin.len_, run_underlying ht, goInt]

/-! ### Pointers, slices held against nil -/
theorem eqGuard_ptr {op : BinOp} {t : TypeId} {x y : Operand} {a b : Option Addr} {w : World} : (eqGuard op t x y (.pointer a) (.pointer b)).run P w = .ok () w := by
  unfold eqGuard; split <;> rfl
theorem ro_ptrEqlNil {t ty' el : TypeId} {x y : Operand} {a : Option Addr} {c : Bool} (ht : P.underlying t = some (.pointer el)) (hx : ev Γ x = some (.pointer a)) (hy : ev Γ y = some (.pointer Option.none)) (hz : a.isNone = c) :
    RO P n L Γ ⟨d, .binOp .eql t x y ty', ty, pos, aft, g⟩ (.bool c) := fun e w R f s => by
  subst hz
  exact ro_cmpOf hx hy (fun w => eqGuard_ptr) (fun w => run_eqlOf (by cases a <;> rfl) (equalIn_ptrNil 9999 ht)) e w R f s
theorem ro_ptrNeqNil {t ty' el : TypeId} {x y : Operand} {a : Option Addr} {c : Bool} (ht : P.underlying t = some (.pointer el)) (hx : ev Γ x = some (.pointer a)) (hy : ev Γ y = some (.pointer Option.none)) (hz : a.isSome = c) :
    RO P n L Γ ⟨d, .binOp .neq t x y ty', ty, pos, aft, g⟩ (.bool c) := fun e w R f s => by
  subst hz
  have h : a.isSome = !a.isNone := by cases a <;> rfl
  rw [h]; exact ro_cmpOf hx hy (fun w => eqGuard_ptr) (fun w => run_neqOf (by cases a <;> rfl) (equalIn_ptrNil 9999 ht)) e w R f s
theorem eqGuard_slice {op : BinOp} {t : TypeId} {x y : Operand} {a b : Option Addr} {m c m' c' : Nat} {w : World} : (eqGuard op t x y (.slice a m c) (.slice b m' c')).run P w = .ok () w := by
  unfold eqGuard; split <;> rfl
theorem ro_sliceEqlNil {t ty' el : TypeId} {x y : Operand} {a : Option Addr} {m c' m' c'' : Nat} {c : Bool} (ht : P.underlying t = some (.slice el)) (hx : ev Γ x = some (.slice a m c')) (hy : ev Γ y = some (.slice Option.none m' c'')) (hz : a.isNone = c) :
    RO P n L Γ ⟨d, .binOp .eql t x y ty', ty, pos, aft, g⟩ (.bool c) := fun e w R f s => by
  subst hz
  exact ro_cmpOf hx hy (fun w => eqGuard_slice) (fun w => run_eqlOf (by cases a <;> rfl) (equalIn_sliceNil 9999 ht)) e w R f s
theorem ro_sliceNeqNil {t ty' el : TypeId} {x y : Operand} {a : Option Addr} {m c' m' c'' : Nat} {c : Bool} (ht : P.underlying t = some (.slice el)) (hx : ev Γ x = some (.slice a m c')) (hy : ev Γ y = some (.slice Option.none m' c'')) (hz : a.isSome = c) :
    RO P n L Γ ⟨d, .binOp .neq t x y ty', ty, pos, aft, g⟩ (.bool c) := fun e w R f s => by
  subst hz
  have h : a.isSome = !a.isNone := by cases a <;> rfl
  rw [h]; exact ro_cmpOf hx hy (fun w => eqGuard_slice) (fun w => run_neqOf (by cases a <;> rfl) (equalIn_sliceNil 9999 ht)) e w R f s
end

/-! ### What is known of types (facts of a program, each shown once) -/
/-- one cell -/
structure Scal (P : Program) (t : TypeId) : Prop where
  agg : ∀ w, (isAgg t).run P w = .ok false w
  size : ∀ w, (sizeOf t).run P w = .ok 1 w
/-- k cells, in a struct or an array -/
structure Aggr (P : Program) (t : TypeId) (k : Nat) : Prop where
  agg : ∀ w, (isAgg t).run P w = .ok true w
  size : ∀ w, (sizeOf t).run P w = .ok k w
def Zero (P : Program) (t : TypeId) (v : Value) : Prop := ∀ w, (zeroValue t).run P w = .ok v w
/-- field number k of the struct s lies at offset k' -/
def FieldAt (P : Program) (s : TypeId) (k off : Nat) : Prop := ∀ w (a : Addr), (Instr.fieldAt s (.pointer (some a)) k).run P w = .ok (.pointer (some (a.add off))) w
/-- a slice type: its element type, cells and bytes of an element -/
structure Slc (P : Program) (t e : TypeId) (size bytes : Nat) (z : Value) : Prop where
  und : P.underlying t = some (.slice e)
  info : ∃ i, P.info? e = some i ∧ i.zero = some z ∧ i.size = size ∧ i.bytes = bytes
  zs : z.cells.size = size
  pos : 0 < size
theorem Slc.of {P : Program} {t e : TypeId} {size bytes : Nat} {z : Value} (hu : P.underlying t = some (.slice e)) (hi : (P.info? e).map (fun i => (i.zero, i.size, i.bytes)) = some (some z, size, bytes)) (hz : z.cells.size = size) (hp : 0 < size) : Slc P t e size bytes z := by
  refine ⟨hu, ?_, hz, hp⟩
  cases h : P.info? e with
  | none => simp [h] at hi
  | some i => simp [h] at hi; exact ⟨i, rfl, hi.1, hi.2.1, hi.2.2⟩
theorem addr_add (b o k : Nat) : (⟨b, o, Option.none⟩ : Addr).add k = ⟨b, o + k, Option.none⟩ := Addr.add_lit b o k

/-! ### Reading -/
/-- L holds v at that place. -/
def Rd (L : HProp) (b o : Nat) (v : Value) : Prop := ∀ w R, sat w (star L R) → w.cell? ⟨b, o, Option.none⟩ = some v
def RdN (L : HProp) (b o : Nat) (vs : List Value) : Prop := ∀ j v, vs[j]? = some v → Rd L b (o + j) v
theorem cell_of {w : World} {b o : Nat} {cs : Array Value} {t : TypeId} {fr : Nat × Nat} (h : w.heap[b]? = some (.cells cs t fr)) : w.cell? ⟨b, o, Option.none⟩ = cs[o]? := by
  simp [World.cell?, h]
theorem Rd.pick {H : List HProp} {A : HProp} {b o : Nat} {v : Value} (i : Nat) (hi : H[i]? = some A) (h : Rd A b o v) : Rd (St H) b o v := fun w R s => by
  rw [St_pick hi, star_assoc] at s; exact h w _ s
theorem Rd.own {b o : Nat} {cs : List Value} {t : TypeId} {fr : Nat × Nat} {v : Value} (h : cs[o]? = some v) : Rd (own b (.cells cs.toArray t fr)) b o v := fun w R s => by
  rw [cell_of (sat_own (sat_star_left s))]; simpa using h
theorem Rd.ro {w0 : World} {b o : Nat} {v : Value} (h : w0.cell? ⟨b, o, Option.none⟩ = some v) : Rd (ro w0) b o v := fun w R s => by
  have s1 := sat_star_left s
  unfold World.cell? at h ⊢
  cases hb : w0.heap[b]? with
  | none => simp [hb] at h
  | some ob => simp only [hb] at h; simp only [sat_ro s1 b ob hb]; exact h
theorem RdN.of_pick {H : List HProp} {A : HProp} {b o : Nat} {vs : List Value} (i : Nat) (hi : H[i]? = some A) (h : RdN A b o vs) : RdN (St H) b o vs := fun j v hj => (h j v hj).pick i hi
theorem RdN.own {b o : Nat} {cs vs : List Value} {t : TypeId} {fr : Nat × Nat} (h : (cs.drop o).take vs.length = vs) : RdN (own b (.cells cs.toArray t fr)) b o vs := fun j v hj => by
  refine Rd.own ?_
  have hlt : j < vs.length := (List.getElem?_eq_some_iff.1 hj).1
  rw [← h, List.getElem?_take, if_pos hlt, List.getElem?_drop] at hj
  exact hj

theorem rdn_sub (k : Nat) {b o : Nat} {cs : List Value} {t : TypeId} {fr : Nat × Nat} : RdN (own b (.cells cs.toArray t fr)) b o ((cs.drop o).take k) := fun j v hj => by
  rw [List.getElem?_take] at hj
  split at hj
  · rw [List.getElem?_drop] at hj; exact Rd.own hj
  · cases hj
theorem rdn_all {b : Nat} {cs : List Value} {t : TypeId} {fr : Nat × Nat} : RdN (own b (.cells cs.toArray t fr)) b 0 cs := RdN.own (by simp)
section
variable {P : Program} {n : Nat} {L : HProp} {Γ : Env} {d : Option Tmp} {ty : TypeId} {pos : String} {aft : Array Edge} {g : Option (Nat × Bool)}
theorem ro_load {t : TypeId} {x : Operand} {b o : Nat} {v : Value} (ht : Scal P t) (hx : ev Γ x = some (.pointer (some ⟨b, o, Option.none⟩))) (hr : Rd L b o v) :
    RO P n L Γ ⟨d, .load t x, ty, pos, aft, g⟩ v := fun e w R f s => by
  simp [execOp, f.ev hx, Instr.loadAt, Instr.sureAddr, loadVar, ht.agg, hr w R s]
theorem ro_loadA {t : TypeId} {x : Operand} {b o k : Nat} {vs : List Value} (ht : Aggr P t k) (hx : ev Γ x = some (.pointer (some ⟨b, o, Option.none⟩))) (hr : RdN L b o vs) (hl : vs.length = k) :
    RO P n L Γ ⟨d, .load t x, ty, pos, aft, g⟩ (.agg vs.toArray) := fun e w R f s => by
  subst hl
  have h := run_loadCells_list (P := P) w ⟨b, o, Option.none⟩ vs (fun j v hj => by rw [addr_add]; exact hr j v hj w R s)
  simp [execOp, f.ev hx, Instr.loadAt, Instr.sureAddr, loadVar, ht.agg, ht.size, h]
theorem ro_fieldAddr {t : TypeId} {x : Operand} {b o k off : Nat} (ht : FieldAt P t k off) (hx : ev Γ x = some (.pointer (some ⟨b, o, Option.none⟩))) :
    RO P n L Γ ⟨d, .fieldAddr t x k, ty, pos, aft, g⟩ (.pointer (some ⟨b, o + off, Option.none⟩)) := fun e w R f s => by
  simp [execOp, f.ev hx, ht w, addr_add]
theorem ro_indexSlice {t el : TypeId} {x ix : Operand} {k : IntKind} {b o m c size bytes : Nat} {z : Value} {i : Nat} {ii : Int} (ht : Slc P t el size bytes z) (hx : ev Γ x = some (.slice (some ⟨b, o, Option.none⟩) m c)) (hi : ev Γ ix = some (.int k ii)) (hj : ii = (i : Int)) (hlt : i < m) :
    RO P n L Γ ⟨d, .indexAddr t x ix, ty, pos, aft, g⟩ (.pointer (some ⟨b, o + i * size, Option.none⟩)) := fun e w R f s => by
  subst hj
  obtain ⟨inf, h1, h2, h3, h4⟩ := ht.info
  have hsz : (sizeOf el).run P w = .ok size w := by simp [sizeOf, typeInfo, h1, h3]
  simp [execOp, f.ev hx, f.ev hi, Instr.indexAt, asIntOf, run_underlying ht.und, hlt, hsz, addr_add]
theorem ro_indexArr {t el : TypeId} {x ix : Operand} {k : IntKind} {b o m size : Nat} {i : Nat} {ii : Int} (ht : P.underlying t = some (.array m el)) (hsz : ∀ w, (sizeOf el).run P w = .ok size w) (hx : ev Γ x = some (.pointer (some ⟨b, o, Option.none⟩))) (hi : ev Γ ix = some (.int k ii)) (hj : ii = (i : Int)) (hlt : i < m) :
    RO P n L Γ ⟨d, .indexAddr t x ix, ty, pos, aft, g⟩ (.pointer (some ⟨b, o + i * size, Option.none⟩)) := fun e w R f s => by
  subst hj
  simp [execOp, f.ev hx, f.ev hi, Instr.indexAt, Instr.sureAddr, asIntOf, run_underlying ht, hlt, hsz, addr_add]
theorem ro_extract {x : Operand} {vs : List Value} {k : Nat} {v : Value} (hx : ev Γ x = some (.tuple vs.toArray)) (h : vs[k]? = some v) : RO P n L Γ ⟨d, .extract x k, ty, pos, aft, g⟩ v := fun e w R f s => by
  simp [execOp, f.ev hx, Instr.extract, h]
/-- a part of a struct that is a value -/
def Part (P : Program) (s : TypeId) (k : Nat) (cs : List Value) (v : Value) : Prop := ∀ w, (Instr.field s (.agg cs.toArray) k).run P w = .ok v w
theorem ro_field {t : TypeId} {x : Operand} {k : Nat} {cs : List Value} {v : Value} (hx : ev Γ x = some (.agg cs.toArray)) (h : Part P t k cs v) : RO P n L Γ ⟨d, .field t x k, ty, pos, aft, g⟩ v := fun e w R f s => by
  simp [execOp, f.ev hx, h w]
/-- a struct is built -/
def Bld (P : Program) (t : TypeId) (parts : List (Nat × Value)) (v : Value) : Prop := ∀ w, (Instr.build t parts.toArray).run P w = .ok v w
def evp (Γ : Env) : List (Nat × Operand) → Option (List (Nat × Value))
  | [] => some []
  | (i, x) :: l => match ev Γ x, evp Γ l with
    | some v, some vs => some ((i, v) :: vs)
    | _, _ => Option.none
theorem Fits.evp {Γ : Env} {a : Act} (h : Fits n Γ a) : ∀ {l : List (Nat × Operand)} {vs : List (Nat × Value)}, evp Γ l = some vs → l.map (fun p => (p.1, a.eval p.2)) = vs
  | [], vs, hv => by simpa [Sx.evp] using hv
  | (i, x) :: l, vs, hv => by
    simp only [Sx.evp] at hv
    cases h1 : Sx.ev Γ x with
    | none => simp [h1] at hv
    | some v => cases h2 : Sx.evp Γ l with
      | none => simp [h1, h2] at hv
      | some us => simp [h1, h2] at hv; subst hv; simp [h.ev h1, Fits.evp h h2]
theorem ro_build {t : TypeId} {ps : List (Nat × Operand)} {vs : List (Nat × Value)} {v : Value} (hx : evp Γ ps = some vs) (h : Bld P t vs v) : RO P n L Γ ⟨d, .build t ps.toArray, ty, pos, aft, g⟩ v := fun e w R f s => by
  have hm := f.evp hx
  simp only [execOp, List.map_toArray]
  rw [show (List.map (fun x => (match x with | (i, x) => (i, e.eval x) : Nat × Value)) ps) = vs from hm]
  simp [h w]

/-! ### Acting -/
theorem eff_value {o : Oper} {H : HProp} {Ψ : Value → List HProp → Prop} (h : ∀ a w F, Fits n Γ a → sat w (star H F) → ∃ v w' H', (execOp a.eval o).run P w = .ok (.value v) w' ∧ Ψ v H' ∧ sat w' (star (St H') F)) : EFF P n Γ o H Ψ :=
  fun a w F K Q f s hK => by
    obtain ⟨v, w', H', hr, hp, hs⟩ := h a w F f s
    unfold Oper.wp; rw [hr]; exact hK v w' H' hp hs
theorem eff_skip {o : Oper} {H : HProp} {Ψ : Value → List HProp → Prop} (h : ∀ a w F, Fits n Γ a → sat w (star H F) → ∃ w' H', (execOp a.eval o).run P w = .ok .skip w' ∧ Ψ undef H' ∧ sat w' (star (St H') F)) : EFF P n Γ o H Ψ :=
  fun a w F K Q f s hK => by
    obtain ⟨w', H', hr, hp, hs⟩ := h a w F f s
    unfold Oper.wp; rw [hr]; exact hK _ w' H' hp hs
/-- no cell of the block is frozen -/
def warm (cs : List Value) (fr : Nat × Nat) : Prop := ∀ j, j < cs.length → ¬ (fr.1 ≤ j ∧ j < fr.2)
theorem warm_zero (cs : List Value) : warm cs (0, 0) := fun j _ h => by simp at h
theorem frozen_of {w : World} {b o : Nat} {cs : List Value} {t : TypeId} {fr : Nat × Nat} (h : w.heap[b]? = some (.cells cs.toArray t fr)) (hw : warm cs fr) (ho : o < cs.length) : w.frozen? ⟨b, o, Option.none⟩ = false := by
  obtain ⟨lo, hi⟩ := fr
  have := hw o ho
  simp only [World.frozen?, h]
  simp only [Bool.and_eq_false_iff, decide_eq_false_iff_not]
  by_cases h1 : lo ≤ o
  · exact .inr fun h2 => this ⟨h1, h2⟩
  · exact .inl h1
theorem setCell_heap {w : World} {b o : Nat} {cs : List Value} {t : TypeId} {fr : Nat × Nat} {v : Value} (h : w.heap[b]? = some (.cells cs.toArray t fr)) :
    (w.setCell ⟨b, o, Option.none⟩ v).heap[b]? = some (.cells (cs.set o v).toArray t fr) ∧ ∀ k, k ≠ b → (w.setCell ⟨b, o, Option.none⟩ v).heap[k]? = w.heap[k]? := by
  constructor
  · simp [World.setCell, Array.getElem?_modify, h]
  · intro k hk; simp [World.setCell, Array.getElem?_modify, Ne.symm hk]
theorem eff_store {t : TypeId} {x y : Operand} {b off : Nat} {cs : List Value} {tb : TypeId} {fr : Nat × Nat} {v : Value} {H : List HProp} (i : Nat) (ht : Scal P t) (hx : ev Γ x = some (.pointer (some ⟨b, off, Option.none⟩))) (hy : ev Γ y = some v) (h1 : v.oneCell' = true)
    (hi : H[i]? = some (own b (.cells cs.toArray tb fr))) (ho : off < cs.length) (hw : warm cs fr) :
    EFF P n Γ ⟨d, .store t x y, ty, pos, aft, g⟩ (St H) (fun _ H' => H' = H.set i (own b (.cells (cs.set off v).toArray tb fr))) := eff_skip fun a w F f s => by
  rw [St_pick hi, star_assoc] at s
  have hb := sat_own (sat_star_left s)
  have hc : w.cell? ⟨b, off, Option.none⟩ = some cs[off] := by rw [cell_of hb]; simp [ho]
  have hv : v.cells = #[v] := by cases v <;> first | rfl | simp [Value.oneCell'] at h1
  refine ⟨w.setCell ⟨b, off, Option.none⟩ v, _, ?_, rfl, ?_⟩
  · simp [execOp, f.ev hx, f.ev hy, Instr.storeAt, Instr.sureAddr, storeVar, ht.size, hv, storeCells, addr_add, run_store P w _ v .plain h1, hc, frozen_of hb hw ho]
  · rw [St_set hi, star_assoc]
    exact sat_set (w := w) rfl s (setCell_heap hb).1 (setCell_heap hb).2

/-- vs laid over cs from o on -/
def over (cs : List Value) (o : Nat) (vs : List Value) : List Value := cs.take o ++ vs ++ cs.drop (o + vs.length)
theorem over_length {cs vs : List Value} {o : Nat} (h : o + vs.length ≤ cs.length) : (over cs o vs).length = cs.length := by
  simp [over, List.length_take, List.length_drop]; omega
theorem over_nil (cs : List Value) (o : Nat) : over cs o [] = cs := by simp [over]
theorem over_cons {cs : List Value} {o : Nat} {v : Value} {vs : List Value} (h : o + (v :: vs).length ≤ cs.length) : over (cs.set o v) (o + 1) vs = over cs o (v :: vs) := by
  have ho : o < cs.length := by simp at h; omega
  have e1 : (cs.set o v).take (o + 1) = cs.take o ++ [v] := by
    rw [List.take_succ_eq_append_getElem (by simpa using ho)]
    simp [List.take_set_of_le]
  have e2 : (cs.set o v).drop (o + 1 + vs.length) = cs.drop (o + (v :: vs).length) := by
    rw [List.drop_set_of_lt (by omega), show o + 1 + vs.length = o + (v :: vs).length by simp; omega]
  unfold over
  rw [e1, e2]; simp
theorem run_storeCells_own {b : Nat} {t : TypeId} {fr : Nat × Nat} : ∀ (vs : List Value) (i o : Nat) (cs : List Value) (w : World), w.heap[b]? = some (.cells cs.toArray t fr) → warm cs fr →
    o + i + vs.length ≤ cs.length → (∀ v ∈ vs, v.oneCell' = true) →
    ∃ w', (storeCells ⟨b, o, Option.none⟩ vs i).run P w = .ok () w' ∧ w'.heap[b]? = some (.cells (over cs (o + i) vs).toArray t fr) ∧ (∀ k, k ≠ b → w'.heap[k]? = w.heap[k]?) ∧ cx w' = cx w ∧ w'.heap.size = w.heap.size
  | [], i, o, cs, w, h, hw, hl, h1 => ⟨w, rfl, by rw [over_nil]; exact h, fun _ _ => rfl, rfl, rfl⟩
  | v :: vs, i, o, cs, w, h, hw, hl, h1 => by
    have ho : o + i < cs.length := by simp at hl; omega
    have hc : w.cell? ⟨b, o + i, Option.none⟩ = some cs[o + i] := by rw [cell_of h]; simp [ho]
    have hs := setCell_heap (o := o + i) (v := v) h
    obtain ⟨w', hr, hb, hk, hx, hsz⟩ := run_storeCells_own vs (i + 1) o (cs.set (o + i) v) (w.setCell ⟨b, o + i, Option.none⟩ v) hs.1 (fun j hj => hw j (by simpa using hj)) (by simp at hl ⊢; omega) (fun u hu => h1 u (List.mem_cons_of_mem _ hu))
    refine ⟨w', ?_, ?_, fun k hk' => (hk k hk').trans (hs.2 k hk'), hx, hsz.trans (by simp [World.setCell])⟩
    · simp only [storeCells, Sem.run_bind, addr_add, run_store P w _ v .plain (h1 v List.mem_cons_self), hc, frozen_of h hw ho, Bool.false_eq_true, if_false, Result.andThen_ok, hr]
    · rw [hb, show o + (i + 1) = (o + i) + 1 by omega, over_cons hl]
theorem eff_storeA {t : TypeId} {x y : Operand} {b off k : Nat} {cs vs : List Value} {tb : TypeId} {fr : Nat × Nat} {H : List HProp} (i : Nat) (ht : Aggr P t k) (hx : ev Γ x = some (.pointer (some ⟨b, off, Option.none⟩))) (hy : ev Γ y = some (.agg vs.toArray)) (hl : vs.length = k) (h1' : vs.all Value.oneCell' = true)
    (hi : H[i]? = some (own b (.cells cs.toArray tb fr))) (ho : off + vs.length ≤ cs.length) (hw : warm cs fr) :
    EFF P n Γ ⟨d, .store t x y, ty, pos, aft, g⟩ (St H) (fun _ H' => H' = H.set i (own b (.cells (over cs off vs).toArray tb fr))) := eff_skip fun a w F f s => by
  rw [St_pick hi, star_assoc] at s
  have hb := sat_own (sat_star_left s)
  have h1 : ∀ v ∈ vs, v.oneCell' = true := List.all_eq_true.1 h1'
  obtain ⟨w', hr, hb', hk, hx', hsz⟩ := run_storeCells_own (P := P) vs 0 off cs w hb hw (by simpa using ho) h1
  refine ⟨w', _, ?_, rfl, ?_⟩
  · simp [execOp, f.ev hx, f.ev hy, Instr.storeAt, Instr.sureAddr, storeVar, ht.size, Value.cells, hl, hr]
  · rw [St_set hi, star_assoc]
    exact sat_set (w := w) hx' s hb' hk
theorem eff_new {o : Oper} {H : List HProp} {cs : Array Value} {tb : TypeId} (V : Nat → Value) (h : ∀ a w, Fits n Γ a → (execOp a.eval o).run P w = .ok (.value (V w.heap.size)) (w.alloc (.cells cs tb))) :
    EFF P n Γ o (St H) (fun v H' => ∃ b, v = V b ∧ H' = own b (.cells cs tb) :: H) := eff_value fun a w F f s => by
  exact ⟨_, _, own w.heap.size (.cells cs tb) :: H, h a w f, ⟨_, rfl, rfl⟩, by rw [St_cons, star_assoc]; exact sat_alloc (w := w) rfl s rfl⟩
theorem eff_alloc {t : TypeId} {H : List HProp} {z : Value} (ht : Zero P t z) :
    EFF P n Γ ⟨d, .alloc t, ty, pos, aft, g⟩ (St H) (fun v H' => ∃ b, v = .pointer (some ⟨b, 0, Option.none⟩) ∧ H' = own b (.cells z.cells t) :: H) :=
  eff_new (fun b => .pointer (some ⟨b, 0, Option.none⟩)) fun a w f => by
    simp [execOp, Instr.alloc, ht w, newVar, newRow]
theorem eff_box {t : TypeId} {x : Operand} {H : List HProp} {v : Value} (hx : ev Γ x = some v) :
    EFF P n Γ ⟨d, .box t x, ty, pos, aft, g⟩ (St H) (fun u H' => ∃ b, u = .pointer (some ⟨b, 0, Option.none⟩) ∧ H' = own b (.cells v.cells t) :: H) :=
  eff_new (fun b => .pointer (some ⟨b, 0, Option.none⟩)) fun a w f => by
    simp [execOp, Instr.box, f.ev hx, newVar, newRow]
/-- a slice literal's cells -/
def SBld (P : Program) (t : TypeId) (k : Nat) (parts : List (Nat × Value)) (e : TypeId) (cs : List Value) : Prop :=
  ∀ w, (Instr.buildSlice t k parts.toArray).run P w = .ok (.slice (some ⟨w.heap.size, 0, Option.none⟩) k k) (w.alloc (.cells cs.toArray e))
theorem eff_buildSlice {t e : TypeId} {k : Nat} {ps : List (Nat × Operand)} {vs : List (Nat × Value)} {cs : List Value} {H : List HProp} (hx : evp Γ ps = some vs) (h : SBld P t k vs e cs) :
    EFF P n Γ ⟨d, .buildSlice t k ps.toArray, ty, pos, aft, g⟩ (St H) (fun u H' => ∃ b, u = .slice (some ⟨b, 0, Option.none⟩) k k ∧ H' = own b (.cells cs.toArray e) :: H) :=
  eff_new (fun b => .slice (some ⟨b, 0, Option.none⟩) k k) fun a w f => by
    have hm := f.evp hx
    simp only [execOp, List.map_toArray]
    rw [show (List.map (fun x => (match x with | (i, x) => (i, a.eval x) : Nat × Value)) ps) = vs from hm]
    simp [h w]
end

/-! ### Rows: a slice that owns its array -/
/-- v is a slice of n elements of `size` cells each, which are xs; nobody else knows of its array. -/
def row (e : TypeId) (size : Nat) (v : Value) (n : Nat) (xs : List Value) : HProp := fun _ h =>
  xs.length = n * size ∧ ((v = .slice Option.none 0 0 ∧ n = 0 ∧ h = Hp.none) ∨
    ∃ b cap cs fr, v = .slice (some ⟨b, 0, Option.none⟩) n cap ∧ n ≤ cap ∧ cap ≤ maxLen ∧ cs.length = cap * size ∧ cs.take (n * size) = xs ∧ warm cs fr ∧ h = single b (.cells cs.toArray e fr))
theorem sat_row {w : World} {e : TypeId} {size : Nat} {v : Value} {n : Nat} {xs : List Value} {R : HProp} (s : sat w (star (row e size v n xs) R)) :
    xs.length = n * size ∧ ((v = .slice Option.none 0 0 ∧ n = 0 ∧ xs = [] ∧ sat w R) ∨
    ∃ b cap cs fr, v = .slice (some ⟨b, 0, Option.none⟩) n cap ∧ n ≤ cap ∧ cap ≤ maxLen ∧ cs.length = cap * size ∧ cs.take (n * size) = xs ∧ warm cs fr ∧ sat w (star (own b (.cells cs.toArray e fr)) R)) := by
  obtain ⟨_, ⟨p, k, sp, rfl, ⟨hl, h⟩, hr⟩, f⟩ := s
  refine ⟨hl, ?_⟩
  rcases h with ⟨rfl, rfl, rfl⟩ | ⟨b, cap, cs, fr, rfl, h1, h2, h3, h4, h5, rfl⟩
  · exact .inl ⟨rfl, rfl, List.eq_nil_of_length_eq_zero (by simpa using hl), k, hr, fun b x hx => f b x hx⟩
  · exact .inr ⟨b, cap, cs, fr, rfl, h1, h2, h3, h4, h5, _, ⟨_, k, sp, rfl, rfl, hr⟩, f⟩
theorem row_nil {e : TypeId} {size : Nat} {w : World} {R : HProp} (s : sat w R) : sat w (star (row e size (.slice Option.none 0 0) 0 []) R) := by
  obtain ⟨k, hr, f⟩ := s
  exact ⟨k, ⟨Hp.none, k, Hp.sep_comm (Hp.sep_none k), rfl, ⟨by simp, .inl ⟨rfl, rfl, rfl⟩⟩, hr⟩, f⟩
theorem row_mk {e : TypeId} {size n cap b : Nat} {cs xs : List Value} {fr : Nat × Nat} {w : World} {R : HProp} (h1 : n ≤ cap) (h2 : cap ≤ maxLen) (h3 : cs.length = cap * size) (h4 : cs.take (n * size) = xs) (h5 : warm cs fr)
    (s : sat w (star (own b (.cells cs.toArray e fr)) R)) : sat w (star (row e size (.slice (some ⟨b, 0, Option.none⟩) n cap) n xs) R) :=
  sat_star_mono (fun c k hk => ⟨by rw [← h4, List.length_take, h3]; exact Nat.min_eq_left (Nat.mul_le_mul_right _ h1), .inr ⟨b, cap, cs, fr, rfl, h1, h2, h3, h4, h5, hk⟩⟩) (fun _ _ h => h) s
/-- L can be read at the slice v: n elements, whose cells are xs. -/
def Vw (L : HProp) (v : Value) (n : Nat) (xs : List Value) : Prop := ∀ w R, sat w (star L R) →
  (∃ a, v = .slice a 0 0 ∧ n = 0 ∧ xs = []) ∨ ∃ b o cap, v = .slice (some ⟨b, o, Option.none⟩) n cap ∧ ∀ j u, xs[j]? = some u → w.cell? ⟨b, o + j, Option.none⟩ = some u
theorem Vw.pick {H : List HProp} {A : HProp} {v : Value} {n : Nat} {xs : List Value} (i : Nat) (hi : H[i]? = some A) (h : Vw A v n xs) : Vw (St H) v n xs := fun w R s => by
  rw [St_pick hi, star_assoc] at s; exact h w _ s
theorem Vw.nil (L : HProp) : Vw L (.slice Option.none 0 0) 0 [] := fun w R s => .inl ⟨Option.none, rfl, rfl, rfl⟩
theorem Vw.rd {L : HProp} {b o n cap : Nat} {xs : List Value} (h : RdN L b o xs) : Vw L (.slice (some ⟨b, o, Option.none⟩) n cap) n xs := fun w R s => .inr ⟨b, o, cap, rfl, fun j u hj => h j u hj w R s⟩
theorem Vw.row {e : TypeId} {size n : Nat} {v : Value} {xs : List Value} : Vw (row e size v n xs) v n xs := fun w R s => by
  rcases (sat_row s).2 with ⟨h1, h2, h3, _⟩ | ⟨b, cap, cs, fr, h1, _, _, _, h5, _, s'⟩
  · exact .inl ⟨_, h1, h2, h3⟩
  · refine .inr ⟨b, 0, cap, h1, fun j u hj => ?_⟩
    rw [Nat.zero_add, cell_of (sat_own (sat_star_left s'))]
    rw [← h5, List.getElem?_take] at hj
    split at hj
    · simpa using hj
    · cases hj
theorem Rd.row {e : TypeId} {size n b cap j : Nat} {u : Value} {xs : List Value} (hj : xs[j]? = some u) : Rd (row e size (.slice (some ⟨b, 0, Option.none⟩) n cap) n xs) b j u := fun w R s => by
  rcases Vw.row w R s with ⟨a, h, _, h3⟩ | ⟨b', o, cap', h, hh⟩
  · subst h3; simp at hj
  · injection h with h _ _; injection h with h; injection h with h1 h2; subst h1; subst h2
    have := hh j u hj; rwa [Nat.zero_add] at this
theorem Vw.len {P : Program} {n' : Nat} {L : HProp} {Γ : Env} {d : Option Tmp} {ty : TypeId} {pos : String} {aft : Array Edge} {g : Option (Nat × Bool)} {x : Operand} {t el : TypeId} {v : Value} {n : Nat} {xs : List Value} (ht : P.underlying t = some (.slice el)) (hx : ev Γ x = some v) (h : Vw L v n xs) :
    RO P n' L Γ ⟨d, .call { callee := .builtin .len, args := #[x], argTypes := #[t] }, ty, pos, aft, g⟩ (.int .i64 n) := fun a w R f s => by
  rcases h w R s with ⟨q, rfl, rfl, rfl⟩ | ⟨b, o, cap, rfl, hh⟩
  · exact ro_sliceLen ht hx a w R f s
  · exact ro_sliceLen ht hx a w R f s
/-- the shape of a row's slice, as plain facts -/
theorem row_shape {H : List HProp} (i : Nat) {e : TypeId} {size n : Nat} {v : Value} {xs : List Value} (hi : H[i]? = some (row e size v n xs)) {w : World} {F : HProp} (s : sat w (star (St H) F)) :
    xs.length = n * size ∧ ((v = .slice Option.none 0 0 ∧ n = 0 ∧ xs = []) ∨ ∃ b cap, v = .slice (some ⟨b, 0, Option.none⟩) n cap ∧ n ≤ cap ∧ cap ≤ maxLen) := by
  rw [St_pick hi, star_assoc] at s
  obtain ⟨hl, h⟩ := sat_row s
  refine ⟨hl, ?_⟩
  rcases h with ⟨h1, h2, h3, _⟩ | ⟨b, cap, cs, fr, h1, h2, h3, _⟩
  · exact .inl ⟨h1, h2, h3⟩
  · exact .inr ⟨b, cap, h1, h2, h3⟩
theorem wp_know {P : Program} {n : Nat} {c : Code} {Γ : Env} {H : List HProp} {Q : Post} {p : Prop} (hp : ∀ w F, sat w (star (St H) F) → p) (h : p → Wp P n c Γ H Q) : Wp P n c Γ H Q :=
  fun a w F f s => h (hp w F s) a w F f s
theorem ops_know {P : Program} {n : Nat} {ops : Array Oper} {l : List Oper} {Γ : Env} {H : List HProp} {Q : Post} {p : Prop} (hp : ∀ w F, sat w (star (St H) F) → p) (h : p → Ops P n ops l Γ H Q) : Ops P n ops l Γ H Q :=
  fun a w F f s => h (hp w F s) a w F f s
theorem tri_know {P : Program} {f : FuncId} {args : List Value} {Pre : List HProp} {Ψ : Value → List HProp → Prop} {p : Prop} (hp : ∀ w F, sat w (star (St Pre) F) → p) (h : p → Tri P f args Pre Ψ) : Tri P f args Pre Ψ :=
  fun w F s => h (hp w F s) w F s

/-! ### Results, some of which lie in memory -/
def rvSem (tmps : Array Value) : ResultVar → Sem Value
  | .tmp t => pure (tmps.getD t undef)
  | .cell a t => do loadVar t (← asAddr (tmps.getD a undef))
theorem results_eq (fn : Func) (tmps : Array Value) : results fn tmps = (do let vs ← fn.results.mapM (rvSem tmps); pure (if h : vs.size = 1 then vs[0] else .tuple vs)) := by
  unfold results
  have : (fun x => match x with | ResultVar.tmp t => (pure (tmps.getD t undef) : Sem Value) | ResultVar.cell a t => do loadVar t (← asAddr (tmps.getD a undef))) = rvSem tmps := by funext x; cases x <;> rfl
  rw [← this]
  rfl
section
variable {P : Program} {n : Nat} {Γ : Env} {H : List HProp} {fn : Func}
def RV (P : Program) (n : Nat) (Γ : Env) (H : List HProp) (r : ResultVar) (v : Value) : Prop := ∀ (a : Act) w F, Fits n Γ a → sat w (star (St H) F) → (rvSem a.tmps r).run P w = .ok v w
theorem rv_tmp {t : Tmp} {v : Value} (h : get Γ t = some v) : RV P n Γ H (.tmp t) v := fun a w F f s => by simp only [rvSem, f.read t v h, Sem.run_pure]
theorem rv_cell {t : Tmp} {ty : TypeId} {b o : Nat} {v : Value} (ht : Scal P ty) (h : get Γ t = some (.pointer (some ⟨b, o, Option.none⟩))) (hr : Rd (St H) b o v) : RV P n Γ H (.cell t ty) v := fun a w F f s => by
  simp only [rvSem, f.read t _ h, asAddr, Sem.run_bind, Sem.run_pure, Result.andThen_ok, loadVar, ht.agg, Bool.false_eq_true, if_false, run_load, hr w F s]
theorem rv_cellA {t : Tmp} {ty : TypeId} {b o k : Nat} {vs : List Value} (ht : Aggr P ty k) (h : get Γ t = some (.pointer (some ⟨b, o, Option.none⟩))) (hr : RdN (St H) b o vs) (hl : vs.length = k) : RV P n Γ H (.cell t ty) (.agg vs.toArray) := fun a w F f s => by
  subst hl
  have h2 := run_loadCells_list (P := P) w ⟨b, o, Option.none⟩ vs (fun j v hj => by rw [addr_add]; exact hr j v hj w F s)
  simp only [rvSem, f.read t _ h, asAddr, Sem.run_bind, Sem.run_pure, Result.andThen_ok, loadVar, ht.agg, if_true, ht.size, h2]
theorem resv1 {r : ResultVar} {v : Value} (h : fn.results = #[r]) (h1 : RV P n Γ H r v) : Res P fn n Γ H v := fun a w F f s => by
  rw [results_eq, h]; simp [h1 a w F f s]
theorem resv2 {r q : ResultVar} {v u : Value} (h : fn.results = #[r, q]) (h1 : RV P n Γ H r v) (h2 : RV P n Γ H q u) : Res P fn n Γ H (.tuple #[v, u]) := fun a w F f s => by
  rw [results_eq, h]; simp [h1 a w F f s, h2 a w F f s]
theorem resv3 {r q p : ResultVar} {v u x : Value} (h : fn.results = #[r, q, p]) (h1 : RV P n Γ H r v) (h2 : RV P n Γ H q u) (h3 : RV P n Γ H p x) : Res P fn n Γ H (.tuple #[v, u, x]) := fun a w F f s => by
  rw [results_eq, h]; simp [h1 a w F f s, h2 a w F f s, h3 a w F f s]
end
end Go.Sx
