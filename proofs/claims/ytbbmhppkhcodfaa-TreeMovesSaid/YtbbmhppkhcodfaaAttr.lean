/-
  What the reader of package wire does.
  What package attr does.
-/
import Derived.Test.YtbbmhppkhcodfaaWire
namespace Go.Proofs.Ytbbmhppkhcodfaa
open Go.Sx
set_option linter.unusedVariables false
set_option linter.unusedSimpArgs false
set_option maxRecDepth 100000

/-- a reader's state: its bytes, how many were read, the refusal, its place -/
structure R where
  b : List UInt8
  pos : Nat
  why : Int
  place : Int
abbrev rd (pr : Nat) (p : Option Addr) (c : Nat) (r : R) : List HProp :=
  [own pr (.cells [Value.slice p r.b.length c, .int .i64 r.pos, .int .i64 r.why, .int .i64 r.place].toArray 139 (0, 0)), row 5 1 (.slice p r.b.length c) r.b.length (cel r.b)]
def R.new (l : List UInt8) : R := ⟨l, 0, 0, 0⟩
def R.refuse (r : R) (why place : Int) : R := if r.why = 0 then { r with why := why, place := place } else r
/-- n bytes are taken -/
def R.take (r : R) (n : Int) : R × List UInt8 :=
  if r.why ≠ 0 then (r, [])
  else if (r.b.length : Int) - r.pos < n then (r.refuse 10 r.b.length, [])
  else if n ≤ 0 then (r, [])
  else ({ r with pos := r.pos + n.toNat }, (r.b.drop r.pos).take n.toNat)
def val (l : List UInt8) : Nat := l.foldl (fun n c => n * 256 + c.toNat) 0
def R.get (r : R) (size : Nat) : R × Nat := ((r.take size).1, val (r.take size).2)
/-- what take hands out: a row of its own -/
def Out (v : Value) (l : List UInt8) (A : HProp) : Prop := ∃ p c, v = .slice p l.length c ∧ ((p = none ∧ l = []) ∨ ∃ b, p = some ⟨b, 0, none⟩) ∧ A = row 5 1 (.slice p l.length c) l.length (cel l)
def R.fail (r : R) (why : Int) : R := if why = 0 then r else r.refuse why r.pos
def R.left (r : R) : Int := if r.why = 0 then r.b.length - r.pos else 0
/-- the refusal, and its place -/
def R.fin (r : R) : Int × Int := if r.why = 0 then (if r.pos < r.b.length then (11, r.pos) else (0, 0)) else (r.why, r.place)
end Go.Proofs.Ytbbmhppkhcodfaa
namespace Go.Proofs.Ytbbmhppkhcodfaa
open Go.Sx
set_option linter.unusedVariables false
set_option linter.unusedSimpArgs false
set_option maxRecDepth 100000

/-- attributes -/
structure At where
  f : Nat
  s : Nat
  u : Nat
  g : Nat
  m : Nat
  a : Nat
  t : Nat
  deriving DecidableEq
def At.cs (x : At) : List Value := [.int .u32 x.f, .int .u64 x.s, .int .u32 x.u, .int .u32 x.g, .int .u32 x.m, .int .u32 x.a, .int .u32 x.t]
abbrev At.v (x : At) : Value := .agg x.cs.toArray
def At.zero : At := ⟨0, 0, 0, 0, 0, 0, 0⟩
structure At.Ok (x : At) : Prop where
  f : x.f < 4294967296
  s : x.s < 18446744073709551616
  u : x.u < 4294967296
  g : x.g < 4294967296
  m : x.m < 4294967296
  a : x.a < 4294967296
  t : x.t < 4294967296
/-- what others tell, over what is told -/
def At.m1 (x y : At) : At := { x with f := x.f ||| y.f }
def At.m2 (x y : At) : At := if y.f &&& 1 ≠ 0 then { x with s := y.s } else x
def At.m3 (x y : At) : At := if y.f &&& 2 ≠ 0 then { x with u := y.u, g := y.g } else x
def At.m4 (x y : At) : At := if y.f &&& 4 ≠ 0 then { x with m := y.m } else x
def At.m5 (x y : At) : At := if y.f &&& 8 ≠ 0 then { x with a := y.a, t := y.t } else x
def At.merge (x y : At) : At := ((((x.m1 y).m2 y).m3 y).m4 y).m5 y


theorem run_attrFields (d : Nat) (x y : At) (w : World) : (Op.eqFields (d+1) x.cs.toArray y.cs.toArray (Try.prog.fieldsOf 40).toList).run Try.prog w = .ok (decide (x = y)) w := by
  have h : decide (x = y) = (decide (x.f = y.f) && (decide (x.s = y.s) && (decide (x.u = y.u) && (decide (x.g = y.g) && (decide (x.m = y.m) && (decide (x.a = y.a) && decide (x.t = y.t))))))) := by
    cases x; cases y; simp only [At.mk.injEq]; simp only [Bool.decide_and]
  have hl : (Try.prog.fieldsOf 40).toList = [⟨ "Flags", 37, 0, false, "", "", 0⟩, ⟨ "Size", 34, 1, false, "", "", 8⟩, ⟨ "Uid", 37, 2, false, "", "", 16⟩, ⟨ "Gid", 37, 3, false, "", "", 20⟩, ⟨ "Mode", 37, 4, false, "", "", 24⟩, ⟨ "Atime", 37, 5, false, "", "", 28⟩, ⟨ "Mtime", 37, 6, false, "", "", 32⟩] := by kernel_rfl
  have e32 : ∀ (a b : Int) (w : World), (Op.equalIn (d + 1) 37 (.int .u32 a) (.int .u32 b)).run Try.prog w = .ok (a == b) w := fun a b w => run_equalIn_int w d 37 .u32 .u32 a b Try.underlying37
  have e64 : ∀ (a b : Int) (w : World), (Op.equalIn (d + 1) 34 (.int .u64 a) (.int .u64 b)).run Try.prog w = .ok (a == b) w := fun a b w => run_equalIn_int w d 34 .u64 .u64 a b Try.underlying34
  rw [h, hl]
  have hb : ∀ a b : Nat, ((a : Int) == (b : Int)) = decide (a = b) := fun a b => by by_cases h : a = b <;> simp [h]; omega
  simp only [Op.eqFields, Sem.run_bind, Sem.run_ite, part, At.cs, Try.isAgg37, Try.isAgg34, Result.andThen_ok, Bool.false_eq_true, if_false, List.getElem?_toArray, List.getElem?_cons_zero, List.getElem?_cons_succ, Sem.run_pure, e32, e64, hb]
  simp
  by_cases h1 : x.f = y.f <;> by_cases h2 : x.s = y.s <;> by_cases h3 : x.u = y.u <;> by_cases h4 : x.g = y.g <;> by_cases h5 : x.m = y.m <;> by_cases h6 : x.a = y.a <;> by_cases h7 : x.t = y.t <;> simp [h1, h2, h3, h4, h5, h6, h7]
theorem run_attrEqIn (d : Nat) (x y : At) (w : World) : (Op.equalIn (d + 2) 40 x.v y.v).run Try.prog w = .ok (decide (x = y)) w := by
  rw [run_equalIn_agg w (d + 1) 40 _ _ (by kernel_rfl) (by kernel_rfl)]; exact run_attrFields d x y w
theorem run_attrNe (x y : At) (w : World) : (binOp .neq 40 x.v y.v).run Try.prog w = .ok (.bool (!decide (x = y))) w := by
  rw [run_neq_struct]; show ((Op.equalIn (9998 + 2) 40 x.v y.v).run Try.prog w).andThen _ = _
  rw [run_attrEqIn]; rfl
theorem attrGuard (op : BinOp) (o1 o2 : Operand) (x y : At) (w : World) : (eqGuard op 40 o1 o2 x.v y.v).run Try.prog w = .ok () w := run_eqGuard_agg w op 40 o1 o2 _ _ (by kernel_rfl)
section
variable {n : Nat} {L : HProp} {Γ : Env} {d : Option Tmp} {ty : TypeId} {pos : String} {aft : Array Edge} {g : Option (Nat × Bool)}
theorem ro_attrNe {ty' : TypeId} {o1 o2 : Operand} {x y : At} {c : Bool} (hx : ev Γ o1 = some x.v) (hy : ev Γ o2 = some y.v) (hz : (!decide (x = y)) = c) : RO Try.prog n L Γ ⟨d, .binOp .neq 40 o1 o2 ty', ty, pos, aft, g⟩ (.bool c) := by
  subst hz; exact ro_cmpOf hx hy (fun w => attrGuard _ _ _ x y w) (fun w => run_attrNe x y w)
end


def At.right (x : At) : Bool := decide (x.f ≤ 15) && decide (At.zero.merge x = x)
end Go.Proofs.Ytbbmhppkhcodfaa
