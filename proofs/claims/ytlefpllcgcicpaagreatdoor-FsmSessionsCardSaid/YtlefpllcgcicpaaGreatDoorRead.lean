/-
  What the reader of package wire does.
-/
import Derived.Test.YtlefpllcgcicpaaGreatDoorWire
namespace Go.Proofs.YtlefpllcgcicpaaGreatDoor
open Go.Sx
set_option linter.unusedVariables false
set_option linter.unusedSimpArgs false
set_option maxRecDepth 100000

/-- a reader's state: its bytes, how many were read, the refusal, its place -/
structure R where
  b : List UInt8
  pos : Nat
  why : Int
  place : Int
abbrev rd (pr : Nat) (p : Option Addr) (c : Nat) (r : R) : List HProp :=
  [own pr (.cells [Value.slice p r.b.length c, .int .i64 r.pos, .int .i64 r.why, .int .i64 r.place].toArray 140 (0, 0)), row 5 1 (.slice p r.b.length c) r.b.length (cel r.b)]
def R.new (l : List UInt8) : R := ⟨l, 0, 0, 0⟩
def R.refuse (r : R) (why place : Int) : R := if r.why = 0 then { r with why := why, place := place } else r
/-- n bytes are taken -/
def R.take (r : R) (n : Int) : R × List UInt8 :=
  if r.why ≠ 0 then (r, [])
  else if (r.b.length : Int) - r.pos < n then (r.refuse 10 r.b.length, [])
  else if n ≤ 0 then (r, [])
  else ({ r with pos := r.pos + n.toNat }, (r.b.drop r.pos).take n.toNat)
def val (l : List UInt8) : Nat := l.foldl (fun n c => n * 256 + c.toNat) 0
def R.get (r : R) (size : Nat) : R × Nat := ((r.take size).1, val (r.take size).2)
/-- what take hands out: a row of its own -/
def Out (v : Value) (l : List UInt8) (A : HProp) : Prop := ∃ p c, v = .slice p l.length c ∧ ((p = none ∧ l = []) ∨ ∃ b, p = some ⟨b, 0, none⟩) ∧ A = row 5 1 (.slice p l.length c) l.length (cel l)
def R.fail (r : R) (why : Int) : R := if why = 0 then r else r.refuse why r.pos
def R.left (r : R) : Int := if r.why = 0 then r.b.length - r.pos else 0
/-- the refusal, and its place -/
def R.fin (r : R) : Int × Int := if r.why = 0 then (if r.pos < r.b.length then (11, r.pos) else (0, 0)) else (r.why, r.place)
end Go.Proofs.YtlefpllcgcicpaaGreatDoor
