/-
  Package strongroomref15: its tree, and how it lies.
  Package strongroomref15: what only reads.
  Package strongroomref15: holder, attributes, Read.
  Package strongroomref15: Read, List.
  Package strongroomref15: New, Make, Remove.
-/
import Derived.Test.YtlefpllcgcicpaaGreatDoorTrTb
import Derived.Test.YtlefpllcgcicpaaGreatDoorSxRowA
import Derived.Test.YtlefpllcgcicpaaGreatDoorTrX
import Derived.Test.YtlefpllcgcicpaaGreatDoorSxSub
import Derived.Test.YtlefpllcgcicpaaGreatDoorWire
import Derived.Test.YtlefpllcgcicpaaGreatDoorSxFork
set_option linter.unusedVariables false
set_option linter.unusedSimpArgs false
namespace Go.Proofs.YtlefpllcgcicpaaGreatDoor
open Go.Sx
set_option maxRecDepth 100000
set_option maxHeartbeats 4000000
/-- a thing of the document's tree, as it lies -/
structure Th where
 id : Nat
 par : Int
 name : List UInt8
 dir : Bool
 bp : Option Addr
 bc : Nat
 b : List UInt8
 a : At
def Th.cs (x : Th) : List Value := [.int .i64 (x.id : Int), .int .i64 x.par, .string (str x.name), .bool x.dir, .slice x.bp x.b.length x.bc] ++ x.a.cs
theorem Th.len (x : Th) : x.cs.length = 12 := rfl
theorem Th.one (x : Th) : ∀ v ∈ x.cs, v.oneCell' = true := fun v hv => by
 simp only [Th.cs, At.cs, List.mem_append, List.mem_cons, List.not_mem_nil, or_false] at hv
 rcases hv with (rfl | rfl | rfl | rfl | rfl) | rfl | rfl | rfl | rfl | rfl | rfl | rfl <;> rfl
def Th.co (x : Th) : Co := ⟨x.id, x.par, x.dir, x.name, x.b, x.a⟩
abbrev rowT (p : Option Addr) (c : Nat) (l : List Th) : HProp := row 198 12 (.slice p l.length c) l.length (flat Th.cs l)
def thB (x : Th) : HProp := rowD x.bp x.bc x.b
def ths (l : List Th) : HProp := St (l.map thB)
structure Rt where
 tb : Nat
 p : Option Addr
 c : Nat
 next : Nat
 L : List Th
def Rt.cs (w : Rt) : List Value := [.slice w.p w.L.length w.c, .int .i64 (w.next : Int)]
def rtL (w : Rt) : List HProp := [own w.tb (.cells w.cs.toArray 169 (0, 0)), rowT w.p w.c w.L, ths w.L]
def rtree (w : Rt) : HProp := St (rtL w)
abbrev Rt.v (w : Rt) : Value := .pointer (some ⟨w.tb, 0, none⟩)
/-- V lets the document's tree be read -/
structure Rv (V : HProp) (w : Rt) : Prop where
 cs : RdN V w.tb 0 w.cs
 ls : Vw V (.slice w.p w.L.length w.c) w.L.length (flat Th.cs w.L)
 b : ∀ x ∈ w.L, Vw V (.slice x.bp x.b.length x.bc) x.b.length (cel x.b)
 caps : ∀ u R, sat u (star V R) → ∀ x ∈ w.L, x.b.length ≤ x.bc
 few : w.L.length ≤ 100000
theorem Rv.pick {H : List HProp} {A : HProp} {w : Rt} (i : Nat) (hi : H[i]? = some A) (h : Rv A w) : Rv (St H) w :=
 ⟨zy6 i hi h.cs, zy5 i hi h.ls, fun x hx => zy5 i hi (h.b x hx), fun u R s => by rw [yS hi, zv] at s; exact h.caps u _ s, h.few⟩
/-- the place of a number -/
def atI (l : List Th) (k : Int) : Int := match l.findIdx? (fun x => decide ((x.id : Int) = k)) with
 | some i => (i : Int)
 | none => -1
def tAt (l : List Th) (k : Int) : Option Th := l.find? (fun x => decide ((x.id : Int) = k))
/-- the thing of a name in another -/
def kidT (l : List Th) (i : Int) (s : List UInt8) : Option Th := l.find? (fun x => decide (x.par = i) && decide (x.name = s))
def kidI (l : List Th) (i : Int) (s : List UInt8) : Int := match kidT l i s with
 | some x => (x.id : Int)
 | none => -1
def dirR (l : List Th) (k : Int) : Bool := match tAt l k with
 | some x => x.dir
 | none => false
def lookR (l : List Th) : Int → List (List UInt8) → Int × Int
 | k, [] => (k, 0)
 | k, s :: p => if dirR l k = true then (match kidT l k s with
  | some x => lookR l x.id p
  | none => (0, 22)) else (0, 22)
/-- what should hold a path -/
def holdR (l : List Th) (p : List (List UInt8)) : Int × Int :=
 if ptOk (lastN p) = true then
  (if (lookR l 0 (p.take (p.length - 1))).2 ≠ 0 then (0, 22) else
   if dirR l (lookR l 0 (p.take (p.length - 1))).1 = true then (if (kidT l (lookR l 0 (p.take (p.length - 1))).1 (lastN p)).isSome = true then (0, 21) else ((lookR l 0 (p.take (p.length - 1))).1, 0)) else (0, 23))
 else (0, 20)
def fileR (l : List Th) (k : Int) : Int × Int := match tAt l k with
 | none => (0, 22)
 | some x => if x.dir = true then (0, 23) else (atI l k, 0)
def Th.told (x : Th) : At := { x.a with s := x.b.length }
def attR (l : List Th) (k : Int) : At × Int := match tAt l k with
 | some x => (x.told, 0)
 | none => (At.zero, 22)
def readL (b : List UInt8) (a n : Nat) : List UInt8 × Int := if b.length ≤ a then ([], 10) else ((b.drop a).take (min (b.drop a).length (min n 32768)), 0)
def readR (l : List Th) (k : Int) (a n : Nat) : List UInt8 × Int := match tAt l k with
 | none => ([], 22)
 | some x => if x.dir = true then ([], 23) else readL x.b a n
/-- a name put in at its place -/
def insN (l : List Nm) (x : Nm) : List Nm := l.take (plc (l.map Nm.n) x.n) ++ x :: l.drop (plc (l.map Nm.n) x.n)
/-- what is listed of what stands in k -/
def lsR (l : List Th) (k : Int) : List Nm := (l.filter fun x => decide (x.par = k)).foldl (fun o x => insN o ⟨x.name, x.told⟩) []
def listR (l : List Th) (k : Int) : List Nm × Int := match tAt l k with
 | none => ([], 22)
 | some x => if x.dir = true then (lsR l k, 0) else ([], 23)
def root15 : Th := (⟨0, -1, [], true, none, 0, [], (⟨15, 0, 0, 0, 16877, 0, 0⟩ : At)⟩ : Th)
end Go.Proofs.YtlefpllcgcicpaaGreatDoor
