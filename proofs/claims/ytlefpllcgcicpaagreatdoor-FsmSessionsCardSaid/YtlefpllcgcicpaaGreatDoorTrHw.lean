/-
  A tree is loaded: get.
-/
import Derived.Test.YtlefpllcgcicpaaGreatDoorTrH
import Derived.Test.YtlefpllcgcicpaaGreatDoorTrK
import Derived.Test.YtlefpllcgcicpaaGreatDoorSxSub
import Derived.Test.YtlefpllcgcicpaaGreatDoorSxFork
namespace Go.Proofs.YtlefpllcgcicpaaGreatDoor
open Go.Sx
set_option linter.unusedVariables false
set_option linter.unusedSimpArgs false
set_option maxRecDepth 100000
set_option maxHeartbeats 4000000

structure GetS where
  x : Nd
  A : List Nd
  bs : Nat
  ck : Nat
  r : R
abbrev gptr (g : Option GetS) : Value := .pointer (g.map fun s => ⟨s.x.blk, 0, none⟩)
def GetA (ns : List Nd) (mb pr : Nat) (p : Option Addr) (c : Nat) : Option GetS → HProp
  | none => emp
  | some s => St ([own mb (mapO ((ns ++ s.A).map Nd.me) s.ck), nds (ns ++ s.A)] ++ rd pr p c s.r)
structure GetF (ns : List Nd) (par : Int) (nm : List UInt8) (nx : Int) (bs : Nat) (s : GetS) : Prop where
  sb : Sb ns s.A s.x par nm nx
  len : (ns ++ s.A).length ≤ 200
  bs : s.bs = bs + szs s.A
  max : s.bs ≤ 1048576
  good : s.r.Good
def GetOk (k : Nat) : Prop := ∀ (tb mb ck : Nat) (rv : Value) (nx : Int) (bs : Nat) (ns : List Nd) (pr : Nat) (p : Option Addr) (c : Nat) (r : R) (nm : List UInt8) (par : Int), 201 ≤ ns.length + k → ns.length ≤ 200 → bs ≤ 1048576 → r.Good → (ns.map Nd.id).Nodup → (ns.map Nd.blk).Nodup → (par = -1 ∨ ∃ w ∈ ns, par = (w.id : Int)) →
  Tri Tryz.prog 87 [.pointer (some ⟨tb, 0, none⟩), .pointer (some ⟨pr, 0, none⟩), .string (str nm)] [own tb (.cells ([rv, .map (some mb), .int .i64 nx, .int .i64 ((bs : Nat) : Int)] : List Value).toArray 95 (0, 0)), own mb (mapO ((ns).map Nd.me) ck), nds ns, own pr (.cells [Value.slice p r.b.length c, .int .i64 r.pos, .int .i64 r.why, .int .i64 r.place].toArray 140 (0, 0)), row 5 1 (.slice p r.b.length c) r.b.length (cel r.b)]
    (fun v H' => ∃ g bs', v = gptr g ∧ (∀ s, g = some s → GetF ns par nm nx bs s ∧ bs' = s.bs) ∧ (∀ t0 r0 x0 n0 rest, Fit t0 r0 x0 n0 rest ns bs nx r → ∃ s, g = some s ∧ Here s.r rest ∧ s.A.map Nd.id = (dfs t0.ns (n0 + 1) x0).map Nd.id ∧ s.bs = bs + szs (dfs t0.ns (n0 + 1) x0) ∧ ∃ m, Deep s.A m s.x ∧ encN s.A m s.x = encN t0.ns (n0 + 1) x0) ∧ H' = [own tb (.cells ([rv, .map (some mb), .int .i64 nx, .int .i64 ((bs' : Nat) : Int)] : List Value).toArray 95 (0, 0)), GetA (ns) mb pr p c (g)])
end Go.Proofs.YtlefpllcgcicpaaGreatDoor
