/-
  Package sftp: replies written.
-/
import Derived.Test.YtigaolglnnjnmaaSfA
import Derived.Test.YtigaolglnnjnmaaAuthA
namespace Go.Proofs.Ytigaolglnnjnmaa
open Go.Sx
set_option linter.unusedVariables false
set_option linter.unusedSimpArgs false
set_option maxRecDepth 100000
set_option maxHeartbeats 4000000

structure Nm where
  n : List UInt8
  at' : At
deriving DecidableEq
def Nm.cs (x : Nm) : List Value := [.string (str x.n), .int .u32 x.at'.f, .int .u64 x.at'.s, .int .u32 x.at'.u, .int .u32 x.at'.g, .int .u32 x.at'.m, .int .u32 x.at'.a, .int .u32 x.at'.t]
theorem Nm.len (x : Nm) : x.cs.length = 8 := rfl
theorem Nm.one (x : Nm) : ∀ v ∈ x.cs, v.oneCell' = true := fun v hv => by
  simp only [Nm.cs, List.mem_cons, List.not_mem_nil, or_false] at hv
  rcases hv with rfl | rfl | rfl | rfl | rfl | rfl | rfl | rfl <;> rfl
/-- a reply: what it holds -/
structure Pc where
  k : Int
  s : Int
  h : List UInt8
  d : List UInt8
  ns : List Nm
  at' : At
deriving DecidableEq
def Pc.zero : Pc := ⟨0, 0, [], [], [], At.zero⟩
def Pc.cs (c : Pc) (dp : Option Addr) (dn : Nat) (np : Option Addr) (nn : Nat) : List Value := [.int .i64 c.k, .int .i64 c.s, .string (str c.h), .slice dp c.d.length dn, .slice np c.ns.length nn, .int .u32 c.at'.f, .int .u64 c.at'.s, .int .u32 c.at'.u, .int .u32 c.at'.g, .int .u32 c.at'.m, .int .u32 c.at'.a, .int .u32 c.at'.t]
abbrev Pc.v (c : Pc) (dp : Option Addr) (dn : Nat) (np : Option Addr) (nn : Nat) : Value := .agg (c.cs dp dn np nn).toArray
def namesE (l : List Nm) : Int := if ∃ x ∈ l, x.at'.right = false then 12 else if ∃ x ∈ l, 256 < x.n.length then 3 else if 100 < l.length then 4 else 0
def Lg (l : List Nm) (w : Int) : Prop := (w = 3 ∧ ∃ x ∈ l, 256 < x.n.length) ∨ (w = 0 ∧ ∀ x ∈ l, x.n.length ≤ 256)
def Rt (l : List Nm) : Prop := ∀ x ∈ l, x.at'.right = true
theorem Lg.nil : Lg [] 0 := .inr ⟨rfl, fun x hx => by cases hx⟩
theorem Rt.snoc {l : List Nm} {i : Nat} (hi : i < l.length) (hw : Rt (l.take i)) (h : l[i].at'.right = true) : Rt (l.take (i + 1)) := by
  rw [List.take_succ_eq_append_getElem hi]
  intro x hx
  rcases List.mem_append.1 hx with hx | hx
  · exact hw x hx
  · rw [List.mem_singleton.1 hx]; exact h
theorem namesE_bad {l : List Nm} {i : Nat} (hi : i < l.length) (h : l[i].at'.right = false) : namesE l = 12 := by unfold namesE; rw [if_pos ⟨l[i], List.getElem_mem hi, h⟩]
theorem namesE_zero {l : List Nm} (h : namesE l = 0) : l.length ≤ 100 ∧ (∀ x ∈ l, x.n.length ≤ 256) ∧ Rt l := by
  unfold namesE at h
  split at h
  · cases h
  split at h
  · cases h
  split at h
  · cases h
  rename_i h1 h2 h3
  refine ⟨by omega, fun x hx => Classical.byContradiction fun hn => h2 ⟨x, hx, by omega⟩, fun x hx => ?_⟩
  cases hr : x.at'.right with
  | true => rfl
  | false => exact absurd ⟨x, hx, hr⟩ h1


def fineE (c : Pc) : Int := if c.k = 1 then (if c.s < 0 ∨ 2147483647 < c.s then 12 else 0) else if c.k = 2 then (if 256 < c.h.length then 3 else 0) else if c.k = 3 then (if 32768 < c.d.length then 3 else 0) else if c.k = 4 then namesE c.ns else if c.k = 5 then (if c.at'.right = true then 0 else 12) else 23
structure Pc.Ok (V : HProp) (c : Pc) (dp : Option Addr) (dn : Nat) (np : Option Addr) (nn : Nat) : Prop where
  k : -9223372036854775808 ≤ c.k ∧ c.k ≤ 9223372036854775807
  s : -9223372036854775808 ≤ c.s ∧ c.s ≤ 9223372036854775807
  d : Vw V (.slice dp c.d.length dn) c.d.length (cel c.d)
  n : Vw V (.slice np c.ns.length nn) c.ns.length (flat Nm.cs c.ns)
  nl : c.ns.length ≤ 9223372036854775807
  no : ∀ x ∈ c.ns, x.at'.Ok
  at' : c.at'.Ok


def nmE (x : Nm) : List UInt8 := txB x.n ++ txB x.n ++ x.at'.enc
def repBody (c : Pc) : List UInt8 := if c.k = 1 then be c.s.toNat 4 ++ be 0 4 ++ be 0 4 else if c.k = 2 then txB c.h else if c.k = 3 then txB c.d else if c.k = 4 then be c.ns.length 4 ++ c.ns.flatMap nmE else c.at'.enc
/-- a reply's bytes -/
def repB (id : Nat) (c : Pc) : List UInt8 := b8 (100 + c.k) :: be id 4 ++ repBody c
def encP (id : Nat) (c : Pc) : List UInt8 := if fineE c = 0 then repB id c else []


theorem nm_snoc {l : List Nm} {i : Nat} (hi : i < l.length) : (l.take (i + 1)).flatMap nmE = (l.take i).flatMap nmE ++ nmE l[i] := by
  rw [List.take_succ_eq_append_getElem hi, List.flatMap_append]; simp
theorem Pc.Ok.mono {V W : HProp} {c : Pc} {dp : Option Addr} {dn : Nat} {np : Option Addr} {nn : Nat} (h : c.Ok V dp dn np nn) (h1 : Vw W (.slice dp c.d.length dn) c.d.length (cel c.d)) (h2 : Vw W (.slice np c.ns.length nn) c.ns.length (flat Nm.cs c.ns)) : c.Ok W dp dn np nn := ⟨h.k, h.s, h1, h2, h.nl, h.no, h.at'⟩
end Go.Proofs.Ytigaolglnnjnmaa
