/-
  No cell of these rows narrows 'for every input' (looked for: loops, veiled, ifaces, maps, wideKeys, modest, calm, conditions, laid).
  DERIVED. THE GIVEN ROWS OF THIS SEAT. 10 by the template 'for every input the law returns true; each argument reads behind the call as it read before'; 0 by the template 'total and deterministic' (their statements: YtigaolglnnjnmaaTotals.lean).
  GIVEN WITH THE SEED: the statements are not yours to turn. If you find one false, say at which input.
  Laid BY PROGRAM, IN A SANDBOX (cutbox-rows.mjs): the forced cells as the released guide's own fill.sh prints them over the translation b2b476099c225cb0… (all of the seat's roots in one cut). By AI agents, Wed Nov 11 2026. No macro, syntax, notation, axiom, sorry.
-/
import Derived.Test.YtigaolglnnjnmaaChecked
import GoSem.Claim
import GoSem.ClaimJoined
import GoSem.ClaimMapViews
import Derived.JoinedTies
import Derived.KernelRfl
namespace Go.Proofs.Ytigaolglnnjnmaa
/- THE CELL 'sum', in the pinned program and in every row, IS THE sha256 OF THE DUMP (.gsa) THAT YtigaolglnnjnmaaProg.lean LOADS. Nothing in Lean hashes anything: it is a label: what it is worth is what the hold of that sum in a sandbox is worth. -/
noncomputable def Try.pinned : Pinned := { name := "ytigaolglnnjnmaa", sum := "b2b476099c225cb0db6bdde468f5671b22831052f37c8e0149df97bacfe92943", checked := Try.checked }
namespace Rows
def none {H : Type} : Left H := { results := [], args := [] }

/-- 'strongroomlaw9.NegoFirst': WHATEVER THE INPUT: true; the input reads as it did. -/
def negoFirstSpec : ChangeSpec := { name := "negoFirst", fn := fun _ => fun
  | [d1, d2, d3] => { results := [.lit (.bool true)], args := [d1, d2, d3] }
  | _ => none }
def negoFirstRow : OpenClaim := { program := "ytigaolglnnjnmaa", sum := "b2b476099c225cb0db6bdde468f5671b22831052f37c8e0149df97bacfe92943", func := "strongroom/strongroomlaw9.NegoFirst", spec := "negoFirst", inPlace := ["internal/bytealg.IndexByte", "internal/bytealg.Index"], named := ["internal/bytealg.MaxLen"], apart := false }
def NegoFirstSaid : Prop := negoFirstRow.holds Try.pinned (OpenSpec.ofChange negoFirstSpec)

/-- ITS FALSE NEIGHBOUR: 'it returns false'. Refute it at one input. -/
def negoFirstWrong : ChangeSpec := { name := "negoFirst", fn := fun _ => fun
  | [d1, d2, d3] => { results := [.lit (.bool false)], args := [d1, d2, d3] }
  | _ => none }
def NegoFirstWrongFalsely : Prop := negoFirstRow.holds Try.pinned (OpenSpec.ofChange negoFirstWrong)

/-- 'strongroomlaw11.AuthNumbers': WHATEVER THE INPUT: true; the input reads as it did. -/
def authNumbersSpec : ChangeSpec := { name := "authNumbers", fn := fun _ => fun
  | [] => { results := [.lit (.bool true)], args := [] }
  | _ => none }
def authNumbersRow : OpenClaim := { program := "ytigaolglnnjnmaa", sum := "b2b476099c225cb0db6bdde468f5671b22831052f37c8e0149df97bacfe92943", func := "strongroom/strongroomlaw11.AuthNumbers", spec := "authNumbers", inPlace := ["internal/abi.NoEscape", "internal/bytealg.MakeNoZero"], apart := false }
def AuthNumbersSaid : Prop := authNumbersRow.holds Try.pinned (OpenSpec.ofChange authNumbersSpec)

/-- ITS FALSE NEIGHBOUR: 'it returns false'. Refute it at one input. -/
def authNumbersWrong : ChangeSpec := { name := "authNumbers", fn := fun _ => fun
  | [] => { results := [.lit (.bool false)], args := [] }
  | _ => none }
def AuthNumbersWrongFalsely : Prop := authNumbersRow.holds Try.pinned (OpenSpec.ofChange authNumbersWrong)

/-- 'strongroomlaw11.AuthPlays': WHATEVER THE INPUT: true; the input reads as it did. -/
def authPlaysSpec : ChangeSpec := { name := "authPlays", fn := fun _ => fun
  | [d1, d2] => { results := [.lit (.bool true)], args := [d1, d2] }
  | _ => none }
def authPlaysRow : OpenClaim := { program := "ytigaolglnnjnmaa", sum := "b2b476099c225cb0db6bdde468f5671b22831052f37c8e0149df97bacfe92943", func := "strongroom/strongroomlaw11.AuthPlays", spec := "authPlays", inPlace := ["internal/abi.NoEscape", "internal/bytealg.MakeNoZero"], apart := false }
def AuthPlaysSaid : Prop := authPlaysRow.holds Try.pinned (OpenSpec.ofChange authPlaysSpec)

/-- ITS FALSE NEIGHBOUR: 'it returns false'. Refute it at one input. -/
def authPlaysWrong : ChangeSpec := { name := "authPlays", fn := fun _ => fun
  | [d1, d2] => { results := [.lit (.bool false)], args := [d1, d2] }
  | _ => none }
def AuthPlaysWrongFalsely : Prop := authPlaysRow.holds Try.pinned (OpenSpec.ofChange authPlaysWrong)

/-- 'strongroomlaw11.AuthRaw': WHATEVER THE INPUT: true; the input reads as it did. -/
def authRawSpec : ChangeSpec := { name := "authRaw", fn := fun _ => fun
  | [d1, d2, d3] => { results := [.lit (.bool true)], args := [d1, d2, d3] }
  | _ => none }
def authRawRow : OpenClaim := { program := "ytigaolglnnjnmaa", sum := "b2b476099c225cb0db6bdde468f5671b22831052f37c8e0149df97bacfe92943", func := "strongroom/strongroomlaw11.AuthRaw", spec := "authRaw", inPlace := ["internal/abi.NoEscape", "internal/bytealg.MakeNoZero"], apart := false }
def AuthRawSaid : Prop := authRawRow.holds Try.pinned (OpenSpec.ofChange authRawSpec)

/-- ITS FALSE NEIGHBOUR: 'it returns false'. Refute it at one input. -/
def authRawWrong : ChangeSpec := { name := "authRaw", fn := fun _ => fun
  | [d1, d2, d3] => { results := [.lit (.bool false)], args := [d1, d2, d3] }
  | _ => none }
def AuthRawWrongFalsely : Prop := authRawRow.holds Try.pinned (OpenSpec.ofChange authRawWrong)

/-- 'strongroomlaw11.AuthOnly': WHATEVER THE INPUT: true; the input reads as it did. -/
def authOnlySpec : ChangeSpec := { name := "authOnly", fn := fun _ => fun
  | [d1, d2] => { results := [.lit (.bool true)], args := [d1, d2] }
  | _ => none }
def authOnlyRow : OpenClaim := { program := "ytigaolglnnjnmaa", sum := "b2b476099c225cb0db6bdde468f5671b22831052f37c8e0149df97bacfe92943", func := "strongroom/strongroomlaw11.AuthOnly", spec := "authOnly", inPlace := ["internal/abi.NoEscape", "internal/bytealg.MakeNoZero"], apart := false }
def AuthOnlySaid : Prop := authOnlyRow.holds Try.pinned (OpenSpec.ofChange authOnlySpec)

/-- ITS FALSE NEIGHBOUR: 'it returns false'. Refute it at one input. -/
def authOnlyWrong : ChangeSpec := { name := "authOnly", fn := fun _ => fun
  | [d1, d2] => { results := [.lit (.bool false)], args := [d1, d2] }
  | _ => none }
def AuthOnlyWrongFalsely : Prop := authOnlyRow.holds Try.pinned (OpenSpec.ofChange authOnlyWrong)

/-- 'strongroomlaw11.AuthService': WHATEVER THE INPUT: true; the input reads as it did. -/
def authServiceSpec : ChangeSpec := { name := "authService", fn := fun _ => fun
  | [d1, d2] => { results := [.lit (.bool true)], args := [d1, d2] }
  | _ => none }
def authServiceRow : OpenClaim := { program := "ytigaolglnnjnmaa", sum := "b2b476099c225cb0db6bdde468f5671b22831052f37c8e0149df97bacfe92943", func := "strongroom/strongroomlaw11.AuthService", spec := "authService", inPlace := ["internal/abi.NoEscape", "internal/bytealg.MakeNoZero"], apart := false }
def AuthServiceSaid : Prop := authServiceRow.holds Try.pinned (OpenSpec.ofChange authServiceSpec)

/-- ITS FALSE NEIGHBOUR: 'it returns false'. Refute it at one input. -/
def authServiceWrong : ChangeSpec := { name := "authService", fn := fun _ => fun
  | [d1, d2] => { results := [.lit (.bool false)], args := [d1, d2] }
  | _ => none }
def AuthServiceWrongFalsely : Prop := authServiceRow.holds Try.pinned (OpenSpec.ofChange authServiceWrong)

/-- 'strongroomlaw17.SftpOne': WHATEVER THE INPUT: true; the input reads as it did. -/
def sftpOneSpec : ChangeSpec := { name := "sftpOne", fn := fun _ => fun
  | [d] => { results := [.lit (.bool true)], args := [d] }
  | _ => none }
def sftpOneRow : OpenClaim := { program := "ytigaolglnnjnmaa", sum := "b2b476099c225cb0db6bdde468f5671b22831052f37c8e0149df97bacfe92943", func := "strongroom/strongroomlaw17.SftpOne", spec := "sftpOne", apart := false }
def SftpOneSaid : Prop := sftpOneRow.holds Try.pinned (OpenSpec.ofChange sftpOneSpec)

/-- ITS FALSE NEIGHBOUR: 'it returns false'. Refute it at one input. -/
def sftpOneWrong : ChangeSpec := { name := "sftpOne", fn := fun _ => fun
  | [d] => { results := [.lit (.bool false)], args := [d] }
  | _ => none }
def SftpOneWrongFalsely : Prop := sftpOneRow.holds Try.pinned (OpenSpec.ofChange sftpOneWrong)

/-- 'strongroomlaw17.SftpReads': WHATEVER THE INPUT: true; the input reads as it did. -/
def sftpReadsSpec : ChangeSpec := { name := "sftpReads", fn := fun _ => fun
  | [d1, d2, d3, d4, d5, d6, d7] => { results := [.lit (.bool true)], args := [d1, d2, d3, d4, d5, d6, d7] }
  | _ => none }
def sftpReadsRow : OpenClaim := { program := "ytigaolglnnjnmaa", sum := "b2b476099c225cb0db6bdde468f5671b22831052f37c8e0149df97bacfe92943", func := "strongroom/strongroomlaw17.SftpReads", spec := "sftpReads", apart := false }
def SftpReadsSaid : Prop := sftpReadsRow.holds Try.pinned (OpenSpec.ofChange sftpReadsSpec)

/-- ITS FALSE NEIGHBOUR: 'it returns false'. Refute it at one input. -/
def sftpReadsWrong : ChangeSpec := { name := "sftpReads", fn := fun _ => fun
  | [d1, d2, d3, d4, d5, d6, d7] => { results := [.lit (.bool false)], args := [d1, d2, d3, d4, d5, d6, d7] }
  | _ => none }
def SftpReadsWrongFalsely : Prop := sftpReadsRow.holds Try.pinned (OpenSpec.ofChange sftpReadsWrong)

/-- 'strongroomlaw17.SftpIds': WHATEVER THE INPUT: true; the input reads as it did. -/
def sftpIdsSpec : ChangeSpec := { name := "sftpIds", fn := fun _ => fun
  | [d1, d2, d3, d4] => { results := [.lit (.bool true)], args := [d1, d2, d3, d4] }
  | _ => none }
def sftpIdsRow : OpenClaim := { program := "ytigaolglnnjnmaa", sum := "b2b476099c225cb0db6bdde468f5671b22831052f37c8e0149df97bacfe92943", func := "strongroom/strongroomlaw17.SftpIds", spec := "sftpIds", apart := false }
def SftpIdsSaid : Prop := sftpIdsRow.holds Try.pinned (OpenSpec.ofChange sftpIdsSpec)

/-- ITS FALSE NEIGHBOUR: 'it returns false'. Refute it at one input. -/
def sftpIdsWrong : ChangeSpec := { name := "sftpIds", fn := fun _ => fun
  | [d1, d2, d3, d4] => { results := [.lit (.bool false)], args := [d1, d2, d3, d4] }
  | _ => none }
def SftpIdsWrongFalsely : Prop := sftpIdsRow.holds Try.pinned (OpenSpec.ofChange sftpIdsWrong)

/-- 'strongroomlaw17.SftpBack': WHATEVER THE INPUT: true; the input reads as it did. -/
def sftpBackSpec : ChangeSpec := { name := "sftpBack", fn := fun _ => fun
  | [d1, d2, d3] => { results := [.lit (.bool true)], args := [d1, d2, d3] }
  | _ => none }
def sftpBackRow : OpenClaim := { program := "ytigaolglnnjnmaa", sum := "b2b476099c225cb0db6bdde468f5671b22831052f37c8e0149df97bacfe92943", func := "strongroom/strongroomlaw17.SftpBack", spec := "sftpBack", apart := false }
def SftpBackSaid : Prop := sftpBackRow.holds Try.pinned (OpenSpec.ofChange sftpBackSpec)

/-- ITS FALSE NEIGHBOUR: 'it returns false'. Refute it at one input. -/
def sftpBackWrong : ChangeSpec := { name := "sftpBack", fn := fun _ => fun
  | [d1, d2, d3] => { results := [.lit (.bool false)], args := [d1, d2, d3] }
  | _ => none }
def SftpBackWrongFalsely : Prop := sftpBackRow.holds Try.pinned (OpenSpec.ofChange sftpBackWrong)

/- THE SECOND FORM. 'bulk': how many values and letters a reading holds, each counted each time it is reached (what is shared counts as often as it is met; a slice's spare places count too). A statement '..UptoSaid' is the law's where the arguments, and the package variables that the reading takes, are together of bulk at most 1048576: NARROWER than '..Said'. Prove '..Said' where nothing that the law and all that it calls make is longer than what came in: it says more and counts as full. Else prove '..UptoSaid'. A law counts once. -/
mutual
def uptoBulk {H : Type} : DataW H → Nat
  | .lit (.string bytes) => bytes.length + 1
  | .lit _ => 1
  | .nil => 1
  | .ptr d => uptoBulk d + 1
  | .slice elems spare => uptoBulkAll elems + uptoBulkAll spare + 1
  | .agg parts => uptoBulkAll parts + 1
  | .iface _ d => uptoBulk d + 1
  | .map entries => uptoBulkEntries entries + 1
  | .held _ => 1
def uptoBulkAll {H : Type} : List (DataW H) → Nat
  | [] => 0
  | d :: r => uptoBulk d + uptoBulkAll r
def uptoBulkEntries {H : Type} : List (Lit × DataW H) → Nat
  | [] => 0
  | x :: r => uptoBulkEntry x + uptoBulkEntries r
def uptoBulkEntry {H : Type} : Lit × DataW H → Nat
  | (.string bytes, d) => bytes.length + uptoBulk d + 1
  | (_, d) => uptoBulk d + 1
 end
def uptoSmall : (H : Type) → List (DataW H) → Bool := fun _ ds => decide (uptoBulkAll ds ≤ 1048576)
def OpenSpec.upto (s : _root_.Go.ChangeSpec) : _root_.Go.OpenSpec := { _root_.Go.OpenSpec.ofChange s with cond := some uptoSmall }

/-- 'strongroomlaw9.NegoFirst', WHERE WHAT IT READS IS OF BULK AT MOST 1048576: true; the input reads as it did. -/
def negoFirstUptoRow : OpenClaim := { program := "ytigaolglnnjnmaa", sum := "b2b476099c225cb0db6bdde468f5671b22831052f37c8e0149df97bacfe92943", func := "strongroom/strongroomlaw9.NegoFirst", spec := "negoFirst", inPlace := ["internal/bytealg.IndexByte", "internal/bytealg.Index"], named := ["internal/bytealg.MaxLen"], apart := false, narrowed := true }
def NegoFirstUptoSaid : Prop := negoFirstUptoRow.holds Try.pinned (OpenSpec.upto negoFirstSpec)

/-- 'strongroomlaw11.AuthNumbers', WHERE WHAT IT READS IS OF BULK AT MOST 1048576: true; the input reads as it did. -/
def authNumbersUptoRow : OpenClaim := { program := "ytigaolglnnjnmaa", sum := "b2b476099c225cb0db6bdde468f5671b22831052f37c8e0149df97bacfe92943", func := "strongroom/strongroomlaw11.AuthNumbers", spec := "authNumbers", inPlace := ["internal/abi.NoEscape", "internal/bytealg.MakeNoZero"], apart := false, narrowed := true }
def AuthNumbersUptoSaid : Prop := authNumbersUptoRow.holds Try.pinned (OpenSpec.upto authNumbersSpec)

/-- 'strongroomlaw11.AuthPlays', WHERE WHAT IT READS IS OF BULK AT MOST 1048576: true; the input reads as it did. -/
def authPlaysUptoRow : OpenClaim := { program := "ytigaolglnnjnmaa", sum := "b2b476099c225cb0db6bdde468f5671b22831052f37c8e0149df97bacfe92943", func := "strongroom/strongroomlaw11.AuthPlays", spec := "authPlays", inPlace := ["internal/abi.NoEscape", "internal/bytealg.MakeNoZero"], apart := false, narrowed := true }
def AuthPlaysUptoSaid : Prop := authPlaysUptoRow.holds Try.pinned (OpenSpec.upto authPlaysSpec)

/-- 'strongroomlaw11.AuthRaw', WHERE WHAT IT READS IS OF BULK AT MOST 1048576: true; the input reads as it did. -/
def authRawUptoRow : OpenClaim := { program := "ytigaolglnnjnmaa", sum := "b2b476099c225cb0db6bdde468f5671b22831052f37c8e0149df97bacfe92943", func := "strongroom/strongroomlaw11.AuthRaw", spec := "authRaw", inPlace := ["internal/abi.NoEscape", "internal/bytealg.MakeNoZero"], apart := false, narrowed := true }
def AuthRawUptoSaid : Prop := authRawUptoRow.holds Try.pinned (OpenSpec.upto authRawSpec)

/-- 'strongroomlaw11.AuthOnly', WHERE WHAT IT READS IS OF BULK AT MOST 1048576: true; the input reads as it did. -/
def authOnlyUptoRow : OpenClaim := { program := "ytigaolglnnjnmaa", sum := "b2b476099c225cb0db6bdde468f5671b22831052f37c8e0149df97bacfe92943", func := "strongroom/strongroomlaw11.AuthOnly", spec := "authOnly", inPlace := ["internal/abi.NoEscape", "internal/bytealg.MakeNoZero"], apart := false, narrowed := true }
def AuthOnlyUptoSaid : Prop := authOnlyUptoRow.holds Try.pinned (OpenSpec.upto authOnlySpec)

/-- 'strongroomlaw11.AuthService', WHERE WHAT IT READS IS OF BULK AT MOST 1048576: true; the input reads as it did. -/
def authServiceUptoRow : OpenClaim := { program := "ytigaolglnnjnmaa", sum := "b2b476099c225cb0db6bdde468f5671b22831052f37c8e0149df97bacfe92943", func := "strongroom/strongroomlaw11.AuthService", spec := "authService", inPlace := ["internal/abi.NoEscape", "internal/bytealg.MakeNoZero"], apart := false, narrowed := true }
def AuthServiceUptoSaid : Prop := authServiceUptoRow.holds Try.pinned (OpenSpec.upto authServiceSpec)

/-- 'strongroomlaw17.SftpOne', WHERE WHAT IT READS IS OF BULK AT MOST 1048576: true; the input reads as it did. -/
def sftpOneUptoRow : OpenClaim := { program := "ytigaolglnnjnmaa", sum := "b2b476099c225cb0db6bdde468f5671b22831052f37c8e0149df97bacfe92943", func := "strongroom/strongroomlaw17.SftpOne", spec := "sftpOne", apart := false, narrowed := true }
def SftpOneUptoSaid : Prop := sftpOneUptoRow.holds Try.pinned (OpenSpec.upto sftpOneSpec)

/-- 'strongroomlaw17.SftpReads', WHERE WHAT IT READS IS OF BULK AT MOST 1048576: true; the input reads as it did. -/
def sftpReadsUptoRow : OpenClaim := { program := "ytigaolglnnjnmaa", sum := "b2b476099c225cb0db6bdde468f5671b22831052f37c8e0149df97bacfe92943", func := "strongroom/strongroomlaw17.SftpReads", spec := "sftpReads", apart := false, narrowed := true }
def SftpReadsUptoSaid : Prop := sftpReadsUptoRow.holds Try.pinned (OpenSpec.upto sftpReadsSpec)

/-- 'strongroomlaw17.SftpIds', WHERE WHAT IT READS IS OF BULK AT MOST 1048576: true; the input reads as it did. -/
def sftpIdsUptoRow : OpenClaim := { program := "ytigaolglnnjnmaa", sum := "b2b476099c225cb0db6bdde468f5671b22831052f37c8e0149df97bacfe92943", func := "strongroom/strongroomlaw17.SftpIds", spec := "sftpIds", apart := false, narrowed := true }
def SftpIdsUptoSaid : Prop := sftpIdsUptoRow.holds Try.pinned (OpenSpec.upto sftpIdsSpec)

/-- 'strongroomlaw17.SftpBack', WHERE WHAT IT READS IS OF BULK AT MOST 1048576: true; the input reads as it did. -/
def sftpBackUptoRow : OpenClaim := { program := "ytigaolglnnjnmaa", sum := "b2b476099c225cb0db6bdde468f5671b22831052f37c8e0149df97bacfe92943", func := "strongroom/strongroomlaw17.SftpBack", spec := "sftpBack", apart := false, narrowed := true }
def SftpBackUptoSaid : Prop := sftpBackUptoRow.holds Try.pinned (OpenSpec.upto sftpBackSpec)

end Rows
end Go.Proofs.Ytigaolglnnjnmaa
