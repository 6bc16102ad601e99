/-
  No cell of these rows narrows 'for every input' (looked for: loops, veiled, ifaces, maps, wideKeys, modest, calm, conditions, laid).
  DERIVED. THE GIVEN ROWS OF THIS SEAT. 7 by the template 'for every input the law returns true; each argument reads behind the call as it read before'; 0 by the template 'total and deterministic' (their statements: YtbbmhppkhcodfaaTotals.lean).
  GIVEN WITH THE SEED: the statements are not yours to turn. If you find one false, say at which input.
  Laid BY PROGRAM, IN A SANDBOX (cutbox-rows.mjs): the forced cells as the released guide's own fill.sh prints them over the translation 9c944e0ddf6efb55… (all of the seat's roots in one cut). By AI agents, Wed Nov 11 2026. No macro, syntax, notation, axiom, sorry.
-/
import Derived.Test.YtbbmhppkhcodfaaChecked
import GoSem.Claim
import GoSem.ClaimJoined
import GoSem.ClaimMapViews
import Derived.JoinedTies
import Derived.KernelRfl
namespace Go.Proofs.Ytbbmhppkhcodfaa
/- THE CELL 'sum', in the pinned program and in every row, IS THE sha256 OF THE DUMP (.gsa) THAT YtbbmhppkhcodfaaProg.lean LOADS. Nothing in Lean hashes anything: it is a label: what it is worth is what the hold of that sum in a sandbox is worth. -/
noncomputable def Try.pinned : Pinned := { name := "ytbbmhppkhcodfaa", sum := "9c944e0ddf6efb55eb5d7ecab06fc0cf7c849f19dc6b098bda1626ea26367f0e", checked := Try.checked }
namespace Rows
def none {H : Type} : Left H := { results := [], args := [] }

/-- 'strongroomlaw15.TreeBytes': WHATEVER THE INPUT: true; the input reads as it did. -/
def treeBytesSpec : ChangeSpec := { name := "treeBytes", fn := fun _ => fun
  | [d1, d2] => { results := [.lit (.bool true)], args := [d1, d2] }
  | _ => none }
def treeBytesRow : OpenClaim := { program := "ytbbmhppkhcodfaa", sum := "9c944e0ddf6efb55eb5d7ecab06fc0cf7c849f19dc6b098bda1626ea26367f0e", func := "strongroom/strongroomlaw15.TreeBytes", spec := "treeBytes", inPlace := ["internal/bytealg.abigen_runtime_cmpstring", "slices.overlaps[*strongroom/tree.thing]"], unfollowed := true, recurses := true, apart := false }
def TreeBytesSaid : Prop := treeBytesRow.holds Try.pinned (OpenSpec.ofChange treeBytesSpec)

/-- ITS FALSE NEIGHBOUR: 'it returns false'. Refute it at one input. -/
def treeBytesWrong : ChangeSpec := { name := "treeBytes", fn := fun _ => fun
  | [d1, d2] => { results := [.lit (.bool false)], args := [d1, d2] }
  | _ => none }
def TreeBytesWrongFalsely : Prop := treeBytesRow.holds Try.pinned (OpenSpec.ofChange treeBytesWrong)

/-- 'strongroomlaw15.TreeLists': WHATEVER THE INPUT: true; the input reads as it did. -/
def treeListsSpec : ChangeSpec := { name := "treeLists", fn := fun _ => fun
  | [d] => { results := [.lit (.bool true)], args := [d] }
  | _ => none }
def treeListsRow : OpenClaim := { program := "ytbbmhppkhcodfaa", sum := "9c944e0ddf6efb55eb5d7ecab06fc0cf7c849f19dc6b098bda1626ea26367f0e", func := "strongroom/strongroomlaw15.TreeLists", spec := "treeLists", inPlace := ["internal/bytealg.abigen_runtime_cmpstring", "slices.overlaps[*strongroom/tree.thing]"], unfollowed := true, recurses := true, apart := false }
def TreeListsSaid : Prop := treeListsRow.holds Try.pinned (OpenSpec.ofChange treeListsSpec)

/-- ITS FALSE NEIGHBOUR: 'it returns false'. Refute it at one input. -/
def treeListsWrong : ChangeSpec := { name := "treeLists", fn := fun _ => fun
  | [d] => { results := [.lit (.bool false)], args := [d] }
  | _ => none }
def TreeListsWrongFalsely : Prop := treeListsRow.holds Try.pinned (OpenSpec.ofChange treeListsWrong)

/-- 'strongroomlaw15.TreeMoves': WHATEVER THE INPUT: true; the input reads as it did. -/
def treeMovesSpec : ChangeSpec := { name := "treeMoves", fn := fun _ => fun
  | [d1, d2, d3] => { results := [.lit (.bool true)], args := [d1, d2, d3] }
  | _ => none }
def treeMovesRow : OpenClaim := { program := "ytbbmhppkhcodfaa", sum := "9c944e0ddf6efb55eb5d7ecab06fc0cf7c849f19dc6b098bda1626ea26367f0e", func := "strongroom/strongroomlaw15.TreeMoves", spec := "treeMoves", inPlace := ["internal/bytealg.abigen_runtime_cmpstring", "slices.overlaps[*strongroom/tree.thing]"], unfollowed := true, recurses := true, apart := false }
def TreeMovesSaid : Prop := treeMovesRow.holds Try.pinned (OpenSpec.ofChange treeMovesSpec)

/-- ITS FALSE NEIGHBOUR: 'it returns false'. Refute it at one input. -/
def treeMovesWrong : ChangeSpec := { name := "treeMoves", fn := fun _ => fun
  | [d1, d2, d3] => { results := [.lit (.bool false)], args := [d1, d2, d3] }
  | _ => none }
def TreeMovesWrongFalsely : Prop := treeMovesRow.holds Try.pinned (OpenSpec.ofChange treeMovesWrong)

/-- 'strongroomlaw15.TreeLoads': WHATEVER THE INPUT: true; the input reads as it did. -/
def treeLoadsSpec : ChangeSpec := { name := "treeLoads", fn := fun _ => fun
  | [d1, d2, d3, d4] => { results := [.lit (.bool true)], args := [d1, d2, d3, d4] }
  | _ => none }
def treeLoadsRow : OpenClaim := { program := "ytbbmhppkhcodfaa", sum := "9c944e0ddf6efb55eb5d7ecab06fc0cf7c849f19dc6b098bda1626ea26367f0e", func := "strongroom/strongroomlaw15.TreeLoads", spec := "treeLoads", inPlace := ["internal/bytealg.abigen_runtime_cmpstring", "slices.overlaps[*strongroom/tree.thing]"], unfollowed := true, recurses := true, apart := false }
def TreeLoadsSaid : Prop := treeLoadsRow.holds Try.pinned (OpenSpec.ofChange treeLoadsSpec)

/-- ITS FALSE NEIGHBOUR: 'it returns false'. Refute it at one input. -/
def treeLoadsWrong : ChangeSpec := { name := "treeLoads", fn := fun _ => fun
  | [d1, d2, d3, d4] => { results := [.lit (.bool false)], args := [d1, d2, d3, d4] }
  | _ => none }
def TreeLoadsWrongFalsely : Prop := treeLoadsRow.holds Try.pinned (OpenSpec.ofChange treeLoadsWrong)

/-- 'strongroomlaw15.TreeRefused': WHATEVER THE INPUT: true; the input reads as it did. -/
def treeRefusedSpec : ChangeSpec := { name := "treeRefused", fn := fun _ => fun
  | [d] => { results := [.lit (.bool true)], args := [d] }
  | _ => none }
def treeRefusedRow : OpenClaim := { program := "ytbbmhppkhcodfaa", sum := "9c944e0ddf6efb55eb5d7ecab06fc0cf7c849f19dc6b098bda1626ea26367f0e", func := "strongroom/strongroomlaw15.TreeRefused", spec := "treeRefused", inPlace := ["internal/bytealg.abigen_runtime_cmpstring", "slices.overlaps[*strongroom/tree.thing]"], unfollowed := true, recurses := true, apart := false }
def TreeRefusedSaid : Prop := treeRefusedRow.holds Try.pinned (OpenSpec.ofChange treeRefusedSpec)

/-- ITS FALSE NEIGHBOUR: 'it returns false'. Refute it at one input. -/
def treeRefusedWrong : ChangeSpec := { name := "treeRefused", fn := fun _ => fun
  | [d] => { results := [.lit (.bool false)], args := [d] }
  | _ => none }
def TreeRefusedWrongFalsely : Prop := treeRefusedRow.holds Try.pinned (OpenSpec.ofChange treeRefusedWrong)

/-- 'strongroomlaw15.TreePlays': WHATEVER THE INPUT: true; the input reads as it did. -/
def treePlaysSpec : ChangeSpec := { name := "treePlays", fn := fun _ => fun
  | [d] => { results := [.lit (.bool true)], args := [d] }
  | _ => none }
def treePlaysRow : OpenClaim := { program := "ytbbmhppkhcodfaa", sum := "9c944e0ddf6efb55eb5d7ecab06fc0cf7c849f19dc6b098bda1626ea26367f0e", func := "strongroom/strongroomlaw15.TreePlays", spec := "treePlays", inPlace := ["internal/bytealg.abigen_runtime_cmpstring", "slices.overlaps[*strongroom/tree.thing]"], unfollowed := true, recurses := true, apart := false }
def TreePlaysSaid : Prop := treePlaysRow.holds Try.pinned (OpenSpec.ofChange treePlaysSpec)

/-- ITS FALSE NEIGHBOUR: 'it returns false'. Refute it at one input. -/
def treePlaysWrong : ChangeSpec := { name := "treePlays", fn := fun _ => fun
  | [d] => { results := [.lit (.bool false)], args := [d] }
  | _ => none }
def TreePlaysWrongFalsely : Prop := treePlaysRow.holds Try.pinned (OpenSpec.ofChange treePlaysWrong)

/-- 'strongroomlaw15.TreeSmall': WHATEVER THE INPUT: true; the input reads as it did. -/
def treeSmallSpec : ChangeSpec := { name := "treeSmall", fn := fun _ => fun
  | [d] => { results := [.lit (.bool true)], args := [d] }
  | _ => none }
def treeSmallRow : OpenClaim := { program := "ytbbmhppkhcodfaa", sum := "9c944e0ddf6efb55eb5d7ecab06fc0cf7c849f19dc6b098bda1626ea26367f0e", func := "strongroom/strongroomlaw15.TreeSmall", spec := "treeSmall", inPlace := ["internal/bytealg.abigen_runtime_cmpstring", "slices.overlaps[*strongroom/tree.thing]"], unfollowed := true, recurses := true, apart := false }
def TreeSmallSaid : Prop := treeSmallRow.holds Try.pinned (OpenSpec.ofChange treeSmallSpec)

/-- ITS FALSE NEIGHBOUR: 'it returns false'. Refute it at one input. -/
def treeSmallWrong : ChangeSpec := { name := "treeSmall", fn := fun _ => fun
  | [d] => { results := [.lit (.bool false)], args := [d] }
  | _ => none }
def TreeSmallWrongFalsely : Prop := treeSmallRow.holds Try.pinned (OpenSpec.ofChange treeSmallWrong)

/- THE SECOND FORM. 'bulk': how many values and letters a reading holds, each counted each time it is reached (what is shared counts as often as it is met; a slice's spare places count too). A statement '..UptoSaid' is the law's where the arguments, and the package variables that the reading takes, are together of bulk at most 1048576: NARROWER than '..Said'. Prove '..Said' where nothing that the law and all that it calls make is longer than what came in: it says more and counts as full. Else prove '..UptoSaid'. A law counts once. -/
mutual
def uptoBulk {H : Type} : DataW H → Nat
  | .lit (.string bytes) => bytes.length + 1
  | .lit _ => 1
  | .nil => 1
  | .ptr d => uptoBulk d + 1
  | .slice elems spare => uptoBulkAll elems + uptoBulkAll spare + 1
  | .agg parts => uptoBulkAll parts + 1
  | .iface _ d => uptoBulk d + 1
  | .map entries => uptoBulkEntries entries + 1
  | .held _ => 1
def uptoBulkAll {H : Type} : List (DataW H) → Nat
  | [] => 0
  | d :: r => uptoBulk d + uptoBulkAll r
def uptoBulkEntries {H : Type} : List (Lit × DataW H) → Nat
  | [] => 0
  | x :: r => uptoBulkEntry x + uptoBulkEntries r
def uptoBulkEntry {H : Type} : Lit × DataW H → Nat
  | (.string bytes, d) => bytes.length + uptoBulk d + 1
  | (_, d) => uptoBulk d + 1
 end
def uptoSmall : (H : Type) → List (DataW H) → Bool := fun _ ds => decide (uptoBulkAll ds ≤ 1048576)
def OpenSpec.upto (s : _root_.Go.ChangeSpec) : _root_.Go.OpenSpec := { _root_.Go.OpenSpec.ofChange s with cond := some uptoSmall }

/-- 'strongroomlaw15.TreeBytes', WHERE WHAT IT READS IS OF BULK AT MOST 1048576: true; the input reads as it did. -/
def treeBytesUptoRow : OpenClaim := { program := "ytbbmhppkhcodfaa", sum := "9c944e0ddf6efb55eb5d7ecab06fc0cf7c849f19dc6b098bda1626ea26367f0e", func := "strongroom/strongroomlaw15.TreeBytes", spec := "treeBytes", inPlace := ["internal/bytealg.abigen_runtime_cmpstring", "slices.overlaps[*strongroom/tree.thing]"], unfollowed := true, recurses := true, apart := false, narrowed := true }
def TreeBytesUptoSaid : Prop := treeBytesUptoRow.holds Try.pinned (OpenSpec.upto treeBytesSpec)

/-- 'strongroomlaw15.TreeLists', WHERE WHAT IT READS IS OF BULK AT MOST 1048576: true; the input reads as it did. -/
def treeListsUptoRow : OpenClaim := { program := "ytbbmhppkhcodfaa", sum := "9c944e0ddf6efb55eb5d7ecab06fc0cf7c849f19dc6b098bda1626ea26367f0e", func := "strongroom/strongroomlaw15.TreeLists", spec := "treeLists", inPlace := ["internal/bytealg.abigen_runtime_cmpstring", "slices.overlaps[*strongroom/tree.thing]"], unfollowed := true, recurses := true, apart := false, narrowed := true }
def TreeListsUptoSaid : Prop := treeListsUptoRow.holds Try.pinned (OpenSpec.upto treeListsSpec)

/-- 'strongroomlaw15.TreeMoves', WHERE WHAT IT READS IS OF BULK AT MOST 1048576: true; the input reads as it did. -/
def treeMovesUptoRow : OpenClaim := { program := "ytbbmhppkhcodfaa", sum := "9c944e0ddf6efb55eb5d7ecab06fc0cf7c849f19dc6b098bda1626ea26367f0e", func := "strongroom/strongroomlaw15.TreeMoves", spec := "treeMoves", inPlace := ["internal/bytealg.abigen_runtime_cmpstring", "slices.overlaps[*strongroom/tree.thing]"], unfollowed := true, recurses := true, apart := false, narrowed := true }
def TreeMovesUptoSaid : Prop := treeMovesUptoRow.holds Try.pinned (OpenSpec.upto treeMovesSpec)

/-- 'strongroomlaw15.TreeLoads', WHERE WHAT IT READS IS OF BULK AT MOST 1048576: true; the input reads as it did. -/
def treeLoadsUptoRow : OpenClaim := { program := "ytbbmhppkhcodfaa", sum := "9c944e0ddf6efb55eb5d7ecab06fc0cf7c849f19dc6b098bda1626ea26367f0e", func := "strongroom/strongroomlaw15.TreeLoads", spec := "treeLoads", inPlace := ["internal/bytealg.abigen_runtime_cmpstring", "slices.overlaps[*strongroom/tree.thing]"], unfollowed := true, recurses := true, apart := false, narrowed := true }
def TreeLoadsUptoSaid : Prop := treeLoadsUptoRow.holds Try.pinned (OpenSpec.upto treeLoadsSpec)

/-- 'strongroomlaw15.TreeRefused', WHERE WHAT IT READS IS OF BULK AT MOST 1048576: true; the input reads as it did. -/
def treeRefusedUptoRow : OpenClaim := { program := "ytbbmhppkhcodfaa", sum := "9c944e0ddf6efb55eb5d7ecab06fc0cf7c849f19dc6b098bda1626ea26367f0e", func := "strongroom/strongroomlaw15.TreeRefused", spec := "treeRefused", inPlace := ["internal/bytealg.abigen_runtime_cmpstring", "slices.overlaps[*strongroom/tree.thing]"], unfollowed := true, recurses := true, apart := false, narrowed := true }
def TreeRefusedUptoSaid : Prop := treeRefusedUptoRow.holds Try.pinned (OpenSpec.upto treeRefusedSpec)

/-- 'strongroomlaw15.TreePlays', WHERE WHAT IT READS IS OF BULK AT MOST 1048576: true; the input reads as it did. -/
def treePlaysUptoRow : OpenClaim := { program := "ytbbmhppkhcodfaa", sum := "9c944e0ddf6efb55eb5d7ecab06fc0cf7c849f19dc6b098bda1626ea26367f0e", func := "strongroom/strongroomlaw15.TreePlays", spec := "treePlays", inPlace := ["internal/bytealg.abigen_runtime_cmpstring", "slices.overlaps[*strongroom/tree.thing]"], unfollowed := true, recurses := true, apart := false, narrowed := true }
def TreePlaysUptoSaid : Prop := treePlaysUptoRow.holds Try.pinned (OpenSpec.upto treePlaysSpec)

/-- 'strongroomlaw15.TreeSmall', WHERE WHAT IT READS IS OF BULK AT MOST 1048576: true; the input reads as it did. -/
def treeSmallUptoRow : OpenClaim := { program := "ytbbmhppkhcodfaa", sum := "9c944e0ddf6efb55eb5d7ecab06fc0cf7c849f19dc6b098bda1626ea26367f0e", func := "strongroom/strongroomlaw15.TreeSmall", spec := "treeSmall", inPlace := ["internal/bytealg.abigen_runtime_cmpstring", "slices.overlaps[*strongroom/tree.thing]"], unfollowed := true, recurses := true, apart := false, narrowed := true }
def TreeSmallUptoSaid : Prop := treeSmallUptoRow.holds Try.pinned (OpenSpec.upto treeSmallSpec)

end Rows
end Go.Proofs.Ytbbmhppkhcodfaa
