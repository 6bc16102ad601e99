/-
  Facts on the types of this seat, each by a computation.
  slices.Insert, slices.Delete at a directory's things.
  The walks of slices.Insert, slices.Delete at a directory's things.
-/
import Derived.Test.YtlefpllcgcicpaaGreatDoorSxSub
import Derived.Test.YtlefpllcgcicpaaGreatDoorRows
namespace Go.Proofs.YtlefpllcgcicpaaGreatDoor
open Go.Sx
set_option maxRecDepth 100000
theorem sl25 : Slc Tryz.prog 25 5 1 1 (.int .u8 0) := Slc.of Tryz.underlying25 (by kernel_rfl) rfl (by decide)
theorem sc25 : Scal Tryz.prog 25 := ⟨fun w => Tryz.isAgg25 w, fun w => Tryz.sizeOf25 w⟩
theorem sc3 : Scal Tryz.prog 3 := ⟨fun w => Tryz.isAgg3 w, fun w => Tryz.sizeOf3 w⟩
theorem z30 : Zero Tryz.prog 30 (.agg #[(.int .u32 0), (.int .u64 0), (.int .u32 0), (.int .u32 0), (.int .u32 0), (.int .u32 0), (.int .u32 0)]) := fun w => Tryz.zeroValue30 w
theorem fa30_0 : FieldAt Tryz.prog 30 0 0 := fun w a => by simp [Instr.fieldAt, Instr.sureAddr, fieldPlace, Tryz.runUnderlying30, Tryz.sizeOf27]
theorem sc27 : Scal Tryz.prog 27 := ⟨fun w => Tryz.isAgg27 w, fun w => Tryz.sizeOf27 w⟩
theorem fa30_1 : FieldAt Tryz.prog 30 1 1 := fun w a => by simp [Instr.fieldAt, Instr.sureAddr, fieldPlace, Tryz.runUnderlying30, Tryz.sizeOf28]
theorem sc28 : Scal Tryz.prog 28 := ⟨fun w => Tryz.isAgg28 w, fun w => Tryz.sizeOf28 w⟩
theorem fa30_2 : FieldAt Tryz.prog 30 2 2 := fun w a => by simp [Instr.fieldAt, Instr.sureAddr, fieldPlace, Tryz.runUnderlying30, Tryz.sizeOf27]
theorem fa30_3 : FieldAt Tryz.prog 30 3 3 := fun w a => by simp [Instr.fieldAt, Instr.sureAddr, fieldPlace, Tryz.runUnderlying30, Tryz.sizeOf27]
theorem fa30_4 : FieldAt Tryz.prog 30 4 4 := fun w a => by simp [Instr.fieldAt, Instr.sureAddr, fieldPlace, Tryz.runUnderlying30, Tryz.sizeOf27]
theorem fa30_5 : FieldAt Tryz.prog 30 5 5 := fun w a => by simp [Instr.fieldAt, Instr.sureAddr, fieldPlace, Tryz.runUnderlying30, Tryz.sizeOf27]
theorem fa30_6 : FieldAt Tryz.prog 30 6 6 := fun w a => by simp [Instr.fieldAt, Instr.sureAddr, fieldPlace, Tryz.runUnderlying30, Tryz.sizeOf27]
theorem ag30 : Aggr Tryz.prog 30 7 := ⟨fun w => Tryz.isAgg30 w, fun w => Tryz.sizeOf30 w⟩
theorem st30 : StructT Tryz.prog 30 [(.int .u32 0), (.int .u64 0), (.int .u32 0), (.int .u32 0), (.int .u32 0), (.int .u32 0), (.int .u32 0)] [(0, 1), (1, 1), (2, 1), (3, 1), (4, 1), (5, 1), (6, 1)] := ⟨z30, ⟨_, Tryz.underlying30, fun w => by simp [Tryz.sizeOf27, Tryz.sizeOf28]⟩⟩
theorem sl47 : Slc Tryz.prog 47 9 1 16 (.string ByteArray.empty) := Slc.of Tryz.underlying47 (by kernel_rfl) rfl (by decide)
theorem sc9 : Scal Tryz.prog 9 := ⟨fun w => Tryz.isAgg9 w, fun w => Tryz.sizeOf9 w⟩
theorem sl96 : Slc Tryz.prog 96 92 1 8 (.pointer none) := Slc.of Tryz.underlying96 (by kernel_rfl) rfl (by decide)
theorem fa98_2 : FieldAt Tryz.prog 98 2 2 := fun w a => by simp [Instr.fieldAt, Instr.sureAddr, fieldPlace, Tryz.runUnderlying98, Tryz.sizeOf9]
theorem sc92 : Scal Tryz.prog 92 := ⟨fun w => Tryz.isAgg92 w, fun w => Tryz.sizeOf92 w⟩
theorem fa98_3 : FieldAt Tryz.prog 98 3 3 := fun w a => by simp [Instr.fieldAt, Instr.sureAddr, fieldPlace, Tryz.runUnderlying98, Tryz.sizeOf96]
theorem sc96 : Scal Tryz.prog 96 := ⟨fun w => Tryz.isAgg96 w, fun w => Tryz.sizeOf96 w⟩
theorem fa95_0 : FieldAt Tryz.prog 95 0 0 := fun w a => by simp [Instr.fieldAt, Instr.sureAddr, fieldPlace, Tryz.runUnderlying95, Tryz.sizeOf92]
theorem z92 : Zero Tryz.prog 92 (.pointer none) := fun w => Tryz.zeroValue92 w
theorem fa98_0 : FieldAt Tryz.prog 98 0 0 := fun w a => by simp [Instr.fieldAt, Instr.sureAddr, fieldPlace, Tryz.runUnderlying98, Tryz.sizeOf3]
theorem fa95_3 : FieldAt Tryz.prog 95 3 3 := fun w a => by simp [Instr.fieldAt, Instr.sureAddr, fieldPlace, Tryz.runUnderlying95, Tryz.sizeOf3]
theorem fa95_1 : FieldAt Tryz.prog 95 1 1 := fun w a => by simp [Instr.fieldAt, Instr.sureAddr, fieldPlace, Tryz.runUnderlying95, Tryz.sizeOf93]
theorem sc93 : Scal Tryz.prog 93 := ⟨fun w => Tryz.isAgg93 w, fun w => Tryz.sizeOf93 w⟩
theorem fa98_1 : FieldAt Tryz.prog 98 1 1 := fun w a => by simp [Instr.fieldAt, Instr.sureAddr, fieldPlace, Tryz.runUnderlying98, Tryz.sizeOf4]
theorem sc4 : Scal Tryz.prog 4 := ⟨fun w => Tryz.isAgg4 w, fun w => Tryz.sizeOf4 w⟩
theorem fa98_5 : FieldAt Tryz.prog 98 5 5 := fun w a => by simp [Instr.fieldAt, Instr.sureAddr, fieldPlace, Tryz.runUnderlying98, Tryz.sizeOf30]
theorem fa98_4 : FieldAt Tryz.prog 98 4 4 := fun w a => by simp [Instr.fieldAt, Instr.sureAddr, fieldPlace, Tryz.runUnderlying98, Tryz.sizeOf25]
theorem z98 : Zero Tryz.prog 98 (.agg #[(.int .i64 0), (.bool false), (.string ByteArray.empty), (.slice none 0 0), (.slice none 0 0), (.int .u32 0), (.int .u64 0), (.int .u32 0), (.int .u32 0), (.int .u32 0), (.int .u32 0), (.int .u32 0)]) := fun w => Tryz.zeroValue98 w
theorem st98 : StructT Tryz.prog 98 [(.int .i64 0), (.bool false), (.string ByteArray.empty), (.slice none 0 0), (.slice none 0 0), (.int .u32 0), (.int .u64 0), (.int .u32 0), (.int .u32 0), (.int .u32 0), (.int .u32 0), (.int .u32 0)] [(0, 1), (1, 1), (2, 1), (3, 1), (4, 1), (5, 7)] := ⟨z98, ⟨_, Tryz.underlying98, fun w => by simp [Tryz.sizeOf3, Tryz.sizeOf4, Tryz.sizeOf9, Tryz.sizeOf25, Tryz.sizeOf30, Tryz.sizeOf96]⟩⟩
theorem fa95_2 : FieldAt Tryz.prog 95 2 2 := fun w a => by simp [Instr.fieldAt, Instr.sureAddr, fieldPlace, Tryz.runUnderlying95, Tryz.sizeOf3]
theorem z95 : Zero Tryz.prog 95 (.agg #[(.pointer none), (.map none), (.int .i64 0), (.int .i64 0)]) := fun w => Tryz.zeroValue95 w
theorem st95 : StructT Tryz.prog 95 [(.pointer none), (.map none), (.int .i64 0), (.int .i64 0)] [(0, 1), (1, 1), (2, 1), (3, 1)] := ⟨z95, ⟨_, Tryz.underlying95, fun w => by simp [Tryz.sizeOf3, Tryz.sizeOf92, Tryz.sizeOf93]⟩⟩
theorem z87 : Zero Tryz.prog 87 (.agg #[(.string ByteArray.empty), (.int .u32 0), (.int .u64 0), (.int .u32 0), (.int .u32 0), (.int .u32 0), (.int .u32 0), (.int .u32 0)]) := fun w => Tryz.zeroValue87 w
theorem st87 : StructT Tryz.prog 87 [(.string ByteArray.empty), (.int .u32 0), (.int .u64 0), (.int .u32 0), (.int .u32 0), (.int .u32 0), (.int .u32 0), (.int .u32 0)] [(0, 1), (1, 7)] := ⟨z87, ⟨_, Tryz.underlying87, fun w => by simp [Tryz.sizeOf9, Tryz.sizeOf30]⟩⟩
theorem sl26 : Slc Tryz.prog 26 87 8 56 (.agg #[(.string ByteArray.empty), (.int .u32 0), (.int .u64 0), (.int .u32 0), (.int .u32 0), (.int .u32 0), (.int .u32 0), (.int .u32 0)]) := Slc.of Tryz.underlying26 (by kernel_rfl) rfl (by decide)
theorem ag32 : Aggr Tryz.prog 32 12 := ⟨fun w => Tryz.isAgg32 w, fun w => Tryz.sizeOf32 w⟩
theorem z32 : Zero Tryz.prog 32 (.agg #[(.int .i64 0), (.int .i64 0), (.string ByteArray.empty), (.slice none 0 0), (.slice none 0 0), (.int .u32 0), (.int .u64 0), (.int .u32 0), (.int .u32 0), (.int .u32 0), (.int .u32 0), (.int .u32 0)]) := fun w => Tryz.zeroValue32 w
theorem st32 : StructT Tryz.prog 32 [(.int .i64 0), (.int .i64 0), (.string ByteArray.empty), (.slice none 0 0), (.slice none 0 0), (.int .u32 0), (.int .u64 0), (.int .u32 0), (.int .u32 0), (.int .u32 0), (.int .u32 0), (.int .u32 0)] [(0, 1), (1, 1), (2, 1), (3, 1), (4, 1), (5, 7)] := ⟨z32, ⟨_, Tryz.underlying32, fun w => by simp [Tryz.sizeOf3, Tryz.sizeOf9, Tryz.sizeOf25, Tryz.sizeOf26, Tryz.sizeOf30]⟩⟩
theorem ag68 : Aggr Tryz.prog 68 80 := ⟨fun w => Tryz.isAgg68 w, fun w => Tryz.sizeOf68 w⟩
theorem ag67 : Aggr Tryz.prog 67 5 := ⟨fun w => Tryz.isAgg67 w, fun w => Tryz.sizeOf67 w⟩
theorem fa71_1 : FieldAt Tryz.prog 71 1 1 := fun w a => by simp [Instr.fieldAt, Instr.sureAddr, fieldPlace, Tryz.runUnderlying71, Tryz.sizeOf69]
theorem z67 : Zero Tryz.prog 67 (.agg #[(.bool false), (.int .i64 0), (.bool false), (.int .u32 0), (.slice none 0 0)]) := fun w => Tryz.zeroValue67 w
theorem fa67_0 : FieldAt Tryz.prog 67 0 0 := fun w a => by simp [Instr.fieldAt, Instr.sureAddr, fieldPlace, Tryz.runUnderlying67, Tryz.sizeOf4]
theorem st67 : StructT Tryz.prog 67 [(.bool false), (.int .i64 0), (.bool false), (.int .u32 0), (.slice none 0 0)] [(0, 1), (1, 1), (2, 1), (3, 1), (4, 1)] := ⟨z67, ⟨_, Tryz.underlying67, fun w => by simp [Tryz.sizeOf3, Tryz.sizeOf4, Tryz.sizeOf26, Tryz.sizeOf27]⟩⟩
theorem fa35_3 : FieldAt Tryz.prog 35 3 3 := fun w a => by simp [Instr.fieldAt, Instr.sureAddr, fieldPlace, Tryz.runUnderlying35, Tryz.sizeOf9]
theorem fa71_0 : FieldAt Tryz.prog 71 0 0 := fun w a => by simp [Instr.fieldAt, Instr.sureAddr, fieldPlace, Tryz.runUnderlying71, Tryz.sizeOf51]
theorem sc51 : Scal Tryz.prog 51 := ⟨fun w => Tryz.isAgg51 w, fun w => Tryz.sizeOf51 w⟩
theorem fa67_2 : FieldAt Tryz.prog 67 2 2 := fun w a => by simp [Instr.fieldAt, Instr.sureAddr, fieldPlace, Tryz.runUnderlying67, Tryz.sizeOf4]
theorem fa67_1 : FieldAt Tryz.prog 67 1 1 := fun w a => by simp [Instr.fieldAt, Instr.sureAddr, fieldPlace, Tryz.runUnderlying67, Tryz.sizeOf3]
theorem fa67_3 : FieldAt Tryz.prog 67 3 3 := fun w a => by simp [Instr.fieldAt, Instr.sureAddr, fieldPlace, Tryz.runUnderlying67, Tryz.sizeOf27]
theorem fa35_4 : FieldAt Tryz.prog 35 4 4 := fun w a => by simp [Instr.fieldAt, Instr.sureAddr, fieldPlace, Tryz.runUnderlying35, Tryz.sizeOf28]
theorem fa35_5 : FieldAt Tryz.prog 35 5 5 := fun w a => by simp [Instr.fieldAt, Instr.sureAddr, fieldPlace, Tryz.runUnderlying35, Tryz.sizeOf27]
theorem fa35_6 : FieldAt Tryz.prog 35 6 6 := fun w a => by simp [Instr.fieldAt, Instr.sureAddr, fieldPlace, Tryz.runUnderlying35, Tryz.sizeOf25]
theorem fa35_8 : FieldAt Tryz.prog 35 8 8 := fun w a => by simp [Instr.fieldAt, Instr.sureAddr, fieldPlace, Tryz.runUnderlying35, Tryz.sizeOf30]
theorem sc26 : Scal Tryz.prog 26 := ⟨fun w => Tryz.isAgg26 w, fun w => Tryz.sizeOf26 w⟩
theorem fa35_1 : FieldAt Tryz.prog 35 1 1 := fun w a => by simp [Instr.fieldAt, Instr.sureAddr, fieldPlace, Tryz.runUnderlying35, Tryz.sizeOf9]
theorem fa67_4 : FieldAt Tryz.prog 67 4 4 := fun w a => by simp [Instr.fieldAt, Instr.sureAddr, fieldPlace, Tryz.runUnderlying67, Tryz.sizeOf26]
theorem fa35_7 : FieldAt Tryz.prog 35 7 7 := fun w a => by simp [Instr.fieldAt, Instr.sureAddr, fieldPlace, Tryz.runUnderlying35, Tryz.sizeOf27]
theorem fa35_0 : FieldAt Tryz.prog 35 0 0 := fun w a => by simp [Instr.fieldAt, Instr.sureAddr, fieldPlace, Tryz.runUnderlying35, Tryz.sizeOf3]
theorem ag35 : Aggr Tryz.prog 35 15 := ⟨fun w => Tryz.isAgg35 w, fun w => Tryz.sizeOf35 w⟩
theorem fa35_2 : FieldAt Tryz.prog 35 2 2 := fun w a => by simp [Instr.fieldAt, Instr.sureAddr, fieldPlace, Tryz.runUnderlying35, Tryz.sizeOf9]
theorem z71 : Zero Tryz.prog 71 (.agg #[(.pointer none), (.bool false), (.int .i64 0), (.bool false), (.int .u32 0), (.slice none 0 0), (.bool false), (.int .i64 0), (.bool false), (.int .u32 0), (.slice none 0 0), (.bool false), (.int .i64 0), (.bool false), (.int .u32 0), (.slice none 0 0), (.bool false), (.int .i64 0), (.bool false), (.int .u32 0), (.slice none 0 0), (.bool false), (.int .i64 0), (.bool false), (.int .u32 0), (.slice none 0 0), (.bool false), (.int .i64 0), (.bool false), (.int .u32 0), (.slice none 0 0), (.bool false), (.int .i64 0), (.bool false), (.int .u32 0), (.slice none 0 0), (.bool false), (.int .i64 0), (.bool false), (.int .u32 0), (.slice none 0 0), (.bool false), (.int .i64 0), (.bool false), (.int .u32 0), (.slice none 0 0), (.bool false), (.int .i64 0), (.bool false), (.int .u32 0), (.slice none 0 0), (.bool false), (.int .i64 0), (.bool false), (.int .u32 0), (.slice none 0 0), (.bool false), (.int .i64 0), (.bool false), (.int .u32 0), (.slice none 0 0), (.bool false), (.int .i64 0), (.bool false), (.int .u32 0), (.slice none 0 0), (.bool false), (.int .i64 0), (.bool false), (.int .u32 0), (.slice none 0 0), (.bool false), (.int .i64 0), (.bool false), (.int .u32 0), (.slice none 0 0), (.bool false), (.int .i64 0), (.bool false), (.int .u32 0), (.slice none 0 0), (.bool false), (.int .i64 0), (.bool false), (.int .u32 0), (.slice none 0 0), (.bool false), (.int .i64 0), (.bool false), (.int .u32 0), (.slice none 0 0), (.bool false), (.int .i64 0), (.bool false), (.int .u32 0), (.slice none 0 0), (.bool false), (.int .i64 0), (.bool false), (.int .u32 0), (.slice none 0 0), (.bool false), (.int .i64 0), (.bool false), (.int .u32 0), (.slice none 0 0), (.bool false), (.int .i64 0), (.bool false), (.int .u32 0), (.slice none 0 0), (.bool false), (.int .i64 0), (.bool false), (.int .u32 0), (.slice none 0 0), (.bool false), (.int .i64 0), (.bool false), (.int .u32 0), (.slice none 0 0), (.bool false), (.int .i64 0), (.bool false), (.int .u32 0), (.slice none 0 0), (.bool false), (.int .i64 0), (.bool false), (.int .u32 0), (.slice none 0 0), (.bool false), (.int .i64 0), (.bool false), (.int .u32 0), (.slice none 0 0), (.bool false), (.int .i64 0), (.bool false), (.int .u32 0), (.slice none 0 0), (.bool false), (.int .i64 0), (.bool false), (.int .u32 0), (.slice none 0 0), (.bool false), (.int .i64 0), (.bool false), (.int .u32 0), (.slice none 0 0), (.bool false), (.int .i64 0), (.bool false), (.int .u32 0), (.slice none 0 0), (.bool false), (.int .i64 0), (.bool false), (.int .u32 0), (.slice none 0 0), (.bool false), (.int .i64 0), (.bool false), (.int .u32 0), (.slice none 0 0), (.bool false), (.int .i64 0), (.bool false), (.int .u32 0), (.slice none 0 0), (.bool false), (.int .i64 0), (.bool false), (.int .u32 0), (.slice none 0 0), (.bool false), (.int .i64 0), (.bool false), (.int .u32 0), (.slice none 0 0), (.bool false), (.int .i64 0), (.bool false), (.int .u32 0), (.slice none 0 0), (.bool false), (.int .i64 0), (.bool false), (.int .u32 0), (.slice none 0 0), (.bool false), (.int .i64 0), (.bool false), (.int .u32 0), (.slice none 0 0), (.bool false), (.int .i64 0), (.bool false), (.int .u32 0), (.slice none 0 0), (.bool false), (.int .i64 0), (.bool false), (.int .u32 0), (.slice none 0 0), (.bool false), (.int .i64 0), (.bool false), (.int .u32 0), (.slice none 0 0), (.bool false), (.int .i64 0), (.bool false), (.int .u32 0), (.slice none 0 0), (.bool false), (.int .i64 0), (.bool false), (.int .u32 0), (.slice none 0 0), (.bool false), (.int .i64 0), (.bool false), (.int .u32 0), (.slice none 0 0), (.bool false), (.int .i64 0), (.bool false), (.int .u32 0), (.slice none 0 0), (.bool false), (.int .i64 0), (.bool false), (.int .u32 0), (.slice none 0 0), (.bool false), (.int .i64 0), (.bool false), (.int .u32 0), (.slice none 0 0), (.bool false), (.int .i64 0), (.bool false), (.int .u32 0), (.slice none 0 0), (.bool false), (.int .i64 0), (.bool false), (.int .u32 0), (.slice none 0 0), (.bool false), (.int .i64 0), (.bool false), (.int .u32 0), (.slice none 0 0), (.bool false), (.int .i64 0), (.bool false), (.int .u32 0), (.slice none 0 0), (.bool false), (.int .i64 0), (.bool false), (.int .u32 0), (.slice none 0 0), (.bool false), (.int .i64 0), (.bool false), (.int .u32 0), (.slice none 0 0), (.bool false), (.int .i64 0), (.bool false), (.int .u32 0), (.slice none 0 0), (.bool false), (.int .i64 0), (.bool false), (.int .u32 0), (.slice none 0 0), (.bool false), (.int .i64 0), (.bool false), (.int .u32 0), (.slice none 0 0), (.bool false), (.int .i64 0), (.bool false), (.int .u32 0), (.slice none 0 0), (.bool false), (.int .i64 0), (.bool false), (.int .u32 0), (.slice none 0 0), (.bool false), (.int .i64 0), (.bool false), (.int .u32 0), (.slice none 0 0), (.bool false), (.int .i64 0), (.bool false), (.int .u32 0), (.slice none 0 0), (.bool false), (.int .i64 0), (.bool false), (.int .u32 0), (.slice none 0 0), (.bool false), (.int .i64 0), (.bool false), (.int .u32 0), (.slice none 0 0), (.bool false), (.int .i64 0), (.bool false), (.int .u32 0), (.slice none 0 0), (.bool false), (.int .i64 0), (.bool false), (.int .u32 0), (.slice none 0 0), (.bool false), (.int .i64 0), (.bool false), (.int .u32 0), (.slice none 0 0), (.bool false), (.int .i64 0), (.bool false), (.int .u32 0), (.slice none 0 0), (.bool false), (.int .i64 0), (.bool false), (.int .u32 0), (.slice none 0 0), (.bool false), (.int .i64 0), (.bool false), (.int .u32 0), (.slice none 0 0), (.bool false), (.int .i64 0), (.bool false), (.int .u32 0), (.slice none 0 0), (.bool false), (.int .i64 0), (.bool false), (.int .u32 0), (.slice none 0 0), (.bool false), (.int .i64 0), (.bool false), (.int .u32 0), (.slice none 0 0), (.bool false), (.int .i64 0), (.bool false), (.int .u32 0), (.slice none 0 0), (.bool false), (.int .i64 0), (.bool false), (.int .u32 0), (.slice none 0 0), (.bool false), (.int .i64 0), (.bool false), (.int .u32 0), (.slice none 0 0), (.bool false), (.int .i64 0), (.bool false), (.int .u32 0), (.slice none 0 0), (.bool false), (.int .i64 0), (.bool false), (.int .u32 0), (.slice none 0 0), (.bool false), (.int .i64 0), (.bool false), (.int .u32 0), (.slice none 0 0), (.bool false), (.int .i64 0), (.bool false), (.int .u32 0), (.slice none 0 0), (.bool false), (.int .i64 0), (.bool false), (.int .u32 0), (.slice none 0 0), (.bool false), (.int .i64 0), (.bool false), (.int .u32 0), (.slice none 0 0), (.bool false), (.int .i64 0), (.bool false), (.int .u32 0), (.slice none 0 0), (.bool false), (.int .i64 0), (.bool false), (.int .u32 0), (.slice none 0 0), (.bool false), (.int .i64 0), (.bool false), (.int .u32 0), (.slice none 0 0), (.bool false), (.int .i64 0), (.bool false), (.int .u32 0), (.slice none 0 0), (.bool false), (.int .i64 0), (.bool false), (.int .u32 0), (.slice none 0 0), (.bool false), (.int .i64 0), (.bool false), (.int .u32 0), (.slice none 0 0), (.bool false), (.int .i64 0), (.bool false), (.int .u32 0), (.slice none 0 0), (.bool false), (.int .i64 0), (.bool false), (.int .u32 0), (.slice none 0 0), (.bool false), (.int .i64 0), (.bool false), (.int .u32 0), (.slice none 0 0), (.bool false), (.int .i64 0), (.bool false), (.int .u32 0), (.slice none 0 0), (.bool false), (.int .i64 0), (.bool false), (.int .u32 0), (.slice none 0 0), (.bool false), (.int .i64 0), (.bool false), (.int .u32 0), (.slice none 0 0), (.bool false), (.int .i64 0), (.bool false), (.int .u32 0), (.slice none 0 0), (.bool false), (.int .i64 0), (.bool false), (.int .u32 0), (.slice none 0 0), (.bool false), (.int .i64 0), (.bool false), (.int .u32 0), (.slice none 0 0), (.bool false), (.int .i64 0), (.bool false), (.int .u32 0), (.slice none 0 0), (.bool false), (.int .i64 0), (.bool false), (.int .u32 0), (.slice none 0 0), (.bool false), (.int .i64 0), (.bool false), (.int .u32 0), (.slice none 0 0), (.bool false), (.int .i64 0), (.bool false), (.int .u32 0), (.slice none 0 0), (.bool false), (.int .i64 0), (.bool false), (.int .u32 0), (.slice none 0 0), (.bool false), (.int .i64 0), (.bool false), (.int .u32 0), (.slice none 0 0), (.bool false), (.int .i64 0), (.bool false), (.int .u32 0), (.slice none 0 0), (.bool false), (.int .i64 0), (.bool false), (.int .u32 0), (.slice none 0 0), (.bool false), (.int .i64 0), (.bool false), (.int .u32 0), (.slice none 0 0), (.bool false), (.int .i64 0), (.bool false), (.int .u32 0), (.slice none 0 0), (.bool false), (.int .i64 0), (.bool false), (.int .u32 0), (.slice none 0 0), (.bool false), (.int .i64 0), (.bool false), (.int .u32 0), (.slice none 0 0), (.bool false), (.int .i64 0), (.bool false), (.int .u32 0), (.slice none 0 0), (.bool false), (.int .i64 0), (.bool false), (.int .u32 0), (.slice none 0 0), (.bool false), (.int .i64 0), (.bool false), (.int .u32 0), (.slice none 0 0), (.bool false), (.int .i64 0), (.bool false), (.int .u32 0), (.slice none 0 0), (.bool false), (.int .i64 0), (.bool false), (.int .u32 0), (.slice none 0 0), (.bool false), (.int .i64 0), (.bool false), (.int .u32 0), (.slice none 0 0), (.bool false), (.int .i64 0), (.bool false), (.int .u32 0), (.slice none 0 0), (.bool false), (.int .i64 0), (.bool false), (.int .u32 0), (.slice none 0 0), (.bool false), (.int .i64 0), (.bool false), (.int .u32 0), (.slice none 0 0), (.bool false), (.int .i64 0), (.bool false), (.int .u32 0), (.slice none 0 0), (.bool false), (.int .i64 0), (.bool false), (.int .u32 0), (.slice none 0 0), (.bool false), (.int .i64 0), (.bool false), (.int .u32 0), (.slice none 0 0), (.bool false), (.int .i64 0), (.bool false), (.int .u32 0), (.slice none 0 0), (.bool false), (.int .i64 0), (.bool false), (.int .u32 0), (.slice none 0 0), (.bool false), (.int .i64 0), (.bool false), (.int .u32 0), (.slice none 0 0), (.bool false), (.int .i64 0), (.bool false), (.int .u32 0), (.slice none 0 0), (.bool false), (.int .i64 0), (.bool false), (.int .u32 0), (.slice none 0 0), (.bool false), (.int .i64 0), (.bool false), (.int .u32 0), (.slice none 0 0), (.bool false), (.int .i64 0), (.bool false), (.int .u32 0), (.slice none 0 0), (.bool false), (.int .i64 0), (.bool false), (.int .u32 0), (.slice none 0 0), (.bool false), (.int .i64 0), (.bool false), (.int .u32 0), (.slice none 0 0), (.bool false), (.int .i64 0), (.bool false), (.int .u32 0), (.slice none 0 0), (.bool false), (.int .i64 0), (.bool false), (.int .u32 0), (.slice none 0 0), (.bool false), (.int .i64 0), (.bool false), (.int .u32 0), (.slice none 0 0), (.bool false), (.int .i64 0), (.bool false), (.int .u32 0), (.slice none 0 0), (.bool false), (.int .i64 0), (.bool false), (.int .u32 0), (.slice none 0 0), (.bool false), (.int .i64 0), (.bool false), (.int .u32 0), (.slice none 0 0), (.bool false), (.int .i64 0), (.bool false), (.int .u32 0), (.slice none 0 0), (.bool false), (.int .i64 0), (.bool false), (.int .u32 0), (.slice none 0 0), (.bool false), (.int .i64 0), (.bool false), (.int .u32 0), (.slice none 0 0), (.bool false), (.int .i64 0), (.bool false), (.int .u32 0), (.slice none 0 0), (.bool false), (.int .i64 0), (.bool false), (.int .u32 0), (.slice none 0 0), (.bool false), (.int .i64 0), (.bool false), (.int .u32 0), (.slice none 0 0), (.bool false), (.int .i64 0), (.bool false), (.int .u32 0), (.slice none 0 0), (.bool false), (.int .i64 0), (.bool false), (.int .u32 0), (.slice none 0 0), (.bool false), (.int .i64 0), (.bool false), (.int .u32 0), (.slice none 0 0), (.bool false), (.int .i64 0), (.bool false), (.int .u32 0), (.slice none 0 0), (.bool false), (.int .i64 0), (.bool false), (.int .u32 0), (.slice none 0 0), (.bool false), (.int .i64 0), (.bool false), (.int .u32 0), (.slice none 0 0), (.bool false), (.int .i64 0), (.bool false), (.int .u32 0), (.slice none 0 0), (.bool false), (.int .i64 0), (.bool false), (.int .u32 0), (.slice none 0 0), (.bool false), (.int .i64 0), (.bool false), (.int .u32 0), (.slice none 0 0), (.bool false), (.int .i64 0), (.bool false), (.int .u32 0), (.slice none 0 0), (.bool false), (.int .i64 0), (.bool false), (.int .u32 0), (.slice none 0 0), (.bool false), (.int .i64 0), (.bool false), (.int .u32 0), (.slice none 0 0), (.bool false), (.int .i64 0), (.bool false), (.int .u32 0), (.slice none 0 0), (.bool false), (.int .i64 0), (.bool false), (.int .u32 0), (.slice none 0 0), (.bool false), (.int .i64 0), (.bool false), (.int .u32 0), (.slice none 0 0), (.bool false), (.int .i64 0), (.bool false), (.int .u32 0), (.slice none 0 0), (.bool false), (.int .i64 0), (.bool false), (.int .u32 0), (.slice none 0 0), (.bool false), (.int .i64 0), (.bool false), (.int .u32 0), (.slice none 0 0), (.bool false), (.int .i64 0), (.bool false), (.int .u32 0), (.slice none 0 0), (.bool false), (.int .i64 0), (.bool false), (.int .u32 0), (.slice none 0 0), (.bool false), (.int .i64 0), (.bool false), (.int .u32 0), (.slice none 0 0), (.bool false), (.int .i64 0), (.bool false), (.int .u32 0), (.slice none 0 0), (.bool false), (.int .i64 0), (.bool false), (.int .u32 0), (.slice none 0 0), (.bool false), (.int .i64 0), (.bool false), (.int .u32 0), (.slice none 0 0), (.bool false), (.int .i64 0), (.bool false), (.int .u32 0), (.slice none 0 0), (.bool false), (.int .i64 0), (.bool false), (.int .u32 0), (.slice none 0 0), (.bool false), (.int .i64 0), (.bool false), (.int .u32 0), (.slice none 0 0), (.bool false), (.int .i64 0), (.bool false), (.int .u32 0), (.slice none 0 0), (.bool false), (.int .i64 0), (.bool false), (.int .u32 0), (.slice none 0 0), (.bool false), (.int .i64 0), (.bool false), (.int .u32 0), (.slice none 0 0), (.bool false), (.int .i64 0), (.bool false), (.int .u32 0), (.slice none 0 0), (.bool false), (.int .i64 0), (.bool false), (.int .u32 0), (.slice none 0 0), (.bool false), (.int .i64 0), (.bool false), (.int .u32 0), (.slice none 0 0), (.bool false), (.int .i64 0), (.bool false), (.int .u32 0), (.slice none 0 0), (.bool false), (.int .i64 0), (.bool false), (.int .u32 0), (.slice none 0 0), (.bool false), (.int .i64 0), (.bool false), (.int .u32 0), (.slice none 0 0), (.bool false), (.int .i64 0), (.bool false), (.int .u32 0), (.slice none 0 0), (.bool false), (.int .i64 0), (.bool false), (.int .u32 0), (.slice none 0 0), (.bool false), (.int .i64 0), (.bool false), (.int .u32 0), (.slice none 0 0), (.bool false), (.int .i64 0), (.bool false), (.int .u32 0), (.slice none 0 0), (.bool false), (.int .i64 0), (.bool false), (.int .u32 0), (.slice none 0 0), (.bool false), (.int .i64 0), (.bool false), (.int .u32 0), (.slice none 0 0), (.bool false), (.int .i64 0), (.bool false), (.int .u32 0), (.slice none 0 0), (.bool false), (.int .i64 0), (.bool false), (.int .u32 0), (.slice none 0 0), (.bool false), (.int .i64 0), (.bool false), (.int .u32 0), (.slice none 0 0), (.bool false), (.int .i64 0), (.bool false), (.int .u32 0), (.slice none 0 0), (.bool false), (.int .i64 0), (.bool false), (.int .u32 0), (.slice none 0 0), (.bool false), (.int .i64 0), (.bool false), (.int .u32 0), (.slice none 0 0), (.bool false), (.int .i64 0), (.bool false), (.int .u32 0), (.slice none 0 0), (.bool false), (.int .i64 0), (.bool false), (.int .u32 0), (.slice none 0 0), (.bool false), (.int .i64 0), (.bool false), (.int .u32 0), (.slice none 0 0), (.bool false), (.int .i64 0), (.bool false), (.int .u32 0), (.slice none 0 0), (.bool false), (.int .i64 0), (.bool false), (.int .u32 0), (.slice none 0 0), (.bool false), (.int .i64 0), (.bool false), (.int .u32 0), (.slice none 0 0), (.bool false), (.int .i64 0), (.bool false), (.int .u32 0), (.slice none 0 0), (.bool false), (.int .i64 0), (.bool false), (.int .u32 0), (.slice none 0 0), (.bool false), (.int .i64 0), (.bool false), (.int .u32 0), (.slice none 0 0), (.bool false), (.int .i64 0), (.bool false), (.int .u32 0), (.slice none 0 0), (.bool false), (.int .i64 0), (.bool false), (.int .u32 0), (.slice none 0 0), (.bool false), (.int .i64 0), (.bool false), (.int .u32 0), (.slice none 0 0), (.bool false), (.int .i64 0), (.bool false), (.int .u32 0), (.slice none 0 0), (.bool false), (.int .i64 0), (.bool false), (.int .u32 0), (.slice none 0 0), (.bool false), (.int .i64 0), (.bool false), (.int .u32 0), (.slice none 0 0), (.bool false), (.int .i64 0), (.bool false), (.int .u32 0), (.slice none 0 0), (.bool false), (.int .i64 0), (.bool false), (.int .u32 0), (.slice none 0 0), (.bool false), (.int .i64 0), (.bool false), (.int .u32 0), (.slice none 0 0), (.bool false), (.int .i64 0), (.bool false), (.int .u32 0), (.slice none 0 0), (.bool false), (.int .i64 0), (.bool false), (.int .u32 0), (.slice none 0 0), (.bool false), (.int .i64 0), (.bool false), (.int .u32 0), (.slice none 0 0), (.bool false), (.int .i64 0), (.bool false), (.int .u32 0), (.slice none 0 0), (.bool false), (.int .i64 0), (.bool false), (.int .u32 0), (.slice none 0 0), (.bool false), (.int .i64 0), (.bool false), (.int .u32 0), (.slice none 0 0), (.bool false), (.int .i64 0), (.bool false), (.int .u32 0), (.slice none 0 0), (.bool false), (.int .i64 0), (.bool false), (.int .u32 0), (.slice none 0 0), (.bool false), (.int .i64 0), (.bool false), (.int .u32 0), (.slice none 0 0), (.bool false), (.int .i64 0), (.bool false), (.int .u32 0), (.slice none 0 0), (.bool false), (.int .i64 0), (.bool false), (.int .u32 0), (.slice none 0 0), (.bool false), (.int .i64 0), (.bool false), (.int .u32 0), (.slice none 0 0), (.bool false), (.int .i64 0), (.bool false), (.int .u32 0), (.slice none 0 0), (.bool false), (.int .i64 0), (.bool false), (.int .u32 0), (.slice none 0 0), (.bool false), (.int .i64 0), (.bool false), (.int .u32 0), (.slice none 0 0), (.bool false), (.int .i64 0), (.bool false), (.int .u32 0), (.slice none 0 0), (.bool false), (.int .i64 0), (.bool false), (.int .u32 0), (.slice none 0 0), (.bool false), (.int .i64 0), (.bool false), (.int .u32 0), (.slice none 0 0), (.bool false), (.int .i64 0), (.bool false), (.int .u32 0), (.slice none 0 0), (.bool false), (.int .i64 0), (.bool false), (.int .u32 0), (.slice none 0 0), (.bool false), (.int .i64 0), (.bool false), (.int .u32 0), (.slice none 0 0), (.bool false), (.int .i64 0), (.bool false), (.int .u32 0), (.slice none 0 0), (.bool false), (.int .i64 0), (.bool false), (.int .u32 0), (.slice none 0 0), (.bool false), (.int .i64 0), (.bool false), (.int .u32 0), (.slice none 0 0), (.bool false), (.int .i64 0), (.bool false), (.int .u32 0), (.slice none 0 0), (.bool false), (.int .i64 0), (.bool false), (.int .u32 0), (.slice none 0 0), (.bool false), (.int .i64 0), (.bool false), (.int .u32 0), (.slice none 0 0), (.bool false), (.int .i64 0), (.bool false), (.int .u32 0), (.slice none 0 0), (.bool false), (.int .i64 0), (.bool false), (.int .u32 0), (.slice none 0 0), (.bool false), (.int .i64 0), (.bool false), (.int .u32 0), (.slice none 0 0), (.bool false), (.int .i64 0), (.bool false), (.int .u32 0), (.slice none 0 0), (.bool false), (.int .i64 0), (.bool false), (.int .u32 0), (.slice none 0 0), (.bool false), (.int .i64 0), (.bool false), (.int .u32 0), (.slice none 0 0), (.bool false), (.int .i64 0), (.bool false), (.int .u32 0), (.slice none 0 0), (.bool false), (.int .i64 0), (.bool false), (.int .u32 0), (.slice none 0 0), (.bool false), (.int .i64 0), (.bool false), (.int .u32 0), (.slice none 0 0), (.bool false), (.int .i64 0), (.bool false), (.int .u32 0), (.slice none 0 0), (.bool false), (.int .i64 0), (.bool false), (.int .u32 0), (.slice none 0 0), (.bool false), (.int .i64 0), (.bool false), (.int .u32 0), (.slice none 0 0), (.bool false), (.int .i64 0), (.bool false), (.int .u32 0), (.slice none 0 0), (.bool false), (.int .i64 0), (.bool false), (.int .u32 0), (.slice none 0 0), (.bool false), (.int .i64 0), (.bool false), (.int .u32 0), (.slice none 0 0), (.bool false), (.int .i64 0), (.bool false), (.int .u32 0), (.slice none 0 0), (.bool false), (.int .i64 0), (.bool false), (.int .u32 0), (.slice none 0 0), (.bool false), (.int .i64 0), (.bool false), (.int .u32 0), (.slice none 0 0), (.bool false), (.int .i64 0), (.bool false), (.int .u32 0), (.slice none 0 0), (.bool false), (.int .i64 0), (.bool false), (.int .u32 0), (.slice none 0 0), (.bool false), (.int .i64 0), (.bool false), (.int .u32 0), (.slice none 0 0), (.bool false), (.int .i64 0), (.bool false), (.int .u32 0), (.slice none 0 0)]) := fun w => Tryz.zeroValue71 w
theorem st71 : StructT Tryz.prog 71 [(.pointer none), (.bool false), (.int .i64 0), (.bool false), (.int .u32 0), (.slice none 0 0), (.bool false), (.int .i64 0), (.bool false), (.int .u32 0), (.slice none 0 0), (.bool false), (.int .i64 0), (.bool false), (.int .u32 0), (.slice none 0 0), (.bool false), (.int .i64 0), (.bool false), (.int .u32 0), (.slice none 0 0), (.bool false), (.int .i64 0), (.bool false), (.int .u32 0), (.slice none 0 0), (.bool false), (.int .i64 0), (.bool false), (.int .u32 0), (.slice none 0 0), (.bool false), (.int .i64 0), (.bool false), (.int .u32 0), (.slice none 0 0), (.bool false), (.int .i64 0), (.bool false), (.int .u32 0), (.slice none 0 0), (.bool false), (.int .i64 0), (.bool false), (.int .u32 0), (.slice none 0 0), (.bool false), (.int .i64 0), (.bool false), (.int .u32 0), (.slice none 0 0), (.bool false), (.int .i64 0), (.bool false), (.int .u32 0), (.slice none 0 0), (.bool false), (.int .i64 0), (.bool false), (.int .u32 0), (.slice none 0 0), (.bool false), (.int .i64 0), (.bool false), (.int .u32 0), (.slice none 0 0), (.bool false), (.int .i64 0), (.bool false), (.int .u32 0), (.slice none 0 0), (.bool false), (.int .i64 0), (.bool false), (.int .u32 0), (.slice none 0 0), (.bool false), (.int .i64 0), (.bool false), (.int .u32 0), (.slice none 0 0), (.bool false), (.int .i64 0), (.bool false), (.int .u32 0), (.slice none 0 0), (.bool false), (.int .i64 0), (.bool false), (.int .u32 0), (.slice none 0 0), (.bool false), (.int .i64 0), (.bool false), (.int .u32 0), (.slice none 0 0), (.bool false), (.int .i64 0), (.bool false), (.int .u32 0), (.slice none 0 0), (.bool false), (.int .i64 0), (.bool false), (.int .u32 0), (.slice none 0 0), (.bool false), (.int .i64 0), (.bool false), (.int .u32 0), (.slice none 0 0), (.bool false), (.int .i64 0), (.bool false), (.int .u32 0), (.slice none 0 0), (.bool false), (.int .i64 0), (.bool false), (.int .u32 0), (.slice none 0 0), (.bool false), (.int .i64 0), (.bool false), (.int .u32 0), (.slice none 0 0), (.bool false), (.int .i64 0), (.bool false), (.int .u32 0), (.slice none 0 0), (.bool false), (.int .i64 0), (.bool false), (.int .u32 0), (.slice none 0 0), (.bool false), (.int .i64 0), (.bool false), (.int .u32 0), (.slice none 0 0), (.bool false), (.int .i64 0), (.bool false), (.int .u32 0), (.slice none 0 0), (.bool false), (.int .i64 0), (.bool false), (.int .u32 0), (.slice none 0 0), (.bool false), (.int .i64 0), (.bool false), (.int .u32 0), (.slice none 0 0), (.bool false), (.int .i64 0), (.bool false), (.int .u32 0), (.slice none 0 0), (.bool false), (.int .i64 0), (.bool false), (.int .u32 0), (.slice none 0 0), (.bool false), (.int .i64 0), (.bool false), (.int .u32 0), (.slice none 0 0), (.bool false), (.int .i64 0), (.bool false), (.int .u32 0), (.slice none 0 0), (.bool false), (.int .i64 0), (.bool false), (.int .u32 0), (.slice none 0 0), (.bool false), (.int .i64 0), (.bool false), (.int .u32 0), (.slice none 0 0), (.bool false), (.int .i64 0), (.bool false), (.int .u32 0), (.slice none 0 0), (.bool false), (.int .i64 0), (.bool false), (.int .u32 0), (.slice none 0 0), (.bool false), (.int .i64 0), (.bool false), (.int .u32 0), (.slice none 0 0), (.bool false), (.int .i64 0), (.bool false), (.int .u32 0), (.slice none 0 0), (.bool false), (.int .i64 0), (.bool false), (.int .u32 0), (.slice none 0 0), (.bool false), (.int .i64 0), (.bool false), (.int .u32 0), (.slice none 0 0), (.bool false), (.int .i64 0), (.bool false), (.int .u32 0), (.slice none 0 0), (.bool false), (.int .i64 0), (.bool false), (.int .u32 0), (.slice none 0 0), (.bool false), (.int .i64 0), (.bool false), (.int .u32 0), (.slice none 0 0), (.bool false), (.int .i64 0), (.bool false), (.int .u32 0), (.slice none 0 0), (.bool false), (.int .i64 0), (.bool false), (.int .u32 0), (.slice none 0 0), (.bool false), (.int .i64 0), (.bool false), (.int .u32 0), (.slice none 0 0), (.bool false), (.int .i64 0), (.bool false), (.int .u32 0), (.slice none 0 0), (.bool false), (.int .i64 0), (.bool false), (.int .u32 0), (.slice none 0 0), (.bool false), (.int .i64 0), (.bool false), (.int .u32 0), (.slice none 0 0), (.bool false), (.int .i64 0), (.bool false), (.int .u32 0), (.slice none 0 0), (.bool false), (.int .i64 0), (.bool false), (.int .u32 0), (.slice none 0 0), (.bool false), (.int .i64 0), (.bool false), (.int .u32 0), (.slice none 0 0), (.bool false), (.int .i64 0), (.bool false), (.int .u32 0), (.slice none 0 0), (.bool false), (.int .i64 0), (.bool false), (.int .u32 0), (.slice none 0 0), (.bool false), (.int .i64 0), (.bool false), (.int .u32 0), (.slice none 0 0), (.bool false), (.int .i64 0), (.bool false), (.int .u32 0), (.slice none 0 0), (.bool false), (.int .i64 0), (.bool false), (.int .u32 0), (.slice none 0 0), (.bool false), (.int .i64 0), (.bool false), (.int .u32 0), (.slice none 0 0), (.bool false), (.int .i64 0), (.bool false), (.int .u32 0), (.slice none 0 0), (.bool false), (.int .i64 0), (.bool false), (.int .u32 0), (.slice none 0 0), (.bool false), (.int .i64 0), (.bool false), (.int .u32 0), (.slice none 0 0), (.bool false), (.int .i64 0), (.bool false), (.int .u32 0), (.slice none 0 0), (.bool false), (.int .i64 0), (.bool false), (.int .u32 0), (.slice none 0 0), (.bool false), (.int .i64 0), (.bool false), (.int .u32 0), (.slice none 0 0), (.bool false), (.int .i64 0), (.bool false), (.int .u32 0), (.slice none 0 0), (.bool false), (.int .i64 0), (.bool false), (.int .u32 0), (.slice none 0 0), (.bool false), (.int .i64 0), (.bool false), (.int .u32 0), (.slice none 0 0), (.bool false), (.int .i64 0), (.bool false), (.int .u32 0), (.slice none 0 0), (.bool false), (.int .i64 0), (.bool false), (.int .u32 0), (.slice none 0 0), (.bool false), (.int .i64 0), (.bool false), (.int .u32 0), (.slice none 0 0), (.bool false), (.int .i64 0), (.bool false), (.int .u32 0), (.slice none 0 0), (.bool false), (.int .i64 0), (.bool false), (.int .u32 0), (.slice none 0 0), (.bool false), (.int .i64 0), (.bool false), (.int .u32 0), (.slice none 0 0), (.bool false), (.int .i64 0), (.bool false), (.int .u32 0), (.slice none 0 0), (.bool false), (.int .i64 0), (.bool false), (.int .u32 0), (.slice none 0 0), (.bool false), (.int .i64 0), (.bool false), (.int .u32 0), (.slice none 0 0), (.bool false), (.int .i64 0), (.bool false), (.int .u32 0), (.slice none 0 0), (.bool false), (.int .i64 0), (.bool false), (.int .u32 0), (.slice none 0 0), (.bool false), (.int .i64 0), (.bool false), (.int .u32 0), (.slice none 0 0), (.bool false), (.int .i64 0), (.bool false), (.int .u32 0), (.slice none 0 0), (.bool false), (.int .i64 0), (.bool false), (.int .u32 0), (.slice none 0 0), (.bool false), (.int .i64 0), (.bool false), (.int .u32 0), (.slice none 0 0), (.bool false), (.int .i64 0), (.bool false), (.int .u32 0), (.slice none 0 0), (.bool false), (.int .i64 0), (.bool false), (.int .u32 0), (.slice none 0 0), (.bool false), (.int .i64 0), (.bool false), (.int .u32 0), (.slice none 0 0), (.bool false), (.int .i64 0), (.bool false), (.int .u32 0), (.slice none 0 0), (.bool false), (.int .i64 0), (.bool false), (.int .u32 0), (.slice none 0 0), (.bool false), (.int .i64 0), (.bool false), (.int .u32 0), (.slice none 0 0), (.bool false), (.int .i64 0), (.bool false), (.int .u32 0), (.slice none 0 0), (.bool false), (.int .i64 0), (.bool false), (.int .u32 0), (.slice none 0 0), (.bool false), (.int .i64 0), (.bool false), (.int .u32 0), (.slice none 0 0), (.bool false), (.int .i64 0), (.bool false), (.int .u32 0), (.slice none 0 0), (.bool false), (.int .i64 0), (.bool false), (.int .u32 0), (.slice none 0 0), (.bool false), (.int .i64 0), (.bool false), (.int .u32 0), (.slice none 0 0), (.bool false), (.int .i64 0), (.bool false), (.int .u32 0), (.slice none 0 0), (.bool false), (.int .i64 0), (.bool false), (.int .u32 0), (.slice none 0 0), (.bool false), (.int .i64 0), (.bool false), (.int .u32 0), (.slice none 0 0), (.bool false), (.int .i64 0), (.bool false), (.int .u32 0), (.slice none 0 0), (.bool false), (.int .i64 0), (.bool false), (.int .u32 0), (.slice none 0 0), (.bool false), (.int .i64 0), (.bool false), (.int .u32 0), (.slice none 0 0), (.bool false), (.int .i64 0), (.bool false), (.int .u32 0), (.slice none 0 0), (.bool false), (.int .i64 0), (.bool false), (.int .u32 0), (.slice none 0 0), (.bool false), (.int .i64 0), (.bool false), (.int .u32 0), (.slice none 0 0), (.bool false), (.int .i64 0), (.bool false), (.int .u32 0), (.slice none 0 0), (.bool false), (.int .i64 0), (.bool false), (.int .u32 0), (.slice none 0 0), (.bool false), (.int .i64 0), (.bool false), (.int .u32 0), (.slice none 0 0), (.bool false), (.int .i64 0), (.bool false), (.int .u32 0), (.slice none 0 0), (.bool false), (.int .i64 0), (.bool false), (.int .u32 0), (.slice none 0 0), (.bool false), (.int .i64 0), (.bool false), (.int .u32 0), (.slice none 0 0), (.bool false), (.int .i64 0), (.bool false), (.int .u32 0), (.slice none 0 0), (.bool false), (.int .i64 0), (.bool false), (.int .u32 0), (.slice none 0 0), (.bool false), (.int .i64 0), (.bool false), (.int .u32 0), (.slice none 0 0), (.bool false), (.int .i64 0), (.bool false), (.int .u32 0), (.slice none 0 0), (.bool false), (.int .i64 0), (.bool false), (.int .u32 0), (.slice none 0 0), (.bool false), (.int .i64 0), (.bool false), (.int .u32 0), (.slice none 0 0), (.bool false), (.int .i64 0), (.bool false), (.int .u32 0), (.slice none 0 0), (.bool false), (.int .i64 0), (.bool false), (.int .u32 0), (.slice none 0 0), (.bool false), (.int .i64 0), (.bool false), (.int .u32 0), (.slice none 0 0), (.bool false), (.int .i64 0), (.bool false), (.int .u32 0), (.slice none 0 0), (.bool false), (.int .i64 0), (.bool false), (.int .u32 0), (.slice none 0 0), (.bool false), (.int .i64 0), (.bool false), (.int .u32 0), (.slice none 0 0), (.bool false), (.int .i64 0), (.bool false), (.int .u32 0), (.slice none 0 0), (.bool false), (.int .i64 0), (.bool false), (.int .u32 0), (.slice none 0 0), (.bool false), (.int .i64 0), (.bool false), (.int .u32 0), (.slice none 0 0), (.bool false), (.int .i64 0), (.bool false), (.int .u32 0), (.slice none 0 0), (.bool false), (.int .i64 0), (.bool false), (.int .u32 0), (.slice none 0 0), (.bool false), (.int .i64 0), (.bool false), (.int .u32 0), (.slice none 0 0), (.bool false), (.int .i64 0), (.bool false), (.int .u32 0), (.slice none 0 0), (.bool false), (.int .i64 0), (.bool false), (.int .u32 0), (.slice none 0 0), (.bool false), (.int .i64 0), (.bool false), (.int .u32 0), (.slice none 0 0), (.bool false), (.int .i64 0), (.bool false), (.int .u32 0), (.slice none 0 0), (.bool false), (.int .i64 0), (.bool false), (.int .u32 0), (.slice none 0 0), (.bool false), (.int .i64 0), (.bool false), (.int .u32 0), (.slice none 0 0), (.bool false), (.int .i64 0), (.bool false), (.int .u32 0), (.slice none 0 0), (.bool false), (.int .i64 0), (.bool false), (.int .u32 0), (.slice none 0 0), (.bool false), (.int .i64 0), (.bool false), (.int .u32 0), (.slice none 0 0), (.bool false), (.int .i64 0), (.bool false), (.int .u32 0), (.slice none 0 0), (.bool false), (.int .i64 0), (.bool false), (.int .u32 0), (.slice none 0 0), (.bool false), (.int .i64 0), (.bool false), (.int .u32 0), (.slice none 0 0), (.bool false), (.int .i64 0), (.bool false), (.int .u32 0), (.slice none 0 0), (.bool false), (.int .i64 0), (.bool false), (.int .u32 0), (.slice none 0 0), (.bool false), (.int .i64 0), (.bool false), (.int .u32 0), (.slice none 0 0), (.bool false), (.int .i64 0), (.bool false), (.int .u32 0), (.slice none 0 0), (.bool false), (.int .i64 0), (.bool false), (.int .u32 0), (.slice none 0 0), (.bool false), (.int .i64 0), (.bool false), (.int .u32 0), (.slice none 0 0), (.bool false), (.int .i64 0), (.bool false), (.int .u32 0), (.slice none 0 0), (.bool false), (.int .i64 0), (.bool false), (.int .u32 0), (.slice none 0 0), (.bool false), (.int .i64 0), (.bool false), (.int .u32 0), (.slice none 0 0), (.bool false), (.int .i64 0), (.bool false), (.int .u32 0), (.slice none 0 0), (.bool false), (.int .i64 0), (.bool false), (.int .u32 0), (.slice none 0 0), (.bool false), (.int .i64 0), (.bool false), (.int .u32 0), (.slice none 0 0), (.bool false), (.int .i64 0), (.bool false), (.int .u32 0), (.slice none 0 0), (.bool false), (.int .i64 0), (.bool false), (.int .u32 0), (.slice none 0 0), (.bool false), (.int .i64 0), (.bool false), (.int .u32 0), (.slice none 0 0), (.bool false), (.int .i64 0), (.bool false), (.int .u32 0), (.slice none 0 0), (.bool false), (.int .i64 0), (.bool false), (.int .u32 0), (.slice none 0 0), (.bool false), (.int .i64 0), (.bool false), (.int .u32 0), (.slice none 0 0), (.bool false), (.int .i64 0), (.bool false), (.int .u32 0), (.slice none 0 0), (.bool false), (.int .i64 0), (.bool false), (.int .u32 0), (.slice none 0 0), (.bool false), (.int .i64 0), (.bool false), (.int .u32 0), (.slice none 0 0), (.bool false), (.int .i64 0), (.bool false), (.int .u32 0), (.slice none 0 0), (.bool false), (.int .i64 0), (.bool false), (.int .u32 0), (.slice none 0 0), (.bool false), (.int .i64 0), (.bool false), (.int .u32 0), (.slice none 0 0), (.bool false), (.int .i64 0), (.bool false), (.int .u32 0), (.slice none 0 0), (.bool false), (.int .i64 0), (.bool false), (.int .u32 0), (.slice none 0 0), (.bool false), (.int .i64 0), (.bool false), (.int .u32 0), (.slice none 0 0), (.bool false), (.int .i64 0), (.bool false), (.int .u32 0), (.slice none 0 0), (.bool false), (.int .i64 0), (.bool false), (.int .u32 0), (.slice none 0 0), (.bool false), (.int .i64 0), (.bool false), (.int .u32 0), (.slice none 0 0), (.bool false), (.int .i64 0), (.bool false), (.int .u32 0), (.slice none 0 0), (.bool false), (.int .i64 0), (.bool false), (.int .u32 0), (.slice none 0 0), (.bool false), (.int .i64 0), (.bool false), (.int .u32 0), (.slice none 0 0), (.bool false), (.int .i64 0), (.bool false), (.int .u32 0), (.slice none 0 0), (.bool false), (.int .i64 0), (.bool false), (.int .u32 0), (.slice none 0 0), (.bool false), (.int .i64 0), (.bool false), (.int .u32 0), (.slice none 0 0), (.bool false), (.int .i64 0), (.bool false), (.int .u32 0), (.slice none 0 0), (.bool false), (.int .i64 0), (.bool false), (.int .u32 0), (.slice none 0 0), (.bool false), (.int .i64 0), (.bool false), (.int .u32 0), (.slice none 0 0), (.bool false), (.int .i64 0), (.bool false), (.int .u32 0), (.slice none 0 0), (.bool false), (.int .i64 0), (.bool false), (.int .u32 0), (.slice none 0 0), (.bool false), (.int .i64 0), (.bool false), (.int .u32 0), (.slice none 0 0), (.bool false), (.int .i64 0), (.bool false), (.int .u32 0), (.slice none 0 0), (.bool false), (.int .i64 0), (.bool false), (.int .u32 0), (.slice none 0 0), (.bool false), (.int .i64 0), (.bool false), (.int .u32 0), (.slice none 0 0), (.bool false), (.int .i64 0), (.bool false), (.int .u32 0), (.slice none 0 0), (.bool false), (.int .i64 0), (.bool false), (.int .u32 0), (.slice none 0 0), (.bool false), (.int .i64 0), (.bool false), (.int .u32 0), (.slice none 0 0), (.bool false), (.int .i64 0), (.bool false), (.int .u32 0), (.slice none 0 0), (.bool false), (.int .i64 0), (.bool false), (.int .u32 0), (.slice none 0 0), (.bool false), (.int .i64 0), (.bool false), (.int .u32 0), (.slice none 0 0), (.bool false), (.int .i64 0), (.bool false), (.int .u32 0), (.slice none 0 0), (.bool false), (.int .i64 0), (.bool false), (.int .u32 0), (.slice none 0 0), (.bool false), (.int .i64 0), (.bool false), (.int .u32 0), (.slice none 0 0), (.bool false), (.int .i64 0), (.bool false), (.int .u32 0), (.slice none 0 0), (.bool false), (.int .i64 0), (.bool false), (.int .u32 0), (.slice none 0 0), (.bool false), (.int .i64 0), (.bool false), (.int .u32 0), (.slice none 0 0), (.bool false), (.int .i64 0), (.bool false), (.int .u32 0), (.slice none 0 0), (.bool false), (.int .i64 0), (.bool false), (.int .u32 0), (.slice none 0 0), (.bool false), (.int .i64 0), (.bool false), (.int .u32 0), (.slice none 0 0), (.bool false), (.int .i64 0), (.bool false), (.int .u32 0), (.slice none 0 0), (.bool false), (.int .i64 0), (.bool false), (.int .u32 0), (.slice none 0 0), (.bool false), (.int .i64 0), (.bool false), (.int .u32 0), (.slice none 0 0), (.bool false), (.int .i64 0), (.bool false), (.int .u32 0), (.slice none 0 0), (.bool false), (.int .i64 0), (.bool false), (.int .u32 0), (.slice none 0 0), (.bool false), (.int .i64 0), (.bool false), (.int .u32 0), (.slice none 0 0), (.bool false), (.int .i64 0), (.bool false), (.int .u32 0), (.slice none 0 0), (.bool false), (.int .i64 0), (.bool false), (.int .u32 0), (.slice none 0 0), (.bool false), (.int .i64 0), (.bool false), (.int .u32 0), (.slice none 0 0), (.bool false), (.int .i64 0), (.bool false), (.int .u32 0), (.slice none 0 0), (.bool false), (.int .i64 0), (.bool false), (.int .u32 0), (.slice none 0 0), (.bool false), (.int .i64 0), (.bool false), (.int .u32 0), (.slice none 0 0), (.bool false), (.int .i64 0), (.bool false), (.int .u32 0), (.slice none 0 0), (.bool false), (.int .i64 0), (.bool false), (.int .u32 0), (.slice none 0 0), (.bool false), (.int .i64 0), (.bool false), (.int .u32 0), (.slice none 0 0), (.bool false), (.int .i64 0), (.bool false), (.int .u32 0), (.slice none 0 0), (.bool false), (.int .i64 0), (.bool false), (.int .u32 0), (.slice none 0 0), (.bool false), (.int .i64 0), (.bool false), (.int .u32 0), (.slice none 0 0), (.bool false), (.int .i64 0), (.bool false), (.int .u32 0), (.slice none 0 0), (.bool false), (.int .i64 0), (.bool false), (.int .u32 0), (.slice none 0 0), (.bool false), (.int .i64 0), (.bool false), (.int .u32 0), (.slice none 0 0), (.bool false), (.int .i64 0), (.bool false), (.int .u32 0), (.slice none 0 0), (.bool false), (.int .i64 0), (.bool false), (.int .u32 0), (.slice none 0 0), (.bool false), (.int .i64 0), (.bool false), (.int .u32 0), (.slice none 0 0), (.bool false), (.int .i64 0), (.bool false), (.int .u32 0), (.slice none 0 0), (.bool false), (.int .i64 0), (.bool false), (.int .u32 0), (.slice none 0 0), (.bool false), (.int .i64 0), (.bool false), (.int .u32 0), (.slice none 0 0), (.bool false), (.int .i64 0), (.bool false), (.int .u32 0), (.slice none 0 0), (.bool false), (.int .i64 0), (.bool false), (.int .u32 0), (.slice none 0 0), (.bool false), (.int .i64 0), (.bool false), (.int .u32 0), (.slice none 0 0), (.bool false), (.int .i64 0), (.bool false), (.int .u32 0), (.slice none 0 0), (.bool false), (.int .i64 0), (.bool false), (.int .u32 0), (.slice none 0 0), (.bool false), (.int .i64 0), (.bool false), (.int .u32 0), (.slice none 0 0), (.bool false), (.int .i64 0), (.bool false), (.int .u32 0), (.slice none 0 0), (.bool false), (.int .i64 0), (.bool false), (.int .u32 0), (.slice none 0 0), (.bool false), (.int .i64 0), (.bool false), (.int .u32 0), (.slice none 0 0), (.bool false), (.int .i64 0), (.bool false), (.int .u32 0), (.slice none 0 0), (.bool false), (.int .i64 0), (.bool false), (.int .u32 0), (.slice none 0 0), (.bool false), (.int .i64 0), (.bool false), (.int .u32 0), (.slice none 0 0), (.bool false), (.int .i64 0), (.bool false), (.int .u32 0), (.slice none 0 0), (.bool false), (.int .i64 0), (.bool false), (.int .u32 0), (.slice none 0 0), (.bool false), (.int .i64 0), (.bool false), (.int .u32 0), (.slice none 0 0), (.bool false), (.int .i64 0), (.bool false), (.int .u32 0), (.slice none 0 0), (.bool false), (.int .i64 0), (.bool false), (.int .u32 0), (.slice none 0 0), (.bool false), (.int .i64 0), (.bool false), (.int .u32 0), (.slice none 0 0), (.bool false), (.int .i64 0), (.bool false), (.int .u32 0), (.slice none 0 0), (.bool false), (.int .i64 0), (.bool false), (.int .u32 0), (.slice none 0 0), (.bool false), (.int .i64 0), (.bool false), (.int .u32 0), (.slice none 0 0), (.bool false), (.int .i64 0), (.bool false), (.int .u32 0), (.slice none 0 0), (.bool false), (.int .i64 0), (.bool false), (.int .u32 0), (.slice none 0 0), (.bool false), (.int .i64 0), (.bool false), (.int .u32 0), (.slice none 0 0), (.bool false), (.int .i64 0), (.bool false), (.int .u32 0), (.slice none 0 0), (.bool false), (.int .i64 0), (.bool false), (.int .u32 0), (.slice none 0 0), (.bool false), (.int .i64 0), (.bool false), (.int .u32 0), (.slice none 0 0)] [(0, 1), (1, 1280)] := ⟨z71, ⟨_, Tryz.underlying71, fun w => by simp [Tryz.sizeOf51, Tryz.sizeOf69]⟩⟩
theorem z35 : Zero Tryz.prog 35 (.agg #[(.int .i64 0), (.string ByteArray.empty), (.string ByteArray.empty), (.string ByteArray.empty), (.int .u64 0), (.int .u32 0), (.slice none 0 0), (.int .u32 0), (.int .u32 0), (.int .u64 0), (.int .u32 0), (.int .u32 0), (.int .u32 0), (.int .u32 0), (.int .u32 0)]) := fun w => Tryz.zeroValue35 w
theorem st35 : StructT Tryz.prog 35 [(.int .i64 0), (.string ByteArray.empty), (.string ByteArray.empty), (.string ByteArray.empty), (.int .u64 0), (.int .u32 0), (.slice none 0 0), (.int .u32 0), (.int .u32 0), (.int .u64 0), (.int .u32 0), (.int .u32 0), (.int .u32 0), (.int .u32 0), (.int .u32 0)] [(0, 1), (1, 1), (2, 1), (3, 1), (4, 1), (5, 1), (6, 1), (7, 1), (8, 7)] := ⟨z35, ⟨_, Tryz.underlying35, fun w => by simp [Tryz.sizeOf3, Tryz.sizeOf9, Tryz.sizeOf25, Tryz.sizeOf27, Tryz.sizeOf28, Tryz.sizeOf30]⟩⟩
theorem fa32_0 : FieldAt Tryz.prog 32 0 0 := fun w a => by simp [Instr.fieldAt, Instr.sureAddr, fieldPlace, Tryz.runUnderlying32, Tryz.sizeOf3]
theorem fa32_2 : FieldAt Tryz.prog 32 2 2 := fun w a => by simp [Instr.fieldAt, Instr.sureAddr, fieldPlace, Tryz.runUnderlying32, Tryz.sizeOf9]
theorem fa32_1 : FieldAt Tryz.prog 32 1 1 := fun w a => by simp [Instr.fieldAt, Instr.sureAddr, fieldPlace, Tryz.runUnderlying32, Tryz.sizeOf3]
theorem fa32_5 : FieldAt Tryz.prog 32 5 5 := fun w a => by simp [Instr.fieldAt, Instr.sureAddr, fieldPlace, Tryz.runUnderlying32, Tryz.sizeOf30]
theorem fa32_3 : FieldAt Tryz.prog 32 3 3 := fun w a => by simp [Instr.fieldAt, Instr.sureAddr, fieldPlace, Tryz.runUnderlying32, Tryz.sizeOf25]
theorem z68 : Zero Tryz.prog 68 (.agg #[(.bool false), (.int .i64 0), (.bool false), (.int .u32 0), (.slice none 0 0), (.bool false), (.int .i64 0), (.bool false), (.int .u32 0), (.slice none 0 0), (.bool false), (.int .i64 0), (.bool false), (.int .u32 0), (.slice none 0 0), (.bool false), (.int .i64 0), (.bool false), (.int .u32 0), (.slice none 0 0), (.bool false), (.int .i64 0), (.bool false), (.int .u32 0), (.slice none 0 0), (.bool false), (.int .i64 0), (.bool false), (.int .u32 0), (.slice none 0 0), (.bool false), (.int .i64 0), (.bool false), (.int .u32 0), (.slice none 0 0), (.bool false), (.int .i64 0), (.bool false), (.int .u32 0), (.slice none 0 0), (.bool false), (.int .i64 0), (.bool false), (.int .u32 0), (.slice none 0 0), (.bool false), (.int .i64 0), (.bool false), (.int .u32 0), (.slice none 0 0), (.bool false), (.int .i64 0), (.bool false), (.int .u32 0), (.slice none 0 0), (.bool false), (.int .i64 0), (.bool false), (.int .u32 0), (.slice none 0 0), (.bool false), (.int .i64 0), (.bool false), (.int .u32 0), (.slice none 0 0), (.bool false), (.int .i64 0), (.bool false), (.int .u32 0), (.slice none 0 0), (.bool false), (.int .i64 0), (.bool false), (.int .u32 0), (.slice none 0 0), (.bool false), (.int .i64 0), (.bool false), (.int .u32 0), (.slice none 0 0)]) := fun w => Tryz.zeroValue68 w
theorem sl43 : Slc Tryz.prog 43 46 17 160 (.agg #[(.int .i64 0), (.int .i64 0), (.int .i64 0), (.string ByteArray.empty), (.string ByteArray.empty), (.string ByteArray.empty), (.int .u64 0), (.int .u32 0), (.slice none 0 0), (.int .u32 0), (.int .u32 0), (.int .u64 0), (.int .u32 0), (.int .u32 0), (.int .u32 0), (.int .u32 0), (.int .u32 0)]) := Slc.of Tryz.underlying43 (by kernel_rfl) rfl (by decide)
theorem fa46_2 : FieldAt Tryz.prog 46 2 2 := fun w a => by simp [Instr.fieldAt, Instr.sureAddr, fieldPlace, Tryz.runUnderlying46, Tryz.sizeOf35]
theorem fa46_1 : FieldAt Tryz.prog 46 1 1 := fun w a => by simp [Instr.fieldAt, Instr.sureAddr, fieldPlace, Tryz.runUnderlying46, Tryz.sizeOf3]
end Go.Proofs.YtlefpllcgcicpaaGreatDoor
namespace Go.Proofs.YtlefpllcgcicpaaGreatDoor
open Go.Sx
set_option linter.unusedVariables false
set_option linter.unusedSimpArgs false
set_option maxRecDepth 100000
set_option maxHeartbeats 4000000

def Pq.cs (b : Nat) : List Value := [.pointer (some ⟨b, 0, none⟩)]
theorem Pq.len (b : Nat) : (Pq.cs b).length = 1 := rfl
theorem Pq.one (b : Nat) : ∀ v ∈ Pq.cs b, v.oneCell' = true := fun v hv => by rw [List.mem_singleton.1 hv]; rfl
/-- pointers to these blocks -/
abbrev pts (l : List Nat) : List Value := flat Pq.cs l
theorem pts_len (l : List Nat) : (pts l).length = l.length := by rw [flat_len Pq.len, Nat.mul_one]
theorem pts_one (l : List Nat) : ∀ v ∈ pts l, v.oneCell' = true := flat_one' Pq.one l
abbrev rowP (p : Option Addr) (c : Nat) (l : List Nat) : HProp := row 92 1 (.slice p l.length c) l.length (pts l)
def insAt (l : List Nat) (i y : Nat) : List Nat := l.take i ++ y :: l.drop i
theorem insAt_len {l : List Nat} {i y : Nat} (h : i ≤ l.length) : (insAt l i y).length = l.length + 1 := by simp [insAt]; omega
theorem insAt_end (l : List Nat) (y : Nat) : insAt l l.length y = l ++ [y] := by simp [insAt]
theorem resl_zero (b c h : Nat) : resl b 0 c 1 0 h = .slice (some ⟨b, 0, none⟩) h c := by unfold resl; split <;> simp
theorem resl_lt {b c l h : Nat} (hl : l < c) : resl b 0 c 1 l h = .slice (some ⟨b, l, none⟩) (h - l) (c - l) := by unfold resl; rw [if_neg (by omega), Nat.zero_add, Nat.mul_one]
theorem rdn_seg {e : TypeId} {fr : Nat × Nat} {b : Nat} {cs : List Value} {l : List Nat} (h : cs.take (l.length * 1) = pts l) (j m : Nat) : RdN (own b (.cells cs.toArray e fr)) b j (pts ((l.drop j).take m)) := fun i v hv => by
  refine Rd.own ?_
  have h1 : (pts l)[j + i]? = some v := by
    have e1 : pts ((l.drop j).take m) = ((pts l).drop j).take m := by
      have h2 := flat_take Pq.len (l.drop j) m
      have h3 := flat_drop Pq.len l j
      rw [Nat.mul_one] at h2 h3
      rw [pts, ← h2, ← h3]
    rw [e1, List.getElem?_take] at hv
    split at hv
    · rwa [List.getElem?_drop] at hv
    · cases hv
  rw [← h, List.getElem?_take] at h1
  split at h1
  · exact h1
  · cases h1
theorem rdn_drop {e : TypeId} {fr : Nat × Nat} {b : Nat} {cs : List Value} {l : List Nat} (h : cs.take (l.length * 1) = pts l) (j : Nat) : RdN (own b (.cells cs.toArray e fr)) b j (pts (l.drop j)) := by
  have h1 := rdn_seg (e := e) (fr := fr) (b := b) h j (l.length - j)
  rwa [List.take_of_length_le (by simp)] at h1
theorem rdn_pre {e : TypeId} {fr : Nat × Nat} {b : Nat} {cs : List Value} {l : List Nat} (h : cs.take (l.length * 1) = pts l) (i : Nat) : RdN (own b (.cells cs.toArray e fr)) b 0 (pts (l.take i)) := by
  have h1 := rdn_seg (e := e) (fr := fr) (b := b) h 0 i
  rwa [List.drop_zero] at h1
theorem over_take {cs vs : List Value} {o k : Nat} (h : o + vs.length ≤ cs.length) (hk : o + vs.length ≤ k) : (over cs o vs).take k = cs.take o ++ vs ++ (cs.drop (o + vs.length)).take (k - (o + vs.length)) := by
  unfold over
  rw [List.take_append, List.take_of_length_le (by simp only [List.length_append, List.length_take]; omega)]
  congr 2
  simp only [List.length_append, List.length_take]; omega
/-- grown: a new row -/
theorem ins_grow {l : List Nat} {i y cap : Nat} {z : Value} (hi : i < l.length) (hc : l.length + 1 ≤ cap) :
    (over (over (pts (l.take i) ++ List.replicate (cap - i) z) i (pts [y])) (i + 1) (pts (l.drop i))).take ((insAt l i y).length * 1) = pts (insAt l i y) ∧ (over (over (pts (l.take i) ++ List.replicate (cap - i) z) i (pts [y])) (i + 1) (pts (l.drop i))).length = cap * 1 := by
  have l1 : (pts (l.take i)).length = i := by rw [pts_len, List.length_take]; omega
  have l2 : (pts [y]).length = 1 := rfl
  have l3 : (pts (l.drop i)).length = l.length - i := by rw [pts_len, List.length_drop]
  have l0 : (pts (l.take i) ++ List.replicate (cap - i) z).length = cap := by rw [List.length_append, l1, List.length_replicate]; omega
  have e1 : over (pts (l.take i) ++ List.replicate (cap - i) z) i (pts [y]) = pts (l.take i) ++ pts [y] ++ List.replicate (cap - i - 1) z := by
    unfold over
    rw [l2, List.take_append_of_le_length (by omega), List.take_of_length_le (by omega), List.drop_append, List.drop_of_length_le (by omega), List.nil_append, List.drop_replicate, l1]
    congr 2; omega
  have l4 : (pts (l.take i) ++ pts [y] ++ List.replicate (cap - i - 1) z).length = cap := by simp only [List.length_append, l1, l2, List.length_replicate]; omega
  rw [e1]
  refine ⟨?_, by rw [over_length (by rw [l3, l4]; omega), l4, Nat.mul_one]⟩
  rw [insAt_len (by omega), over_take (by rw [l3, l4]; omega) (by rw [l3]; omega), l3]
  have e2 : (pts (l.take i) ++ pts [y] ++ List.replicate (cap - i - 1) z).take (i + 1) = pts (l.take i) ++ pts [y] := by
    rw [List.take_append_of_le_length (by rw [List.length_append, l1, l2]; omega), List.take_of_length_le (by rw [List.length_append, l1, l2]; omega)]
  rw [e2, show (l.length + 1) * 1 - (i + 1 + (l.length - i)) = 0 by omega, List.take_zero, List.append_nil]
  show pts (l.take i) ++ pts [y] ++ pts (l.drop i) = pts (l.take i ++ y :: l.drop i)
  rw [pts, pts, pts, pts, flat_append, flat_cons, List.append_assoc]; rfl
/-- in place -/
theorem ins_place {l : List Nat} {i y : Nat} {cs : List Value} (hi : i < l.length) (hc : l.length + 1 ≤ cs.length) (ht : cs.take (l.length * 1) = pts l) :
    (over (over cs (i + 1) (pts (l.drop i))) i (pts [y])).take ((insAt l i y).length * 1) = pts (insAt l i y) ∧ (over (over cs (i + 1) (pts (l.drop i))) i (pts [y])).length = cs.length := by
  have l2 : (pts [y]).length = 1 := rfl
  have l3 : (pts (l.drop i)).length = l.length - i := by rw [pts_len, List.length_drop]
  have l4 : (over cs (i + 1) (pts (l.drop i))).length = cs.length := over_length (by rw [l3]; omega)
  refine ⟨?_, by rw [over_length (by rw [l2, l4]; omega), l4]⟩
  have e0 : cs.take i = pts (l.take i) := by
    have h1 := congrArg (List.take i) ht
    rw [List.take_take, Nat.min_eq_left (by omega)] at h1
    have h2 := flat_take Pq.len l i
    rw [Nat.mul_one] at h2
    rw [h1]; exact h2
  have e1 : over cs (i + 1) (pts (l.drop i)) = cs.take (i + 1) ++ (pts (l.drop i) ++ cs.drop (l.length + 1)) := by
    unfold over; rw [l3, List.append_assoc, show i + 1 + (l.length - i) = l.length + 1 by omega]
  have e2 : (over cs (i + 1) (pts (l.drop i))).take i = pts (l.take i) := by
    rw [e1, List.take_append_of_le_length (by rw [List.length_take]; omega), List.take_take, Nat.min_eq_left (by omega), e0]
  have e3 : (over cs (i + 1) (pts (l.drop i))).drop (i + 1) = pts (l.drop i) ++ cs.drop (l.length + 1) := by
    rw [e1]
    have h5 : (cs.take (i + 1)).length = i + 1 := by rw [List.length_take]; omega
    conv => lhs; rw [show i + 1 = (cs.take (i + 1)).length from h5.symm]
    rw [h5]
    exact List.drop_left' h5
  rw [insAt_len (by omega), over_take (by rw [l2, l4]; omega) (by rw [l2]; omega), l2, e2, e3, List.take_append_of_le_length (by rw [l3]; omega), List.take_of_length_le (l := pts (l.drop i)) (by rw [l3]; omega)]
  show pts (l.take i) ++ pts [y] ++ pts (l.drop i) = pts (l.take i ++ y :: l.drop i)
  rw [pts, pts, pts, pts, flat_append, flat_cons, List.append_assoc]; rfl
theorem own_ne {b b2 : Nat} {o o2 : Obj} {w : World} {F : HProp} (s : sat w (star (own b o) (star (own b2 o2) F))) : b ≠ b2 := by
  rintro rfl
  obtain ⟨_, ⟨g, k, sp, rfl, hg, hk⟩, f⟩ := s
  obtain ⟨g2, k2, sp2, rfl, hg2, hk2⟩ := hk
  subst hg hg2
  have h1 : (Hp.join (single b o2) k2) b = some (true, o2) := by simp [Hp.join, single]
  have h2 := (sp b _ _ (single_self b o) h1).2
  cases h2
section
variable {n : Nat} {Γ : Env} {d : Option Tmp} {ty : TypeId} {pos : String} {aft : Array Edge} {g : Option (Nat × Bool)}
/-- two rows of their own do not overlap -/
theorem ro_ovl {x y : Operand} {t t2 : TypeId} {vb b o m vc lb cb : Nat} {vs cs : List Value} {fr : Nat × Nat} {L : List HProp} (hx : ev Γ x = some (.slice (some ⟨vb, 0, none⟩) m vc)) (hy : ev Γ y = some (.slice (some ⟨b, o, none⟩) lb cb)) (hcs : 0 < cs.length)
    (i : Nat) (hi : L[i]? = some (own vb (.cells vs.toArray 92 (0, 0)))) (j : Nat) (hj : (L.eraseIdx i)[j]? = some (own b (.cells cs.toArray 92 fr))) :
    RO Tryz.prog n (St L) Γ ⟨d, .call { callee := .value (.func 133), args := #[x, y], argTypes := #[t, t2] }, ty, pos, aft, g⟩ (.bool false) := fun a w R f s => by
  rw [perm_front hi, perm_front hj] at s
  have hb1 := sat_own (sat_star_left s)
  have hb2 := sat_own (sat_star_left (sat_star_right s))
  have hne := own_ne s
  have hsa : w.shape? vb = some (92, vs.length) := by simp [World.shape?, hb1]
  have hsb : w.shape? b = some (92, cs.length) := by simp [World.shape?, hb2]
  have hrun : (callFunc 133 #[.slice (some ⟨vb, 0, none⟩) m vc, .slice (some ⟨b, o, none⟩) lb cb]).run Tryz.prog w = .ok (.value (.bool false)) w := by
    rw [run_callFunc_extern Tryz.func133 (by kernel_rfl) (by kernel_rfl) (by kernel_rfl) (e := Extern.SlicesOverlaps.overlaps #[96, 96] #[4]) (by kernel_rfl),
      Lib.run_overlaps_apart w 96 4 92 Tryz.underlying96 1 (fun w => Tryz.sizeOf92 w) ⟨vb, 0, none⟩ ⟨b, o, none⟩ m vc lb cb hne 92 92 vs.length cs.length hsa hsb (by omega) (by simp [World.frozen?, hb1]) (by simp [World.frozen?, hb1])]
    rfl
  have e1 := f.ev hx
  have e2 := f.ev hy
  have hm : (#[x, y].map a.eval) = #[.slice (some ⟨vb, 0, none⟩) m vc, .slice (some ⟨b, o, none⟩) lb cb] := by simp [e1, e2]
  simp only [execOp, resolve, hm, Act.eval, Deferred.ofValue, invoke, Sem.run_bind, Sem.run_pure, Result.andThen_ok, Array.append_empty, Array.empty_append, hrun]
end

end Go.Proofs.YtlefpllcgcicpaaGreatDoor
namespace Go.Proofs.YtlefpllcgcicpaaGreatDoor
open Go.Sx
set_option linter.unusedVariables false
set_option linter.unusedSimpArgs false
set_option maxRecDepth 100000
set_option maxHeartbeats 4000000

theorem insA (p : Option Addr) (c : Nat) (l : List Nat) (hl : l.length ≤ 100000) (y vb : Nat) : Tri Tryz.prog 78 [.slice p l.length c, .int .i64 (l.length : Nat), .slice (some ⟨vb, 0, none⟩) 1 1] [rowP p c l, own vb (.cells (pts [y]).toArray 92 (0, 0))] (fun v H' => ∃ p' c', v = .slice p' (insAt l l.length y).length c' ∧ H' = [rowP p' c' (insAt l l.length y)]) := by
  refine tri_of_wpS Tryz.func78 rfl Tryz.ntmps78 (by simp) ?_
  refine wp_seq' ?_
  refine wp_region' ?_
  refine ops_ro' rfl (ro_assign rfl) rfl ?_
  refine ops_nil ?_
  refine Then_normal ?_
  refine wp_seq' ?_
  refine wp_know (fun w F s => row_shp 0 rfl s) ?_
  intro hsh
  refine wp_region' ?_
  refine ops_ro' rfl (ro_move rfl) rfl ?_
  refine ops_ro' rfl (ro_move rfl) rfl ?_
  refine ops_ro' rfl (ro_sliceP sl96 rfl hsh (bnd_of rfl rfl) rfl (by omega) (by omega)) rfl ?_
  refine ops_nil ?_
  refine Then_normal ?_
  refine wp_seq' ?_
  refine wp_region' ?_
  refine ops_ro' rfl (ro_move rfl) rfl ?_
  refine ops_ro' rfl (ro_sliceLen Tryz.underlying96 rfl) rfl ?_
  refine ops_ro' rfl (ro_assign rfl) rfl ?_
  refine ops_nil ?_
  refine Then_normal ?_
  refine wp_seq' ?_
  refine wp_seq' ?_
  refine wp_region' ?_
  refine ops_ro' rfl (ro_move rfl) rfl ?_
  refine ops_ro' rfl (ro_eql rfl rfl (decide_eq_false (by omega))) rfl ?_
  refine ops_nil ?_
  refine Then_normal ?_
  refine wp_condF rfl ?_
  refine wp_skip' ?_
  refine Then_normal ?_
  refine wp_seq' ?_
  refine wp_region' ?_
  refine ops_ro' rfl (ro_move rfl) rfl ?_
  refine ops_ro' rfl (ro_sliceLen Tryz.underlying96 rfl) rfl ?_
  refine ops_ro' rfl (ro_assign rfl) rfl ?_
  refine ops_nil ?_
  refine Then_normal ?_
  refine wp_seq' ?_
  refine wp_seq' ?_
  refine wp_region' ?_
  refine ops_ro' rfl (ro_move rfl) rfl ?_
  refine ops_ro' rfl (ro_move rfl) rfl ?_
  refine ops_ro' rfl (ro_eql rfl rfl (decide_eq_true (by omega))) rfl ?_
  refine ops_nil ?_
  refine Then_normal ?_
  refine wp_condT rfl ?_
  refine wp_seq' ?_
  refine wp_region' ?_
  refine ops_ro' rfl (ro_move rfl) rfl ?_
  refine ops_ro' rfl (ro_move rfl) rfl ?_
  refine ops_eff' rfl (eff_appF (f := Pq.cs) (l2 := [y]) 0 sl96 (.inl ⟨92, Tryz.underlying96⟩) rfl rfl rfl (by first | exact Src.flatv Pq.len Pq.one (Vw.pick 0 rfl (Vw.rd (n := 1) rdn_all)) | exact Src.flatv Pq.len Pq.one (Vw.pick 1 rfl (Vw.rd (n := 1) rdn_all)) | exact Src.flatv Pq.len Pq.one (Vw.pick 2 rfl (Vw.rd (n := 1) rdn_all)) | exact Src.flatv Pq.len Pq.one (Vw.pick 3 rfl (Vw.rd (n := 1) rdn_all)) | exact Src.flatv Pq.len Pq.one (Vw.pick 0 rfl Vw.row) | exact Src.flatv Pq.len Pq.one (Vw.pick 1 rfl Vw.row) | exact Src.flatv Pq.len Pq.one (Vw.pick 2 rfl Vw.row) | exact Src.flatv Pq.len Pq.one (Vw.pick 3 rfl Vw.row)) (by simp only [List.length_cons, List.length_nil]; omega) (by simp only [List.length_cons, List.length_nil]; omega)) rfl ?_
  rintro _ _ ⟨p25, c25, rfl, hn25, rfl⟩
  simp only [List.set_cons_zero, List.set_cons_succ]
  refine ops_ro' rfl (ro_assign rfl) rfl ?_
  refine ops_nil ?_
  refine Then_normal ?_
  refine wp_ret' ?_
  refine Then_ret ?_
  refine' doneS_ret (res1 rfl rfl) ?_ ?_
  rotate_left 1
  exact ⟨p25, c25, by rw [insAt_end], by rw [insAt_end]⟩
  exact (SubH.cons 0 rfl (SubH.nil _))
theorem insB (b c : Nat) (l : List Nat) (hl : l.length ≤ 100000) (i : Nat) (hi : i < l.length) (y vb : Nat) (cs : List Value) (fr : Nat × Nat) (hcap : l.length ≤ c) (hcm : c ≤ maxLen) (hcs : cs.length = c * 1) (htk : cs.take (l.length * 1) = pts l) (hw : warm cs fr) :
    Tri Tryz.prog 78 [.slice (some ⟨b, 0, none⟩) l.length c, .int .i64 (i : Nat), .slice (some ⟨vb, 0, none⟩) 1 1] [own b (.cells (cs).toArray 92 fr), own vb (.cells (pts [y]).toArray 92 (0, 0))] (fun v H' => ∃ p' c', v = .slice p' (insAt l i y).length c' ∧ H' = [rowP p' c' (insAt l i y)]) := by
  have hl1 : cs.length = c := by omega
  have hc2 := hcm
  simp only [maxLen] at hc2
  refine tri_of_wpS Tryz.func78 rfl Tryz.ntmps78 (by simp) ?_
  refine wp_seq' ?_
  refine wp_region' ?_
  refine ops_ro' rfl (ro_assign rfl) rfl ?_
  refine ops_nil ?_
  refine Then_normal ?_
  refine wp_seq' ?_
  refine wp_region' ?_
  refine ops_ro' rfl (ro_move rfl) rfl ?_
  refine ops_ro' rfl (ro_move rfl) rfl ?_
  refine ops_ro' rfl (ro_slice sl96 rfl (bnd_of rfl rfl) rfl (by omega) (by omega)) rfl ?_
  refine ops_nil ?_
  refine Then_normal ?_
  refine wp_seq' ?_
  refine wp_region' ?_
  refine ops_ro' rfl (ro_move rfl) rfl ?_
  refine ops_ro' rfl (ro_sliceLen Tryz.underlying96 rfl) rfl ?_
  refine ops_ro' rfl (ro_assign rfl) rfl ?_
  refine ops_nil ?_
  refine Then_normal ?_
  refine wp_seq' ?_
  refine wp_seq' ?_
  refine wp_region' ?_
  refine ops_ro' rfl (ro_move rfl) rfl ?_
  refine ops_ro' rfl (ro_eql rfl rfl (decide_eq_false (by omega))) rfl ?_
  refine ops_nil ?_
  refine Then_normal ?_
  refine wp_condF rfl ?_
  refine wp_skip' ?_
  refine Then_normal ?_
  refine wp_seq' ?_
  refine wp_region' ?_
  refine ops_ro' rfl (ro_move rfl) rfl ?_
  refine ops_ro' rfl (ro_sliceLen Tryz.underlying96 rfl) rfl ?_
  refine ops_ro' rfl (ro_assign rfl) rfl ?_
  refine ops_nil ?_
  refine Then_normal ?_
  refine wp_seq' ?_
  refine wp_seq' ?_
  refine wp_region' ?_
  refine ops_ro' rfl (ro_move rfl) rfl ?_
  refine ops_ro' rfl (ro_move rfl) rfl ?_
  refine ops_ro' rfl (ro_eql rfl rfl (decide_eq_false (by omega))) rfl ?_
  refine ops_nil ?_
  refine Then_normal ?_
  refine wp_condF rfl ?_
  refine wp_skip' ?_
  refine Then_normal ?_
  refine wp_seq' ?_
  refine wp_seq' ?_
  refine wp_region' ?_
  refine ops_ro' rfl (ro_move rfl) rfl ?_
  refine ops_ro' rfl (ro_move rfl) rfl ?_
  refine ops_ro' rfl (ro_add rfl rfl (show IntKind.i64.wrap ((l.length : Int) + 1) = ((l.length + 1 : Nat) : Int) by rw [wrap_i64_in (by omega) (by omega)]; omega)) rfl ?_
  refine ops_ro' rfl (ro_move rfl) rfl ?_
  refine ops_ro' rfl (ro_sliceCap Tryz.underlying96 rfl) rfl ?_
  refine ops_ro' rfl (ro_gtr rfl rfl rfl) rfl ?_
  refine ops_nil ?_
  refine Then_normal ?_
  refine wp_cond' rfl (fun hc31 => ?_) (fun hc31 => ?_)
  · replace hc31 := of_decide_eq_true hc31
    refine wp_seq' ?_
    refine wp_region' ?_
    refine ops_ro' rfl (ro_move rfl) rfl ?_
    refine ops_ro' rfl (ro_move rfl) rfl ?_
    refine ops_ro' rfl (ro_slice sl96 rfl rfl (bnd_of rfl rfl) (by omega) (by omega)) rfl ?_
    rw [resl_zero]
    refine ops_ro' rfl (ro_move rfl) rfl ?_
    refine ops_ro' rfl (ro_move rfl) rfl ?_
    refine ops_ro' rfl (ro_add rfl rfl (show IntKind.i64.wrap ((l.length : Int) + 1) = ((l.length + 1 : Nat) : Int) by rw [wrap_i64_in (by omega) (by omega)]; omega)) rfl ?_
    refine ops_ro' rfl (ro_move rfl) rfl ?_
    refine ops_ro' rfl (ro_sub rfl rfl (show IntKind.i64.wrap (((l.length + 1 : Nat) : Int) - (i : Int)) = ((l.length + 1 - i : Nat) : Int) by rw [wrap_i64_in (by omega) (by omega)]; omega)) rfl ?_
    refine ops_eff' rfl (eff_appendMk (xs := pts (l.take i)) (m := l.length + 1 - i) sl96 rfl Tryz.underlying3 rfl rfl (by first | exact RdN.of_pick 0 rfl (rdn_pre htk i) | exact RdN.of_pick 1 rfl (rdn_pre htk i) | exact RdN.of_pick 2 rfl (rdn_pre htk i) | exact RdN.of_pick 3 rfl (rdn_pre htk i) | exact RdN.of_pick 4 rfl (rdn_pre htk i) | exact RdN.of_pick 5 rfl (rdn_pre htk i)) (by rw [pts_len, List.length_take]; omega) (by omega) (by omega) (by omega) (by simp only [maxLen]; omega)) rfl ?_
    rintro _ _ ⟨b40, cp40, rfl, hp1, hp2, rfl⟩
    rw [show i + (l.length + 1 - i) = l.length + 1 by omega] at hp1 ⊢
    have lA : (pts (l.take i) ++ List.replicate (cp40 - i) (Value.pointer none)).length = cp40 := by rw [List.length_append, pts_len, List.length_take, List.length_replicate]; omega
    have lB : (over (pts (l.take i) ++ List.replicate (cp40 - i) (Value.pointer none)) i (pts [y])).length = cp40 := by rw [over_length (by rw [lA]; show i + 1 ≤ _; omega), lA]
    refine ops_ro' rfl (ro_assign rfl) rfl ?_
    refine ops_nil ?_
    refine Then_normal ?_
    refine wp_seq' ?_
    refine wp_region' ?_
    refine ops_ro' rfl (ro_move rfl) rfl ?_
    refine ops_ro' rfl (ro_move rfl) rfl ?_
    refine ops_ro' rfl (ro_slice sl96 rfl (bnd_of rfl rfl) rfl (by omega) (by omega)) rfl ?_
    rw [resl_lt (by omega)]
    refine ops_ro' rfl (ro_move rfl) rfl ?_
    refine ops_eff' rfl (eff_copyO 0 sl96 rfl rfl rfl (warm_zero _) (by first | exact RdN.of_pick 0 rfl (rdn_all) | exact RdN.of_pick 1 rfl (rdn_all) | exact RdN.of_pick 2 rfl (rdn_all) | exact RdN.of_pick 3 rfl (rdn_all) | exact RdN.of_pick 4 rfl (rdn_all) | exact RdN.of_pick 5 rfl (rdn_all)) (by show 1 = min 1 _; omega) (pts_one _) (by rw [lA]; show i + 1 ≤ _; omega)) rfl ?_
    rintro _ _ ⟨rfl, rfl⟩
    simp only [List.set_cons_zero, List.set_cons_succ]
    refine ops_nil ?_
    refine Then_normal ?_
    refine wp_seq' ?_
    refine wp_draw 8 (by kernel_rfl) (Split.all _) ?_
    refine any_ro' (i := 0) (by kernel_rfl) rfl rfl (ro_move rfl) rfl (fun _ _ _ h => h) ?_
    refine any_ro' (i := 1) (by kernel_rfl) rfl rfl (ro_move rfl) rfl (fun _ _ _ h => h) ?_
    refine any_ro' (i := 2) (by kernel_rfl) rfl rfl (ro_move rfl) rfl (fun _ _ _ h => h) ?_
    refine any_ro' (i := 3) (by kernel_rfl) rfl rfl (ro_add rfl rfl (show IntKind.i64.wrap ((i : Int) + 1) = ((i + 1 : Nat) : Int) by rw [wrap_i64_in (by omega) (by omega)]; omega)) rfl (fun _ _ _ h => h) ?_
    refine any_ro' (i := 4) (by kernel_rfl) rfl rfl (ro_slice sl96 rfl (bnd_of rfl rfl) rfl (by omega) (by omega)) rfl (fun _ _ _ h => h) ?_
    rw [resl_lt (by omega)]
    refine any_ro' (i := 5) (by kernel_rfl) rfl rfl (ro_move rfl) rfl (fun _ _ _ h => h) ?_
    refine any_ro' (i := 6) (by kernel_rfl) rfl rfl (ro_move rfl) rfl (fun _ _ _ h => h) ?_
    refine any_ro' (i := 7) (by kernel_rfl) rfl rfl (ro_slice sl96 rfl (bnd_of rfl rfl) rfl (by omega) (by omega)) rfl (fun _ _ _ h => h) ?_
    rw [resl_lt (by omega)]
    refine any_unlock (m' := 9) (L' := []) (by kernel_rfl) unlock ?_
    simp only [List.cons_append, List.nil_append, List.append_nil]
    refine any_eff' (i := 8) (by kernel_rfl) rfl rfl (eff_copyO 0 sl96 rfl rfl rfl (warm_zero _) (by first | exact RdN.of_pick 0 rfl (rdn_drop htk i) | exact RdN.of_pick 1 rfl (rdn_drop htk i) | exact RdN.of_pick 2 rfl (rdn_drop htk i) | exact RdN.of_pick 3 rfl (rdn_drop htk i) | exact RdN.of_pick 4 rfl (rdn_drop htk i) | exact RdN.of_pick 5 rfl (rdn_drop htk i)) (by rw [pts_len, List.length_drop]; omega) (pts_one _) (by rw [lB, pts_len, List.length_drop]; omega)) rfl ?_
    rintro _ _ ⟨rfl, rfl⟩
    simp only [List.set_cons_zero, List.set_cons_succ]
    refine any_doneH (by kernel_rfl) ?_
    refine Then_normal ?_
    refine wp_seq' ?_
    obtain ⟨hg1, hg2⟩ := ins_grow (y := y) (z := .pointer none) hi hp1
    refine wp_heap (fun w F s => own_close 0 (k := (insAt l i y).length) (xs := pts (insAt l i y)) rfl (by rw [insAt_len (by omega)]; exact hp1) hp2 hg2 hg1 (warm_zero _) w F s) ?_
    simp only [List.eraseIdx_cons_zero]
    refine wp_region' ?_
    refine ops_ro' rfl (ro_move rfl) rfl ?_
    refine ops_ro' rfl (ro_assign rfl) rfl ?_
    refine ops_nil ?_
    refine Then_normal ?_
    refine wp_ret' ?_
    refine Then_ret ?_
    refine' doneS_ret (res1 rfl rfl) ?_ ?_
    rotate_left 1
    exact ⟨_, _, by rw [insAt_len (by omega)], rfl⟩
    exact (SubH.cons 0 rfl (SubH.nil _))
  · replace hc31 := of_decide_eq_false hc31
    refine wp_skip' ?_
    refine Then_normal ?_
    refine wp_seq' ?_
    refine wp_region' ?_
    refine ops_ro' rfl (ro_move rfl) rfl ?_
    refine ops_ro' rfl (ro_move rfl) rfl ?_
    refine ops_ro' rfl (ro_move rfl) rfl ?_
    refine ops_ro' rfl (ro_add rfl rfl (show IntKind.i64.wrap ((l.length : Int) + 1) = ((l.length + 1 : Nat) : Int) by rw [wrap_i64_in (by omega) (by omega)]; omega)) rfl ?_
    refine ops_ro' rfl (ro_slice sl96 rfl rfl (bnd_of rfl rfl) (by omega) (by omega)) rfl ?_
    rw [resl_zero]
    have l3 : (pts (l.drop i)).length = l.length - i := by rw [pts_len, List.length_drop]
    have lC : (over cs (i + 1) (pts (l.drop i))).length = cs.length := over_length (by rw [l3]; omega)
    refine ops_ro' rfl (ro_assign rfl) rfl ?_
    refine ops_nil ?_
    refine Then_normal ?_
    refine wp_seq' ?_
    refine wp_seq' ?_
    refine wp_region' ?_
    refine ops_ro' rfl (ro_move rfl) rfl ?_
    refine ops_ro' rfl (ro_move rfl) rfl ?_
    refine ops_ro' rfl (ro_move rfl) rfl ?_
    refine ops_ro' rfl (ro_move rfl) rfl ?_
    refine ops_ro' rfl (ro_add rfl rfl (show IntKind.i64.wrap ((i : Int) + 1) = ((i + 1 : Nat) : Int) by rw [wrap_i64_in (by omega) (by omega)]; omega)) rfl ?_
    refine ops_ro' rfl (ro_slice sl96 rfl (bnd_of rfl rfl) rfl (by omega) (by omega)) rfl ?_
    rw [resl_lt (by omega)]
    refine ops_ro' rfl (ro_ovl rfl rfl (by omega) 1 rfl 0 rfl) rfl ?_
    refine ops_ro' rfl (ro_not rfl rfl) rfl ?_
    refine ops_nil ?_
    refine Then_normal ?_
    refine wp_condT rfl ?_
    refine wp_seq' ?_
    refine wp_draw 8 (by kernel_rfl) (Split.all _) ?_
    refine any_ro' (i := 0) (by kernel_rfl) rfl rfl (ro_move rfl) rfl (fun _ _ _ h => h) ?_
    refine any_ro' (i := 1) (by kernel_rfl) rfl rfl (ro_move rfl) rfl (fun _ _ _ h => h) ?_
    refine any_ro' (i := 2) (by kernel_rfl) rfl rfl (ro_move rfl) rfl (fun _ _ _ h => h) ?_
    refine any_ro' (i := 3) (by kernel_rfl) rfl rfl (ro_add rfl rfl (show IntKind.i64.wrap ((i : Int) + 1) = ((i + 1 : Nat) : Int) by rw [wrap_i64_in (by omega) (by omega)]; omega)) rfl (fun _ _ _ h => h) ?_
    refine any_ro' (i := 4) (by kernel_rfl) rfl rfl (ro_slice sl96 rfl (bnd_of rfl rfl) rfl (by omega) (by omega)) rfl (fun _ _ _ h => h) ?_
    rw [resl_lt (by omega)]
    refine any_ro' (i := 5) (by kernel_rfl) rfl rfl (ro_move rfl) rfl (fun _ _ _ h => h) ?_
    refine any_ro' (i := 6) (by kernel_rfl) rfl rfl (ro_move rfl) rfl (fun _ _ _ h => h) ?_
    refine any_ro' (i := 7) (by kernel_rfl) rfl rfl (ro_slice sl96 rfl (bnd_of rfl rfl) rfl (by omega) (by omega)) rfl (fun _ _ _ h => h) ?_
    rw [resl_lt (by omega)]
    refine any_unlock (m' := 9) (L' := []) (by kernel_rfl) unlock ?_
    simp only [List.cons_append, List.nil_append, List.append_nil]
    refine any_eff' (i := 8) (by kernel_rfl) rfl rfl (eff_copyO 0 sl96 rfl rfl rfl hw (by first | exact RdN.of_pick 0 rfl (rdn_drop htk i) | exact RdN.of_pick 1 rfl (rdn_drop htk i) | exact RdN.of_pick 2 rfl (rdn_drop htk i) | exact RdN.of_pick 3 rfl (rdn_drop htk i) | exact RdN.of_pick 4 rfl (rdn_drop htk i) | exact RdN.of_pick 5 rfl (rdn_drop htk i)) (by rw [l3]; omega) (pts_one _) (by rw [l3]; omega)) rfl ?_
    rintro _ _ ⟨rfl, rfl⟩
    simp only [List.set_cons_zero, List.set_cons_succ]
    refine any_doneH (by kernel_rfl) ?_
    refine Then_normal ?_
    refine wp_seq' ?_
    refine wp_region' ?_
    refine ops_ro' rfl (ro_move rfl) rfl ?_
    refine ops_ro' rfl (ro_move rfl) rfl ?_
    refine ops_ro' rfl (ro_slice sl96 rfl (bnd_of rfl rfl) rfl (by omega) (by omega)) rfl ?_
    rw [resl_lt (by omega)]
    refine ops_ro' rfl (ro_move rfl) rfl ?_
    refine ops_eff' rfl (eff_copyO 0 sl96 rfl rfl rfl (warm_len hw lC) (by first | exact RdN.of_pick 0 rfl (rdn_all) | exact RdN.of_pick 1 rfl (rdn_all) | exact RdN.of_pick 2 rfl (rdn_all) | exact RdN.of_pick 3 rfl (rdn_all) | exact RdN.of_pick 4 rfl (rdn_all) | exact RdN.of_pick 5 rfl (rdn_all)) (by show 1 = min 1 _; omega) (pts_one _) (by rw [lC]; show i + 1 ≤ _; omega)) rfl ?_
    rintro _ _ ⟨rfl, rfl⟩
    simp only [List.set_cons_zero, List.set_cons_succ]
    refine ops_nil ?_
    refine Then_normal ?_
    refine wp_seq' ?_
    obtain ⟨hg1, hg2⟩ := ins_place (y := y) hi (by omega) htk
    refine wp_heap (fun w F s => own_close 0 (k := (insAt l i y).length) (cap := c) (xs := pts (insAt l i y)) rfl (by rw [insAt_len (by omega)]; omega) hcm (by rw [hg2]; omega) hg1 (warm_len hw hg2) w F s) ?_
    simp only [List.eraseIdx_cons_zero]
    refine wp_region' ?_
    refine ops_ro' rfl (ro_move rfl) rfl ?_
    refine ops_ro' rfl (ro_assign rfl) rfl ?_
    refine ops_nil ?_
    refine Then_normal ?_
    refine wp_ret' ?_
    refine Then_ret ?_
    refine' doneS_ret (res1 rfl rfl) ?_ ?_
    rotate_left 1
    exact ⟨_, _, by rw [insAt_len (by omega)], rfl⟩
    exact (SubH.cons 0 rfl (SubH.nil _))
theorem ins_spec (p : Option Addr) (c : Nat) (l : List Nat) (hl : l.length ≤ 100000) (i : Nat) (hi : i ≤ l.length) (y vb : Nat) : Tri Tryz.prog 78 [.slice p l.length c, .int .i64 (i : Nat), .slice (some ⟨vb, 0, none⟩) 1 1] [rowP p c l, own vb (.cells (pts [y]).toArray 92 (0, 0))] (fun v H' => ∃ p' c', v = .slice p' (insAt l i y).length c' ∧ H' = [rowP p' c' (insAt l i y)]) := by
  by_cases h : i = l.length
  · subst h; exact insA p c l hl y vb
  · refine tri_know (fun w F s => row_shp 0 rfl s) ?_
    rintro ⟨⟨_, h1, _⟩ | ⟨b, o, rfl⟩, h2⟩
    · omega
    · refine tri_know (fun w F s => row_ptr' 0 rfl s (by omega)) ?_
      rintro ⟨b', hb⟩
      injection hb with hb; injection hb with hb ho; subst hb; subst ho
      exact tri_rowO fun cs fr g1 g2 g3 g4 g5 => insB b c l hl i (by omega) y vb cs fr g1 g2 g3 g4 g5


theorem resl_any (b c l h : Nat) : ∃ o2, resl b 0 c 1 l h = .slice (some ⟨b, o2, none⟩) (h - l) (c - l) ∧ (l < c → o2 = l) := by
  unfold resl
  by_cases e : c = l
  · exact ⟨0, by rw [if_pos e], fun h => by omega⟩
  · exact ⟨l, by rw [if_neg e, Nat.zero_add, Nat.mul_one], fun _ => rfl⟩
theorem del_place {l : List Nat} {i : Nat} {cs : List Value} {z : Value} (hi : i < l.length) (hc : l.length ≤ cs.length) (ht : cs.take (l.length * 1) = pts l) :
    (over (over cs i (pts (l.drop (i + 1)))) (l.length - 1) (List.replicate (0 + 1) z)).take ((l.eraseIdx i).length * 1) = pts (l.eraseIdx i) ∧ (over (over cs i (pts (l.drop (i + 1)))) (l.length - 1) (List.replicate (0 + 1) z)).length = cs.length := by
  have l3 : (pts (l.drop (i + 1))).length = l.length - (i + 1) := by rw [pts_len, List.length_drop]
  have l4 : (over cs i (pts (l.drop (i + 1)))).length = cs.length := over_length (by rw [l3]; omega)
  have l5 : (List.replicate (0 + 1) z).length = 1 := by rw [List.length_replicate]
  refine ⟨?_, by rw [over_length (by rw [l4, l5]; omega), l4]⟩
  have e0 : cs.take i = pts (l.take i) := by
    have h1 := congrArg (List.take i) ht
    rw [List.take_take, Nat.min_eq_left (by omega)] at h1
    have h2 := flat_take Pq.len l i
    rw [Nat.mul_one] at h2
    rw [h1]; exact h2
  have e1 : (over cs i (pts (l.drop (i + 1)))).take (l.length - 1) = pts (l.take i) ++ pts (l.drop (i + 1)) := by
    rw [over_take (by rw [l3]; omega) (by rw [l3]; omega), e0, l3, show l.length - 1 - (i + (l.length - (i + 1))) = 0 by omega, List.take_zero, List.append_nil]
  rw [List.length_eraseIdx_of_lt hi, Nat.mul_one, List.eraseIdx_eq_take_drop_succ]
  unfold over at e1 ⊢
  rw [List.append_assoc, List.take_append_of_le_length (by rw [List.length_take]; unfold over at l4; rw [l4]; omega), List.take_take, Nat.min_self, e1]
  rw [pts, pts, pts, flat_append]
theorem delB (b c : Nat) (l : List Nat) (hl : l.length ≤ 100000) (i : Nat) (hi : i < l.length) (cs : List Value) (fr : Nat × Nat) (hcap : l.length ≤ c) (hcm : c ≤ maxLen) (hcs : cs.length = c * 1) (htk : cs.take (l.length * 1) = pts l) (hw : warm cs fr) :
    Tri Tryz.prog 132 [.slice (some ⟨b, 0, none⟩) l.length c, .int .i64 (i : Nat), .int .i64 ((i + 1 : Nat) : Int)] [own b (.cells (cs).toArray 92 fr)] (fun v H' => ∃ p' c', v = .slice p' (l.eraseIdx i).length c' ∧ H' = [rowP p' c' (l.eraseIdx i)]) := by
  have hl1 : cs.length = c := by omega
  have hc2 := hcm
  simp only [maxLen] at hc2
  refine tri_of_wpS Tryz.func132 rfl Tryz.ntmps132 (by simp) ?_
  refine wp_seq' ?_
  refine wp_region' ?_
  refine ops_ro' rfl (ro_assign rfl) rfl ?_
  refine ops_nil ?_
  refine Then_normal ?_
  refine wp_seq' ?_
  refine wp_region' ?_
  refine ops_ro' rfl (ro_move rfl) rfl ?_
  refine ops_ro' rfl (ro_move rfl) rfl ?_
  refine ops_ro' rfl (ro_move rfl) rfl ?_
  refine ops_ro' rfl (ro_move rfl) rfl ?_
  refine ops_ro' rfl (ro_sliceLen Tryz.underlying96 rfl) rfl ?_
  refine ops_ro' rfl (ro_slice3 sl96 rfl rfl rfl rfl (by omega) (by omega) (by omega)) rfl ?_
  refine ops_nil ?_
  refine Then_normal ?_
  refine wp_seq' ?_
  refine wp_seq' ?_
  refine wp_region' ?_
  refine ops_ro' rfl (ro_move rfl) rfl ?_
  refine ops_ro' rfl (ro_move rfl) rfl ?_
  refine ops_ro' rfl (ro_eql rfl rfl (decide_eq_false (by omega))) rfl ?_
  refine ops_nil ?_
  refine Then_normal ?_
  refine wp_condF rfl ?_
  refine wp_skip' ?_
  refine Then_normal ?_
  refine wp_seq' ?_
  refine wp_region' ?_
  refine ops_ro' rfl (ro_move rfl) rfl ?_
  refine ops_ro' rfl (ro_sliceLen Tryz.underlying96 rfl) rfl ?_
  refine ops_ro' rfl (ro_assign rfl) rfl ?_
  refine ops_nil ?_
  refine Then_normal ?_
  refine wp_seq' ?_
  refine wp_draw 6 (by kernel_rfl) (Split.all _) ?_
  refine any_ro' (i := 0) (by kernel_rfl) rfl rfl (ro_move rfl) rfl (fun _ _ _ h => h) ?_
  refine any_ro' (i := 1) (by kernel_rfl) rfl rfl (ro_move rfl) rfl (fun _ _ _ h => h) ?_
  refine any_ro' (i := 2) (by kernel_rfl) rfl rfl (ro_slice sl96 rfl rfl (bnd_of rfl rfl) (by omega) (by omega)) rfl (fun _ _ _ h => h) ?_
  rw [resl_zero]
  refine any_ro' (i := 3) (by kernel_rfl) rfl rfl (ro_move rfl) rfl (fun _ _ _ h => h) ?_
  refine any_ro' (i := 4) (by kernel_rfl) rfl rfl (ro_move rfl) rfl (fun _ _ _ h => h) ?_
  refine any_ro' (i := 5) (by kernel_rfl) rfl rfl (ro_slice sl96 rfl (bnd_of rfl rfl) rfl (by omega) (by omega)) rfl (fun _ _ _ h => h) ?_
  obtain ⟨o2, ho2, ho3⟩ := resl_any b c (i + 1) l.length
  rw [ho2]
  have hrd : RdN (own b (.cells (cs).toArray 92 fr)) b o2 (pts (l.drop (i + 1))) := by
    by_cases h : i + 1 < c
    · rw [ho3 h]; exact rdn_drop htk (i + 1)
    · rw [List.drop_of_length_le (by omega)]; intro j v hj; rw [show pts [] = ([] : List Value) from rfl, List.getElem?_nil] at hj; cases hj
  have l3 : (pts (l.drop (i + 1))).length = l.length - (i + 1) := by rw [pts_len, List.length_drop]
  refine any_unlock (m' := 8) (L' := []) (by kernel_rfl) unlock ?_
  simp only [List.cons_append, List.nil_append, List.append_nil]
  refine any_eff' (i := 6) (by kernel_rfl) rfl rfl (eff_appendO 0 sl96 Tryz.underlying96 rfl rfl rfl hw (by first | exact RdN.of_pick 0 rfl (hrd) | exact RdN.of_pick 1 rfl (hrd)) l3 (pts_one _) (by omega) (by omega)) rfl ?_
  rintro _ _ ⟨rfl, rfl⟩
  try simp only [List.set_cons_zero, List.set_cons_succ]
  rw [show i + (l.length - (i + 1)) = l.length - 1 by omega]
  have lC : (over cs i (pts (l.drop (i + 1)))).length = cs.length := over_length (by rw [l3]; omega)
  refine any_ro' (i := 7) (by kernel_rfl) rfl rfl (ro_assign rfl) rfl (fun _ _ _ h => h) ?_
  refine any_doneH (by kernel_rfl) ?_
  refine Then_normal ?_
  refine wp_seq' ?_
  refine wp_region' ?_
  refine ops_ro' rfl (ro_move rfl) rfl ?_
  refine ops_ro' rfl (ro_move rfl) rfl ?_
  refine ops_ro' rfl (ro_sliceLen Tryz.underlying96 rfl) rfl ?_
  refine ops_ro' rfl (ro_move rfl) rfl ?_
  refine ops_ro' rfl (ro_slice sl96 rfl (bnd_of rfl rfl) (bnd_of rfl rfl) (by omega) (by omega)) rfl ?_
  rw [resl_lt (by omega), show l.length - (l.length - 1) = 0 + 1 by omega]
  refine ops_eff0 rfl (eff_clearO 0 sl96 rfl rfl rfl rfl (warm_len hw lC) (by rw [lC]; omega)) rfl ?_
  rintro _ _ ⟨rfl, rfl⟩
  try simp only [List.set_cons_zero, List.set_cons_succ]
  refine ops_nil ?_
  refine Then_normal ?_
  refine wp_seq' ?_
  obtain ⟨hg1, hg2⟩ := del_place (z := .pointer none) hi (by omega) htk
  have hle : (l.eraseIdx i).length = l.length - 1 := List.length_eraseIdx_of_lt hi
  refine wp_heap (fun w F s => own_close 0 (k := (l.eraseIdx i).length) (cap := c) (xs := pts (l.eraseIdx i)) rfl (by omega) hcm (by rw [hg2]; omega) hg1 (warm_len hw hg2) w F s) ?_
  try simp only [List.eraseIdx_cons_zero]
  refine wp_region' ?_
  refine ops_ro' rfl (ro_move rfl) rfl ?_
  refine ops_ro' rfl (ro_assign rfl) rfl ?_
  refine ops_nil ?_
  refine Then_normal ?_
  refine wp_ret' ?_
  refine' doneS_ret (res1 rfl rfl) ?_ ?_
  rotate_left 1
  exact ⟨_, _, by rw [hle], rfl⟩
  exact SubH.refl _
theorem del_spec (p : Option Addr) (c : Nat) (l : List Nat) (hl : l.length ≤ 100000) (i : Nat) (hi : i < l.length) : Tri Tryz.prog 132 [.slice p l.length c, .int .i64 (i : Nat), .int .i64 ((i + 1 : Nat) : Int)] [rowP p c l] (fun v H' => ∃ p' c', v = .slice p' (l.eraseIdx i).length c' ∧ H' = [rowP p' c' (l.eraseIdx i)]) := by
  refine tri_know (fun w F s => row_ptr' 0 rfl s (by omega)) ?_
  rintro ⟨b, rfl⟩
  exact tri_rowO fun cs fr g1 g2 g3 g4 g5 => delB b c l hl i hi cs fr g1 g2 g3 g4 g5

end Go.Proofs.YtlefpllcgcicpaaGreatDoor
