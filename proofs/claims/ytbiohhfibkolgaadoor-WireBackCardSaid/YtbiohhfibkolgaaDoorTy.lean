/-
  Facts on the types of this seat, each by a computation.
-/
import Derived.Test.YtbiohhfibkolgaaDoorSxMore
import Derived.Test.YtbiohhfibkolgaaDoorRows
namespace Go.Proofs.YtbiohhfibkolgaaDoor
open Go.Sx
theorem sl28 : Slc Tryd.prog 28 5 1 1 (.int .u8 0) := Slc.of Tryd.underlying28 (by kernel_rfl) rfl (by decide)
theorem fa72_0 : FieldAt Tryd.prog 72 0 0 := fun w a => by simp [Instr.fieldAt, Instr.sureAddr, fieldPlace, Tryd.runUnderlying72, Tryd.sizeOf28]
theorem sc28 : Scal Tryd.prog 28 := ⟨fun w => Tryd.isAgg28 w, fun w => Tryd.sizeOf28 w⟩
theorem z72 : Zero Tryd.prog 72 (.agg #[(.slice none 0 0)]) := fun w => Tryd.zeroValue72 w
theorem st72 : StructT Tryd.prog 72 [(.slice none 0 0)] [(0, 1)] := ⟨z72, ⟨_, Tryd.underlying72, fun w => by simp [Tryd.sizeOf28]⟩⟩
theorem z75 : Zero Tryd.prog 75 (.agg #[(.slice none 0 0), (.int .i64 0), (.int .i64 0), (.int .i64 0)]) := fun w => Tryd.zeroValue75 w
theorem st75 : StructT Tryd.prog 75 [(.slice none 0 0), (.int .i64 0), (.int .i64 0), (.int .i64 0)] [(0, 1), (1, 1), (2, 1), (3, 1)] := ⟨z75, ⟨_, Tryd.underlying75, fun w => by simp [Tryd.sizeOf3, Tryd.sizeOf28, Tryd.sizeOf32]⟩⟩
theorem fa75_2 : FieldAt Tryd.prog 75 2 2 := fun w a => by simp [Instr.fieldAt, Instr.sureAddr, fieldPlace, Tryd.runUnderlying75, Tryd.sizeOf32]
theorem sc32 : Scal Tryd.prog 32 := ⟨fun w => Tryd.isAgg32 w, fun w => Tryd.sizeOf32 w⟩
theorem fa75_3 : FieldAt Tryd.prog 75 3 3 := fun w a => by simp [Instr.fieldAt, Instr.sureAddr, fieldPlace, Tryd.runUnderlying75, Tryd.sizeOf3]
theorem sc3 : Scal Tryd.prog 3 := ⟨fun w => Tryd.isAgg3 w, fun w => Tryd.sizeOf3 w⟩
theorem fa75_0 : FieldAt Tryd.prog 75 0 0 := fun w a => by simp [Instr.fieldAt, Instr.sureAddr, fieldPlace, Tryd.runUnderlying75, Tryd.sizeOf28]
theorem fa75_1 : FieldAt Tryd.prog 75 1 1 := fun w a => by simp [Instr.fieldAt, Instr.sureAddr, fieldPlace, Tryd.runUnderlying75, Tryd.sizeOf3]
theorem sc5 : Scal Tryd.prog 5 := ⟨fun w => Tryd.isAgg5 w, fun w => Tryd.sizeOf5 w⟩
theorem sl30 : Slc Tryd.prog 30 9 1 16 (.string ByteArray.empty) := Slc.of Tryd.underlying30 (by kernel_rfl) rfl (by decide)
theorem fa60_2 : FieldAt Tryd.prog 60 2 2 := fun w a => by simp [Instr.fieldAt, Instr.sureAddr, fieldPlace, Tryd.runUnderlying60, Tryd.sizeOf4]
theorem sc4 : Scal Tryd.prog 4 := ⟨fun w => Tryd.isAgg4 w, fun w => Tryd.sizeOf4 w⟩
theorem fa60_3 : FieldAt Tryd.prog 60 3 3 := fun w a => by simp [Instr.fieldAt, Instr.sureAddr, fieldPlace, Tryd.runUnderlying60, Tryd.sizeOf3]
theorem fa60_4 : FieldAt Tryd.prog 60 4 4 := fun w a => by simp [Instr.fieldAt, Instr.sureAddr, fieldPlace, Tryd.runUnderlying60, Tryd.sizeOf3]
theorem fa60_0 : FieldAt Tryd.prog 60 0 0 := fun w a => by simp [Instr.fieldAt, Instr.sureAddr, fieldPlace, Tryd.runUnderlying60, Tryd.sizeOf28]
theorem fa60_1 : FieldAt Tryd.prog 60 1 1 := fun w a => by simp [Instr.fieldAt, Instr.sureAddr, fieldPlace, Tryd.runUnderlying60, Tryd.sizeOf3]
theorem sc9 : Scal Tryd.prog 9 := ⟨fun w => Tryd.isAgg9 w, fun w => Tryd.sizeOf9 w⟩
theorem z40 : Zero Tryd.prog 40 (.agg #[(.int .i64 0), (.int .u64 0), (.string ByteArray.empty), (.slice none 0 0)]) := fun w => Tryd.zeroValue40 w
theorem fa40_2 : FieldAt Tryd.prog 40 2 2 := fun w a => by simp [Instr.fieldAt, Instr.sureAddr, fieldPlace, Tryd.runUnderlying40, Tryd.sizeOf9]
theorem fa40_3 : FieldAt Tryd.prog 40 3 3 := fun w a => by simp [Instr.fieldAt, Instr.sureAddr, fieldPlace, Tryd.runUnderlying40, Tryd.sizeOf30]
theorem sc30 : Scal Tryd.prog 30 := ⟨fun w => Tryd.isAgg30 w, fun w => Tryd.sizeOf30 w⟩
theorem ag40 : Aggr Tryd.prog 40 4 := ⟨fun w => Tryd.isAgg40 w, fun w => Tryd.sizeOf40 w⟩
theorem fa40_0 : FieldAt Tryd.prog 40 0 0 := fun w a => by simp [Instr.fieldAt, Instr.sureAddr, fieldPlace, Tryd.runUnderlying40, Tryd.sizeOf3]
theorem fa40_1 : FieldAt Tryd.prog 40 1 1 := fun w a => by simp [Instr.fieldAt, Instr.sureAddr, fieldPlace, Tryd.runUnderlying40, Tryd.sizeOf38]
theorem sc38 : Scal Tryd.prog 38 := ⟨fun w => Tryd.isAgg38 w, fun w => Tryd.sizeOf38 w⟩
theorem z60 : Zero Tryd.prog 60 (.agg #[(.slice none 0 0), (.int .i64 0), (.bool false), (.int .i64 0), (.int .i64 0)]) := fun w => Tryd.zeroValue60 w
theorem st60 : StructT Tryd.prog 60 [(.slice none 0 0), (.int .i64 0), (.bool false), (.int .i64 0), (.int .i64 0)] [(0, 1), (1, 1), (2, 1), (3, 1), (4, 1)] := ⟨z60, ⟨_, Tryd.underlying60, fun w => by simp [Tryd.sizeOf3, Tryd.sizeOf4, Tryd.sizeOf28]⟩⟩
theorem sl37 : Slc Tryd.prog 37 40 4 56 (.agg #[(.int .i64 0), (.int .u64 0), (.string ByteArray.empty), (.slice none 0 0)]) := Slc.of Tryd.underlying37 (by kernel_rfl) rfl (by decide)
theorem sl56 : Slc Tryd.prog 56 28 1 24 (.slice none 0 0) := Slc.of Tryd.underlying56 (by kernel_rfl) rfl (by decide)
theorem sl57 : Slc Tryd.prog 57 38 1 8 (.int .u64 0) := Slc.of Tryd.underlying57 (by kernel_rfl) rfl (by decide)
theorem st40 : StructT Tryd.prog 40 [(.int .i64 0), (.int .u64 0), (.string ByteArray.empty), (.slice none 0 0)] [(0, 1), (1, 1), (2, 1), (3, 1)] := ⟨z40, ⟨_, Tryd.underlying40, fun w => by simp [Tryd.sizeOf3, Tryd.sizeOf9, Tryd.sizeOf30, Tryd.sizeOf38]⟩⟩
end Go.Proofs.YtbiohhfibkolgaaDoor
