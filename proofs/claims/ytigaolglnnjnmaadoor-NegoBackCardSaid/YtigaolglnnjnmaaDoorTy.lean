/-
  Facts on the types of this seat, each by a computation.
-/
import Derived.Test.YtigaolglnnjnmaaDoorSxMore
import Derived.Test.YtigaolglnnjnmaaDoorRows
namespace Go.Proofs.YtigaolglnnjnmaaDoor
open Go.Sx
theorem sl22 : Slc Tryd.prog 22 5 1 1 (.int .u8 0) := Slc.of Tryd.underlying22 (by kernel_rfl) rfl (by decide)
theorem fa96_0 : FieldAt Tryd.prog 96 0 0 := fun w a => by simp [Instr.fieldAt, Instr.sureAddr, fieldPlace, Tryd.runUnderlying96, Tryd.sizeOf22]
theorem sc22 : Scal Tryd.prog 22 := ⟨fun w => Tryd.isAgg22 w, fun w => Tryd.sizeOf22 w⟩
theorem z96 : Zero Tryd.prog 96 (.agg #[(.slice none 0 0)]) := fun w => Tryd.zeroValue96 w
theorem st96 : StructT Tryd.prog 96 [(.slice none 0 0)] [(0, 1)] := ⟨z96, ⟨_, Tryd.underlying96, fun w => by simp [Tryd.sizeOf22]⟩⟩
theorem z103 : Zero Tryd.prog 103 (.agg #[(.slice none 0 0), (.int .i64 0), (.int .i64 0), (.int .i64 0)]) := fun w => Tryd.zeroValue103 w
theorem st103 : StructT Tryd.prog 103 [(.slice none 0 0), (.int .i64 0), (.int .i64 0), (.int .i64 0)] [(0, 1), (1, 1), (2, 1), (3, 1)] := ⟨z103, ⟨_, Tryd.underlying103, fun w => by simp [Tryd.sizeOf3, Tryd.sizeOf22, Tryd.sizeOf25]⟩⟩
theorem fa103_2 : FieldAt Tryd.prog 103 2 2 := fun w a => by simp [Instr.fieldAt, Instr.sureAddr, fieldPlace, Tryd.runUnderlying103, Tryd.sizeOf25]
theorem sc25 : Scal Tryd.prog 25 := ⟨fun w => Tryd.isAgg25 w, fun w => Tryd.sizeOf25 w⟩
theorem fa103_3 : FieldAt Tryd.prog 103 3 3 := fun w a => by simp [Instr.fieldAt, Instr.sureAddr, fieldPlace, Tryd.runUnderlying103, Tryd.sizeOf3]
theorem sc3 : Scal Tryd.prog 3 := ⟨fun w => Tryd.isAgg3 w, fun w => Tryd.sizeOf3 w⟩
theorem fa103_0 : FieldAt Tryd.prog 103 0 0 := fun w a => by simp [Instr.fieldAt, Instr.sureAddr, fieldPlace, Tryd.runUnderlying103, Tryd.sizeOf22]
theorem fa103_1 : FieldAt Tryd.prog 103 1 1 := fun w a => by simp [Instr.fieldAt, Instr.sureAddr, fieldPlace, Tryd.runUnderlying103, Tryd.sizeOf3]
theorem sc5 : Scal Tryd.prog 5 := ⟨fun w => Tryd.isAgg5 w, fun w => Tryd.sizeOf5 w⟩
theorem sl24 : Slc Tryd.prog 24 9 1 16 (.string ByteArray.empty) := Slc.of Tryd.underlying24 (by kernel_rfl) rfl (by decide)
theorem sc9 : Scal Tryd.prog 9 := ⟨fun w => Tryd.isAgg9 w, fun w => Tryd.sizeOf9 w⟩
theorem sc24 : Scal Tryd.prog 24 := ⟨fun w => Tryd.isAgg24 w, fun w => Tryd.sizeOf24 w⟩
theorem ag46 : Aggr Tryd.prog 46 12 := ⟨fun w => Tryd.isAgg46 w, fun w => Tryd.sizeOf46 w⟩
theorem z46 : Zero Tryd.prog 46 (.agg #[(.slice none 0 0), (.slice none 0 0), (.slice none 0 0), (.slice none 0 0), (.slice none 0 0), (.slice none 0 0), (.slice none 0 0), (.slice none 0 0), (.slice none 0 0), (.slice none 0 0), (.slice none 0 0), (.bool false)]) := fun w => Tryd.zeroValue46 w
theorem fa46_0 : FieldAt Tryd.prog 46 0 0 := fun w a => by simp [Instr.fieldAt, Instr.sureAddr, fieldPlace, Tryd.runUnderlying46, Tryd.sizeOf22]
theorem fa46_1 : FieldAt Tryd.prog 46 1 1 := fun w a => by simp [Instr.fieldAt, Instr.sureAddr, fieldPlace, Tryd.runUnderlying46, Tryd.sizeOf44]
theorem z56 : Zero Tryd.prog 56 (.agg #[(.slice none 0 0), (.slice none 0 0), (.slice none 0 0), (.slice none 0 0), (.slice none 0 0), (.slice none 0 0), (.slice none 0 0), (.slice none 0 0), (.slice none 0 0), (.slice none 0 0), (.slice none 0 0), (.bool false)]) := fun w => Tryd.zeroValue56 w
theorem ag44 : Aggr Tryd.prog 44 10 := ⟨fun w => Tryd.isAgg44 w, fun w => Tryd.sizeOf44 w⟩
theorem fa46_2 : FieldAt Tryd.prog 46 2 11 := fun w a => by simp [Instr.fieldAt, Instr.sureAddr, fieldPlace, Tryd.runUnderlying46, Tryd.sizeOf4]
theorem sc4 : Scal Tryd.prog 4 := ⟨fun w => Tryd.isAgg4 w, fun w => Tryd.sizeOf4 w⟩
theorem st56 : StructT Tryd.prog 56 [(.slice none 0 0), (.slice none 0 0), (.slice none 0 0), (.slice none 0 0), (.slice none 0 0), (.slice none 0 0), (.slice none 0 0), (.slice none 0 0), (.slice none 0 0), (.slice none 0 0), (.slice none 0 0), (.bool false)] [(0, 1), (1, 10), (11, 1)] := ⟨z56, ⟨_, Tryd.underlying56, fun w => by simp [Tryd.sizeOf4, Tryd.sizeOf22, Tryd.sizeOf44]⟩⟩
theorem ag56 : Aggr Tryd.prog 56 12 := ⟨fun w => Tryd.isAgg56 w, fun w => Tryd.sizeOf56 w⟩
theorem fa56_1 : FieldAt Tryd.prog 56 1 1 := fun w a => by simp [Instr.fieldAt, Instr.sureAddr, fieldPlace, Tryd.runUnderlying56, Tryd.sizeOf44]
theorem fa56_0 : FieldAt Tryd.prog 56 0 0 := fun w a => by simp [Instr.fieldAt, Instr.sureAddr, fieldPlace, Tryd.runUnderlying56, Tryd.sizeOf22]
theorem fa56_2 : FieldAt Tryd.prog 56 2 11 := fun w a => by simp [Instr.fieldAt, Instr.sureAddr, fieldPlace, Tryd.runUnderlying56, Tryd.sizeOf4]
theorem st46 : StructT Tryd.prog 46 [(.slice none 0 0), (.slice none 0 0), (.slice none 0 0), (.slice none 0 0), (.slice none 0 0), (.slice none 0 0), (.slice none 0 0), (.slice none 0 0), (.slice none 0 0), (.slice none 0 0), (.slice none 0 0), (.bool false)] [(0, 1), (1, 10), (11, 1)] := ⟨z46, ⟨_, Tryd.underlying46, fun w => by simp [Tryd.sizeOf4, Tryd.sizeOf22, Tryd.sizeOf44]⟩⟩
end Go.Proofs.YtigaolglnnjnmaaDoor
