/-
  Facts on the types of this seat, each by a computation.
-/
import Derived.Test.YtbbmhppkhcodfaaSxMore
import Derived.Test.YtbbmhppkhcodfaaRows
namespace Go.Proofs.Ytbbmhppkhcodfaa
open Go.Sx
theorem sl30 : Slc Try.prog 30 5 1 1 (.int .u8 0) := Slc.of Try.underlying30 (by kernel_rfl) rfl (by decide)
theorem fa131_0 : FieldAt Try.prog 131 0 0 := fun w a => by simp [Instr.fieldAt, Instr.sureAddr, fieldPlace, Try.runUnderlying131, Try.sizeOf30]
theorem sc30 : Scal Try.prog 30 := ⟨fun w => Try.isAgg30 w, fun w => Try.sizeOf30 w⟩
theorem z131 : Zero Try.prog 131 (.agg #[(.slice none 0 0)]) := fun w => Try.zeroValue131 w
theorem st131 : StructT Try.prog 131 [(.slice none 0 0)] [(0, 1)] := ⟨z131, ⟨_, Try.underlying131, fun w => by simp [Try.sizeOf30]⟩⟩
theorem z139 : Zero Try.prog 139 (.agg #[(.slice none 0 0), (.int .i64 0), (.int .i64 0), (.int .i64 0)]) := fun w => Try.zeroValue139 w
theorem st139 : StructT Try.prog 139 [(.slice none 0 0), (.int .i64 0), (.int .i64 0), (.int .i64 0)] [(0, 1), (1, 1), (2, 1), (3, 1)] := ⟨z139, ⟨_, Try.underlying139, fun w => by simp [Try.sizeOf3, Try.sizeOf26, Try.sizeOf30]⟩⟩
theorem fa139_2 : FieldAt Try.prog 139 2 2 := fun w a => by simp [Instr.fieldAt, Instr.sureAddr, fieldPlace, Try.runUnderlying139, Try.sizeOf26]
theorem sc26 : Scal Try.prog 26 := ⟨fun w => Try.isAgg26 w, fun w => Try.sizeOf26 w⟩
theorem fa139_3 : FieldAt Try.prog 139 3 3 := fun w a => by simp [Instr.fieldAt, Instr.sureAddr, fieldPlace, Try.runUnderlying139, Try.sizeOf3]
theorem sc3 : Scal Try.prog 3 := ⟨fun w => Try.isAgg3 w, fun w => Try.sizeOf3 w⟩
theorem fa139_0 : FieldAt Try.prog 139 0 0 := fun w a => by simp [Instr.fieldAt, Instr.sureAddr, fieldPlace, Try.runUnderlying139, Try.sizeOf30]
theorem fa139_1 : FieldAt Try.prog 139 1 1 := fun w a => by simp [Instr.fieldAt, Instr.sureAddr, fieldPlace, Try.runUnderlying139, Try.sizeOf3]
theorem sc5 : Scal Try.prog 5 := ⟨fun w => Try.isAgg5 w, fun w => Try.sizeOf5 w⟩
theorem z40 : Zero Try.prog 40 (.agg #[(.int .u32 0), (.int .u64 0), (.int .u32 0), (.int .u32 0), (.int .u32 0), (.int .u32 0), (.int .u32 0)]) := fun w => Try.zeroValue40 w
theorem fa40_0 : FieldAt Try.prog 40 0 0 := fun w a => by simp [Instr.fieldAt, Instr.sureAddr, fieldPlace, Try.runUnderlying40, Try.sizeOf37]
theorem sc37 : Scal Try.prog 37 := ⟨fun w => Try.isAgg37 w, fun w => Try.sizeOf37 w⟩
theorem fa40_1 : FieldAt Try.prog 40 1 1 := fun w a => by simp [Instr.fieldAt, Instr.sureAddr, fieldPlace, Try.runUnderlying40, Try.sizeOf34]
theorem sc34 : Scal Try.prog 34 := ⟨fun w => Try.isAgg34 w, fun w => Try.sizeOf34 w⟩
theorem fa40_2 : FieldAt Try.prog 40 2 2 := fun w a => by simp [Instr.fieldAt, Instr.sureAddr, fieldPlace, Try.runUnderlying40, Try.sizeOf37]
theorem fa40_3 : FieldAt Try.prog 40 3 3 := fun w a => by simp [Instr.fieldAt, Instr.sureAddr, fieldPlace, Try.runUnderlying40, Try.sizeOf37]
theorem fa40_4 : FieldAt Try.prog 40 4 4 := fun w a => by simp [Instr.fieldAt, Instr.sureAddr, fieldPlace, Try.runUnderlying40, Try.sizeOf37]
theorem fa40_5 : FieldAt Try.prog 40 5 5 := fun w a => by simp [Instr.fieldAt, Instr.sureAddr, fieldPlace, Try.runUnderlying40, Try.sizeOf37]
theorem fa40_6 : FieldAt Try.prog 40 6 6 := fun w a => by simp [Instr.fieldAt, Instr.sureAddr, fieldPlace, Try.runUnderlying40, Try.sizeOf37]
theorem ag40 : Aggr Try.prog 40 7 := ⟨fun w => Try.isAgg40 w, fun w => Try.sizeOf40 w⟩
theorem st40 : StructT Try.prog 40 [(.int .u32 0), (.int .u64 0), (.int .u32 0), (.int .u32 0), (.int .u32 0), (.int .u32 0), (.int .u32 0)] [(0, 1), (1, 1), (2, 1), (3, 1), (4, 1), (5, 1), (6, 1)] := ⟨z40, ⟨_, Try.underlying40, fun w => by simp [Try.sizeOf34, Try.sizeOf37]⟩⟩
theorem sl29 : Slc Try.prog 29 9 1 16 (.string ByteArray.empty) := Slc.of Try.underlying29 (by kernel_rfl) rfl (by decide)
theorem sc9 : Scal Try.prog 9 := ⟨fun w => Try.isAgg9 w, fun w => Try.sizeOf9 w⟩
theorem sl82 : Slc Try.prog 82 76 1 8 (.pointer none) := Slc.of Try.underlying82 (by kernel_rfl) rfl (by decide)
theorem fa85_2 : FieldAt Try.prog 85 2 2 := fun w a => by simp [Instr.fieldAt, Instr.sureAddr, fieldPlace, Try.runUnderlying85, Try.sizeOf9]
theorem sc76 : Scal Try.prog 76 := ⟨fun w => Try.isAgg76 w, fun w => Try.sizeOf76 w⟩
theorem fa85_3 : FieldAt Try.prog 85 3 3 := fun w a => by simp [Instr.fieldAt, Instr.sureAddr, fieldPlace, Try.runUnderlying85, Try.sizeOf82]
theorem sc82 : Scal Try.prog 82 := ⟨fun w => Try.isAgg82 w, fun w => Try.sizeOf82 w⟩
theorem fa78_0 : FieldAt Try.prog 78 0 0 := fun w a => by simp [Instr.fieldAt, Instr.sureAddr, fieldPlace, Try.runUnderlying78, Try.sizeOf76]
theorem z76 : Zero Try.prog 76 (.pointer none) := fun w => Try.zeroValue76 w
theorem fa85_0 : FieldAt Try.prog 85 0 0 := fun w a => by simp [Instr.fieldAt, Instr.sureAddr, fieldPlace, Try.runUnderlying85, Try.sizeOf3]
theorem fa78_3 : FieldAt Try.prog 78 3 3 := fun w a => by simp [Instr.fieldAt, Instr.sureAddr, fieldPlace, Try.runUnderlying78, Try.sizeOf3]
theorem fa78_1 : FieldAt Try.prog 78 1 1 := fun w a => by simp [Instr.fieldAt, Instr.sureAddr, fieldPlace, Try.runUnderlying78, Try.sizeOf75]
theorem sc75 : Scal Try.prog 75 := ⟨fun w => Try.isAgg75 w, fun w => Try.sizeOf75 w⟩
theorem fa85_1 : FieldAt Try.prog 85 1 1 := fun w a => by simp [Instr.fieldAt, Instr.sureAddr, fieldPlace, Try.runUnderlying85, Try.sizeOf4]
theorem sc4 : Scal Try.prog 4 := ⟨fun w => Try.isAgg4 w, fun w => Try.sizeOf4 w⟩
theorem fa85_5 : FieldAt Try.prog 85 5 5 := fun w a => by simp [Instr.fieldAt, Instr.sureAddr, fieldPlace, Try.runUnderlying85, Try.sizeOf40]
theorem fa85_4 : FieldAt Try.prog 85 4 4 := fun w a => by simp [Instr.fieldAt, Instr.sureAddr, fieldPlace, Try.runUnderlying85, Try.sizeOf30]
theorem z85 : Zero Try.prog 85 (.agg #[(.int .i64 0), (.bool false), (.string ByteArray.empty), (.slice none 0 0), (.slice none 0 0), (.int .u32 0), (.int .u64 0), (.int .u32 0), (.int .u32 0), (.int .u32 0), (.int .u32 0), (.int .u32 0)]) := fun w => Try.zeroValue85 w
theorem st85 : StructT Try.prog 85 [(.int .i64 0), (.bool false), (.string ByteArray.empty), (.slice none 0 0), (.slice none 0 0), (.int .u32 0), (.int .u64 0), (.int .u32 0), (.int .u32 0), (.int .u32 0), (.int .u32 0), (.int .u32 0)] [(0, 1), (1, 1), (2, 1), (3, 1), (4, 1), (5, 7)] := ⟨z85, ⟨_, Try.underlying85, fun w => by simp [Try.sizeOf3, Try.sizeOf4, Try.sizeOf9, Try.sizeOf30, Try.sizeOf40, Try.sizeOf82]⟩⟩
theorem fa78_2 : FieldAt Try.prog 78 2 2 := fun w a => by simp [Instr.fieldAt, Instr.sureAddr, fieldPlace, Try.runUnderlying78, Try.sizeOf3]
theorem z78 : Zero Try.prog 78 (.agg #[(.pointer none), (.map none), (.int .i64 0), (.int .i64 0)]) := fun w => Try.zeroValue78 w
theorem st78 : StructT Try.prog 78 [(.pointer none), (.map none), (.int .i64 0), (.int .i64 0)] [(0, 1), (1, 1), (2, 1), (3, 1)] := ⟨z78, ⟨_, Try.underlying78, fun w => by simp [Try.sizeOf3, Try.sizeOf75, Try.sizeOf76]⟩⟩
theorem sl22 : Slc Try.prog 22 30 1 24 (.slice none 0 0) := Slc.of Try.underlying22 (by kernel_rfl) rfl (by decide)
theorem sl23 : Slc Try.prog 23 3 1 8 (.int .i64 0) := Slc.of Try.underlying23 (by kernel_rfl) rfl (by decide)
theorem z93 : Zero Try.prog 93 (.agg #[(.string ByteArray.empty), (.int .u32 0), (.int .u64 0), (.int .u32 0), (.int .u32 0), (.int .u32 0), (.int .u32 0), (.int .u32 0)]) := fun w => Try.zeroValue93 w
theorem st93 : StructT Try.prog 93 [(.string ByteArray.empty), (.int .u32 0), (.int .u64 0), (.int .u32 0), (.int .u32 0), (.int .u32 0), (.int .u32 0), (.int .u32 0)] [(0, 1), (1, 7)] := ⟨z93, ⟨_, Try.underlying93, fun w => by simp [Try.sizeOf9, Try.sizeOf40]⟩⟩
theorem sl54 : Slc Try.prog 54 93 8 56 (.agg #[(.string ByteArray.empty), (.int .u32 0), (.int .u64 0), (.int .u32 0), (.int .u32 0), (.int .u32 0), (.int .u32 0), (.int .u32 0)]) := Slc.of Try.underlying54 (by kernel_rfl) rfl (by decide)
theorem fa93_0 : FieldAt Try.prog 93 0 0 := fun w a => by simp [Instr.fieldAt, Instr.sureAddr, fieldPlace, Try.runUnderlying93, Try.sizeOf9]
theorem fa93_1 : FieldAt Try.prog 93 1 1 := fun w a => by simp [Instr.fieldAt, Instr.sureAddr, fieldPlace, Try.runUnderlying93, Try.sizeOf40]
theorem z47 : Zero Try.prog 47 (.agg #[(.int .i64 0), (.int .i64 0), (.slice none 0 0), (.slice none 0 0), (.bool false), (.int .u64 0), (.int .u32 0), (.slice none 0 0), (.int .u32 0), (.int .u64 0), (.int .u32 0), (.int .u32 0), (.int .u32 0), (.int .u32 0), (.int .u32 0)]) := fun w => Try.zeroValue47 w
theorem fa47_2 : FieldAt Try.prog 47 2 2 := fun w a => by simp [Instr.fieldAt, Instr.sureAddr, fieldPlace, Try.runUnderlying47, Try.sizeOf29]
theorem sc29 : Scal Try.prog 29 := ⟨fun w => Try.isAgg29 w, fun w => Try.sizeOf29 w⟩
theorem fa47_3 : FieldAt Try.prog 47 3 3 := fun w a => by simp [Instr.fieldAt, Instr.sureAddr, fieldPlace, Try.runUnderlying47, Try.sizeOf29]
theorem fa47_7 : FieldAt Try.prog 47 7 7 := fun w a => by simp [Instr.fieldAt, Instr.sureAddr, fieldPlace, Try.runUnderlying47, Try.sizeOf30]
theorem ag47 : Aggr Try.prog 47 15 := ⟨fun w => Try.isAgg47 w, fun w => Try.sizeOf47 w⟩
theorem sl45 : Slc Try.prog 45 47 15 152 (.agg #[(.int .i64 0), (.int .i64 0), (.slice none 0 0), (.slice none 0 0), (.bool false), (.int .u64 0), (.int .u32 0), (.slice none 0 0), (.int .u32 0), (.int .u64 0), (.int .u32 0), (.int .u32 0), (.int .u32 0), (.int .u32 0), (.int .u32 0)]) := Slc.of Try.underlying45 (by kernel_rfl) rfl (by decide)
theorem fa47_4 : FieldAt Try.prog 47 4 4 := fun w a => by simp [Instr.fieldAt, Instr.sureAddr, fieldPlace, Try.runUnderlying47, Try.sizeOf4]
theorem fa47_1 : FieldAt Try.prog 47 1 1 := fun w a => by simp [Instr.fieldAt, Instr.sureAddr, fieldPlace, Try.runUnderlying47, Try.sizeOf3]
theorem fa47_5 : FieldAt Try.prog 47 5 5 := fun w a => by simp [Instr.fieldAt, Instr.sureAddr, fieldPlace, Try.runUnderlying47, Try.sizeOf34]
theorem sl134 : Slc Try.prog 134 37 1 4 (.int .u32 0) := Slc.of Try.underlying134 (by kernel_rfl) rfl (by decide)
end Go.Proofs.Ytbbmhppkhcodfaa
