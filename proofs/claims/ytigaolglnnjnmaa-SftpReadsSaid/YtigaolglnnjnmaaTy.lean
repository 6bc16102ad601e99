/-
  Facts on the types of this seat, each by a computation.
-/
import Derived.Test.YtigaolglnnjnmaaSxMore
import Derived.Test.YtigaolglnnjnmaaRows
namespace Go.Proofs.Ytigaolglnnjnmaa
open Go.Sx
theorem sl32 : Slc Try.prog 32 5 1 1 (.int .u8 0) := Slc.of Try.underlying32 (by kernel_rfl) rfl (by decide)
theorem fa137_0 : FieldAt Try.prog 137 0 0 := fun w a => by simp [Instr.fieldAt, Instr.sureAddr, fieldPlace, Try.runUnderlying137, Try.sizeOf32]
theorem sc32 : Scal Try.prog 32 := ⟨fun w => Try.isAgg32 w, fun w => Try.sizeOf32 w⟩
theorem z137 : Zero Try.prog 137 (.agg #[(.slice none 0 0)]) := fun w => Try.zeroValue137 w
theorem st137 : StructT Try.prog 137 [(.slice none 0 0)] [(0, 1)] := ⟨z137, ⟨_, Try.underlying137, fun w => by simp [Try.sizeOf32]⟩⟩
theorem z141 : Zero Try.prog 141 (.agg #[(.slice none 0 0), (.int .i64 0), (.int .i64 0), (.int .i64 0)]) := fun w => Try.zeroValue141 w
theorem st141 : StructT Try.prog 141 [(.slice none 0 0), (.int .i64 0), (.int .i64 0), (.int .i64 0)] [(0, 1), (1, 1), (2, 1), (3, 1)] := ⟨z141, ⟨_, Try.underlying141, fun w => by simp [Try.sizeOf3, Try.sizeOf24, Try.sizeOf32]⟩⟩
theorem fa141_2 : FieldAt Try.prog 141 2 2 := fun w a => by simp [Instr.fieldAt, Instr.sureAddr, fieldPlace, Try.runUnderlying141, Try.sizeOf24]
theorem sc24 : Scal Try.prog 24 := ⟨fun w => Try.isAgg24 w, fun w => Try.sizeOf24 w⟩
theorem fa141_3 : FieldAt Try.prog 141 3 3 := fun w a => by simp [Instr.fieldAt, Instr.sureAddr, fieldPlace, Try.runUnderlying141, Try.sizeOf3]
theorem sc3 : Scal Try.prog 3 := ⟨fun w => Try.isAgg3 w, fun w => Try.sizeOf3 w⟩
theorem fa141_0 : FieldAt Try.prog 141 0 0 := fun w a => by simp [Instr.fieldAt, Instr.sureAddr, fieldPlace, Try.runUnderlying141, Try.sizeOf32]
theorem fa141_1 : FieldAt Try.prog 141 1 1 := fun w a => by simp [Instr.fieldAt, Instr.sureAddr, fieldPlace, Try.runUnderlying141, Try.sizeOf3]
theorem sc5 : Scal Try.prog 5 := ⟨fun w => Try.isAgg5 w, fun w => Try.sizeOf5 w⟩
theorem z54 : Zero Try.prog 54 (.agg #[(.int .u32 0), (.int .u64 0), (.int .u32 0), (.int .u32 0), (.int .u32 0), (.int .u32 0), (.int .u32 0)]) := fun w => Try.zeroValue54 w
theorem fa54_0 : FieldAt Try.prog 54 0 0 := fun w a => by simp [Instr.fieldAt, Instr.sureAddr, fieldPlace, Try.runUnderlying54, Try.sizeOf40]
theorem sc40 : Scal Try.prog 40 := ⟨fun w => Try.isAgg40 w, fun w => Try.sizeOf40 w⟩
theorem fa54_1 : FieldAt Try.prog 54 1 1 := fun w a => by simp [Instr.fieldAt, Instr.sureAddr, fieldPlace, Try.runUnderlying54, Try.sizeOf52]
theorem sc52 : Scal Try.prog 52 := ⟨fun w => Try.isAgg52 w, fun w => Try.sizeOf52 w⟩
theorem fa54_2 : FieldAt Try.prog 54 2 2 := fun w a => by simp [Instr.fieldAt, Instr.sureAddr, fieldPlace, Try.runUnderlying54, Try.sizeOf40]
theorem fa54_3 : FieldAt Try.prog 54 3 3 := fun w a => by simp [Instr.fieldAt, Instr.sureAddr, fieldPlace, Try.runUnderlying54, Try.sizeOf40]
theorem fa54_4 : FieldAt Try.prog 54 4 4 := fun w a => by simp [Instr.fieldAt, Instr.sureAddr, fieldPlace, Try.runUnderlying54, Try.sizeOf40]
theorem fa54_5 : FieldAt Try.prog 54 5 5 := fun w a => by simp [Instr.fieldAt, Instr.sureAddr, fieldPlace, Try.runUnderlying54, Try.sizeOf40]
theorem fa54_6 : FieldAt Try.prog 54 6 6 := fun w a => by simp [Instr.fieldAt, Instr.sureAddr, fieldPlace, Try.runUnderlying54, Try.sizeOf40]
theorem ag54 : Aggr Try.prog 54 7 := ⟨fun w => Try.isAgg54 w, fun w => Try.sizeOf54 w⟩
theorem st54 : StructT Try.prog 54 [(.int .u32 0), (.int .u64 0), (.int .u32 0), (.int .u32 0), (.int .u32 0), (.int .u32 0), (.int .u32 0)] [(0, 1), (1, 1), (2, 1), (3, 1), (4, 1), (5, 1), (6, 1)] := ⟨z54, ⟨_, Try.underlying54, fun w => by simp [Try.sizeOf40, Try.sizeOf52]⟩⟩
theorem fa134_2 : FieldAt Try.prog 134 2 2 := fun w a => by simp [Instr.fieldAt, Instr.sureAddr, fieldPlace, Try.runUnderlying134, Try.sizeOf4]
theorem sc4 : Scal Try.prog 4 := ⟨fun w => Try.isAgg4 w, fun w => Try.sizeOf4 w⟩
theorem fa134_3 : FieldAt Try.prog 134 3 3 := fun w a => by simp [Instr.fieldAt, Instr.sureAddr, fieldPlace, Try.runUnderlying134, Try.sizeOf3]
theorem fa134_4 : FieldAt Try.prog 134 4 4 := fun w a => by simp [Instr.fieldAt, Instr.sureAddr, fieldPlace, Try.runUnderlying134, Try.sizeOf3]
theorem fa134_0 : FieldAt Try.prog 134 0 0 := fun w a => by simp [Instr.fieldAt, Instr.sureAddr, fieldPlace, Try.runUnderlying134, Try.sizeOf32]
theorem fa134_1 : FieldAt Try.prog 134 1 1 := fun w a => by simp [Instr.fieldAt, Instr.sureAddr, fieldPlace, Try.runUnderlying134, Try.sizeOf3]
theorem z134 : Zero Try.prog 134 (.agg #[(.slice none 0 0), (.int .i64 0), (.bool false), (.int .i64 0), (.int .i64 0)]) := fun w => Try.zeroValue134 w
theorem st134 : StructT Try.prog 134 [(.slice none 0 0), (.int .i64 0), (.bool false), (.int .i64 0), (.int .i64 0)] [(0, 1), (1, 1), (2, 1), (3, 1), (4, 1)] := ⟨z134, ⟨_, Try.underlying134, fun w => by simp [Try.sizeOf3, Try.sizeOf4, Try.sizeOf32]⟩⟩
theorem sc9 : Scal Try.prog 9 := ⟨fun w => Try.isAgg9 w, fun w => Try.sizeOf9 w⟩
theorem sl36 : Slc Try.prog 36 32 1 24 (.slice none 0 0) := Slc.of Try.underlying36 (by kernel_rfl) rfl (by decide)
theorem z35 : Zero Try.prog 35 (.agg #[(.int .i64 0), (.int .i64 0), (.string ByteArray.empty), (.string ByteArray.empty), (.string ByteArray.empty), (.slice none 0 0)]) := fun w => Try.zeroValue35 w
theorem z107 : Zero Try.prog 107 (.agg #[(.bool false), (.bool false), (.bool false), (.bool false), (.bool false), (.bool false), (.bool false), (.bool false)]) := fun w => Try.zeroValue107 w
theorem st107 : StructT Try.prog 107 [(.bool false), (.bool false), (.bool false), (.bool false), (.bool false), (.bool false), (.bool false), (.bool false)] [(0, 1), (1, 1), (2, 1), (3, 1), (4, 1), (5, 1), (6, 1), (7, 1)] := ⟨z107, ⟨_, Try.underlying107, fun w => by simp [Try.sizeOf4]⟩⟩
theorem ag107 : Aggr Try.prog 107 8 := ⟨fun w => Try.isAgg107 w, fun w => Try.sizeOf107 w⟩
theorem fa56_0 : FieldAt Try.prog 56 0 0 := fun w a => by simp [Instr.fieldAt, Instr.sureAddr, fieldPlace, Try.runUnderlying56, Try.sizeOf3]
theorem fa107_7 : FieldAt Try.prog 107 7 7 := fun w a => by simp [Instr.fieldAt, Instr.sureAddr, fieldPlace, Try.runUnderlying107, Try.sizeOf4]
theorem fa56_8 : FieldAt Try.prog 56 8 8 := fun w a => by simp [Instr.fieldAt, Instr.sureAddr, fieldPlace, Try.runUnderlying56, Try.sizeOf54]
theorem fa107_0 : FieldAt Try.prog 107 0 0 := fun w a => by simp [Instr.fieldAt, Instr.sureAddr, fieldPlace, Try.runUnderlying107, Try.sizeOf4]
theorem fa56_1 : FieldAt Try.prog 56 1 1 := fun w a => by simp [Instr.fieldAt, Instr.sureAddr, fieldPlace, Try.runUnderlying56, Try.sizeOf9]
theorem fa107_1 : FieldAt Try.prog 107 1 1 := fun w a => by simp [Instr.fieldAt, Instr.sureAddr, fieldPlace, Try.runUnderlying107, Try.sizeOf4]
theorem fa56_2 : FieldAt Try.prog 56 2 2 := fun w a => by simp [Instr.fieldAt, Instr.sureAddr, fieldPlace, Try.runUnderlying56, Try.sizeOf9]
theorem fa107_2 : FieldAt Try.prog 107 2 2 := fun w a => by simp [Instr.fieldAt, Instr.sureAddr, fieldPlace, Try.runUnderlying107, Try.sizeOf4]
theorem fa56_3 : FieldAt Try.prog 56 3 3 := fun w a => by simp [Instr.fieldAt, Instr.sureAddr, fieldPlace, Try.runUnderlying56, Try.sizeOf9]
theorem fa107_5 : FieldAt Try.prog 107 5 5 := fun w a => by simp [Instr.fieldAt, Instr.sureAddr, fieldPlace, Try.runUnderlying107, Try.sizeOf4]
theorem fa56_6 : FieldAt Try.prog 56 6 6 := fun w a => by simp [Instr.fieldAt, Instr.sureAddr, fieldPlace, Try.runUnderlying56, Try.sizeOf32]
theorem fa107_3 : FieldAt Try.prog 107 3 3 := fun w a => by simp [Instr.fieldAt, Instr.sureAddr, fieldPlace, Try.runUnderlying107, Try.sizeOf4]
theorem fa56_4 : FieldAt Try.prog 56 4 4 := fun w a => by simp [Instr.fieldAt, Instr.sureAddr, fieldPlace, Try.runUnderlying56, Try.sizeOf52]
theorem fa107_4 : FieldAt Try.prog 107 4 4 := fun w a => by simp [Instr.fieldAt, Instr.sureAddr, fieldPlace, Try.runUnderlying107, Try.sizeOf4]
theorem fa56_5 : FieldAt Try.prog 56 5 5 := fun w a => by simp [Instr.fieldAt, Instr.sureAddr, fieldPlace, Try.runUnderlying56, Try.sizeOf40]
theorem fa107_6 : FieldAt Try.prog 107 6 6 := fun w a => by simp [Instr.fieldAt, Instr.sureAddr, fieldPlace, Try.runUnderlying107, Try.sizeOf4]
theorem fa56_7 : FieldAt Try.prog 56 7 7 := fun w a => by simp [Instr.fieldAt, Instr.sureAddr, fieldPlace, Try.runUnderlying56, Try.sizeOf40]
theorem z56 : Zero Try.prog 56 (.agg #[(.int .i64 0), (.string ByteArray.empty), (.string ByteArray.empty), (.string ByteArray.empty), (.int .u64 0), (.int .u32 0), (.slice none 0 0), (.int .u32 0), (.int .u32 0), (.int .u64 0), (.int .u32 0), (.int .u32 0), (.int .u32 0), (.int .u32 0), (.int .u32 0)]) := fun w => Try.zeroValue56 w
theorem st56 : StructT Try.prog 56 [(.int .i64 0), (.string ByteArray.empty), (.string ByteArray.empty), (.string ByteArray.empty), (.int .u64 0), (.int .u32 0), (.slice none 0 0), (.int .u32 0), (.int .u32 0), (.int .u64 0), (.int .u32 0), (.int .u32 0), (.int .u32 0), (.int .u32 0), (.int .u32 0)] [(0, 1), (1, 1), (2, 1), (3, 1), (4, 1), (5, 1), (6, 1), (7, 1), (8, 7)] := ⟨z56, ⟨_, Try.underlying56, fun w => by simp [Try.sizeOf3, Try.sizeOf9, Try.sizeOf32, Try.sizeOf40, Try.sizeOf52, Try.sizeOf54]⟩⟩
theorem ag56 : Aggr Try.prog 56 15 := ⟨fun w => Try.isAgg56 w, fun w => Try.sizeOf56 w⟩
theorem sl64 : Slc Try.prog 64 120 8 56 (.agg #[(.string ByteArray.empty), (.int .u32 0), (.int .u64 0), (.int .u32 0), (.int .u32 0), (.int .u32 0), (.int .u32 0), (.int .u32 0)]) := Slc.of Try.underlying64 (by kernel_rfl) rfl (by decide)
theorem ag120 : Aggr Try.prog 120 8 := ⟨fun w => Try.isAgg120 w, fun w => Try.sizeOf120 w⟩
theorem z120 : Zero Try.prog 120 (.agg #[(.string ByteArray.empty), (.int .u32 0), (.int .u64 0), (.int .u32 0), (.int .u32 0), (.int .u32 0), (.int .u32 0), (.int .u32 0)]) := fun w => Try.zeroValue120 w
theorem fa120_1 : FieldAt Try.prog 120 1 1 := fun w a => by simp [Instr.fieldAt, Instr.sureAddr, fieldPlace, Try.runUnderlying120, Try.sizeOf54]
theorem fa120_0 : FieldAt Try.prog 120 0 0 := fun w a => by simp [Instr.fieldAt, Instr.sureAddr, fieldPlace, Try.runUnderlying120, Try.sizeOf9]
theorem fa66_0 : FieldAt Try.prog 66 0 0 := fun w a => by simp [Instr.fieldAt, Instr.sureAddr, fieldPlace, Try.runUnderlying66, Try.sizeOf3]
theorem fa66_1 : FieldAt Try.prog 66 1 1 := fun w a => by simp [Instr.fieldAt, Instr.sureAddr, fieldPlace, Try.runUnderlying66, Try.sizeOf3]
theorem fa66_2 : FieldAt Try.prog 66 2 2 := fun w a => by simp [Instr.fieldAt, Instr.sureAddr, fieldPlace, Try.runUnderlying66, Try.sizeOf9]
theorem fa66_3 : FieldAt Try.prog 66 3 3 := fun w a => by simp [Instr.fieldAt, Instr.sureAddr, fieldPlace, Try.runUnderlying66, Try.sizeOf32]
theorem fa66_4 : FieldAt Try.prog 66 4 4 := fun w a => by simp [Instr.fieldAt, Instr.sureAddr, fieldPlace, Try.runUnderlying66, Try.sizeOf64]
theorem sc64 : Scal Try.prog 64 := ⟨fun w => Try.isAgg64 w, fun w => Try.sizeOf64 w⟩
theorem fa66_5 : FieldAt Try.prog 66 5 5 := fun w a => by simp [Instr.fieldAt, Instr.sureAddr, fieldPlace, Try.runUnderlying66, Try.sizeOf54]
theorem ag66 : Aggr Try.prog 66 12 := ⟨fun w => Try.isAgg66 w, fun w => Try.sizeOf66 w⟩
theorem z66 : Zero Try.prog 66 (.agg #[(.int .i64 0), (.int .i64 0), (.string ByteArray.empty), (.slice none 0 0), (.slice none 0 0), (.int .u32 0), (.int .u64 0), (.int .u32 0), (.int .u32 0), (.int .u32 0), (.int .u32 0), (.int .u32 0)]) := fun w => Try.zeroValue66 w
theorem z75 : Zero Try.prog 75 (.agg #[(.slice none 0 0), (.slice none 0 0)]) := fun w => Try.zeroValue75 w
theorem st120 : StructT Try.prog 120 [(.string ByteArray.empty), (.int .u32 0), (.int .u64 0), (.int .u32 0), (.int .u32 0), (.int .u32 0), (.int .u32 0), (.int .u32 0)] [(0, 1), (1, 7)] := ⟨z120, ⟨_, Try.underlying120, fun w => by simp [Try.sizeOf9, Try.sizeOf54]⟩⟩
theorem st66 : StructT Try.prog 66 [(.int .i64 0), (.int .i64 0), (.string ByteArray.empty), (.slice none 0 0), (.slice none 0 0), (.int .u32 0), (.int .u64 0), (.int .u32 0), (.int .u32 0), (.int .u32 0), (.int .u32 0), (.int .u32 0)] [(0, 1), (1, 1), (2, 1), (3, 1), (4, 1), (5, 7)] := ⟨z66, ⟨_, Try.underlying66, fun w => by simp [Try.sizeOf3, Try.sizeOf9, Try.sizeOf32, Try.sizeOf54, Try.sizeOf64]⟩⟩
end Go.Proofs.Ytigaolglnnjnmaa
