/-
  Facts on the types of this seat, each by a computation.
-/
import Derived.Test.YtbiohhfibkolgaaSxMore
import Derived.Test.YtbiohhfibkolgaaRows
namespace Go.Proofs.Ytbiohhfibkolgaa
open Go.Sx
theorem sl25 : Slc Try.prog 25 5 1 1 (.int .u8 0) := Slc.of Try.underlying25 (by kernel_rfl) rfl (by decide)
theorem fa100_0 : FieldAt Try.prog 100 0 0 := fun w a => by simp [Instr.fieldAt, Instr.sureAddr, fieldPlace, Try.runUnderlying100, Try.sizeOf25]
theorem sc25 : Scal Try.prog 25 := ⟨fun w => Try.isAgg25 w, fun w => Try.sizeOf25 w⟩
theorem z100 : Zero Try.prog 100 (.agg #[(.slice none 0 0)]) := fun w => Try.zeroValue100 w
theorem st100 : StructT Try.prog 100 [(.slice none 0 0)] [(0, 1)] := ⟨z100, ⟨_, Try.underlying100, fun w => by simp [Try.sizeOf25]⟩⟩
theorem z114 : Zero Try.prog 114 (.agg #[(.slice none 0 0), (.int .i64 0), (.int .i64 0), (.int .i64 0)]) := fun w => Try.zeroValue114 w
theorem st114 : StructT Try.prog 114 [(.slice none 0 0), (.int .i64 0), (.int .i64 0), (.int .i64 0)] [(0, 1), (1, 1), (2, 1), (3, 1)] := ⟨z114, ⟨_, Try.underlying114, fun w => by simp [Try.sizeOf3, Try.sizeOf25, Try.sizeOf35]⟩⟩
theorem fa114_2 : FieldAt Try.prog 114 2 2 := fun w a => by simp [Instr.fieldAt, Instr.sureAddr, fieldPlace, Try.runUnderlying114, Try.sizeOf35]
theorem sc35 : Scal Try.prog 35 := ⟨fun w => Try.isAgg35 w, fun w => Try.sizeOf35 w⟩
theorem fa114_3 : FieldAt Try.prog 114 3 3 := fun w a => by simp [Instr.fieldAt, Instr.sureAddr, fieldPlace, Try.runUnderlying114, Try.sizeOf3]
theorem sc3 : Scal Try.prog 3 := ⟨fun w => Try.isAgg3 w, fun w => Try.sizeOf3 w⟩
theorem fa114_0 : FieldAt Try.prog 114 0 0 := fun w a => by simp [Instr.fieldAt, Instr.sureAddr, fieldPlace, Try.runUnderlying114, Try.sizeOf25]
theorem fa114_1 : FieldAt Try.prog 114 1 1 := fun w a => by simp [Instr.fieldAt, Instr.sureAddr, fieldPlace, Try.runUnderlying114, Try.sizeOf3]
theorem sc5 : Scal Try.prog 5 := ⟨fun w => Try.isAgg5 w, fun w => Try.sizeOf5 w⟩
theorem z30 : Zero Try.prog 30 (.agg #[(.int .u32 0), (.int .u64 0), (.int .u32 0), (.int .u32 0), (.int .u32 0), (.int .u32 0), (.int .u32 0)]) := fun w => Try.zeroValue30 w
theorem fa30_0 : FieldAt Try.prog 30 0 0 := fun w a => by simp [Instr.fieldAt, Instr.sureAddr, fieldPlace, Try.runUnderlying30, Try.sizeOf27]
theorem sc27 : Scal Try.prog 27 := ⟨fun w => Try.isAgg27 w, fun w => Try.sizeOf27 w⟩
theorem fa30_1 : FieldAt Try.prog 30 1 1 := fun w a => by simp [Instr.fieldAt, Instr.sureAddr, fieldPlace, Try.runUnderlying30, Try.sizeOf28]
theorem sc28 : Scal Try.prog 28 := ⟨fun w => Try.isAgg28 w, fun w => Try.sizeOf28 w⟩
theorem fa30_2 : FieldAt Try.prog 30 2 2 := fun w a => by simp [Instr.fieldAt, Instr.sureAddr, fieldPlace, Try.runUnderlying30, Try.sizeOf27]
theorem fa30_3 : FieldAt Try.prog 30 3 3 := fun w a => by simp [Instr.fieldAt, Instr.sureAddr, fieldPlace, Try.runUnderlying30, Try.sizeOf27]
theorem fa30_4 : FieldAt Try.prog 30 4 4 := fun w a => by simp [Instr.fieldAt, Instr.sureAddr, fieldPlace, Try.runUnderlying30, Try.sizeOf27]
theorem fa30_5 : FieldAt Try.prog 30 5 5 := fun w a => by simp [Instr.fieldAt, Instr.sureAddr, fieldPlace, Try.runUnderlying30, Try.sizeOf27]
theorem fa30_6 : FieldAt Try.prog 30 6 6 := fun w a => by simp [Instr.fieldAt, Instr.sureAddr, fieldPlace, Try.runUnderlying30, Try.sizeOf27]
theorem ag30 : Aggr Try.prog 30 7 := ⟨fun w => Try.isAgg30 w, fun w => Try.sizeOf30 w⟩
theorem st30 : StructT Try.prog 30 [(.int .u32 0), (.int .u64 0), (.int .u32 0), (.int .u32 0), (.int .u32 0), (.int .u32 0), (.int .u32 0)] [(0, 1), (1, 1), (2, 1), (3, 1), (4, 1), (5, 1), (6, 1)] := ⟨z30, ⟨_, Try.underlying30, fun w => by simp [Try.sizeOf27, Try.sizeOf28]⟩⟩
theorem sl22 : Slc Try.prog 22 3 1 8 (.int .i64 0) := Slc.of Try.underlying22 (by kernel_rfl) rfl (by decide)
theorem fa120_2 : FieldAt Try.prog 120 2 2 := fun w a => by simp [Instr.fieldAt, Instr.sureAddr, fieldPlace, Try.runUnderlying120, Try.sizeOf4]
theorem sc4 : Scal Try.prog 4 := ⟨fun w => Try.isAgg4 w, fun w => Try.sizeOf4 w⟩
theorem fa120_3 : FieldAt Try.prog 120 3 3 := fun w a => by simp [Instr.fieldAt, Instr.sureAddr, fieldPlace, Try.runUnderlying120, Try.sizeOf3]
theorem fa120_4 : FieldAt Try.prog 120 4 4 := fun w a => by simp [Instr.fieldAt, Instr.sureAddr, fieldPlace, Try.runUnderlying120, Try.sizeOf3]
theorem fa120_0 : FieldAt Try.prog 120 0 0 := fun w a => by simp [Instr.fieldAt, Instr.sureAddr, fieldPlace, Try.runUnderlying120, Try.sizeOf25]
theorem fa120_1 : FieldAt Try.prog 120 1 1 := fun w a => by simp [Instr.fieldAt, Instr.sureAddr, fieldPlace, Try.runUnderlying120, Try.sizeOf3]
theorem z120 : Zero Try.prog 120 (.agg #[(.slice none 0 0), (.int .i64 0), (.bool false), (.int .i64 0), (.int .i64 0)]) := fun w => Try.zeroValue120 w
theorem st120 : StructT Try.prog 120 [(.slice none 0 0), (.int .i64 0), (.bool false), (.int .i64 0), (.int .i64 0)] [(0, 1), (1, 1), (2, 1), (3, 1), (4, 1)] := ⟨z120, ⟨_, Try.underlying120, fun w => by simp [Try.sizeOf3, Try.sizeOf4, Try.sizeOf25]⟩⟩
theorem sl60 : Slc Try.prog 60 9 1 16 (.string ByteArray.empty) := Slc.of Try.underlying60 (by kernel_rfl) rfl (by decide)
theorem sc9 : Scal Try.prog 9 := ⟨fun w => Try.isAgg9 w, fun w => Try.sizeOf9 w⟩
theorem z62 : Zero Try.prog 62 (.agg #[(.int .i64 0), (.int .u64 0), (.string ByteArray.empty), (.slice none 0 0)]) := fun w => Try.zeroValue62 w
theorem fa62_2 : FieldAt Try.prog 62 2 2 := fun w a => by simp [Instr.fieldAt, Instr.sureAddr, fieldPlace, Try.runUnderlying62, Try.sizeOf9]
theorem fa62_3 : FieldAt Try.prog 62 3 3 := fun w a => by simp [Instr.fieldAt, Instr.sureAddr, fieldPlace, Try.runUnderlying62, Try.sizeOf60]
theorem sc60 : Scal Try.prog 60 := ⟨fun w => Try.isAgg60 w, fun w => Try.sizeOf60 w⟩
theorem ag62 : Aggr Try.prog 62 4 := ⟨fun w => Try.isAgg62 w, fun w => Try.sizeOf62 w⟩
theorem fa62_0 : FieldAt Try.prog 62 0 0 := fun w a => by simp [Instr.fieldAt, Instr.sureAddr, fieldPlace, Try.runUnderlying62, Try.sizeOf3]
theorem fa62_1 : FieldAt Try.prog 62 1 1 := fun w a => by simp [Instr.fieldAt, Instr.sureAddr, fieldPlace, Try.runUnderlying62, Try.sizeOf28]
theorem sl58 : Slc Try.prog 58 62 4 56 (.agg #[(.int .i64 0), (.int .u64 0), (.string ByteArray.empty), (.slice none 0 0)]) := Slc.of Try.underlying58 (by kernel_rfl) rfl (by decide)
-- the zero of the table: see the text Tab2
theorem sl26 : Slc Try.prog 26 46 8 56 (.agg #[(.string ByteArray.empty), (.int .u32 0), (.int .u64 0), (.int .u32 0), (.int .u32 0), (.int .u32 0), (.int .u32 0), (.int .u32 0)]) := Slc.of Try.underlying26 (by kernel_rfl) rfl (by decide)
theorem z32 : Zero Try.prog 32 (.agg #[(.int .i64 0), (.int .i64 0), (.string ByteArray.empty), (.slice none 0 0), (.slice none 0 0), (.int .u32 0), (.int .u64 0), (.int .u32 0), (.int .u32 0), (.int .u32 0), (.int .u32 0), (.int .u32 0)]) := fun w => Try.zeroValue32 w
theorem st32 : StructT Try.prog 32 [(.int .i64 0), (.int .i64 0), (.string ByteArray.empty), (.slice none 0 0), (.slice none 0 0), (.int .u32 0), (.int .u64 0), (.int .u32 0), (.int .u32 0), (.int .u32 0), (.int .u32 0), (.int .u32 0)] [(0, 1), (1, 1), (2, 1), (3, 1), (4, 1), (5, 7)] := ⟨z32, ⟨_, Try.underlying32, fun w => by simp [Try.sizeOf3, Try.sizeOf9, Try.sizeOf25, Try.sizeOf26, Try.sizeOf30]⟩⟩
theorem fa32_3 : FieldAt Try.prog 32 3 3 := fun w a => by simp [Instr.fieldAt, Instr.sureAddr, fieldPlace, Try.runUnderlying32, Try.sizeOf25]
theorem fa32_4 : FieldAt Try.prog 32 4 4 := fun w a => by simp [Instr.fieldAt, Instr.sureAddr, fieldPlace, Try.runUnderlying32, Try.sizeOf26]
theorem sc26 : Scal Try.prog 26 := ⟨fun w => Try.isAgg26 w, fun w => Try.sizeOf26 w⟩
theorem ag32 : Aggr Try.prog 32 12 := ⟨fun w => Try.isAgg32 w, fun w => Try.sizeOf32 w⟩
theorem fa96_0 : FieldAt Try.prog 96 0 0 := fun w a => by simp [Instr.fieldAt, Instr.sureAddr, fieldPlace, Try.runUnderlying96, Try.sizeOf94]
theorem fa93_0 : FieldAt Try.prog 93 0 0 := fun w a => by simp [Instr.fieldAt, Instr.sureAddr, fieldPlace, Try.runUnderlying93, Try.sizeOf3]
theorem fa93_1 : FieldAt Try.prog 93 1 1 := fun w a => by simp [Instr.fieldAt, Instr.sureAddr, fieldPlace, Try.runUnderlying93, Try.sizeOf32]
theorem ag46 : Aggr Try.prog 46 8 := ⟨fun w => Try.isAgg46 w, fun w => Try.sizeOf46 w⟩
theorem fa32_0 : FieldAt Try.prog 32 0 0 := fun w a => by simp [Instr.fieldAt, Instr.sureAddr, fieldPlace, Try.runUnderlying32, Try.sizeOf3]
theorem fa32_1 : FieldAt Try.prog 32 1 1 := fun w a => by simp [Instr.fieldAt, Instr.sureAddr, fieldPlace, Try.runUnderlying32, Try.sizeOf3]
theorem fa32_2 : FieldAt Try.prog 32 2 2 := fun w a => by simp [Instr.fieldAt, Instr.sureAddr, fieldPlace, Try.runUnderlying32, Try.sizeOf9]
theorem fa32_5 : FieldAt Try.prog 32 5 5 := fun w a => by simp [Instr.fieldAt, Instr.sureAddr, fieldPlace, Try.runUnderlying32, Try.sizeOf30]
theorem z93 : Zero Try.prog 93 (.agg #[(.int .i64 0), (.int .i64 0), (.int .i64 0), (.string ByteArray.empty), (.slice none 0 0), (.slice none 0 0), (.int .u32 0), (.int .u64 0), (.int .u32 0), (.int .u32 0), (.int .u32 0), (.int .u32 0), (.int .u32 0)]) := fun w => Try.zeroValue93 w
theorem st93 : StructT Try.prog 93 [(.int .i64 0), (.int .i64 0), (.int .i64 0), (.string ByteArray.empty), (.slice none 0 0), (.slice none 0 0), (.int .u32 0), (.int .u64 0), (.int .u32 0), (.int .u32 0), (.int .u32 0), (.int .u32 0), (.int .u32 0)] [(0, 1), (1, 12)] := ⟨z93, ⟨_, Try.underlying93, fun w => by simp [Try.sizeOf3, Try.sizeOf32]⟩⟩
theorem ag93 : Aggr Try.prog 93 13 := ⟨fun w => Try.isAgg93 w, fun w => Try.sizeOf93 w⟩
theorem fa46_0 : FieldAt Try.prog 46 0 0 := fun w a => by simp [Instr.fieldAt, Instr.sureAddr, fieldPlace, Try.runUnderlying46, Try.sizeOf9]
theorem sl41 : Slc Try.prog 41 44 15 144 (.agg #[(.int .i64 0), (.int .i64 0), (.int .i64 0), (.int .i64 0), (.int .i64 0), (.string ByteArray.empty), (.slice none 0 0), (.slice none 0 0), (.int .u32 0), (.int .u64 0), (.int .u32 0), (.int .u32 0), (.int .u32 0), (.int .u32 0), (.int .u32 0)]) := Slc.of Try.underlying41 (by kernel_rfl) rfl (by decide)
theorem fa44_3 : FieldAt Try.prog 44 3 3 := fun w a => by simp [Instr.fieldAt, Instr.sureAddr, fieldPlace, Try.runUnderlying44, Try.sizeOf32]
theorem sl133 : Slc Try.prog 133 27 1 4 (.int .u32 0) := Slc.of Try.underlying133 (by kernel_rfl) rfl (by decide)
theorem ag94 : Aggr Try.prog 94 208 := ⟨fun w => Try.isAgg94 w, fun w => Try.sizeOf94 w⟩
theorem z46 : Zero Try.prog 46 (.agg #[(.string ByteArray.empty), (.int .u32 0), (.int .u64 0), (.int .u32 0), (.int .u32 0), (.int .u32 0), (.int .u32 0), (.int .u32 0)]) := fun w => Try.zeroValue46 w
theorem fa46_1 : FieldAt Try.prog 46 1 1 := fun w a => by simp [Instr.fieldAt, Instr.sureAddr, fieldPlace, Try.runUnderlying46, Try.sizeOf30]
theorem st46 : StructT Try.prog 46 [(.string ByteArray.empty), (.int .u32 0), (.int .u64 0), (.int .u32 0), (.int .u32 0), (.int .u32 0), (.int .u32 0), (.int .u32 0)] [(0, 1), (1, 7)] := ⟨z46, ⟨_, Try.underlying46, fun w => by simp [Try.sizeOf9, Try.sizeOf30]⟩⟩
theorem fa44_1 : FieldAt Try.prog 44 1 1 := fun w a => by simp [Instr.fieldAt, Instr.sureAddr, fieldPlace, Try.runUnderlying44, Try.sizeOf3]
theorem fa44_2 : FieldAt Try.prog 44 2 2 := fun w a => by simp [Instr.fieldAt, Instr.sureAddr, fieldPlace, Try.runUnderlying44, Try.sizeOf3]
theorem sl90 : Slc Try.prog 90 25 1 24 (.slice none 0 0) := Slc.of Try.underlying90 (by kernel_rfl) rfl (by decide)
-- the zero of the table: see the text Ref21
theorem fa88_0 : FieldAt Try.prog 88 0 0 := fun w a => by simp [Instr.fieldAt, Instr.sureAddr, fieldPlace, Try.runUnderlying88, Try.sizeOf85]
theorem fa88_1 : FieldAt Try.prog 88 1 16 := fun w a => by simp [Instr.fieldAt, Instr.sureAddr, fieldPlace, Try.runUnderlying88, Try.sizeOf86]
theorem ag44 : Aggr Try.prog 44 15 := ⟨fun w => Try.isAgg44 w, fun w => Try.sizeOf44 w⟩
theorem z44 : Zero Try.prog 44 (.agg #[(.int .i64 0), (.int .i64 0), (.int .i64 0), (.int .i64 0), (.int .i64 0), (.string ByteArray.empty), (.slice none 0 0), (.slice none 0 0), (.int .u32 0), (.int .u64 0), (.int .u32 0), (.int .u32 0), (.int .u32 0), (.int .u32 0), (.int .u32 0)]) := fun w => Try.zeroValue44 w
theorem fa44_0 : FieldAt Try.prog 44 0 0 := fun w a => by simp [Instr.fieldAt, Instr.sureAddr, fieldPlace, Try.runUnderlying44, Try.sizeOf3]
end Go.Proofs.Ytbiohhfibkolgaa
