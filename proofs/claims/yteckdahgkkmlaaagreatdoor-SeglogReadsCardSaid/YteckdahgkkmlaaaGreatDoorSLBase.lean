/- What is known of the element types, and of the package variables. -/
import Derived.Test.YteckdahgkkmlaaaGreatDoorProg
import Derived.Test.YteckdahgkkmlaaaGreatDoorSLSli
import Derived.Test.YteckdahgkkmlaaaGreatDoorSLDraw
import Derived.KernelRfl
set_option maxRecDepth 20000
namespace Go.Proofs.YteckdahgkkmlaaaGreatDoor
open Go SL
theorem et3 : ET Tryz.prog 3 1 8 (.int .i64 0) := ⟨⟨Tryz.t3, by kernel_rfl, rfl, rfl, rfl⟩, rfl, by decide⟩
theorem et5 : ET Tryz.prog 5 1 1 (.int .u8 0) := ⟨⟨Tryz.t5, by kernel_rfl, rfl, rfl, rfl⟩, rfl, by decide⟩
theorem et9 : ET Tryz.prog 9 1 16 (.string ⟨#[]⟩) := ⟨⟨Tryz.t9, by kernel_rfl, rfl, rfl, rfl⟩, rfl, by decide⟩
theorem et30 : ET Tryz.prog 30 1 8 (.nilFunc) := ⟨⟨Tryz.t30, by kernel_rfl, rfl, rfl, rfl⟩, rfl, by decide⟩
theorem et32 : ET Tryz.prog 32 2 16 (.agg #[.int .i64 0, .int .i64 0]) := ⟨⟨Tryz.t32, by kernel_rfl, rfl, rfl, rfl⟩, rfl, by decide⟩
theorem et58 : ET Tryz.prog 58 3 40 (.agg #[.slice none 0 0, .int .i64 0, .bool false]) := ⟨⟨Tryz.t58, by kernel_rfl, rfl, rfl, rfl⟩, rfl, by decide⟩
theorem et84 : ET Tryz.prog 84 1 8 (.pointer none) := ⟨⟨Tryz.t84, by kernel_rfl, rfl, rfl, rfl⟩, rfl, by decide⟩
theorem et137 : ET Tryz.prog 137 1 4 (.int .u32 0) := ⟨⟨Tryz.t137, by kernel_rfl, rfl, rfl, rfl⟩, rfl, by decide⟩
end Go.Proofs.YteckdahgkkmlaaaGreatDoor
