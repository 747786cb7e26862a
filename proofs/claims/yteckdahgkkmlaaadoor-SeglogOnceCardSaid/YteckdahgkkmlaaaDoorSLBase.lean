/- What is known of the element types, and of the package variables. -/
import Derived.Test.YteckdahgkkmlaaaDoorProg
import Derived.Test.YteckdahgkkmlaaaDoorSLSli
import Derived.Test.YteckdahgkkmlaaaDoorSLDraw
import Derived.KernelRfl
set_option maxRecDepth 20000
namespace Go.Proofs.YteckdahgkkmlaaaDoor
open Go SL
theorem et3 : ET Tryd.prog 3 1 8 (.int .i64 0) := ⟨⟨Tryd.t3, by kernel_rfl, rfl, rfl, rfl⟩, rfl, by decide⟩
theorem et5 : ET Tryd.prog 5 1 1 (.int .u8 0) := ⟨⟨Tryd.t5, by kernel_rfl, rfl, rfl, rfl⟩, rfl, by decide⟩
theorem et9 : ET Tryd.prog 9 1 16 (.string ⟨#[]⟩) := ⟨⟨Tryd.t9, by kernel_rfl, rfl, rfl, rfl⟩, rfl, by decide⟩
theorem et30 : ET Tryd.prog 30 1 8 (.nilFunc) := ⟨⟨Tryd.t30, by kernel_rfl, rfl, rfl, rfl⟩, rfl, by decide⟩
theorem et34 : ET Tryd.prog 34 2 16 (.agg #[.int .i64 0, .int .i64 0]) := ⟨⟨Tryd.t34, by kernel_rfl, rfl, rfl, rfl⟩, rfl, by decide⟩
theorem et49 : ET Tryd.prog 49 3 40 (.agg #[.slice none 0 0, .int .i64 0, .bool false]) := ⟨⟨Tryd.t49, by kernel_rfl, rfl, rfl, rfl⟩, rfl, by decide⟩
theorem et78 : ET Tryd.prog 78 1 8 (.pointer none) := ⟨⟨Tryd.t78, by kernel_rfl, rfl, rfl, rfl⟩, rfl, by decide⟩
theorem et135 : ET Tryd.prog 135 1 4 (.int .u32 0) := ⟨⟨Tryd.t135, by kernel_rfl, rfl, rfl, rfl⟩, rfl, by decide⟩
end Go.Proofs.YteckdahgkkmlaaaDoor
