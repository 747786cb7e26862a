/- What is known of the element types, and of the package variables. -/
import Derived.Test.YtcppimolaiinhaaDoorProg
import Derived.Test.YtcppimolaiinhaaDoorSLSli
import Derived.Test.YtcppimolaiinhaaDoorSLDraw
import Derived.KernelRfl
set_option maxRecDepth 20000
namespace Go.Proofs.YtcppimolaiinhaaDoor
open Go SL
theorem et5 : ET Tryd.prog 5 1 1 (.int .u8 0) := ⟨⟨Tryd.t5, by kernel_rfl, rfl, rfl, rfl⟩, rfl, by decide⟩
theorem et9 : ET Tryd.prog 9 1 16 (.string ⟨#[]⟩) := ⟨⟨Tryd.t9, by kernel_rfl, rfl, rfl, rfl⟩, rfl, by decide⟩
theorem et25 : ET Tryd.prog 25 1 8 (.nilFunc) := ⟨⟨Tryd.t25, by kernel_rfl, rfl, rfl, rfl⟩, rfl, by decide⟩
theorem et84 : ET Tryd.prog 84 1 4 (.int .u32 0) := ⟨⟨Tryd.t84, by kernel_rfl, rfl, rfl, rfl⟩, rfl, by decide⟩
end Go.Proofs.YtcppimolaiinhaaDoor
