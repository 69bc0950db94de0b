import Derived.Test.YtnglgjegkjfnaaaLib
import Derived.Test.YtnglgjegkjfnaaaLib2
import Derived.Test.YtnglgjegkjfnaaaWMore
import Derived.RegionTactic
import Derived.BigRegion
import Derived.IntWalk
set_option linter.unusedSimpArgs false
set_option linter.unusedVariables false
namespace Go.Proofs.Ytnglgjegkjfnaaa
open Go.RowKit Go.Proofs.YtnglgjegkjfnaaaW.PrintWords Go.Proofs.YtnglgjegkjfnaaaW.PrintMore
/-! A slab that nobody made. -/
theorem sneq_ptr (b : Nat) (w : World) : (binOp .neq 22 (.pointer (some ⟨b, 0, none⟩)) (.pointer none)).run Try.prog w = .ok (.bool true) w := by kernel_rfl
end Go.Proofs.Ytnglgjegkjfnaaa
