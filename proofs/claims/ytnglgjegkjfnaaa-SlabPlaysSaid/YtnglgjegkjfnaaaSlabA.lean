import Derived.Test.YtnglgjegkjfnaaaLib
import Derived.Test.YtnglgjegkjfnaaaLib2
import Derived.Test.YtnglgjegkjfnaaaWMore
import Derived.RegionTactic
import Derived.BigRegion
import Derived.IntWalk
set_option linter.unusedSimpArgs false
set_option linter.unusedVariables false
namespace Go.Proofs.Ytnglgjegkjfnaaa
open Go.RowKit Go.Proofs.YtnglgjegkjfnaaaW.PrintWords Go.Proofs.YtnglgjegkjfnaaaW.PrintMore
/-! A slab that nobody made. -/
theorem sneq_ptr (b : Nat) (w : World) : (binOp .neq 22 (.pointer (some ⟨b, 0, none⟩)) (.pointer none)).run Try.prog w = .ok (.bool true) w := by kernel_rfl
def NoSlab (w : World) (p : Value) : Prop := p = .pointer none ∨ ∃ b, p = .pointer (some ⟨b, 0, none⟩) ∧ w.cell? ⟨b, 0, none⟩ = some (.int .i64 0) ∧ b < w.heap.size
theorem NoSlab.below {w w' : World} {p : Value} (h : NoSlab w p) (hB : Below w.heap.size w w') : NoSlab w' p := by
  rcases h with rfl | ⟨b, rfl, hc, hl⟩
  · exact .inl rfl
  · exact .inr ⟨b, rfl, (hB.cell (p := ⟨b, 0, none⟩) hl).trans hc, Nat.lt_of_lt_of_le hl hB.size⟩
end Go.Proofs.Ytnglgjegkjfnaaa
