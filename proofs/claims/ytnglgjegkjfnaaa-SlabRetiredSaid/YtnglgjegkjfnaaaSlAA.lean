import Derived.Test.YtnglgjegkjfnaaaSlZ
import Derived.Deep.DrawnRows
set_option linter.unusedSimpArgs false
set_option linter.unusedVariables false
namespace Go.Proofs.Ytnglgjegkjfnaaa
open Go.RowKit Go.ChangeShapes Go.WideShapes Go.ChangeAt Go.Proofs.YtnglgjegkjfnaaaW.PrintWords Go.Proofs.YtnglgjegkjfnaaaW.PrintMore Go.Proofs.YtnglgjegkjfnaaaW.PrintLast
/-! names: printed by gen04f.py. -/
/-- What names keeps from round to round. -/
def NmL (W : World) (base b : Nat) (col0 : Nat → Nat) (L P : Int) (k : Nat) (vh va : Value) (wr : World) : Prop := ∃ s had book col cc, NmW W wr base b col0 col cc s vh va had book ∧ NmI k L P s had book
attribute [local go_sem high] eqG
end Go.Proofs.Ytnglgjegkjfnaaa
