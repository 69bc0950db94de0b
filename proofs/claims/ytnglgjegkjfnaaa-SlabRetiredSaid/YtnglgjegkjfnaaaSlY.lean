import Derived.Test.YtnglgjegkjfnaaaSlX
import Derived.Test.YtnglgjegkjfnaaaSlQ
import Derived.Test.YtnglgjegkjfnaaaWEqStruct
import Derived.Test.YtnglgjegkjfnaaaOpen
import Derived.Deep.RegionLaw
set_option linter.unusedSimpArgs false
set_option linter.unusedVariables false
namespace Go.Proofs.Ytnglgjegkjfnaaa
open Go.RowKit Go.ChangeShapes Go.WideShapes Go.ChangeAt Go.Proofs.YtnglgjegkjfnaaaW.PrintWords Go.Proofs.YtnglgjegkjfnaaaW.PrintMore Go.Proofs.YtnglgjegkjfnaaaW.PrintLast
/-! Names; name, fit. -/
theorem eqG (d : Nat) (w : World) (x0 y0 x1 y1 : Int) : (Op.equalIn (d + 2) 48 (.agg #[.int .i64 x0, .int .i64 x1]) (.agg #[.int .i64 y0, .int .i64 y1])).run Try.prog w = .ok (x0 == y0 && (x1 == y1)) w := by
  refine eqA_of Try.underlying48 (by kernel_rfl) ?_
  refine eqf_cons (by rfl) (by go_simp; rfl) (by go_simp; rfl) (by go_simp) ?_
  exact eqf_last (by rfl) (by go_simp; rfl) (by go_simp; rfl) (by go_simp)
def kG : Kd (Int × Int) := Kd.pair (Kd.int .i64) (Kd.int .i64)
/-- A call of a script: Do, P, Pick, G. -/
structure SOp where
  d : Int
  p : Int
  k : Int
  g : Int × Int
abbrev SOp.cells (o : SOp) : Array Value := #[.int .i64 o.d, .int .i64 o.p, .int .i64 o.k, .int .i64 o.g.1, .int .i64 o.g.2]
end Go.Proofs.Ytnglgjegkjfnaaa
