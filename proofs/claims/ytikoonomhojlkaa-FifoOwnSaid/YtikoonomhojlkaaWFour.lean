-- what this claim does not use is left out
import Derived.Test.YtikoonomhojlkaaWTab
set_option linter.unusedSimpArgs false
set_option linter.unusedVariables false
/-! ### 56. Four, five, six operations that may come up next, in any order -/
namespace Go.Proofs.YtikoonomhojlkaaW.PrintLast
section
variable {P : Program} {ops : Array Oper} {Q : Exit → Act → World → Prop} {md : Region.Mode} {S : World → Prop} {ds : List Nat} {T : Bool × List (List Nat × List Nat)}
end
end Go.Proofs.YtikoonomhojlkaaW.PrintLast
