/-
  No cell of these rows narrows 'for every input' (looked for: loops, veiled, ifaces, maps, wideKeys, modest, calm, conditions, laid).
  DERIVED. THE GIVEN ROWS OF THIS SEAT. 7 by the template 'for every input the law returns true; each argument reads behind the call as it read before'; 0 by the template 'total and deterministic' (their statements: YtefkdicejhjfoaaTotals.lean).
  GIVEN WITH THE SEED: the statements are not yours to turn. If you find one false, say at which input.
  Laid BY PROGRAM, IN A SANDBOX (cutbox-rows.mjs): the forced cells as the released guide's own fill.sh prints them over the translation 335d4f6cbb20b4f8… (all of the seat's roots in one cut). By AI agents, Wed Nov 11 2026. No macro, syntax, notation, axiom, sorry.
-/
import Derived.Test.YtefkdicejhjfoaaChecked
import GoSem.Claim
import GoSem.ClaimJoined
import GoSem.ClaimMapViews
import Derived.JoinedTies
import Derived.KernelRfl
namespace Go.Proofs.Ytefkdicejhjfoaa
/- THE CELL 'sum', in the pinned program and in every row, IS THE sha256 OF THE DUMP (.gsa) THAT YtefkdicejhjfoaaProg.lean LOADS. Nothing in Lean hashes anything: it is a label: what it is worth is what the hold of that sum in a sandbox is worth. -/
noncomputable def Try.pinned : Pinned := { name := "ytefkdicejhjfoaa", sum := "335d4f6cbb20b4f8331de09266d49f8bc770efd42f73da3defeb415b8cbfb27e", checked := Try.checked }
namespace Rows
def none {H : Type} : Left H := { results := [], args := [] }

/-- 'rotalaw17.PolicyChecks': WHATEVER THE INPUT: true; the input reads as it did. -/
def policyChecksSpec : ChangeSpec := { name := "policyChecks", fn := fun _ => fun
  | [d] => { results := [.lit (.bool true)], args := [d] }
  | _ => none }
def policyChecksRow : OpenClaim := { program := "ytefkdicejhjfoaa", sum := "335d4f6cbb20b4f8331de09266d49f8bc770efd42f73da3defeb415b8cbfb27e", func := "rota/rotalaw17.PolicyChecks", spec := "policyChecks", unfollowed := true, recurses := true, apart := false }
def PolicyChecksSaid : Prop := policyChecksRow.holds Try.pinned (OpenSpec.ofChange policyChecksSpec)

/-- ITS FALSE NEIGHBOUR: 'it returns false'. Refute it at one input. -/
def policyChecksWrong : ChangeSpec := { name := "policyChecks", fn := fun _ => fun
  | [d] => { results := [.lit (.bool false)], args := [d] }
  | _ => none }
def PolicyChecksWrongFalsely : Prop := policyChecksRow.holds Try.pinned (OpenSpec.ofChange policyChecksWrong)

/-- 'rotalaw17.PolicyOrder': WHATEVER THE INPUT: true; the input reads as it did. -/
def policyOrderSpec : ChangeSpec := { name := "policyOrder", fn := fun _ => fun
  | [d1, d2] => { results := [.lit (.bool true)], args := [d1, d2] }
  | _ => none }
def policyOrderRow : OpenClaim := { program := "ytefkdicejhjfoaa", sum := "335d4f6cbb20b4f8331de09266d49f8bc770efd42f73da3defeb415b8cbfb27e", func := "rota/rotalaw17.PolicyOrder", spec := "policyOrder", unfollowed := true, recurses := true, apart := false }
def PolicyOrderSaid : Prop := policyOrderRow.holds Try.pinned (OpenSpec.ofChange policyOrderSpec)

/-- ITS FALSE NEIGHBOUR: 'it returns false'. Refute it at one input. -/
def policyOrderWrong : ChangeSpec := { name := "policyOrder", fn := fun _ => fun
  | [d1, d2] => { results := [.lit (.bool false)], args := [d1, d2] }
  | _ => none }
def PolicyOrderWrongFalsely : Prop := policyOrderRow.holds Try.pinned (OpenSpec.ofChange policyOrderWrong)

/-- 'rotalaw17.PolicyLeast': WHATEVER THE INPUT: true; the input reads as it did. -/
def policyLeastSpec : ChangeSpec := { name := "policyLeast", fn := fun _ => fun
  | [d1, d2, d3] => { results := [.lit (.bool true)], args := [d1, d2, d3] }
  | _ => none }
def policyLeastRow : OpenClaim := { program := "ytefkdicejhjfoaa", sum := "335d4f6cbb20b4f8331de09266d49f8bc770efd42f73da3defeb415b8cbfb27e", func := "rota/rotalaw17.PolicyLeast", spec := "policyLeast", unfollowed := true, recurses := true, apart := false }
def PolicyLeastSaid : Prop := policyLeastRow.holds Try.pinned (OpenSpec.ofChange policyLeastSpec)

/-- ITS FALSE NEIGHBOUR: 'it returns false'. Refute it at one input. -/
def policyLeastWrong : ChangeSpec := { name := "policyLeast", fn := fun _ => fun
  | [d1, d2, d3] => { results := [.lit (.bool false)], args := [d1, d2, d3] }
  | _ => none }
def PolicyLeastWrongFalsely : Prop := policyLeastRow.holds Try.pinned (OpenSpec.ofChange policyLeastWrong)

/-- 'rotalaw17.PolicyGrows': WHATEVER THE INPUT: true; the input reads as it did. -/
def policyGrowsSpec : ChangeSpec := { name := "policyGrows", fn := fun _ => fun
  | [d1, d2, d3] => { results := [.lit (.bool true)], args := [d1, d2, d3] }
  | _ => none }
def policyGrowsRow : OpenClaim := { program := "ytefkdicejhjfoaa", sum := "335d4f6cbb20b4f8331de09266d49f8bc770efd42f73da3defeb415b8cbfb27e", func := "rota/rotalaw17.PolicyGrows", spec := "policyGrows", unfollowed := true, recurses := true, apart := false }
def PolicyGrowsSaid : Prop := policyGrowsRow.holds Try.pinned (OpenSpec.ofChange policyGrowsSpec)

/-- ITS FALSE NEIGHBOUR: 'it returns false'. Refute it at one input. -/
def policyGrowsWrong : ChangeSpec := { name := "policyGrows", fn := fun _ => fun
  | [d1, d2, d3] => { results := [.lit (.bool false)], args := [d1, d2, d3] }
  | _ => none }
def PolicyGrowsWrongFalsely : Prop := policyGrowsRow.holds Try.pinned (OpenSpec.ofChange policyGrowsWrong)

/-- 'rotalaw17.PolicyPaths': WHATEVER THE INPUT: true; the input reads as it did. -/
def policyPathsSpec : ChangeSpec := { name := "policyPaths", fn := fun _ => fun
  | [d1, d2, d3] => { results := [.lit (.bool true)], args := [d1, d2, d3] }
  | _ => none }
def policyPathsRow : OpenClaim := { program := "ytefkdicejhjfoaa", sum := "335d4f6cbb20b4f8331de09266d49f8bc770efd42f73da3defeb415b8cbfb27e", func := "rota/rotalaw17.PolicyPaths", spec := "policyPaths", unfollowed := true, recurses := true, apart := false }
def PolicyPathsSaid : Prop := policyPathsRow.holds Try.pinned (OpenSpec.ofChange policyPathsSpec)

/-- ITS FALSE NEIGHBOUR: 'it returns false'. Refute it at one input. -/
def policyPathsWrong : ChangeSpec := { name := "policyPaths", fn := fun _ => fun
  | [d1, d2, d3] => { results := [.lit (.bool false)], args := [d1, d2, d3] }
  | _ => none }
def PolicyPathsWrongFalsely : Prop := policyPathsRow.holds Try.pinned (OpenSpec.ofChange policyPathsWrong)

/-- 'rotalaw17.PolicyGroups': WHATEVER THE INPUT: true; the input reads as it did. -/
def policyGroupsSpec : ChangeSpec := { name := "policyGroups", fn := fun _ => fun
  | [d1, d2, d3] => { results := [.lit (.bool true)], args := [d1, d2, d3] }
  | _ => none }
def policyGroupsRow : OpenClaim := { program := "ytefkdicejhjfoaa", sum := "335d4f6cbb20b4f8331de09266d49f8bc770efd42f73da3defeb415b8cbfb27e", func := "rota/rotalaw17.PolicyGroups", spec := "policyGroups", unfollowed := true, recurses := true, apart := false }
def PolicyGroupsSaid : Prop := policyGroupsRow.holds Try.pinned (OpenSpec.ofChange policyGroupsSpec)

/-- ITS FALSE NEIGHBOUR: 'it returns false'. Refute it at one input. -/
def policyGroupsWrong : ChangeSpec := { name := "policyGroups", fn := fun _ => fun
  | [d1, d2, d3] => { results := [.lit (.bool false)], args := [d1, d2, d3] }
  | _ => none }
def PolicyGroupsWrongFalsely : Prop := policyGroupsRow.holds Try.pinned (OpenSpec.ofChange policyGroupsWrong)

/-- 'rotalaw17.PolicyAbove': WHATEVER THE INPUT: true; the input reads as it did. -/
def policyAboveSpec : ChangeSpec := { name := "policyAbove", fn := fun _ => fun
  | [d1, d2] => { results := [.lit (.bool true)], args := [d1, d2] }
  | _ => none }
def policyAboveRow : OpenClaim := { program := "ytefkdicejhjfoaa", sum := "335d4f6cbb20b4f8331de09266d49f8bc770efd42f73da3defeb415b8cbfb27e", func := "rota/rotalaw17.PolicyAbove", spec := "policyAbove", unfollowed := true, recurses := true, apart := false }
def PolicyAboveSaid : Prop := policyAboveRow.holds Try.pinned (OpenSpec.ofChange policyAboveSpec)

/-- ITS FALSE NEIGHBOUR: 'it returns false'. Refute it at one input. -/
def policyAboveWrong : ChangeSpec := { name := "policyAbove", fn := fun _ => fun
  | [d1, d2] => { results := [.lit (.bool false)], args := [d1, d2] }
  | _ => none }
def PolicyAboveWrongFalsely : Prop := policyAboveRow.holds Try.pinned (OpenSpec.ofChange policyAboveWrong)

/- THE SECOND FORM. 'bulk': how many values and letters a reading holds, each counted each time it is reached (what is shared counts as often as it is met; a slice's spare places count too). A statement '..UptoSaid' is the law's where the arguments, and the package variables that the reading takes, are together of bulk at most 1048576: NARROWER than '..Said'. Prove '..Said' where nothing that the law and all that it calls make is longer than what came in: it says more and counts as full. Else prove '..UptoSaid'. A law counts once. -/
mutual
def uptoBulk {H : Type} : DataW H → Nat
  | .lit (.string bytes) => bytes.length + 1
  | .lit _ => 1
  | .nil => 1
  | .ptr d => uptoBulk d + 1
  | .slice elems spare => uptoBulkAll elems + uptoBulkAll spare + 1
  | .agg parts => uptoBulkAll parts + 1
  | .iface _ d => uptoBulk d + 1
  | .map entries => uptoBulkEntries entries + 1
  | .held _ => 1
def uptoBulkAll {H : Type} : List (DataW H) → Nat
  | [] => 0
  | d :: r => uptoBulk d + uptoBulkAll r
def uptoBulkEntries {H : Type} : List (Lit × DataW H) → Nat
  | [] => 0
  | x :: r => uptoBulkEntry x + uptoBulkEntries r
def uptoBulkEntry {H : Type} : Lit × DataW H → Nat
  | (.string bytes, d) => bytes.length + uptoBulk d + 1
  | (_, d) => uptoBulk d + 1
 end
def uptoSmall : (H : Type) → List (DataW H) → Bool := fun _ ds => decide (uptoBulkAll ds ≤ 1048576)
def OpenSpec.upto (s : _root_.Go.ChangeSpec) : _root_.Go.OpenSpec := { _root_.Go.OpenSpec.ofChange s with cond := some uptoSmall }

/-- 'rotalaw17.PolicyChecks', WHERE WHAT IT READS IS OF BULK AT MOST 1048576: true; the input reads as it did. -/
def policyChecksUptoRow : OpenClaim := { program := "ytefkdicejhjfoaa", sum := "335d4f6cbb20b4f8331de09266d49f8bc770efd42f73da3defeb415b8cbfb27e", func := "rota/rotalaw17.PolicyChecks", spec := "policyChecks", unfollowed := true, recurses := true, apart := false, narrowed := true }
def PolicyChecksUptoSaid : Prop := policyChecksUptoRow.holds Try.pinned (OpenSpec.upto policyChecksSpec)

/-- 'rotalaw17.PolicyOrder', WHERE WHAT IT READS IS OF BULK AT MOST 1048576: true; the input reads as it did. -/
def policyOrderUptoRow : OpenClaim := { program := "ytefkdicejhjfoaa", sum := "335d4f6cbb20b4f8331de09266d49f8bc770efd42f73da3defeb415b8cbfb27e", func := "rota/rotalaw17.PolicyOrder", spec := "policyOrder", unfollowed := true, recurses := true, apart := false, narrowed := true }
def PolicyOrderUptoSaid : Prop := policyOrderUptoRow.holds Try.pinned (OpenSpec.upto policyOrderSpec)

/-- 'rotalaw17.PolicyLeast', WHERE WHAT IT READS IS OF BULK AT MOST 1048576: true; the input reads as it did. -/
def policyLeastUptoRow : OpenClaim := { program := "ytefkdicejhjfoaa", sum := "335d4f6cbb20b4f8331de09266d49f8bc770efd42f73da3defeb415b8cbfb27e", func := "rota/rotalaw17.PolicyLeast", spec := "policyLeast", unfollowed := true, recurses := true, apart := false, narrowed := true }
def PolicyLeastUptoSaid : Prop := policyLeastUptoRow.holds Try.pinned (OpenSpec.upto policyLeastSpec)

/-- 'rotalaw17.PolicyGrows', WHERE WHAT IT READS IS OF BULK AT MOST 1048576: true; the input reads as it did. -/
def policyGrowsUptoRow : OpenClaim := { program := "ytefkdicejhjfoaa", sum := "335d4f6cbb20b4f8331de09266d49f8bc770efd42f73da3defeb415b8cbfb27e", func := "rota/rotalaw17.PolicyGrows", spec := "policyGrows", unfollowed := true, recurses := true, apart := false, narrowed := true }
def PolicyGrowsUptoSaid : Prop := policyGrowsUptoRow.holds Try.pinned (OpenSpec.upto policyGrowsSpec)

/-- 'rotalaw17.PolicyPaths', WHERE WHAT IT READS IS OF BULK AT MOST 1048576: true; the input reads as it did. -/
def policyPathsUptoRow : OpenClaim := { program := "ytefkdicejhjfoaa", sum := "335d4f6cbb20b4f8331de09266d49f8bc770efd42f73da3defeb415b8cbfb27e", func := "rota/rotalaw17.PolicyPaths", spec := "policyPaths", unfollowed := true, recurses := true, apart := false, narrowed := true }
def PolicyPathsUptoSaid : Prop := policyPathsUptoRow.holds Try.pinned (OpenSpec.upto policyPathsSpec)

/-- 'rotalaw17.PolicyGroups', WHERE WHAT IT READS IS OF BULK AT MOST 1048576: true; the input reads as it did. -/
def policyGroupsUptoRow : OpenClaim := { program := "ytefkdicejhjfoaa", sum := "335d4f6cbb20b4f8331de09266d49f8bc770efd42f73da3defeb415b8cbfb27e", func := "rota/rotalaw17.PolicyGroups", spec := "policyGroups", unfollowed := true, recurses := true, apart := false, narrowed := true }
def PolicyGroupsUptoSaid : Prop := policyGroupsUptoRow.holds Try.pinned (OpenSpec.upto policyGroupsSpec)

/-- 'rotalaw17.PolicyAbove', WHERE WHAT IT READS IS OF BULK AT MOST 1048576: true; the input reads as it did. -/
def policyAboveUptoRow : OpenClaim := { program := "ytefkdicejhjfoaa", sum := "335d4f6cbb20b4f8331de09266d49f8bc770efd42f73da3defeb415b8cbfb27e", func := "rota/rotalaw17.PolicyAbove", spec := "policyAbove", unfollowed := true, recurses := true, apart := false, narrowed := true }
def PolicyAboveUptoSaid : Prop := policyAboveUptoRow.holds Try.pinned (OpenSpec.upto policyAboveSpec)

end Rows
end Go.Proofs.Ytefkdicejhjfoaa
