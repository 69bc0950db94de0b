/-
  No cell of these rows narrows 'for every input' (looked for: loops, veiled, ifaces, maps, wideKeys, modest, calm, conditions, laid).
  DERIVED. THE GIVEN ROWS OF THIS SEAT. 9 by the template 'for every input the law returns true; each argument reads behind the call as it read before'; 0 by the template 'total and deterministic' (their statements: YtkjfojbnghbkdaaTotals.lean).
  GIVEN WITH THE SEED: the statements are not yours to turn. If you find one false, say at which input.
  Laid BY PROGRAM, IN A SANDBOX (cutbox-rows.mjs): the forced cells as the released guide's own fill.sh prints them over the translation ca7b6443b4e1a194… (all of the seat's roots in one cut). By AI agents, Wed Nov 11 2026. No macro, syntax, notation, axiom, sorry.
-/
import Derived.Test.YtkjfojbnghbkdaaChecked
import GoSem.Claim
import GoSem.ClaimJoined
import GoSem.ClaimMapViews
import Derived.JoinedTies
import Derived.KernelRfl
namespace Go.Proofs.Ytkjfojbnghbkdaa
/- THE CELL 'sum', in the pinned program and in every row, IS THE sha256 OF THE DUMP (.gsa) THAT YtkjfojbnghbkdaaProg.lean LOADS. Nothing in Lean hashes anything: it is a label: what it is worth is what the hold of that sum in a sandbox is worth. -/
noncomputable def Try.pinned : Pinned := { name := "ytkjfojbnghbkdaa", sum := "ca7b6443b4e1a19455433cbcaa6b3f79ce26375c478570af33919ae9fee72820", checked := Try.checked }
namespace Rows
def none {H : Type} : Left H := { results := [], args := [] }

/-- 'rotalaw10.CellsOne': WHATEVER THE INPUT: true; the input reads as it did. -/
def cellsOneSpec : ChangeSpec := { name := "cellsOne", fn := fun _ => fun
  | [d1, d2] => { results := [.lit (.bool true)], args := [d1, d2] }
  | _ => none }
def cellsOneRow : OpenClaim := { program := "ytkjfojbnghbkdaa", sum := "ca7b6443b4e1a19455433cbcaa6b3f79ce26375c478570af33919ae9fee72820", func := "rota/rotalaw10.CellsOne", spec := "cellsOne", unfollowed := true, recurses := true, apart := false }
def CellsOneSaid : Prop := cellsOneRow.holds Try.pinned (OpenSpec.ofChange cellsOneSpec)

/-- ITS FALSE NEIGHBOUR: 'it returns false'. Refute it at one input. -/
def cellsOneWrong : ChangeSpec := { name := "cellsOne", fn := fun _ => fun
  | [d1, d2] => { results := [.lit (.bool false)], args := [d1, d2] }
  | _ => none }
def CellsOneWrongFalsely : Prop := cellsOneRow.holds Try.pinned (OpenSpec.ofChange cellsOneWrong)

/-- 'rotalaw10.CellsFrom': WHATEVER THE INPUT: true; the input reads as it did. -/
def cellsFromSpec : ChangeSpec := { name := "cellsFrom", fn := fun _ => fun
  | [d] => { results := [.lit (.bool true)], args := [d] }
  | _ => none }
def cellsFromRow : OpenClaim := { program := "ytkjfojbnghbkdaa", sum := "ca7b6443b4e1a19455433cbcaa6b3f79ce26375c478570af33919ae9fee72820", func := "rota/rotalaw10.CellsFrom", spec := "cellsFrom", unfollowed := true, recurses := true, apart := false }
def CellsFromSaid : Prop := cellsFromRow.holds Try.pinned (OpenSpec.ofChange cellsFromSpec)

/-- ITS FALSE NEIGHBOUR: 'it returns false'. Refute it at one input. -/
def cellsFromWrong : ChangeSpec := { name := "cellsFrom", fn := fun _ => fun
  | [d] => { results := [.lit (.bool false)], args := [d] }
  | _ => none }
def CellsFromWrongFalsely : Prop := cellsFromRow.holds Try.pinned (OpenSpec.ofChange cellsFromWrong)

/-- 'rotalaw10.CellsMake': WHATEVER THE INPUT: true; the input reads as it did. -/
def cellsMakeSpec : ChangeSpec := { name := "cellsMake", fn := fun _ => fun
  | [d] => { results := [.lit (.bool true)], args := [d] }
  | _ => none }
def cellsMakeRow : OpenClaim := { program := "ytkjfojbnghbkdaa", sum := "ca7b6443b4e1a19455433cbcaa6b3f79ce26375c478570af33919ae9fee72820", func := "rota/rotalaw10.CellsMake", spec := "cellsMake", unfollowed := true, recurses := true, apart := false }
def CellsMakeSaid : Prop := cellsMakeRow.holds Try.pinned (OpenSpec.ofChange cellsMakeSpec)

/-- ITS FALSE NEIGHBOUR: 'it returns false'. Refute it at one input. -/
def cellsMakeWrong : ChangeSpec := { name := "cellsMake", fn := fun _ => fun
  | [d] => { results := [.lit (.bool false)], args := [d] }
  | _ => none }
def CellsMakeWrongFalsely : Prop := cellsMakeRow.holds Try.pinned (OpenSpec.ofChange cellsMakeWrong)

/-- 'rotalaw10.CellsNobody': WHATEVER THE INPUT: true; the input reads as it did. -/
def cellsNobodySpec : ChangeSpec := { name := "cellsNobody", fn := fun _ => fun
  | [d] => { results := [.lit (.bool true)], args := [d] }
  | _ => none }
def cellsNobodyRow : OpenClaim := { program := "ytkjfojbnghbkdaa", sum := "ca7b6443b4e1a19455433cbcaa6b3f79ce26375c478570af33919ae9fee72820", func := "rota/rotalaw10.CellsNobody", spec := "cellsNobody", unfollowed := true, recurses := true, apart := false }
def CellsNobodySaid : Prop := cellsNobodyRow.holds Try.pinned (OpenSpec.ofChange cellsNobodySpec)

/-- ITS FALSE NEIGHBOUR: 'it returns false'. Refute it at one input. -/
def cellsNobodyWrong : ChangeSpec := { name := "cellsNobody", fn := fun _ => fun
  | [d] => { results := [.lit (.bool false)], args := [d] }
  | _ => none }
def CellsNobodyWrongFalsely : Prop := cellsNobodyRow.holds Try.pinned (OpenSpec.ofChange cellsNobodyWrong)

/-- 'rotalaw10.CellsPlay': WHATEVER THE INPUT: true; the input reads as it did. -/
def cellsPlaySpec : ChangeSpec := { name := "cellsPlay", fn := fun _ => fun
  | [d1, d2] => { results := [.lit (.bool true)], args := [d1, d2] }
  | _ => none }
def cellsPlayRow : OpenClaim := { program := "ytkjfojbnghbkdaa", sum := "ca7b6443b4e1a19455433cbcaa6b3f79ce26375c478570af33919ae9fee72820", func := "rota/rotalaw10.CellsPlay", spec := "cellsPlay", unfollowed := true, recurses := true, apart := false }
def CellsPlaySaid : Prop := cellsPlayRow.holds Try.pinned (OpenSpec.ofChange cellsPlaySpec)

/-- ITS FALSE NEIGHBOUR: 'it returns false'. Refute it at one input. -/
def cellsPlayWrong : ChangeSpec := { name := "cellsPlay", fn := fun _ => fun
  | [d1, d2] => { results := [.lit (.bool false)], args := [d1, d2] }
  | _ => none }
def CellsPlayWrongFalsely : Prop := cellsPlayRow.holds Try.pinned (OpenSpec.ofChange cellsPlayWrong)

/-- 'rotalaw10.CellsReplay': WHATEVER THE INPUT: true; the input reads as it did. -/
def cellsReplaySpec : ChangeSpec := { name := "cellsReplay", fn := fun _ => fun
  | [d1, d2] => { results := [.lit (.bool true)], args := [d1, d2] }
  | _ => none }
def cellsReplayRow : OpenClaim := { program := "ytkjfojbnghbkdaa", sum := "ca7b6443b4e1a19455433cbcaa6b3f79ce26375c478570af33919ae9fee72820", func := "rota/rotalaw10.CellsReplay", spec := "cellsReplay", unfollowed := true, recurses := true, apart := false }
def CellsReplaySaid : Prop := cellsReplayRow.holds Try.pinned (OpenSpec.ofChange cellsReplaySpec)

/-- ITS FALSE NEIGHBOUR: 'it returns false'. Refute it at one input. -/
def cellsReplayWrong : ChangeSpec := { name := "cellsReplay", fn := fun _ => fun
  | [d1, d2] => { results := [.lit (.bool false)], args := [d1, d2] }
  | _ => none }
def CellsReplayWrongFalsely : Prop := cellsReplayRow.holds Try.pinned (OpenSpec.ofChange cellsReplayWrong)

/-- 'rotalaw10.CellsFound': WHATEVER THE INPUT: true; the input reads as it did. -/
def cellsFoundSpec : ChangeSpec := { name := "cellsFound", fn := fun _ => fun
  | [d1, d2] => { results := [.lit (.bool true)], args := [d1, d2] }
  | _ => none }
def cellsFoundRow : OpenClaim := { program := "ytkjfojbnghbkdaa", sum := "ca7b6443b4e1a19455433cbcaa6b3f79ce26375c478570af33919ae9fee72820", func := "rota/rotalaw10.CellsFound", spec := "cellsFound", unfollowed := true, recurses := true, apart := false }
def CellsFoundSaid : Prop := cellsFoundRow.holds Try.pinned (OpenSpec.ofChange cellsFoundSpec)

/-- ITS FALSE NEIGHBOUR: 'it returns false'. Refute it at one input. -/
def cellsFoundWrong : ChangeSpec := { name := "cellsFound", fn := fun _ => fun
  | [d1, d2] => { results := [.lit (.bool false)], args := [d1, d2] }
  | _ => none }
def CellsFoundWrongFalsely : Prop := cellsFoundRow.holds Try.pinned (OpenSpec.ofChange cellsFoundWrong)

/-- 'rotalaw10.CellsReplayed': WHATEVER THE INPUT: true; the input reads as it did. -/
def cellsReplayedSpec : ChangeSpec := { name := "cellsReplayed", fn := fun _ => fun
  | [d1, d2] => { results := [.lit (.bool true)], args := [d1, d2] }
  | _ => none }
def cellsReplayedRow : OpenClaim := { program := "ytkjfojbnghbkdaa", sum := "ca7b6443b4e1a19455433cbcaa6b3f79ce26375c478570af33919ae9fee72820", func := "rota/rotalaw10.CellsReplayed", spec := "cellsReplayed", unfollowed := true, recurses := true, apart := false }
def CellsReplayedSaid : Prop := cellsReplayedRow.holds Try.pinned (OpenSpec.ofChange cellsReplayedSpec)

/-- ITS FALSE NEIGHBOUR: 'it returns false'. Refute it at one input. -/
def cellsReplayedWrong : ChangeSpec := { name := "cellsReplayed", fn := fun _ => fun
  | [d1, d2] => { results := [.lit (.bool false)], args := [d1, d2] }
  | _ => none }
def CellsReplayedWrongFalsely : Prop := cellsReplayedRow.holds Try.pinned (OpenSpec.ofChange cellsReplayedWrong)

/-- 'rotalaw10.CellsOwn': WHATEVER THE INPUT: true; the input reads as it did. -/
def cellsOwnSpec : ChangeSpec := { name := "cellsOwn", fn := fun _ => fun
  | [d1, d2, d3] => { results := [.lit (.bool true)], args := [d1, d2, d3] }
  | _ => none }
def cellsOwnRow : OpenClaim := { program := "ytkjfojbnghbkdaa", sum := "ca7b6443b4e1a19455433cbcaa6b3f79ce26375c478570af33919ae9fee72820", func := "rota/rotalaw10.CellsOwn", spec := "cellsOwn", unfollowed := true, recurses := true, apart := false }
def CellsOwnSaid : Prop := cellsOwnRow.holds Try.pinned (OpenSpec.ofChange cellsOwnSpec)

/-- ITS FALSE NEIGHBOUR: 'it returns false'. Refute it at one input. -/
def cellsOwnWrong : ChangeSpec := { name := "cellsOwn", fn := fun _ => fun
  | [d1, d2, d3] => { results := [.lit (.bool false)], args := [d1, d2, d3] }
  | _ => none }
def CellsOwnWrongFalsely : Prop := cellsOwnRow.holds Try.pinned (OpenSpec.ofChange cellsOwnWrong)

/- THE SECOND FORM. 'bulk': how many values and letters a reading holds, each counted each time it is reached (what is shared counts as often as it is met; a slice's spare places count too). A statement '..UptoSaid' is the law's where the arguments, and the package variables that the reading takes, are together of bulk at most 1048576: NARROWER than '..Said'. Prove '..Said' where nothing that the law and all that it calls make is longer than what came in: it says more and counts as full. Else prove '..UptoSaid'. A law counts once. -/
mutual
def uptoBulk {H : Type} : DataW H → Nat
  | .lit (.string bytes) => bytes.length + 1
  | .lit _ => 1
  | .nil => 1
  | .ptr d => uptoBulk d + 1
  | .slice elems spare => uptoBulkAll elems + uptoBulkAll spare + 1
  | .agg parts => uptoBulkAll parts + 1
  | .iface _ d => uptoBulk d + 1
  | .map entries => uptoBulkEntries entries + 1
  | .held _ => 1
def uptoBulkAll {H : Type} : List (DataW H) → Nat
  | [] => 0
  | d :: r => uptoBulk d + uptoBulkAll r
def uptoBulkEntries {H : Type} : List (Lit × DataW H) → Nat
  | [] => 0
  | x :: r => uptoBulkEntry x + uptoBulkEntries r
def uptoBulkEntry {H : Type} : Lit × DataW H → Nat
  | (.string bytes, d) => bytes.length + uptoBulk d + 1
  | (_, d) => uptoBulk d + 1
 end
def uptoSmall : (H : Type) → List (DataW H) → Bool := fun _ ds => decide (uptoBulkAll ds ≤ 1048576)
def OpenSpec.upto (s : _root_.Go.ChangeSpec) : _root_.Go.OpenSpec := { _root_.Go.OpenSpec.ofChange s with cond := some uptoSmall }

/-- 'rotalaw10.CellsOne', WHERE WHAT IT READS IS OF BULK AT MOST 1048576: true; the input reads as it did. -/
def cellsOneUptoRow : OpenClaim := { program := "ytkjfojbnghbkdaa", sum := "ca7b6443b4e1a19455433cbcaa6b3f79ce26375c478570af33919ae9fee72820", func := "rota/rotalaw10.CellsOne", spec := "cellsOne", unfollowed := true, recurses := true, apart := false, narrowed := true }
def CellsOneUptoSaid : Prop := cellsOneUptoRow.holds Try.pinned (OpenSpec.upto cellsOneSpec)

/-- 'rotalaw10.CellsFrom', WHERE WHAT IT READS IS OF BULK AT MOST 1048576: true; the input reads as it did. -/
def cellsFromUptoRow : OpenClaim := { program := "ytkjfojbnghbkdaa", sum := "ca7b6443b4e1a19455433cbcaa6b3f79ce26375c478570af33919ae9fee72820", func := "rota/rotalaw10.CellsFrom", spec := "cellsFrom", unfollowed := true, recurses := true, apart := false, narrowed := true }
def CellsFromUptoSaid : Prop := cellsFromUptoRow.holds Try.pinned (OpenSpec.upto cellsFromSpec)

/-- 'rotalaw10.CellsMake', WHERE WHAT IT READS IS OF BULK AT MOST 1048576: true; the input reads as it did. -/
def cellsMakeUptoRow : OpenClaim := { program := "ytkjfojbnghbkdaa", sum := "ca7b6443b4e1a19455433cbcaa6b3f79ce26375c478570af33919ae9fee72820", func := "rota/rotalaw10.CellsMake", spec := "cellsMake", unfollowed := true, recurses := true, apart := false, narrowed := true }
def CellsMakeUptoSaid : Prop := cellsMakeUptoRow.holds Try.pinned (OpenSpec.upto cellsMakeSpec)

/-- 'rotalaw10.CellsNobody', WHERE WHAT IT READS IS OF BULK AT MOST 1048576: true; the input reads as it did. -/
def cellsNobodyUptoRow : OpenClaim := { program := "ytkjfojbnghbkdaa", sum := "ca7b6443b4e1a19455433cbcaa6b3f79ce26375c478570af33919ae9fee72820", func := "rota/rotalaw10.CellsNobody", spec := "cellsNobody", unfollowed := true, recurses := true, apart := false, narrowed := true }
def CellsNobodyUptoSaid : Prop := cellsNobodyUptoRow.holds Try.pinned (OpenSpec.upto cellsNobodySpec)

/-- 'rotalaw10.CellsPlay', WHERE WHAT IT READS IS OF BULK AT MOST 1048576: true; the input reads as it did. -/
def cellsPlayUptoRow : OpenClaim := { program := "ytkjfojbnghbkdaa", sum := "ca7b6443b4e1a19455433cbcaa6b3f79ce26375c478570af33919ae9fee72820", func := "rota/rotalaw10.CellsPlay", spec := "cellsPlay", unfollowed := true, recurses := true, apart := false, narrowed := true }
def CellsPlayUptoSaid : Prop := cellsPlayUptoRow.holds Try.pinned (OpenSpec.upto cellsPlaySpec)

/-- 'rotalaw10.CellsReplay', WHERE WHAT IT READS IS OF BULK AT MOST 1048576: true; the input reads as it did. -/
def cellsReplayUptoRow : OpenClaim := { program := "ytkjfojbnghbkdaa", sum := "ca7b6443b4e1a19455433cbcaa6b3f79ce26375c478570af33919ae9fee72820", func := "rota/rotalaw10.CellsReplay", spec := "cellsReplay", unfollowed := true, recurses := true, apart := false, narrowed := true }
def CellsReplayUptoSaid : Prop := cellsReplayUptoRow.holds Try.pinned (OpenSpec.upto cellsReplaySpec)

/-- 'rotalaw10.CellsFound', WHERE WHAT IT READS IS OF BULK AT MOST 1048576: true; the input reads as it did. -/
def cellsFoundUptoRow : OpenClaim := { program := "ytkjfojbnghbkdaa", sum := "ca7b6443b4e1a19455433cbcaa6b3f79ce26375c478570af33919ae9fee72820", func := "rota/rotalaw10.CellsFound", spec := "cellsFound", unfollowed := true, recurses := true, apart := false, narrowed := true }
def CellsFoundUptoSaid : Prop := cellsFoundUptoRow.holds Try.pinned (OpenSpec.upto cellsFoundSpec)

/-- 'rotalaw10.CellsReplayed', WHERE WHAT IT READS IS OF BULK AT MOST 1048576: true; the input reads as it did. -/
def cellsReplayedUptoRow : OpenClaim := { program := "ytkjfojbnghbkdaa", sum := "ca7b6443b4e1a19455433cbcaa6b3f79ce26375c478570af33919ae9fee72820", func := "rota/rotalaw10.CellsReplayed", spec := "cellsReplayed", unfollowed := true, recurses := true, apart := false, narrowed := true }
def CellsReplayedUptoSaid : Prop := cellsReplayedUptoRow.holds Try.pinned (OpenSpec.upto cellsReplayedSpec)

/-- 'rotalaw10.CellsOwn', WHERE WHAT IT READS IS OF BULK AT MOST 1048576: true; the input reads as it did. -/
def cellsOwnUptoRow : OpenClaim := { program := "ytkjfojbnghbkdaa", sum := "ca7b6443b4e1a19455433cbcaa6b3f79ce26375c478570af33919ae9fee72820", func := "rota/rotalaw10.CellsOwn", spec := "cellsOwn", unfollowed := true, recurses := true, apart := false, narrowed := true }
def CellsOwnUptoSaid : Prop := cellsOwnUptoRow.holds Try.pinned (OpenSpec.upto cellsOwnSpec)

end Rows
end Go.Proofs.Ytkjfojbnghbkdaa
