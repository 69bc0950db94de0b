/-
  No cell of these rows narrows 'for every input' (looked for: loops, veiled, ifaces, maps, wideKeys, modest, calm, conditions, laid).
  DERIVED. THE GIVEN ROWS OF THIS SEAT. 10 by the template 'for every input the law returns true; each argument reads behind the call as it read before'; 0 by the template 'total and deterministic' (their statements: YtnglgjegkjfnaaaTotals.lean).
  GIVEN WITH THE SEED: the statements are not yours to turn. If you find one false, say at which input.
  Laid BY PROGRAM, IN A SANDBOX (cutbox-rows.mjs): the forced cells as the released guide's own fill.sh prints them over the translation 7f84bce3f0f4029f… (all of the seat's roots in one cut). By AI agents, Wed Nov 11 2026. No macro, syntax, notation, axiom, sorry.
-/
import Derived.Test.YtnglgjegkjfnaaaChecked
import GoSem.Claim
import GoSem.ClaimJoined
import GoSem.ClaimMapViews
import Derived.JoinedTies
import Derived.KernelRfl
namespace Go.Proofs.Ytnglgjegkjfnaaa
/- THE CELL 'sum', in the pinned program and in every row, IS THE sha256 OF THE DUMP (.gsa) THAT YtnglgjegkjfnaaaProg.lean LOADS. Nothing in Lean hashes anything: it is a label: what it is worth is what the hold of that sum in a sandbox is worth. -/
noncomputable def Try.pinned : Pinned := { name := "ytnglgjegkjfnaaa", sum := "7f84bce3f0f4029ff4c36c7b29c2599a567395ac8608b930a241a507888346f4", checked := Try.checked }
namespace Rows
def none {H : Type} : Left H := { results := [], args := [] }

/-- 'rotalaw04.SlabMakes': WHATEVER THE INPUT: true; the input reads as it did. -/
def slabMakesSpec : ChangeSpec := { name := "slabMakes", fn := fun _ => fun
  | [d1, d2] => { results := [.lit (.bool true)], args := [d1, d2] }
  | _ => none }
def slabMakesRow : OpenClaim := { program := "ytnglgjegkjfnaaa", sum := "7f84bce3f0f4029ff4c36c7b29c2599a567395ac8608b930a241a507888346f4", func := "rota/rotalaw04.SlabMakes", spec := "slabMakes", apart := false }
def SlabMakesSaid : Prop := slabMakesRow.holds Try.pinned (OpenSpec.ofChange slabMakesSpec)

/-- ITS FALSE NEIGHBOUR: 'it returns false'. Refute it at one input. -/
def slabMakesWrong : ChangeSpec := { name := "slabMakes", fn := fun _ => fun
  | [d1, d2] => { results := [.lit (.bool false)], args := [d1, d2] }
  | _ => none }
def SlabMakesWrongFalsely : Prop := slabMakesRow.holds Try.pinned (OpenSpec.ofChange slabMakesWrong)

/-- 'rotalaw04.SlabFree': WHATEVER THE INPUT: true; the input reads as it did. -/
def slabFreeSpec : ChangeSpec := { name := "slabFree", fn := fun _ => fun
  | [d] => { results := [.lit (.bool true)], args := [d] }
  | _ => none }
def slabFreeRow : OpenClaim := { program := "ytnglgjegkjfnaaa", sum := "7f84bce3f0f4029ff4c36c7b29c2599a567395ac8608b930a241a507888346f4", func := "rota/rotalaw04.SlabFree", spec := "slabFree", apart := false }
def SlabFreeSaid : Prop := slabFreeRow.holds Try.pinned (OpenSpec.ofChange slabFreeSpec)

/-- ITS FALSE NEIGHBOUR: 'it returns false'. Refute it at one input. -/
def slabFreeWrong : ChangeSpec := { name := "slabFree", fn := fun _ => fun
  | [d] => { results := [.lit (.bool false)], args := [d] }
  | _ => none }
def SlabFreeWrongFalsely : Prop := slabFreeRow.holds Try.pinned (OpenSpec.ofChange slabFreeWrong)

/-- 'rotalaw04.SlabNames': WHATEVER THE INPUT: true; the input reads as it did. -/
def slabNamesSpec : ChangeSpec := { name := "slabNames", fn := fun _ => fun
  | [d] => { results := [.lit (.bool true)], args := [d] }
  | _ => none }
def slabNamesRow : OpenClaim := { program := "ytnglgjegkjfnaaa", sum := "7f84bce3f0f4029ff4c36c7b29c2599a567395ac8608b930a241a507888346f4", func := "rota/rotalaw04.SlabNames", spec := "slabNames", apart := false }
def SlabNamesSaid : Prop := slabNamesRow.holds Try.pinned (OpenSpec.ofChange slabNamesSpec)

/-- ITS FALSE NEIGHBOUR: 'it returns false'. Refute it at one input. -/
def slabNamesWrong : ChangeSpec := { name := "slabNames", fn := fun _ => fun
  | [d] => { results := [.lit (.bool false)], args := [d] }
  | _ => none }
def SlabNamesWrongFalsely : Prop := slabNamesRow.holds Try.pinned (OpenSpec.ofChange slabNamesWrong)

/-- 'rotalaw04.SlabLast': WHATEVER THE INPUT: true; the input reads as it did. -/
def slabLastSpec : ChangeSpec := { name := "slabLast", fn := fun _ => fun
  | [d1, d2, d3] => { results := [.lit (.bool true)], args := [d1, d2, d3] }
  | _ => none }
def slabLastRow : OpenClaim := { program := "ytnglgjegkjfnaaa", sum := "7f84bce3f0f4029ff4c36c7b29c2599a567395ac8608b930a241a507888346f4", func := "rota/rotalaw04.SlabLast", spec := "slabLast", apart := false }
def SlabLastSaid : Prop := slabLastRow.holds Try.pinned (OpenSpec.ofChange slabLastSpec)

/-- ITS FALSE NEIGHBOUR: 'it returns false'. Refute it at one input. -/
def slabLastWrong : ChangeSpec := { name := "slabLast", fn := fun _ => fun
  | [d1, d2, d3] => { results := [.lit (.bool false)], args := [d1, d2, d3] }
  | _ => none }
def SlabLastWrongFalsely : Prop := slabLastRow.holds Try.pinned (OpenSpec.ofChange slabLastWrong)

/-- 'rotalaw04.SlabNobody': WHATEVER THE INPUT: true; the input reads as it did. -/
def slabNobodySpec : ChangeSpec := { name := "slabNobody", fn := fun _ => fun
  | [d] => { results := [.lit (.bool true)], args := [d] }
  | _ => none }
def slabNobodyRow : OpenClaim := { program := "ytnglgjegkjfnaaa", sum := "7f84bce3f0f4029ff4c36c7b29c2599a567395ac8608b930a241a507888346f4", func := "rota/rotalaw04.SlabNobody", spec := "slabNobody", apart := false }
def SlabNobodySaid : Prop := slabNobodyRow.holds Try.pinned (OpenSpec.ofChange slabNobodySpec)

/-- ITS FALSE NEIGHBOUR: 'it returns false'. Refute it at one input. -/
def slabNobodyWrong : ChangeSpec := { name := "slabNobody", fn := fun _ => fun
  | [d] => { results := [.lit (.bool false)], args := [d] }
  | _ => none }
def SlabNobodyWrongFalsely : Prop := slabNobodyRow.holds Try.pinned (OpenSpec.ofChange slabNobodyWrong)

/-- 'rotalaw04.SlabPlays': WHATEVER THE INPUT: true; the input reads as it did. -/
def slabPlaysSpec : ChangeSpec := { name := "slabPlays", fn := fun _ => fun
  | [d] => { results := [.lit (.bool true)], args := [d] }
  | _ => none }
def slabPlaysRow : OpenClaim := { program := "ytnglgjegkjfnaaa", sum := "7f84bce3f0f4029ff4c36c7b29c2599a567395ac8608b930a241a507888346f4", func := "rota/rotalaw04.SlabPlays", spec := "slabPlays", apart := false }
def SlabPlaysSaid : Prop := slabPlaysRow.holds Try.pinned (OpenSpec.ofChange slabPlaysSpec)

/-- ITS FALSE NEIGHBOUR: 'it returns false'. Refute it at one input. -/
def slabPlaysWrong : ChangeSpec := { name := "slabPlays", fn := fun _ => fun
  | [d] => { results := [.lit (.bool false)], args := [d] }
  | _ => none }
def SlabPlaysWrongFalsely : Prop := slabPlaysRow.holds Try.pinned (OpenSpec.ofChange slabPlaysWrong)

/-- 'rotalaw04.SlabFlushes': WHATEVER THE INPUT: true; the input reads as it did. -/
def slabFlushesSpec : ChangeSpec := { name := "slabFlushes", fn := fun _ => fun
  | [d] => { results := [.lit (.bool true)], args := [d] }
  | _ => none }
def slabFlushesRow : OpenClaim := { program := "ytnglgjegkjfnaaa", sum := "7f84bce3f0f4029ff4c36c7b29c2599a567395ac8608b930a241a507888346f4", func := "rota/rotalaw04.SlabFlushes", spec := "slabFlushes", apart := false }
def SlabFlushesSaid : Prop := slabFlushesRow.holds Try.pinned (OpenSpec.ofChange slabFlushesSpec)

/-- ITS FALSE NEIGHBOUR: 'it returns false'. Refute it at one input. -/
def slabFlushesWrong : ChangeSpec := { name := "slabFlushes", fn := fun _ => fun
  | [d] => { results := [.lit (.bool false)], args := [d] }
  | _ => none }
def SlabFlushesWrongFalsely : Prop := slabFlushesRow.holds Try.pinned (OpenSpec.ofChange slabFlushesWrong)

/-- 'rotalaw04.SlabRetired': WHATEVER THE INPUT: true; the input reads as it did. -/
def slabRetiredSpec : ChangeSpec := { name := "slabRetired", fn := fun _ => fun
  | [d] => { results := [.lit (.bool true)], args := [d] }
  | _ => none }
def slabRetiredRow : OpenClaim := { program := "ytnglgjegkjfnaaa", sum := "7f84bce3f0f4029ff4c36c7b29c2599a567395ac8608b930a241a507888346f4", func := "rota/rotalaw04.SlabRetired", spec := "slabRetired", unfollowed := true, recurses := true, apart := false }
def SlabRetiredSaid : Prop := slabRetiredRow.holds Try.pinned (OpenSpec.ofChange slabRetiredSpec)

/-- ITS FALSE NEIGHBOUR: 'it returns false'. Refute it at one input. -/
def slabRetiredWrong : ChangeSpec := { name := "slabRetired", fn := fun _ => fun
  | [d] => { results := [.lit (.bool false)], args := [d] }
  | _ => none }
def SlabRetiredWrongFalsely : Prop := slabRetiredRow.holds Try.pinned (OpenSpec.ofChange slabRetiredWrong)

/-- 'rotalaw04.SlabLoads': WHATEVER THE INPUT: true; the input reads as it did. -/
def slabLoadsSpec : ChangeSpec := { name := "slabLoads", fn := fun _ => fun
  | [d1, d2] => { results := [.lit (.bool true)], args := [d1, d2] }
  | _ => none }
def slabLoadsRow : OpenClaim := { program := "ytnglgjegkjfnaaa", sum := "7f84bce3f0f4029ff4c36c7b29c2599a567395ac8608b930a241a507888346f4", func := "rota/rotalaw04.SlabLoads", spec := "slabLoads", unfollowed := true, recurses := true, apart := false }
def SlabLoadsSaid : Prop := slabLoadsRow.holds Try.pinned (OpenSpec.ofChange slabLoadsSpec)

/-- ITS FALSE NEIGHBOUR: 'it returns false'. Refute it at one input. -/
def slabLoadsWrong : ChangeSpec := { name := "slabLoads", fn := fun _ => fun
  | [d1, d2] => { results := [.lit (.bool false)], args := [d1, d2] }
  | _ => none }
def SlabLoadsWrongFalsely : Prop := slabLoadsRow.holds Try.pinned (OpenSpec.ofChange slabLoadsWrong)

/-- 'rotalaw04.SlabOwn': WHATEVER THE INPUT: true; the input reads as it did. -/
def slabOwnSpec : ChangeSpec := { name := "slabOwn", fn := fun _ => fun
  | [d1, d2] => { results := [.lit (.bool true)], args := [d1, d2] }
  | _ => none }
def slabOwnRow : OpenClaim := { program := "ytnglgjegkjfnaaa", sum := "7f84bce3f0f4029ff4c36c7b29c2599a567395ac8608b930a241a507888346f4", func := "rota/rotalaw04.SlabOwn", spec := "slabOwn", unfollowed := true, recurses := true, apart := false }
def SlabOwnSaid : Prop := slabOwnRow.holds Try.pinned (OpenSpec.ofChange slabOwnSpec)

/-- ITS FALSE NEIGHBOUR: 'it returns false'. Refute it at one input. -/
def slabOwnWrong : ChangeSpec := { name := "slabOwn", fn := fun _ => fun
  | [d1, d2] => { results := [.lit (.bool false)], args := [d1, d2] }
  | _ => none }
def SlabOwnWrongFalsely : Prop := slabOwnRow.holds Try.pinned (OpenSpec.ofChange slabOwnWrong)

/- THE SECOND FORM. 'bulk': how many values and letters a reading holds, each counted each time it is reached (what is shared counts as often as it is met; a slice's spare places count too). A statement '..UptoSaid' is the law's where the arguments, and the package variables that the reading takes, are together of bulk at most 1048576: NARROWER than '..Said'. Prove '..Said' where nothing that the law and all that it calls make is longer than what came in: it says more and counts as full. Else prove '..UptoSaid'. A law counts once. -/
mutual
def uptoBulk {H : Type} : DataW H → Nat
  | .lit (.string bytes) => bytes.length + 1
  | .lit _ => 1
  | .nil => 1
  | .ptr d => uptoBulk d + 1
  | .slice elems spare => uptoBulkAll elems + uptoBulkAll spare + 1
  | .agg parts => uptoBulkAll parts + 1
  | .iface _ d => uptoBulk d + 1
  | .map entries => uptoBulkEntries entries + 1
  | .held _ => 1
def uptoBulkAll {H : Type} : List (DataW H) → Nat
  | [] => 0
  | d :: r => uptoBulk d + uptoBulkAll r
def uptoBulkEntries {H : Type} : List (Lit × DataW H) → Nat
  | [] => 0
  | x :: r => uptoBulkEntry x + uptoBulkEntries r
def uptoBulkEntry {H : Type} : Lit × DataW H → Nat
  | (.string bytes, d) => bytes.length + uptoBulk d + 1
  | (_, d) => uptoBulk d + 1
 end
def uptoSmall : (H : Type) → List (DataW H) → Bool := fun _ ds => decide (uptoBulkAll ds ≤ 1048576)
def OpenSpec.upto (s : _root_.Go.ChangeSpec) : _root_.Go.OpenSpec := { _root_.Go.OpenSpec.ofChange s with cond := some uptoSmall }

/-- 'rotalaw04.SlabMakes', WHERE WHAT IT READS IS OF BULK AT MOST 1048576: true; the input reads as it did. -/
def slabMakesUptoRow : OpenClaim := { program := "ytnglgjegkjfnaaa", sum := "7f84bce3f0f4029ff4c36c7b29c2599a567395ac8608b930a241a507888346f4", func := "rota/rotalaw04.SlabMakes", spec := "slabMakes", apart := false, narrowed := true }
def SlabMakesUptoSaid : Prop := slabMakesUptoRow.holds Try.pinned (OpenSpec.upto slabMakesSpec)

/-- 'rotalaw04.SlabFree', WHERE WHAT IT READS IS OF BULK AT MOST 1048576: true; the input reads as it did. -/
def slabFreeUptoRow : OpenClaim := { program := "ytnglgjegkjfnaaa", sum := "7f84bce3f0f4029ff4c36c7b29c2599a567395ac8608b930a241a507888346f4", func := "rota/rotalaw04.SlabFree", spec := "slabFree", apart := false, narrowed := true }
def SlabFreeUptoSaid : Prop := slabFreeUptoRow.holds Try.pinned (OpenSpec.upto slabFreeSpec)

/-- 'rotalaw04.SlabNames', WHERE WHAT IT READS IS OF BULK AT MOST 1048576: true; the input reads as it did. -/
def slabNamesUptoRow : OpenClaim := { program := "ytnglgjegkjfnaaa", sum := "7f84bce3f0f4029ff4c36c7b29c2599a567395ac8608b930a241a507888346f4", func := "rota/rotalaw04.SlabNames", spec := "slabNames", apart := false, narrowed := true }
def SlabNamesUptoSaid : Prop := slabNamesUptoRow.holds Try.pinned (OpenSpec.upto slabNamesSpec)

/-- 'rotalaw04.SlabLast', WHERE WHAT IT READS IS OF BULK AT MOST 1048576: true; the input reads as it did. -/
def slabLastUptoRow : OpenClaim := { program := "ytnglgjegkjfnaaa", sum := "7f84bce3f0f4029ff4c36c7b29c2599a567395ac8608b930a241a507888346f4", func := "rota/rotalaw04.SlabLast", spec := "slabLast", apart := false, narrowed := true }
def SlabLastUptoSaid : Prop := slabLastUptoRow.holds Try.pinned (OpenSpec.upto slabLastSpec)

/-- 'rotalaw04.SlabNobody', WHERE WHAT IT READS IS OF BULK AT MOST 1048576: true; the input reads as it did. -/
def slabNobodyUptoRow : OpenClaim := { program := "ytnglgjegkjfnaaa", sum := "7f84bce3f0f4029ff4c36c7b29c2599a567395ac8608b930a241a507888346f4", func := "rota/rotalaw04.SlabNobody", spec := "slabNobody", apart := false, narrowed := true }
def SlabNobodyUptoSaid : Prop := slabNobodyUptoRow.holds Try.pinned (OpenSpec.upto slabNobodySpec)

/-- 'rotalaw04.SlabPlays', WHERE WHAT IT READS IS OF BULK AT MOST 1048576: true; the input reads as it did. -/
def slabPlaysUptoRow : OpenClaim := { program := "ytnglgjegkjfnaaa", sum := "7f84bce3f0f4029ff4c36c7b29c2599a567395ac8608b930a241a507888346f4", func := "rota/rotalaw04.SlabPlays", spec := "slabPlays", apart := false, narrowed := true }
def SlabPlaysUptoSaid : Prop := slabPlaysUptoRow.holds Try.pinned (OpenSpec.upto slabPlaysSpec)

/-- 'rotalaw04.SlabFlushes', WHERE WHAT IT READS IS OF BULK AT MOST 1048576: true; the input reads as it did. -/
def slabFlushesUptoRow : OpenClaim := { program := "ytnglgjegkjfnaaa", sum := "7f84bce3f0f4029ff4c36c7b29c2599a567395ac8608b930a241a507888346f4", func := "rota/rotalaw04.SlabFlushes", spec := "slabFlushes", apart := false, narrowed := true }
def SlabFlushesUptoSaid : Prop := slabFlushesUptoRow.holds Try.pinned (OpenSpec.upto slabFlushesSpec)

/-- 'rotalaw04.SlabRetired', WHERE WHAT IT READS IS OF BULK AT MOST 1048576: true; the input reads as it did. -/
def slabRetiredUptoRow : OpenClaim := { program := "ytnglgjegkjfnaaa", sum := "7f84bce3f0f4029ff4c36c7b29c2599a567395ac8608b930a241a507888346f4", func := "rota/rotalaw04.SlabRetired", spec := "slabRetired", unfollowed := true, recurses := true, apart := false, narrowed := true }
def SlabRetiredUptoSaid : Prop := slabRetiredUptoRow.holds Try.pinned (OpenSpec.upto slabRetiredSpec)

/-- 'rotalaw04.SlabLoads', WHERE WHAT IT READS IS OF BULK AT MOST 1048576: true; the input reads as it did. -/
def slabLoadsUptoRow : OpenClaim := { program := "ytnglgjegkjfnaaa", sum := "7f84bce3f0f4029ff4c36c7b29c2599a567395ac8608b930a241a507888346f4", func := "rota/rotalaw04.SlabLoads", spec := "slabLoads", unfollowed := true, recurses := true, apart := false, narrowed := true }
def SlabLoadsUptoSaid : Prop := slabLoadsUptoRow.holds Try.pinned (OpenSpec.upto slabLoadsSpec)

/-- 'rotalaw04.SlabOwn', WHERE WHAT IT READS IS OF BULK AT MOST 1048576: true; the input reads as it did. -/
def slabOwnUptoRow : OpenClaim := { program := "ytnglgjegkjfnaaa", sum := "7f84bce3f0f4029ff4c36c7b29c2599a567395ac8608b930a241a507888346f4", func := "rota/rotalaw04.SlabOwn", spec := "slabOwn", unfollowed := true, recurses := true, apart := false, narrowed := true }
def SlabOwnUptoSaid : Prop := slabOwnUptoRow.holds Try.pinned (OpenSpec.upto slabOwnSpec)

end Rows
end Go.Proofs.Ytnglgjegkjfnaaa
