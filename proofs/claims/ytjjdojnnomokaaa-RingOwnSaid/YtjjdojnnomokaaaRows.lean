/-
  No cell of these rows narrows 'for every input' (looked for: loops, veiled, ifaces, maps, wideKeys, modest, calm, conditions, laid).
  DERIVED. THE GIVEN ROWS OF THIS SEAT. 9 by the template 'for every input the law returns true; each argument reads behind the call as it read before'; 0 by the template 'total and deterministic' (their statements: YtjjdojnnomokaaaTotals.lean).
  GIVEN WITH THE SEED: the statements are not yours to turn. If you find one false, say at which input.
  Laid BY PROGRAM, IN A SANDBOX (cutbox-rows.mjs): the forced cells as the released guide's own fill.sh prints them over the translation 7058d75f41a16084… (all of the seat's roots in one cut). By AI agents, Wed Nov 11 2026. No macro, syntax, notation, axiom, sorry.
-/
import Derived.Test.YtjjdojnnomokaaaChecked
import GoSem.Claim
import GoSem.ClaimJoined
import GoSem.ClaimMapViews
import Derived.JoinedTies
import Derived.KernelRfl
namespace Go.Proofs.Ytjjdojnnomokaaa
/- THE CELL 'sum', in the pinned program and in every row, IS THE sha256 OF THE DUMP (.gsa) THAT YtjjdojnnomokaaaProg.lean LOADS. Nothing in Lean hashes anything: it is a label: what it is worth is what the hold of that sum in a sandbox is worth. -/
noncomputable def Try.pinned : Pinned := { name := "ytjjdojnnomokaaa", sum := "7058d75f41a1608459a2d1a3f4d1d79a1a6230f52614febc4dd4a9af2003b14f", checked := Try.checked }
namespace Rows
def none {H : Type} : Left H := { results := [], args := [] }

/-- 'rotalaw02.RingOldest': WHATEVER THE INPUT: true; the input reads as it did. -/
def ringOldestSpec : ChangeSpec := { name := "ringOldest", fn := fun _ => fun
  | [d] => { results := [.lit (.bool true)], args := [d] }
  | _ => none }
def ringOldestRow : OpenClaim := { program := "ytjjdojnnomokaaa", sum := "7058d75f41a1608459a2d1a3f4d1d79a1a6230f52614febc4dd4a9af2003b14f", func := "rota/rotalaw02.RingOldest", spec := "ringOldest", apart := false }
def RingOldestSaid : Prop := ringOldestRow.holds Try.pinned (OpenSpec.ofChange ringOldestSpec)

/-- ITS FALSE NEIGHBOUR: 'it returns false'. Refute it at one input. -/
def ringOldestWrong : ChangeSpec := { name := "ringOldest", fn := fun _ => fun
  | [d] => { results := [.lit (.bool false)], args := [d] }
  | _ => none }
def RingOldestWrongFalsely : Prop := ringOldestRow.holds Try.pinned (OpenSpec.ofChange ringOldestWrong)

/-- 'rotalaw02.RingLeaves': WHATEVER THE INPUT: true; the input reads as it did. -/
def ringLeavesSpec : ChangeSpec := { name := "ringLeaves", fn := fun _ => fun
  | [d1, d2] => { results := [.lit (.bool true)], args := [d1, d2] }
  | _ => none }
def ringLeavesRow : OpenClaim := { program := "ytjjdojnnomokaaa", sum := "7058d75f41a1608459a2d1a3f4d1d79a1a6230f52614febc4dd4a9af2003b14f", func := "rota/rotalaw02.RingLeaves", spec := "ringLeaves", apart := false }
def RingLeavesSaid : Prop := ringLeavesRow.holds Try.pinned (OpenSpec.ofChange ringLeavesSpec)

/-- ITS FALSE NEIGHBOUR: 'it returns false'. Refute it at one input. -/
def ringLeavesWrong : ChangeSpec := { name := "ringLeaves", fn := fun _ => fun
  | [d1, d2] => { results := [.lit (.bool false)], args := [d1, d2] }
  | _ => none }
def RingLeavesWrongFalsely : Prop := ringLeavesRow.holds Try.pinned (OpenSpec.ofChange ringLeavesWrong)

/-- 'rotalaw02.RingKeeps': WHATEVER THE INPUT: true; the input reads as it did. -/
def ringKeepsSpec : ChangeSpec := { name := "ringKeeps", fn := fun _ => fun
  | [d] => { results := [.lit (.bool true)], args := [d] }
  | _ => none }
def ringKeepsRow : OpenClaim := { program := "ytjjdojnnomokaaa", sum := "7058d75f41a1608459a2d1a3f4d1d79a1a6230f52614febc4dd4a9af2003b14f", func := "rota/rotalaw02.RingKeeps", spec := "ringKeeps", apart := false }
def RingKeepsSaid : Prop := ringKeepsRow.holds Try.pinned (OpenSpec.ofChange ringKeepsSpec)

/-- ITS FALSE NEIGHBOUR: 'it returns false'. Refute it at one input. -/
def ringKeepsWrong : ChangeSpec := { name := "ringKeeps", fn := fun _ => fun
  | [d] => { results := [.lit (.bool false)], args := [d] }
  | _ => none }
def RingKeepsWrongFalsely : Prop := ringKeepsRow.holds Try.pinned (OpenSpec.ofChange ringKeepsWrong)

/-- 'rotalaw02.RingPlays': WHATEVER THE INPUT: true; the input reads as it did. -/
def ringPlaysSpec : ChangeSpec := { name := "ringPlays", fn := fun _ => fun
  | [d] => { results := [.lit (.bool true)], args := [d] }
  | _ => none }
def ringPlaysRow : OpenClaim := { program := "ytjjdojnnomokaaa", sum := "7058d75f41a1608459a2d1a3f4d1d79a1a6230f52614febc4dd4a9af2003b14f", func := "rota/rotalaw02.RingPlays", spec := "ringPlays", apart := false }
def RingPlaysSaid : Prop := ringPlaysRow.holds Try.pinned (OpenSpec.ofChange ringPlaysSpec)

/-- ITS FALSE NEIGHBOUR: 'it returns false'. Refute it at one input. -/
def ringPlaysWrong : ChangeSpec := { name := "ringPlays", fn := fun _ => fun
  | [d] => { results := [.lit (.bool false)], args := [d] }
  | _ => none }
def RingPlaysWrongFalsely : Prop := ringPlaysRow.holds Try.pinned (OpenSpec.ofChange ringPlaysWrong)

/-- 'rotalaw02.RingRises': WHATEVER THE INPUT: true; the input reads as it did. -/
def ringRisesSpec : ChangeSpec := { name := "ringRises", fn := fun _ => fun
  | [d] => { results := [.lit (.bool true)], args := [d] }
  | _ => none }
def ringRisesRow : OpenClaim := { program := "ytjjdojnnomokaaa", sum := "7058d75f41a1608459a2d1a3f4d1d79a1a6230f52614febc4dd4a9af2003b14f", func := "rota/rotalaw02.RingRises", spec := "ringRises", apart := false }
def RingRisesSaid : Prop := ringRisesRow.holds Try.pinned (OpenSpec.ofChange ringRisesSpec)

/-- ITS FALSE NEIGHBOUR: 'it returns false'. Refute it at one input. -/
def ringRisesWrong : ChangeSpec := { name := "ringRises", fn := fun _ => fun
  | [d] => { results := [.lit (.bool false)], args := [d] }
  | _ => none }
def RingRisesWrongFalsely : Prop := ringRisesRow.holds Try.pinned (OpenSpec.ofChange ringRisesWrong)

/-- 'rotalaw02.RingHalves': WHATEVER THE INPUT: true; the input reads as it did. -/
def ringHalvesSpec : ChangeSpec := { name := "ringHalves", fn := fun _ => fun
  | [d] => { results := [.lit (.bool true)], args := [d] }
  | _ => none }
def ringHalvesRow : OpenClaim := { program := "ytjjdojnnomokaaa", sum := "7058d75f41a1608459a2d1a3f4d1d79a1a6230f52614febc4dd4a9af2003b14f", func := "rota/rotalaw02.RingHalves", spec := "ringHalves", apart := false }
def RingHalvesSaid : Prop := ringHalvesRow.holds Try.pinned (OpenSpec.ofChange ringHalvesSpec)

/-- ITS FALSE NEIGHBOUR: 'it returns false'. Refute it at one input. -/
def ringHalvesWrong : ChangeSpec := { name := "ringHalves", fn := fun _ => fun
  | [d] => { results := [.lit (.bool false)], args := [d] }
  | _ => none }
def RingHalvesWrongFalsely : Prop := ringHalvesRow.holds Try.pinned (OpenSpec.ofChange ringHalvesWrong)

/-- 'rotalaw02.RingNobody': WHATEVER THE INPUT: true; the input reads as it did. -/
def ringNobodySpec : ChangeSpec := { name := "ringNobody", fn := fun _ => fun
  | [d] => { results := [.lit (.bool true)], args := [d] }
  | _ => none }
def ringNobodyRow : OpenClaim := { program := "ytjjdojnnomokaaa", sum := "7058d75f41a1608459a2d1a3f4d1d79a1a6230f52614febc4dd4a9af2003b14f", func := "rota/rotalaw02.RingNobody", spec := "ringNobody", apart := false }
def RingNobodySaid : Prop := ringNobodyRow.holds Try.pinned (OpenSpec.ofChange ringNobodySpec)

/-- ITS FALSE NEIGHBOUR: 'it returns false'. Refute it at one input. -/
def ringNobodyWrong : ChangeSpec := { name := "ringNobody", fn := fun _ => fun
  | [d] => { results := [.lit (.bool false)], args := [d] }
  | _ => none }
def RingNobodyWrongFalsely : Prop := ringNobodyRow.holds Try.pinned (OpenSpec.ofChange ringNobodyWrong)

/-- 'rotalaw02.RingLoads': WHATEVER THE INPUT: true; the input reads as it did. -/
def ringLoadsSpec : ChangeSpec := { name := "ringLoads", fn := fun _ => fun
  | [d1, d2] => { results := [.lit (.bool true)], args := [d1, d2] }
  | _ => none }
def ringLoadsRow : OpenClaim := { program := "ytjjdojnnomokaaa", sum := "7058d75f41a1608459a2d1a3f4d1d79a1a6230f52614febc4dd4a9af2003b14f", func := "rota/rotalaw02.RingLoads", spec := "ringLoads", apart := false }
def RingLoadsSaid : Prop := ringLoadsRow.holds Try.pinned (OpenSpec.ofChange ringLoadsSpec)

/-- ITS FALSE NEIGHBOUR: 'it returns false'. Refute it at one input. -/
def ringLoadsWrong : ChangeSpec := { name := "ringLoads", fn := fun _ => fun
  | [d1, d2] => { results := [.lit (.bool false)], args := [d1, d2] }
  | _ => none }
def RingLoadsWrongFalsely : Prop := ringLoadsRow.holds Try.pinned (OpenSpec.ofChange ringLoadsWrong)

/-- 'rotalaw02.RingOwn': WHATEVER THE INPUT: true; the input reads as it did. -/
def ringOwnSpec : ChangeSpec := { name := "ringOwn", fn := fun _ => fun
  | [d1, d2] => { results := [.lit (.bool true)], args := [d1, d2] }
  | _ => none }
def ringOwnRow : OpenClaim := { program := "ytjjdojnnomokaaa", sum := "7058d75f41a1608459a2d1a3f4d1d79a1a6230f52614febc4dd4a9af2003b14f", func := "rota/rotalaw02.RingOwn", spec := "ringOwn", apart := false }
def RingOwnSaid : Prop := ringOwnRow.holds Try.pinned (OpenSpec.ofChange ringOwnSpec)

/-- ITS FALSE NEIGHBOUR: 'it returns false'. Refute it at one input. -/
def ringOwnWrong : ChangeSpec := { name := "ringOwn", fn := fun _ => fun
  | [d1, d2] => { results := [.lit (.bool false)], args := [d1, d2] }
  | _ => none }
def RingOwnWrongFalsely : Prop := ringOwnRow.holds Try.pinned (OpenSpec.ofChange ringOwnWrong)

/- THE SECOND FORM. 'bulk': how many values and letters a reading holds, each counted each time it is reached (what is shared counts as often as it is met; a slice's spare places count too). A statement '..UptoSaid' is the law's where the arguments, and the package variables that the reading takes, are together of bulk at most 1048576: NARROWER than '..Said'. Prove '..Said' where nothing that the law and all that it calls make is longer than what came in: it says more and counts as full. Else prove '..UptoSaid'. A law counts once. -/
mutual
def uptoBulk {H : Type} : DataW H → Nat
  | .lit (.string bytes) => bytes.length + 1
  | .lit _ => 1
  | .nil => 1
  | .ptr d => uptoBulk d + 1
  | .slice elems spare => uptoBulkAll elems + uptoBulkAll spare + 1
  | .agg parts => uptoBulkAll parts + 1
  | .iface _ d => uptoBulk d + 1
  | .map entries => uptoBulkEntries entries + 1
  | .held _ => 1
def uptoBulkAll {H : Type} : List (DataW H) → Nat
  | [] => 0
  | d :: r => uptoBulk d + uptoBulkAll r
def uptoBulkEntries {H : Type} : List (Lit × DataW H) → Nat
  | [] => 0
  | x :: r => uptoBulkEntry x + uptoBulkEntries r
def uptoBulkEntry {H : Type} : Lit × DataW H → Nat
  | (.string bytes, d) => bytes.length + uptoBulk d + 1
  | (_, d) => uptoBulk d + 1
 end
def uptoSmall : (H : Type) → List (DataW H) → Bool := fun _ ds => decide (uptoBulkAll ds ≤ 1048576)
def OpenSpec.upto (s : _root_.Go.ChangeSpec) : _root_.Go.OpenSpec := { _root_.Go.OpenSpec.ofChange s with cond := some uptoSmall }

/-- 'rotalaw02.RingOldest', WHERE WHAT IT READS IS OF BULK AT MOST 1048576: true; the input reads as it did. -/
def ringOldestUptoRow : OpenClaim := { program := "ytjjdojnnomokaaa", sum := "7058d75f41a1608459a2d1a3f4d1d79a1a6230f52614febc4dd4a9af2003b14f", func := "rota/rotalaw02.RingOldest", spec := "ringOldest", apart := false, narrowed := true }
def RingOldestUptoSaid : Prop := ringOldestUptoRow.holds Try.pinned (OpenSpec.upto ringOldestSpec)

/-- 'rotalaw02.RingLeaves', WHERE WHAT IT READS IS OF BULK AT MOST 1048576: true; the input reads as it did. -/
def ringLeavesUptoRow : OpenClaim := { program := "ytjjdojnnomokaaa", sum := "7058d75f41a1608459a2d1a3f4d1d79a1a6230f52614febc4dd4a9af2003b14f", func := "rota/rotalaw02.RingLeaves", spec := "ringLeaves", apart := false, narrowed := true }
def RingLeavesUptoSaid : Prop := ringLeavesUptoRow.holds Try.pinned (OpenSpec.upto ringLeavesSpec)

/-- 'rotalaw02.RingKeeps', WHERE WHAT IT READS IS OF BULK AT MOST 1048576: true; the input reads as it did. -/
def ringKeepsUptoRow : OpenClaim := { program := "ytjjdojnnomokaaa", sum := "7058d75f41a1608459a2d1a3f4d1d79a1a6230f52614febc4dd4a9af2003b14f", func := "rota/rotalaw02.RingKeeps", spec := "ringKeeps", apart := false, narrowed := true }
def RingKeepsUptoSaid : Prop := ringKeepsUptoRow.holds Try.pinned (OpenSpec.upto ringKeepsSpec)

/-- 'rotalaw02.RingPlays', WHERE WHAT IT READS IS OF BULK AT MOST 1048576: true; the input reads as it did. -/
def ringPlaysUptoRow : OpenClaim := { program := "ytjjdojnnomokaaa", sum := "7058d75f41a1608459a2d1a3f4d1d79a1a6230f52614febc4dd4a9af2003b14f", func := "rota/rotalaw02.RingPlays", spec := "ringPlays", apart := false, narrowed := true }
def RingPlaysUptoSaid : Prop := ringPlaysUptoRow.holds Try.pinned (OpenSpec.upto ringPlaysSpec)

/-- 'rotalaw02.RingRises', WHERE WHAT IT READS IS OF BULK AT MOST 1048576: true; the input reads as it did. -/
def ringRisesUptoRow : OpenClaim := { program := "ytjjdojnnomokaaa", sum := "7058d75f41a1608459a2d1a3f4d1d79a1a6230f52614febc4dd4a9af2003b14f", func := "rota/rotalaw02.RingRises", spec := "ringRises", apart := false, narrowed := true }
def RingRisesUptoSaid : Prop := ringRisesUptoRow.holds Try.pinned (OpenSpec.upto ringRisesSpec)

/-- 'rotalaw02.RingHalves', WHERE WHAT IT READS IS OF BULK AT MOST 1048576: true; the input reads as it did. -/
def ringHalvesUptoRow : OpenClaim := { program := "ytjjdojnnomokaaa", sum := "7058d75f41a1608459a2d1a3f4d1d79a1a6230f52614febc4dd4a9af2003b14f", func := "rota/rotalaw02.RingHalves", spec := "ringHalves", apart := false, narrowed := true }
def RingHalvesUptoSaid : Prop := ringHalvesUptoRow.holds Try.pinned (OpenSpec.upto ringHalvesSpec)

/-- 'rotalaw02.RingNobody', WHERE WHAT IT READS IS OF BULK AT MOST 1048576: true; the input reads as it did. -/
def ringNobodyUptoRow : OpenClaim := { program := "ytjjdojnnomokaaa", sum := "7058d75f41a1608459a2d1a3f4d1d79a1a6230f52614febc4dd4a9af2003b14f", func := "rota/rotalaw02.RingNobody", spec := "ringNobody", apart := false, narrowed := true }
def RingNobodyUptoSaid : Prop := ringNobodyUptoRow.holds Try.pinned (OpenSpec.upto ringNobodySpec)

/-- 'rotalaw02.RingLoads', WHERE WHAT IT READS IS OF BULK AT MOST 1048576: true; the input reads as it did. -/
def ringLoadsUptoRow : OpenClaim := { program := "ytjjdojnnomokaaa", sum := "7058d75f41a1608459a2d1a3f4d1d79a1a6230f52614febc4dd4a9af2003b14f", func := "rota/rotalaw02.RingLoads", spec := "ringLoads", apart := false, narrowed := true }
def RingLoadsUptoSaid : Prop := ringLoadsUptoRow.holds Try.pinned (OpenSpec.upto ringLoadsSpec)

/-- 'rotalaw02.RingOwn', WHERE WHAT IT READS IS OF BULK AT MOST 1048576: true; the input reads as it did. -/
def ringOwnUptoRow : OpenClaim := { program := "ytjjdojnnomokaaa", sum := "7058d75f41a1608459a2d1a3f4d1d79a1a6230f52614febc4dd4a9af2003b14f", func := "rota/rotalaw02.RingOwn", spec := "ringOwn", apart := false, narrowed := true }
def RingOwnUptoSaid : Prop := ringOwnUptoRow.holds Try.pinned (OpenSpec.upto ringOwnSpec)

end Rows
end Go.Proofs.Ytjjdojnnomokaaa
