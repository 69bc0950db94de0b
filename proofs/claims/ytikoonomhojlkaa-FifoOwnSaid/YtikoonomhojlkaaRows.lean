/-
  No cell of these rows narrows 'for every input' (looked for: loops, veiled, ifaces, maps, wideKeys, modest, calm, conditions, laid).
  DERIVED. THE GIVEN ROWS OF THIS SEAT. 6 by the template 'for every input the law returns true; each argument reads behind the call as it read before'; 0 by the template 'total and deterministic' (their statements: YtikoonomhojlkaaTotals.lean).
  GIVEN WITH THE SEED: the statements are not yours to turn. If you find one false, say at which input.
  Laid BY PROGRAM, IN A SANDBOX (cutbox-rows.mjs): the forced cells as the released guide's own fill.sh prints them over the translation 37e847997d281c75… (all of the seat's roots in one cut). By AI agents, Wed Nov 11 2026. No macro, syntax, notation, axiom, sorry.
-/
import Derived.Test.YtikoonomhojlkaaChecked
import GoSem.Claim
import GoSem.ClaimJoined
import GoSem.ClaimMapViews
import Derived.JoinedTies
import Derived.KernelRfl
namespace Go.Proofs.Ytikoonomhojlkaa
/- THE CELL 'sum', in the pinned program and in every row, IS THE sha256 OF THE DUMP (.gsa) THAT YtikoonomhojlkaaProg.lean LOADS. Nothing in Lean hashes anything: it is a label: what it is worth is what the hold of that sum in a sandbox is worth. -/
noncomputable def Try.pinned : Pinned := { name := "ytikoonomhojlkaa", sum := "37e847997d281c75b87d361caf404ba86bab92fab74990ed961a1b9ab644796c", checked := Try.checked }
namespace Rows
def none {H : Type} : Left H := { results := [], args := [] }

/-- 'rotalaw03.FifoSorts': WHATEVER THE INPUT: true; the input reads as it did. -/
def fifoSortsSpec : ChangeSpec := { name := "fifoSorts", fn := fun _ => fun
  | [d] => { results := [.lit (.bool true)], args := [d] }
  | _ => none }
def fifoSortsRow : OpenClaim := { program := "ytikoonomhojlkaa", sum := "37e847997d281c75b87d361caf404ba86bab92fab74990ed961a1b9ab644796c", func := "rota/rotalaw03.FifoSorts", spec := "fifoSorts", inPlace := ["slices.overlaps[rota/api.Waiting]"], unfollowed := true, recurses := true, apart := false }
def FifoSortsSaid : Prop := fifoSortsRow.holds Try.pinned (OpenSpec.ofChange fifoSortsSpec)

/-- ITS FALSE NEIGHBOUR: 'it returns false'. Refute it at one input. -/
def fifoSortsWrong : ChangeSpec := { name := "fifoSorts", fn := fun _ => fun
  | [d] => { results := [.lit (.bool false)], args := [d] }
  | _ => none }
def FifoSortsWrongFalsely : Prop := fifoSortsRow.holds Try.pinned (OpenSpec.ofChange fifoSortsWrong)

/-- 'rotalaw03.FifoOwn': WHATEVER THE INPUT: true; the input reads as it did. -/
def fifoOwnSpec : ChangeSpec := { name := "fifoOwn", fn := fun _ => fun
  | [d1, d2, d3] => { results := [.lit (.bool true)], args := [d1, d2, d3] }
  | _ => none }
def fifoOwnRow : OpenClaim := { program := "ytikoonomhojlkaa", sum := "37e847997d281c75b87d361caf404ba86bab92fab74990ed961a1b9ab644796c", func := "rota/rotalaw03.FifoOwn", spec := "fifoOwn", inPlace := ["slices.overlaps[rota/api.Waiting]"], unfollowed := true, recurses := true, apart := false }
def FifoOwnSaid : Prop := fifoOwnRow.holds Try.pinned (OpenSpec.ofChange fifoOwnSpec)

/-- ITS FALSE NEIGHBOUR: 'it returns false'. Refute it at one input. -/
def fifoOwnWrong : ChangeSpec := { name := "fifoOwn", fn := fun _ => fun
  | [d1, d2, d3] => { results := [.lit (.bool false)], args := [d1, d2, d3] }
  | _ => none }
def FifoOwnWrongFalsely : Prop := fifoOwnRow.holds Try.pinned (OpenSpec.ofChange fifoOwnWrong)

/-- 'rotalaw03.FifoPlays': WHATEVER THE INPUT: true; the input reads as it did. -/
def fifoPlaysSpec : ChangeSpec := { name := "fifoPlays", fn := fun _ => fun
  | [d] => { results := [.lit (.bool true)], args := [d] }
  | _ => none }
def fifoPlaysRow : OpenClaim := { program := "ytikoonomhojlkaa", sum := "37e847997d281c75b87d361caf404ba86bab92fab74990ed961a1b9ab644796c", func := "rota/rotalaw03.FifoPlays", spec := "fifoPlays", inPlace := ["slices.overlaps[rota/api.Waiting]"], unfollowed := true, recurses := true, apart := false }
def FifoPlaysSaid : Prop := fifoPlaysRow.holds Try.pinned (OpenSpec.ofChange fifoPlaysSpec)

/-- ITS FALSE NEIGHBOUR: 'it returns false'. Refute it at one input. -/
def fifoPlaysWrong : ChangeSpec := { name := "fifoPlays", fn := fun _ => fun
  | [d] => { results := [.lit (.bool false)], args := [d] }
  | _ => none }
def FifoPlaysWrongFalsely : Prop := fifoPlaysRow.holds Try.pinned (OpenSpec.ofChange fifoPlaysWrong)

/-- 'rotalaw03.FifoBack': WHATEVER THE INPUT: true; the input reads as it did. -/
def fifoBackSpec : ChangeSpec := { name := "fifoBack", fn := fun _ => fun
  | [d1, d2] => { results := [.lit (.bool true)], args := [d1, d2] }
  | _ => none }
def fifoBackRow : OpenClaim := { program := "ytikoonomhojlkaa", sum := "37e847997d281c75b87d361caf404ba86bab92fab74990ed961a1b9ab644796c", func := "rota/rotalaw03.FifoBack", spec := "fifoBack", inPlace := ["slices.overlaps[rota/api.Waiting]"], unfollowed := true, recurses := true, apart := false }
def FifoBackSaid : Prop := fifoBackRow.holds Try.pinned (OpenSpec.ofChange fifoBackSpec)

/-- ITS FALSE NEIGHBOUR: 'it returns false'. Refute it at one input. -/
def fifoBackWrong : ChangeSpec := { name := "fifoBack", fn := fun _ => fun
  | [d1, d2] => { results := [.lit (.bool false)], args := [d1, d2] }
  | _ => none }
def FifoBackWrongFalsely : Prop := fifoBackRow.holds Try.pinned (OpenSpec.ofChange fifoBackWrong)

/-- 'rotalaw03.FifoApart': WHATEVER THE INPUT: true; the input reads as it did. -/
def fifoApartSpec : ChangeSpec := { name := "fifoApart", fn := fun _ => fun
  | [d1, d2] => { results := [.lit (.bool true)], args := [d1, d2] }
  | _ => none }
def fifoApartRow : OpenClaim := { program := "ytikoonomhojlkaa", sum := "37e847997d281c75b87d361caf404ba86bab92fab74990ed961a1b9ab644796c", func := "rota/rotalaw03.FifoApart", spec := "fifoApart", inPlace := ["slices.overlaps[rota/api.Waiting]"], unfollowed := true, recurses := true, apart := false }
def FifoApartSaid : Prop := fifoApartRow.holds Try.pinned (OpenSpec.ofChange fifoApartSpec)

/-- ITS FALSE NEIGHBOUR: 'it returns false'. Refute it at one input. -/
def fifoApartWrong : ChangeSpec := { name := "fifoApart", fn := fun _ => fun
  | [d1, d2] => { results := [.lit (.bool false)], args := [d1, d2] }
  | _ => none }
def FifoApartWrongFalsely : Prop := fifoApartRow.holds Try.pinned (OpenSpec.ofChange fifoApartWrong)

/-- 'rotalaw03.FifoLoads': WHATEVER THE INPUT: true; the input reads as it did. -/
def fifoLoadsSpec : ChangeSpec := { name := "fifoLoads", fn := fun _ => fun
  | [d1, d2] => { results := [.lit (.bool true)], args := [d1, d2] }
  | _ => none }
def fifoLoadsRow : OpenClaim := { program := "ytikoonomhojlkaa", sum := "37e847997d281c75b87d361caf404ba86bab92fab74990ed961a1b9ab644796c", func := "rota/rotalaw03.FifoLoads", spec := "fifoLoads", inPlace := ["slices.overlaps[rota/api.Waiting]"], unfollowed := true, recurses := true, apart := false }
def FifoLoadsSaid : Prop := fifoLoadsRow.holds Try.pinned (OpenSpec.ofChange fifoLoadsSpec)

/-- ITS FALSE NEIGHBOUR: 'it returns false'. Refute it at one input. -/
def fifoLoadsWrong : ChangeSpec := { name := "fifoLoads", fn := fun _ => fun
  | [d1, d2] => { results := [.lit (.bool false)], args := [d1, d2] }
  | _ => none }
def FifoLoadsWrongFalsely : Prop := fifoLoadsRow.holds Try.pinned (OpenSpec.ofChange fifoLoadsWrong)

/- THE SECOND FORM. 'bulk': how many values and letters a reading holds, each counted each time it is reached (what is shared counts as often as it is met; a slice's spare places count too). A statement '..UptoSaid' is the law's where the arguments, and the package variables that the reading takes, are together of bulk at most 1048576: NARROWER than '..Said'. Prove '..Said' where nothing that the law and all that it calls make is longer than what came in: it says more and counts as full. Else prove '..UptoSaid'. A law counts once. -/
mutual
def uptoBulk {H : Type} : DataW H → Nat
  | .lit (.string bytes) => bytes.length + 1
  | .lit _ => 1
  | .nil => 1
  | .ptr d => uptoBulk d + 1
  | .slice elems spare => uptoBulkAll elems + uptoBulkAll spare + 1
  | .agg parts => uptoBulkAll parts + 1
  | .iface _ d => uptoBulk d + 1
  | .map entries => uptoBulkEntries entries + 1
  | .held _ => 1
def uptoBulkAll {H : Type} : List (DataW H) → Nat
  | [] => 0
  | d :: r => uptoBulk d + uptoBulkAll r
def uptoBulkEntries {H : Type} : List (Lit × DataW H) → Nat
  | [] => 0
  | x :: r => uptoBulkEntry x + uptoBulkEntries r
def uptoBulkEntry {H : Type} : Lit × DataW H → Nat
  | (.string bytes, d) => bytes.length + uptoBulk d + 1
  | (_, d) => uptoBulk d + 1
 end
def uptoSmall : (H : Type) → List (DataW H) → Bool := fun _ ds => decide (uptoBulkAll ds ≤ 1048576)
def OpenSpec.upto (s : _root_.Go.ChangeSpec) : _root_.Go.OpenSpec := { _root_.Go.OpenSpec.ofChange s with cond := some uptoSmall }

/-- 'rotalaw03.FifoSorts', WHERE WHAT IT READS IS OF BULK AT MOST 1048576: true; the input reads as it did. -/
def fifoSortsUptoRow : OpenClaim := { program := "ytikoonomhojlkaa", sum := "37e847997d281c75b87d361caf404ba86bab92fab74990ed961a1b9ab644796c", func := "rota/rotalaw03.FifoSorts", spec := "fifoSorts", inPlace := ["slices.overlaps[rota/api.Waiting]"], unfollowed := true, recurses := true, apart := false, narrowed := true }
def FifoSortsUptoSaid : Prop := fifoSortsUptoRow.holds Try.pinned (OpenSpec.upto fifoSortsSpec)

/-- 'rotalaw03.FifoOwn', WHERE WHAT IT READS IS OF BULK AT MOST 1048576: true; the input reads as it did. -/
def fifoOwnUptoRow : OpenClaim := { program := "ytikoonomhojlkaa", sum := "37e847997d281c75b87d361caf404ba86bab92fab74990ed961a1b9ab644796c", func := "rota/rotalaw03.FifoOwn", spec := "fifoOwn", inPlace := ["slices.overlaps[rota/api.Waiting]"], unfollowed := true, recurses := true, apart := false, narrowed := true }
def FifoOwnUptoSaid : Prop := fifoOwnUptoRow.holds Try.pinned (OpenSpec.upto fifoOwnSpec)

/-- 'rotalaw03.FifoPlays', WHERE WHAT IT READS IS OF BULK AT MOST 1048576: true; the input reads as it did. -/
def fifoPlaysUptoRow : OpenClaim := { program := "ytikoonomhojlkaa", sum := "37e847997d281c75b87d361caf404ba86bab92fab74990ed961a1b9ab644796c", func := "rota/rotalaw03.FifoPlays", spec := "fifoPlays", inPlace := ["slices.overlaps[rota/api.Waiting]"], unfollowed := true, recurses := true, apart := false, narrowed := true }
def FifoPlaysUptoSaid : Prop := fifoPlaysUptoRow.holds Try.pinned (OpenSpec.upto fifoPlaysSpec)

/-- 'rotalaw03.FifoBack', WHERE WHAT IT READS IS OF BULK AT MOST 1048576: true; the input reads as it did. -/
def fifoBackUptoRow : OpenClaim := { program := "ytikoonomhojlkaa", sum := "37e847997d281c75b87d361caf404ba86bab92fab74990ed961a1b9ab644796c", func := "rota/rotalaw03.FifoBack", spec := "fifoBack", inPlace := ["slices.overlaps[rota/api.Waiting]"], unfollowed := true, recurses := true, apart := false, narrowed := true }
def FifoBackUptoSaid : Prop := fifoBackUptoRow.holds Try.pinned (OpenSpec.upto fifoBackSpec)

/-- 'rotalaw03.FifoApart', WHERE WHAT IT READS IS OF BULK AT MOST 1048576: true; the input reads as it did. -/
def fifoApartUptoRow : OpenClaim := { program := "ytikoonomhojlkaa", sum := "37e847997d281c75b87d361caf404ba86bab92fab74990ed961a1b9ab644796c", func := "rota/rotalaw03.FifoApart", spec := "fifoApart", inPlace := ["slices.overlaps[rota/api.Waiting]"], unfollowed := true, recurses := true, apart := false, narrowed := true }
def FifoApartUptoSaid : Prop := fifoApartUptoRow.holds Try.pinned (OpenSpec.upto fifoApartSpec)

/-- 'rotalaw03.FifoLoads', WHERE WHAT IT READS IS OF BULK AT MOST 1048576: true; the input reads as it did. -/
def fifoLoadsUptoRow : OpenClaim := { program := "ytikoonomhojlkaa", sum := "37e847997d281c75b87d361caf404ba86bab92fab74990ed961a1b9ab644796c", func := "rota/rotalaw03.FifoLoads", spec := "fifoLoads", inPlace := ["slices.overlaps[rota/api.Waiting]"], unfollowed := true, recurses := true, apart := false, narrowed := true }
def FifoLoadsUptoSaid : Prop := fifoLoadsUptoRow.holds Try.pinned (OpenSpec.upto fifoLoadsSpec)

end Rows
end Go.Proofs.Ytikoonomhojlkaa
