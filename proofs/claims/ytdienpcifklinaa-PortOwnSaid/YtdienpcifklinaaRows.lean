/-
  No cell of these rows narrows 'for every input' (looked for: loops, veiled, ifaces, maps, wideKeys, modest, calm, conditions, laid).
  DERIVED. THE GIVEN ROWS OF THIS SEAT. 6 by the template 'for every input the law returns true; each argument reads behind the call as it read before'; 0 by the template 'total and deterministic' (their statements: YtdienpcifklinaaTotals.lean).
  GIVEN WITH THE SEED: the statements are not yours to turn. If you find one false, say at which input.
  Laid BY PROGRAM, IN A SANDBOX (cutbox-rows.mjs): the forced cells as the released guide's own fill.sh prints them over the translation 25e772045f0ff3bd… (all of the seat's roots in one cut). By AI agents, Wed Nov 11 2026. No macro, syntax, notation, axiom, sorry.
-/
import Derived.Test.YtdienpcifklinaaChecked
import GoSem.Claim
import GoSem.ClaimJoined
import GoSem.ClaimMapViews
import Derived.JoinedTies
import Derived.KernelRfl
namespace Go.Proofs.Ytdienpcifklinaa
/- THE CELL 'sum', in the pinned program and in every row, IS THE sha256 OF THE DUMP (.gsa) THAT YtdienpcifklinaaProg.lean LOADS. Nothing in Lean hashes anything: it is a label: what it is worth is what the hold of that sum in a sandbox is worth. -/
noncomputable def Try.pinned : Pinned := { name := "ytdienpcifklinaa", sum := "25e772045f0ff3bd1ff1a9782bd857502536e23508ddacc47f45d84d01d38bf6", checked := Try.checked }
namespace Rows
def none {H : Type} : Left H := { results := [], args := [] }

/-- 'rotalaw15.PortLater': WHATEVER THE INPUT: true; the input reads as it did. -/
def portLaterSpec : ChangeSpec := { name := "portLater", fn := fun _ => fun
  | [d1, d2, d3] => { results := [.lit (.bool true)], args := [d1, d2, d3] }
  | _ => none }
def portLaterRow : OpenClaim := { program := "ytdienpcifklinaa", sum := "25e772045f0ff3bd1ff1a9782bd857502536e23508ddacc47f45d84d01d38bf6", func := "rota/rotalaw15.PortLater", spec := "portLater", unfollowed := true, recurses := true, apart := false }
def PortLaterSaid : Prop := portLaterRow.holds Try.pinned (OpenSpec.ofChange portLaterSpec)

/-- ITS FALSE NEIGHBOUR: 'it returns false'. Refute it at one input. -/
def portLaterWrong : ChangeSpec := { name := "portLater", fn := fun _ => fun
  | [d1, d2, d3] => { results := [.lit (.bool false)], args := [d1, d2, d3] }
  | _ => none }
def PortLaterWrongFalsely : Prop := portLaterRow.holds Try.pinned (OpenSpec.ofChange portLaterWrong)

/-- 'rotalaw15.PortPlays': WHATEVER THE INPUT: true; the input reads as it did. -/
def portPlaysSpec : ChangeSpec := { name := "portPlays", fn := fun _ => fun
  | [d1, d2] => { results := [.lit (.bool true)], args := [d1, d2] }
  | _ => none }
def portPlaysRow : OpenClaim := { program := "ytdienpcifklinaa", sum := "25e772045f0ff3bd1ff1a9782bd857502536e23508ddacc47f45d84d01d38bf6", func := "rota/rotalaw15.PortPlays", spec := "portPlays", unfollowed := true, recurses := true, apart := false }
def PortPlaysSaid : Prop := portPlaysRow.holds Try.pinned (OpenSpec.ofChange portPlaysSpec)

/-- ITS FALSE NEIGHBOUR: 'it returns false'. Refute it at one input. -/
def portPlaysWrong : ChangeSpec := { name := "portPlays", fn := fun _ => fun
  | [d1, d2] => { results := [.lit (.bool false)], args := [d1, d2] }
  | _ => none }
def PortPlaysWrongFalsely : Prop := portPlaysRow.holds Try.pinned (OpenSpec.ofChange portPlaysWrong)

/-- 'rotalaw15.PortOneWay': WHATEVER THE INPUT: true; the input reads as it did. -/
def portOneWaySpec : ChangeSpec := { name := "portOneWay", fn := fun _ => fun
  | [d1, d2] => { results := [.lit (.bool true)], args := [d1, d2] }
  | _ => none }
def portOneWayRow : OpenClaim := { program := "ytdienpcifklinaa", sum := "25e772045f0ff3bd1ff1a9782bd857502536e23508ddacc47f45d84d01d38bf6", func := "rota/rotalaw15.PortOneWay", spec := "portOneWay", unfollowed := true, recurses := true, apart := false }
def PortOneWaySaid : Prop := portOneWayRow.holds Try.pinned (OpenSpec.ofChange portOneWaySpec)

/-- ITS FALSE NEIGHBOUR: 'it returns false'. Refute it at one input. -/
def portOneWayWrong : ChangeSpec := { name := "portOneWay", fn := fun _ => fun
  | [d1, d2] => { results := [.lit (.bool false)], args := [d1, d2] }
  | _ => none }
def PortOneWayWrongFalsely : Prop := portOneWayRow.holds Try.pinned (OpenSpec.ofChange portOneWayWrong)

/-- 'rotalaw15.PortKeeps': WHATEVER THE INPUT: true; the input reads as it did. -/
def portKeepsSpec : ChangeSpec := { name := "portKeeps", fn := fun _ => fun
  | [d1, d2] => { results := [.lit (.bool true)], args := [d1, d2] }
  | _ => none }
def portKeepsRow : OpenClaim := { program := "ytdienpcifklinaa", sum := "25e772045f0ff3bd1ff1a9782bd857502536e23508ddacc47f45d84d01d38bf6", func := "rota/rotalaw15.PortKeeps", spec := "portKeeps", unfollowed := true, recurses := true, apart := false }
def PortKeepsSaid : Prop := portKeepsRow.holds Try.pinned (OpenSpec.ofChange portKeepsSpec)

/-- ITS FALSE NEIGHBOUR: 'it returns false'. Refute it at one input. -/
def portKeepsWrong : ChangeSpec := { name := "portKeeps", fn := fun _ => fun
  | [d1, d2] => { results := [.lit (.bool false)], args := [d1, d2] }
  | _ => none }
def PortKeepsWrongFalsely : Prop := portKeepsRow.holds Try.pinned (OpenSpec.ofChange portKeepsWrong)

/-- 'rotalaw15.PortLoads': WHATEVER THE INPUT: true; the input reads as it did. -/
def portLoadsSpec : ChangeSpec := { name := "portLoads", fn := fun _ => fun
  | [d1, d2] => { results := [.lit (.bool true)], args := [d1, d2] }
  | _ => none }
def portLoadsRow : OpenClaim := { program := "ytdienpcifklinaa", sum := "25e772045f0ff3bd1ff1a9782bd857502536e23508ddacc47f45d84d01d38bf6", func := "rota/rotalaw15.PortLoads", spec := "portLoads", unfollowed := true, recurses := true, apart := false }
def PortLoadsSaid : Prop := portLoadsRow.holds Try.pinned (OpenSpec.ofChange portLoadsSpec)

/-- ITS FALSE NEIGHBOUR: 'it returns false'. Refute it at one input. -/
def portLoadsWrong : ChangeSpec := { name := "portLoads", fn := fun _ => fun
  | [d1, d2] => { results := [.lit (.bool false)], args := [d1, d2] }
  | _ => none }
def PortLoadsWrongFalsely : Prop := portLoadsRow.holds Try.pinned (OpenSpec.ofChange portLoadsWrong)

/-- 'rotalaw15.PortOwn': WHATEVER THE INPUT: true; the input reads as it did. -/
def portOwnSpec : ChangeSpec := { name := "portOwn", fn := fun _ => fun
  | [d1, d2] => { results := [.lit (.bool true)], args := [d1, d2] }
  | _ => none }
def portOwnRow : OpenClaim := { program := "ytdienpcifklinaa", sum := "25e772045f0ff3bd1ff1a9782bd857502536e23508ddacc47f45d84d01d38bf6", func := "rota/rotalaw15.PortOwn", spec := "portOwn", unfollowed := true, recurses := true, apart := false }
def PortOwnSaid : Prop := portOwnRow.holds Try.pinned (OpenSpec.ofChange portOwnSpec)

/-- ITS FALSE NEIGHBOUR: 'it returns false'. Refute it at one input. -/
def portOwnWrong : ChangeSpec := { name := "portOwn", fn := fun _ => fun
  | [d1, d2] => { results := [.lit (.bool false)], args := [d1, d2] }
  | _ => none }
def PortOwnWrongFalsely : Prop := portOwnRow.holds Try.pinned (OpenSpec.ofChange portOwnWrong)

/- THE SECOND FORM. 'bulk': how many values and letters a reading holds, each counted each time it is reached (what is shared counts as often as it is met; a slice's spare places count too). A statement '..UptoSaid' is the law's where the arguments, and the package variables that the reading takes, are together of bulk at most 1048576: NARROWER than '..Said'. Prove '..Said' where nothing that the law and all that it calls make is longer than what came in: it says more and counts as full. Else prove '..UptoSaid'. A law counts once. -/
mutual
def uptoBulk {H : Type} : DataW H → Nat
  | .lit (.string bytes) => bytes.length + 1
  | .lit _ => 1
  | .nil => 1
  | .ptr d => uptoBulk d + 1
  | .slice elems spare => uptoBulkAll elems + uptoBulkAll spare + 1
  | .agg parts => uptoBulkAll parts + 1
  | .iface _ d => uptoBulk d + 1
  | .map entries => uptoBulkEntries entries + 1
  | .held _ => 1
def uptoBulkAll {H : Type} : List (DataW H) → Nat
  | [] => 0
  | d :: r => uptoBulk d + uptoBulkAll r
def uptoBulkEntries {H : Type} : List (Lit × DataW H) → Nat
  | [] => 0
  | x :: r => uptoBulkEntry x + uptoBulkEntries r
def uptoBulkEntry {H : Type} : Lit × DataW H → Nat
  | (.string bytes, d) => bytes.length + uptoBulk d + 1
  | (_, d) => uptoBulk d + 1
 end
def uptoSmall : (H : Type) → List (DataW H) → Bool := fun _ ds => decide (uptoBulkAll ds ≤ 1048576)
def OpenSpec.upto (s : _root_.Go.ChangeSpec) : _root_.Go.OpenSpec := { _root_.Go.OpenSpec.ofChange s with cond := some uptoSmall }

/-- 'rotalaw15.PortLater', WHERE WHAT IT READS IS OF BULK AT MOST 1048576: true; the input reads as it did. -/
def portLaterUptoRow : OpenClaim := { program := "ytdienpcifklinaa", sum := "25e772045f0ff3bd1ff1a9782bd857502536e23508ddacc47f45d84d01d38bf6", func := "rota/rotalaw15.PortLater", spec := "portLater", unfollowed := true, recurses := true, apart := false, narrowed := true }
def PortLaterUptoSaid : Prop := portLaterUptoRow.holds Try.pinned (OpenSpec.upto portLaterSpec)

/-- 'rotalaw15.PortPlays', WHERE WHAT IT READS IS OF BULK AT MOST 1048576: true; the input reads as it did. -/
def portPlaysUptoRow : OpenClaim := { program := "ytdienpcifklinaa", sum := "25e772045f0ff3bd1ff1a9782bd857502536e23508ddacc47f45d84d01d38bf6", func := "rota/rotalaw15.PortPlays", spec := "portPlays", unfollowed := true, recurses := true, apart := false, narrowed := true }
def PortPlaysUptoSaid : Prop := portPlaysUptoRow.holds Try.pinned (OpenSpec.upto portPlaysSpec)

/-- 'rotalaw15.PortOneWay', WHERE WHAT IT READS IS OF BULK AT MOST 1048576: true; the input reads as it did. -/
def portOneWayUptoRow : OpenClaim := { program := "ytdienpcifklinaa", sum := "25e772045f0ff3bd1ff1a9782bd857502536e23508ddacc47f45d84d01d38bf6", func := "rota/rotalaw15.PortOneWay", spec := "portOneWay", unfollowed := true, recurses := true, apart := false, narrowed := true }
def PortOneWayUptoSaid : Prop := portOneWayUptoRow.holds Try.pinned (OpenSpec.upto portOneWaySpec)

/-- 'rotalaw15.PortKeeps', WHERE WHAT IT READS IS OF BULK AT MOST 1048576: true; the input reads as it did. -/
def portKeepsUptoRow : OpenClaim := { program := "ytdienpcifklinaa", sum := "25e772045f0ff3bd1ff1a9782bd857502536e23508ddacc47f45d84d01d38bf6", func := "rota/rotalaw15.PortKeeps", spec := "portKeeps", unfollowed := true, recurses := true, apart := false, narrowed := true }
def PortKeepsUptoSaid : Prop := portKeepsUptoRow.holds Try.pinned (OpenSpec.upto portKeepsSpec)

/-- 'rotalaw15.PortLoads', WHERE WHAT IT READS IS OF BULK AT MOST 1048576: true; the input reads as it did. -/
def portLoadsUptoRow : OpenClaim := { program := "ytdienpcifklinaa", sum := "25e772045f0ff3bd1ff1a9782bd857502536e23508ddacc47f45d84d01d38bf6", func := "rota/rotalaw15.PortLoads", spec := "portLoads", unfollowed := true, recurses := true, apart := false, narrowed := true }
def PortLoadsUptoSaid : Prop := portLoadsUptoRow.holds Try.pinned (OpenSpec.upto portLoadsSpec)

/-- 'rotalaw15.PortOwn', WHERE WHAT IT READS IS OF BULK AT MOST 1048576: true; the input reads as it did. -/
def portOwnUptoRow : OpenClaim := { program := "ytdienpcifklinaa", sum := "25e772045f0ff3bd1ff1a9782bd857502536e23508ddacc47f45d84d01d38bf6", func := "rota/rotalaw15.PortOwn", spec := "portOwn", unfollowed := true, recurses := true, apart := false, narrowed := true }
def PortOwnUptoSaid : Prop := portOwnUptoRow.holds Try.pinned (OpenSpec.upto portOwnSpec)

end Rows
end Go.Proofs.Ytdienpcifklinaa
