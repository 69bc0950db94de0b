import Derived.Test.YtnglgjegkjfnaaaSlG
import Derived.Deep.DrawnRows
set_option linter.unusedSimpArgs false
set_option linter.unusedVariables false
namespace Go.Proofs.Ytnglgjegkjfnaaa
open Go.RowKit Go.Proofs.YtnglgjegkjfnaaaW.PrintWords Go.Proofs.YtnglgjegkjfnaaaW.PrintMore Go.Proofs.YtnglgjegkjfnaaaW.PrintLast
/-! State: printed by gen04a.py. -/
/-- Behind k caches. -/
def StI (W : World) (base b : Nat) (col : Nat → Nat) (s : Sl) (vG vA vC vF : Value) (vs : List Value) (B : Nat) (uG uA uF : Value) (k : Nat) (wr : World) : Prop := ∃ vC' vs' col', Below W.heap.size W wr ∧ SlB TS wr base b col s vG vA vC vF vs ∧ SlB TT wr W.heap.size B col' ⟨s.limit, s.gens, s.alive, s.caches.take k, s.free⟩ uG uA vC' uF vs' ∧ ∀ k, k < W.heap.size → col' k = 0
end Go.Proofs.Ytnglgjegkjfnaaa
