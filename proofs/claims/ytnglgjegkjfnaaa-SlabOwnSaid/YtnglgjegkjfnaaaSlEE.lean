import Derived.Test.YtnglgjegkjfnaaaSlAC
import Derived.Deep.CondSized
import Derived.Deep.DrawnRows
/- SlabLast: behind any calls as many names as the limit are alive at once, whichever Ps take them; the next one is refused; one that is given back by any P is had by any other. Condition (Upto): at most 1048576 items in all. -/
set_option linter.unusedSimpArgs false
set_option linter.unusedVariables false
namespace Go.Proofs.Ytnglgjegkjfnaaa
open Go.RowKit Go.ChangeShapes Go.WideShapes Go.ChangeAt Go.Proofs.YtnglgjegkjfnaaaW.PrintWords Go.Proofs.YtnglgjegkjfnaaaW.PrintMore Go.Proofs.YtnglgjegkjfnaaaW.PrintLast
attribute [local go_sem high] eqG
/-- The script's numbers, fitted, in block X; the slab in b. -/
structure LsW (w wr : World) (base b X : Nat) (col : Nat → Nat) (s : Sl) (L P : Int) (v : Value) : Prop where
  below : Below w.heap.size w wr
  sl : IsSlab TS wr base b col s
  x : wr.heap[X]? = some (.cells #[.int .i64 L, .int .i64 P, v] 37 (0, 0))
  xw : w.heap.size ≤ X
  x0 : col X = 0
  cb : ∀ i, col i ≠ 0 → w.heap.size ≤ i
  bs : base ≤ wr.heap.size
/-- And the last name had, in block Y; behind q of the statement's own Takes. -/
structure LsI (w wr : World) (base b X Y : Nat) (col : Nat → Nat) (s : Sl) (L P : Int) (v : Value) (k q : Nat) (u0 u1 : Int) : Prop where
  l : LsW w wr base b X col s L P v
  y : wr.heap[Y]? = some (.cells #[.int .i64 u0, .int .i64 u1] 48 (0, 0))
  y0 : col Y = 0
  yw : w.heap.size ≤ Y
  wf : Wf s
  lim : s.limit = L
  cl : (s.caches.length : Int) = P
  gn : ∀ i, genAt s i ≤ k
  lv : q ≤ liveS s
  ls : aliveS s u0 u1 = true ∨ (u0 = 0 ∧ u1 = 0)
/-- What a Take among them answers. -/
def LtP (w : World) (base b X Y : Nat) (L P : Int) (v : Value) (k q : Nat) (u0 u1 : Int) (e : Ending) (w' : World) : Prop :=
  (∃ s col, e = .returned (.tuple #[.agg #[.int .i64 0, .int .i64 0], .int .i64 2]) ∧ LsI w w' base b X Y col s L P v k q u0 u1 ∧ liveS s = s.gens.length ∧ (s.gens.length : Int) = L) ∨
  (∃ s col x g, e = .returned (.tuple #[.agg #[.int .i64 x, .int .i64 g], .int .i64 0]) ∧ LsI w w' base b X Y col s L P v (k + 1) (q + 1) u0 u1 ∧ aliveS s x g = true)

end Go.Proofs.Ytnglgjegkjfnaaa
/- SlabFlushes: behind Flush of every P all caches are empty, and as many slots are free as lay in caches and in the free list. Condition (Upto): at most 1048576 items in all. -/
set_option linter.unusedSimpArgs false
set_option linter.unusedVariables false
namespace Go.Proofs.Ytnglgjegkjfnaaa
open Go.RowKit Go.ChangeShapes Go.WideShapes Go.ChangeAt Go.Proofs.YtnglgjegkjfnaaaW.PrintWords Go.Proofs.YtnglgjegkjfnaaaW.PrintMore Go.Proofs.YtnglgjegkjfnaaaW.PrintLast
attribute [local go_sem high] eqG
/-- The slab that is being flushed; the state that was told before, in block B. -/
structure FlW (w wr : World) (base b X B : Nat) (col : Nat → Nat) (s1 : Sl) (L P : Int) (v : Value) (base2 : Nat) (colw : Nat → Nat) (s0 : Sl) (vG vA vC vF : Value) (vs : List Value) : Prop where
  l : LsW w wr base b X col s1 L P v
  r : SlV wr base2 colw s0 vG vA vC vF vs
  blk : wr.heap[B]? = some (.cells #[.int .i64 L, vG, vA, vC, vF] 30 (0, 0))
  c0 : col B = 0
  d : ∀ k, colw k ≠ 0 → col k = 0
section
variable {w wr w' : World} {base b X B base2 : Nat} {col col' colw : Nat → Nat} {s0 s1 s' : Sl} {L P : Int} {v vG vA vC vF : Value} {vs : List Value}
end
/-- Behind Flush of the first p Ps. -/
structure FlI (p : Nat) (L P : Int) (s0 s1 : Sl) : Prop where
  wf : Wf s1
  lim : s1.limit = L
  cl : (s1.caches.length : Int) = P
  z : ∀ i, i < p → s1.caches.getD i [] = []
  c : ∀ i, p ≤ i → s1.caches.getD i [] = s0.caches.getD i []

end Go.Proofs.Ytnglgjegkjfnaaa
