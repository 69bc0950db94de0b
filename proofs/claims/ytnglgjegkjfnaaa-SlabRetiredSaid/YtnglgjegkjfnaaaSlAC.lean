import Derived.Test.YtnglgjegkjfnaaaSlBB
set_option linter.unusedSimpArgs false
set_option linter.unusedVariables false
namespace Go.Proofs.Ytnglgjegkjfnaaa
open Go.RowKit Go.ChangeShapes Go.WideShapes Go.ChangeAt Go.Proofs.YtnglgjegkjfnaaaW.PrintWords Go.Proofs.YtnglgjegkjfnaaaW.PrintMore Go.Proofs.YtnglgjegkjfnaaaW.PrintLast
/-! A script, read. -/
/-- Is one of the first m of the book g? -/
def anyTo (book : List (Int × Int)) (g : Int × Int) : Nat → Bool
  | 0 => false
  | m + 1 => anyTo book g m || (book.getD m (0, 0) == g)
/-- The slab and the book behind names, for the laws. -/
structure After (w wr : World) (base b : Nat) (col : Nat → Nat) (L P : Int) (k : Nat) (s : Sl) (vh va : Value) (had book : List (Int × Int)) : Prop where
  below : Below w.heap.size w wr
  sl : IsSlab TS wr base b col s
  h : kG.R 48 wr base (fun i => col i = 0) vh had
  a : kG.R 48 wr base (fun i => col i = 0) va book
  i : NmI k L P s had book
  cb : ∀ i, col i ≠ 0 → w.heap.size ≤ i
  bs : base ≤ wr.heap.size
theorem After.then {w wr w' : World} {base b k : Nat} {col : Nat → Nat} {L P : Int} {s : Sl} {vh va : Value} {had book : List (Int × Int)} (h : After w wr base b col L P k s vh va had book) (hB : Below wr.heap.size wr w') : After w w' base b col L P k s vh va had book :=
  ⟨below_then h.below hB, h.sl.below hB, Kd.R_below h.h hB, Kd.R_below h.a hB, h.i, h.cb, by have := h.bs; have := hB.size; omega⟩
end Go.Proofs.Ytnglgjegkjfnaaa
