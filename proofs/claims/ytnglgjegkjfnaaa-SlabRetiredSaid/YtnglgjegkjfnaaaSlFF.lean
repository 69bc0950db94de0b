import Derived.Test.YtnglgjegkjfnaaaSlAC
set_option linter.unusedSimpArgs false
set_option linter.unusedVariables false
namespace Go.Proofs.Ytnglgjegkjfnaaa
open Go.RowKit Go.ChangeShapes Go.WideShapes Go.ChangeAt Go.Proofs.YtnglgjegkjfnaaaW.PrintWords Go.Proofs.YtnglgjegkjfnaaaW.PrintMore
/-! The document's New. -/
/-- Behind k rounds: the answer in R, the state in S. -/
structure NrW (w wr : World) (R S : Nat) (limit : Int) (k : Nat) (v : Value) : Prop where
  below : Below w.heap.size w wr
  r : wr.heap[R]? = some (.cells #[.int .i64 0, .slice none 0 0, .slice none 0 0, .slice none 0 0, .slice none 0 0] 30 (0, 0))
  s : wr.heap[S]? = some (.cells #[.int .i64 limit, .slice none 0 0, .slice none 0 0, v, .slice none 0 0] 30 (0, 0))
  row : Row wr w.heap.size (fun _ => True) 26 v (List.replicate k (.slice none 0 0))
  rw0 : w.heap.size ≤ R
  sw : w.heap.size ≤ S
  ne : R ≠ S
theorem set1_below {w W : World} {g i : Nat} {v : Value} (h : Below w.heap.size w W) (hg : w.heap.size ≤ g) : Below w.heap.size w (W.setCell ⟨g, i, none⟩ v) :=
  below_then_keep h h.size (show Keep (fun k => k = g) W _ from (by repeat (first | (with_reducible exact Keep.refl _ _) | (with_reducible refine Keep.drewN ?_ _) | (with_reducible refine Keep.drew ?_) | (with_reducible refine Keep.setCell ?_ _ _ (by first | (right; with_reducible rfl) | (left; simp; done) | (left; simp; omega) | (right; simp; done) | (right; assumption))) | (with_reducible refine Keep.alloc ?_ _)))) (fun k e => by subst e; exact hg)
theorem NrW.step {w wr w5 : World} {R S k : Nat} {limit : Int} {v v5 : Value} (h : NrW w wr R S limit k v) (hg : (wr.alloc (.cells #[.slice none 0 0] 26)).grownBy w5 v.ownBlock) (hr : Row w5 w.heap.size (fun k => True ∨ (wr.alloc (.cells #[.slice none 0 0] 26)).heap.size ≤ k) 26 v5 (List.replicate k (.slice none 0 0) ++ [.slice none 0 0])) : NrW w (w5.setCell ⟨S, 3, none⟩ v5) R S limit (k + 1) v5 := by
  have hA : Below wr.heap.size wr (wr.alloc (.cells #[.slice none 0 0] 26)) := below_al (Below.refl _ _) _
  have hk5 := grown_keep (ok := fun k => v.ownBlock = some k) hg (fun _ h => h)
  have hnR : ¬ v.ownBlock = some R := fun e => row_type_blk h.row e h.r (by decide)
  have hnS : ¬ v.ownBlock = some S := fun e => row_type_blk h.row e h.s (by decide)
  have hR5 := blk_keep (blk_below h.r hA) hk5 hnR
  have hS5 := blk_keep (blk_below h.s hA) hk5 hnS
  have hK : Keep (fun i => i = S) w5 (w5.setCell ⟨S, 3, none⟩ v5) := (by repeat (first | (with_reducible exact Keep.refl _ _) | (with_reducible refine Keep.drewN ?_ _) | (with_reducible refine Keep.drew ?_) | (with_reducible refine Keep.setCell ?_ _ _ (by first | (right; with_reducible rfl) | (left; simp; done) | (left; simp; omega) | (right; simp; done) | (right; assumption))) | (with_reducible refine Keep.alloc ?_ _)))
  have hB5 : Below w.heap.size w w5 := below_then_keep (below_then h.below hA) (below_then h.below hA).size hk5 (fun i hi => h.row.base_le i hi)
  refine ⟨set1_below hB5 h.sw, blk_keep hR5 hK h.ne, ?_, ?_, h.rw0, h.sw, h.ne⟩
  · have := blk_set (i := 3) (u := v5) hS5
    simpa using this
  · have h2 := row_keepT hr hS5 (by decide) hK
    rw [← List.replicate_succ'] at h2
    exact h2.mono (fun _ _ _ => trivial)
end Go.Proofs.Ytnglgjegkjfnaaa
