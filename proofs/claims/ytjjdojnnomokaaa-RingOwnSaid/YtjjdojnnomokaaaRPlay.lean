import Derived.Test.YtjjdojnnomokaaaRAwake
set_option linter.unusedSimpArgs false
set_option linter.unusedVariables false
namespace Go.Proofs.Ytjjdojnnomokaaa
open Go.RowKit
/-! What is in the rings, behind any calls: nothing is lost, turns rise. -/
def Rise (l : List Wt) : Prop := l.Pairwise (fun a b => a.t < b.t)
theorem lastP_concat (l : List Wt) (z : Wt) : lastP (l ++ [z]) = (z.t, true) := by
  rw [lastP, List.getLast?_append]; rfl
theorem concat_or (l : List Wt) : l = [] ∨ ∃ l' z, l = l' ++ [z] := by
  cases h : l.getLast? with
  | none => exact .inl (List.getLast?_eq_none_iff.1 h)
  | some z =>
    obtain ⟨l', hl⟩ := List.getLast?_eq_some_iff.1 h
    exact .inr ⟨l', z, hl⟩
/-! The ring's calls. -/
theorem lenR_nonneg (r : Rg) : 0 ≤ lenR r := by unfold lenR; split <;> omega
end Go.Proofs.Ytjjdojnnomokaaa
