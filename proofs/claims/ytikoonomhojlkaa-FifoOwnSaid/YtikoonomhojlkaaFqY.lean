import Derived.Test.YtikoonomhojlkaaFqU
set_option linter.unusedSimpArgs false
set_option linter.unusedVariables false
namespace Go.Proofs.Ytikoonomhojlkaa
open Go.RowKit Go.Proofs.YtikoonomhojlkaaW.PrintWords Go.Proofs.YtikoonomhojlkaaW.PrintMore Go.Proofs.YtikoonomhojlkaaW.PrintLast
/-! does. -/
end Go.Proofs.Ytikoonomhojlkaa
set_option linter.unusedSimpArgs false
set_option linter.unusedVariables false
namespace Go.Proofs.Ytikoonomhojlkaa
open Go.RowKit Go.Proofs.YtikoonomhojlkaaW.PrintWords Go.Proofs.YtikoonomhojlkaaW.PrintMore Go.Proofs.YtikoonomhojlkaaW.PrintLast
/-! does: Take, Drop. -/
end Go.Proofs.Ytikoonomhojlkaa
set_option linter.unusedSimpArgs false
set_option linter.unusedVariables false
namespace Go.Proofs.Ytikoonomhojlkaa
open Go.RowKit Go.Proofs.YtikoonomhojlkaaW.PrintWords Go.Proofs.YtikoonomhojlkaaW.PrintMore Go.Proofs.YtikoonomhojlkaaW.PrintLast
/-! does: Drop. -/
end Go.Proofs.Ytikoonomhojlkaa
set_option linter.unusedSimpArgs false
set_option linter.unusedVariables false
namespace Go.Proofs.Ytikoonomhojlkaa
open Go.RowKit Go.Proofs.YtikoonomhojlkaaW.PrintWords Go.Proofs.YtikoonomhojlkaaW.PrintMore Go.Proofs.YtikoonomhojlkaaW.PrintLast
/-! does: Batch; does. -/
theorem batchL_good {l : List Wt} (procs room : Int) (h : GoodQ l) : GoodQ (batchL l procs room).1 ∧ (batchL l procs room).2.1.length ≤ 4096 := by
  unfold batchL
  split
  · exact ⟨h, by simp⟩
  · have hs := List.drop_sublist (batchN l.length procs room).toNat l
    exact ⟨⟨rises_pw.2 ((rises_pw.1 h.rises).sublist hs), Nat.le_trans hs.length_le h.len, h.apart.sublist (hs.map _)⟩, by have := h.len; simp only [List.length_take]; omega⟩
end Go.Proofs.Ytikoonomhojlkaa
