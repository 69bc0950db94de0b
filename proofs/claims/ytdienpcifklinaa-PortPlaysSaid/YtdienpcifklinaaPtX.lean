import Derived.Test.YtdienpcifklinaaPtX0
import Derived.Test.YtdienpcifklinaaPtX1
import Derived.Test.YtdienpcifklinaaPtX2
import Derived.Test.YtdienpcifklinaaPtX3
set_option linter.unusedSimpArgs false
set_option linter.unusedVariables false
namespace Go.Proofs.Ytdienpcifklinaa
open Go.RowKit Go.Proofs.YtdienpcifklinaaW.PrintWords Go.Proofs.YtdienpcifklinaaW.PrintMore Go.Proofs.YtdienpcifklinaaW.PrintLast PPortOwn
/-! does: printed by gen15g.py. -/
theorem does_any {w0 w : World} {b : Nat} {s : Pt} {vO vI : Value} {ok P : Nat → Prop} (a : Int × Int) (h : DW w0 b s s vO vI ok P w) : Calls Try.prog 16 #[.pointer (some ⟨b, 0, none⟩), .agg #[.bool s.q, .int .i64 s.cap, vO, vI, .int .i64 s.lost], .agg #[.int .i64 a.1, .int .i64 a.2]] w (DoesP w0 w b ok P (doP s a)) := by
  obtain ⟨d, v⟩ := a
  unfold doP
  simp only
  rcases (show d = 0 ∨ d = 1 ∨ d = 2 ∨ (d ≠ 0 ∧ d ≠ 1 ∧ d ≠ 2) by omega) with rfl | rfl | rfl | ⟨hd, hd', hd''⟩
  · exact does_put v h
  · exact does_get v h
  · exact does_deliver v h
  · rw [if_neg hd, if_neg hd', if_neg hd'']
    exact does_state v d hd hd' hd'' h
end Go.Proofs.Ytdienpcifklinaa
