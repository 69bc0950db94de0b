import Derived.Test.YtikoonomhojlkaaFqU
set_option linter.unusedSimpArgs false
set_option linter.unusedVariables false
namespace Go.Proofs.Ytikoonomhojlkaa
open Go.RowKit Go.Proofs.YtikoonomhojlkaaW.PrintWords Go.Proofs.YtikoonomhojlkaaW.PrintMore Go.Proofs.YtikoonomhojlkaaW.PrintLast
/-! does. -/
end Go.Proofs.Ytikoonomhojlkaa
set_option linter.unusedSimpArgs false
set_option linter.unusedVariables false
namespace Go.Proofs.Ytikoonomhojlkaa
open Go.RowKit Go.Proofs.YtikoonomhojlkaaW.PrintWords Go.Proofs.YtikoonomhojlkaaW.PrintMore Go.Proofs.YtikoonomhojlkaaW.PrintLast
/-! does: Take, Drop. -/
theorem dropL_good {l : List Wt} (g0 g1 : Int) (h : GoodQ l) : GoodQ (dropL l g0 g1).1 := by
  unfold dropL
  split
  · exact h
  · rename_i i _
    have hs : (l.take i ++ l.drop (i + 1)).Sublist l := by rw [← List.eraseIdx_eq_take_drop_succ]; exact List.eraseIdx_sublist _ _
    exact ⟨rises_pw.2 ((rises_pw.1 h.rises).sublist hs), Nat.le_trans hs.length_le h.len, h.apart.sublist (hs.map _)⟩
theorem que_drop {w wr : World} {b : Nat} {l : List Wt} {ok : Nat → Prop} {v : Value} (g0 g1 : Int) (h : Que w b l ok v wr) : Calls Try.prog 22 #[.pointer (some ⟨b, 0, none⟩), .agg #[.int .i64 g0, .int .i64 g1]] wr fun e w' => e = .returned (.tuple #[.agg #[.int .i64 (dropL l g0 g1).2.1.f0.f0, .int .i64 (dropL l g0 g1).2.1.f0.f1, .int .u64 (dropL l g0 g1).2.1.f1], .int .i64 (dropL l g0 g1).2.2]) ∧ (∃ v', Que w b (dropL l g0 g1).1 (Ex ok wr w') v' w') ∧ Keep ok wr w' :=
  (drop_any g0 g1 h.q h.g.len).mono fun e w' ⟨he, ⟨v', hq⟩, hk⟩ => ⟨he, ⟨v', h.step hq hk (dropL_good g0 g1 h.g)⟩, hk⟩
end Go.Proofs.Ytikoonomhojlkaa
set_option linter.unusedSimpArgs false
set_option linter.unusedVariables false
namespace Go.Proofs.Ytikoonomhojlkaa
open Go.RowKit Go.Proofs.YtikoonomhojlkaaW.PrintWords Go.Proofs.YtikoonomhojlkaaW.PrintMore Go.Proofs.YtikoonomhojlkaaW.PrintLast
/-! does: Drop. -/
end Go.Proofs.Ytikoonomhojlkaa
set_option linter.unusedSimpArgs false
set_option linter.unusedVariables false
namespace Go.Proofs.Ytikoonomhojlkaa
open Go.RowKit Go.Proofs.YtikoonomhojlkaaW.PrintWords Go.Proofs.YtikoonomhojlkaaW.PrintMore Go.Proofs.YtikoonomhojlkaaW.PrintLast
/-! does: Batch; does. -/
theorem batchL_good {l : List Wt} (procs room : Int) (h : GoodQ l) : GoodQ (batchL l procs room).1 ∧ (batchL l procs room).2.1.length ≤ 4096 := by
  unfold batchL
  split
  · exact ⟨h, by simp⟩
  · have hs := List.drop_sublist (batchN l.length procs room).toNat l
    exact ⟨⟨rises_pw.2 ((rises_pw.1 h.rises).sublist hs), Nat.le_trans hs.length_le h.len, h.apart.sublist (hs.map _)⟩, by have := h.len; simp only [List.length_take]; omega⟩
end Go.Proofs.Ytikoonomhojlkaa
