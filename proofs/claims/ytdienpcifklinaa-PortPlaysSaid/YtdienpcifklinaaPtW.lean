import Derived.Test.YtdienpcifklinaaPtU
import Derived.Test.YtdienpcifklinaaPtT
import Derived.Test.YtdienpcifklinaaPtV
set_option linter.unusedSimpArgs false
set_option linter.unusedVariables false
namespace Go.Proofs.Ytdienpcifklinaa
open Go.RowKit Go.Proofs.YtdienpcifklinaaW.PrintWords Go.Proofs.YtdienpcifklinaaW.PrintMore Go.Proofs.YtdienpcifklinaaW.PrintLast PPortOwn
/-! The document and the port, act by act: printed by gen15g.py. -/
theorem put_any {w : World} {base : Nat} {P : Nat → Prop} {s : Pt} {vO vI : Value} (v : Int) (h : Stt w base P s vO vI) (hg : Good s) (hbw : base ≤ w.heap.size) : Calls Try.prog 24 #[.agg #[.bool s.q, .int .i64 s.cap, vO, vI, .int .i64 s.lost], .int .i64 v] w fun e w' => ∃ vO' vI', e = .returned (.tuple #[.agg #[.bool (putP s v).1.q, .int .i64 (putP s v).1.cap, vO', vI', .int .i64 (putP s v).1.lost], .bool (putP s v).2]) ∧ Stt w' base (Ex P w w') (putP s v).1 vO' vI' ∧ Below w.heap.size w w' := by
  by_cases hq : s.q = true
  · by_cases he : (s.out.length : Int) = s.cap
    · exact put_full v h hg hbw hq he
    · exact put_q v h hg hbw hq he
  · exact put_s v h hg hbw (by simpa using hq)
def doP (s : Pt) (a : Int × Int) : Pt := if a.1 = 0 then (putP s a.2).1 else if a.1 = 1 then (getP s).1 else if a.1 = 2 then delivP s else s
def DoesP (w0 w : World) (b : Nat) (ok P : Nat → Prop) (t : Pt) (e : Ending) (w' : World) : Prop := ∃ vO vI ok' P', e = .returned (.tuple #[.agg #[.bool t.q, .int .i64 t.cap, vO, vI, .int .i64 t.lost], .bool true]) ∧ DW w0 b t t vO vI ok' P' w' ∧ (∀ k, ok' k → ok k ∨ w.heap.size ≤ k) ∧ (∀ k, P' k → P k ∨ w.heap.size ≤ k) ∧ Keep (fun k => ok k ∨ P k) w w'
theorem Stt.drew {w : World} {base : Nat} {P : Nat → Prop} {s : Pt} {vO vI : Value} (h : Stt w base P s vO vI) : Stt w.drew base P s vO vI := h.below (Below.refl _ _).drew
/-- Five cells of a far block are written. -/
theorem DW.set5 {w0 wr : World} {b L : Nat} {s t : Pt} {vO vI u0 u1 u2 u3 u4 : Value} {ok P : Nat → Prop} (h : DW w0 b s t vO vI ok P wr) (h0 : w0.heap.size ≤ L) (h1 : ¬ ok L) (h2 : ¬ P L) : DW w0 b s t vO vI ok P (((((wr.setCell ⟨L, 0, none⟩ u0).setCell ⟨L, 1, none⟩ u1).setCell ⟨L, 2, none⟩ u2).setCell ⟨L, 3, none⟩ u3).setCell ⟨L, 4, none⟩ u4) :=
  h.far (set5_keep _ _ _ _ _ _ _) (fun k hk => by subst hk; exact ⟨h0, h1, h2⟩)
end Go.Proofs.Ytdienpcifklinaa
