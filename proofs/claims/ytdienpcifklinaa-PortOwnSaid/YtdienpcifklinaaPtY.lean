import Derived.Test.YtdienpcifklinaaPtX
import Derived.Test.YtdienpcifklinaaPtF
set_option linter.unusedSimpArgs false
set_option linter.unusedVariables false
namespace Go.Proofs.Ytdienpcifklinaa
open Go.RowKit Go.Proofs.YtdienpcifklinaaW.PrintWords Go.Proofs.YtdienpcifklinaaW.PrintMore Go.Proofs.YtdienpcifklinaaW.PrintLast PPortOwn
/-! The port, and the state in a block; the round of the scripts: printed by gen15g.py. -/
structure PL (w0 : World) (b L : Nat) (s : Pt) (vO vI : Value) (ok P : Nat → Prop) (wr : World) : Prop where
  d : DW w0 b s s vO vI ok P wr
  blk : wr.heap[L]? = some (.cells #[.bool s.q, .int .i64 s.cap, vO, vI, .int .i64 s.lost] TZ (0, 0))
  lo : w0.heap.size ≤ L
  nok : ¬ ok L
  nP : ¬ P L
def Plays (w0 : World) (b L : Nat) (s : Pt) (wr : World) : Prop := ∃ ok P vO vI, PL w0 b L s vO vI ok P wr
section
variable {w0 wr w' : World} {b L : Nat} {s t : Pt} {vO vI vO' vI' : Value} {ok P ok' P' : Nat → Prop}
theorem PL.then (h : PL w0 b L s vO vI ok P wr) (hB : Below wr.heap.size wr w') : PL w0 b L s vO vI ok P w' := ⟨h.d.then hB, blk_below h.blk hB, h.lo, h.nok, h.nP⟩
theorem Plays.then (h : Plays w0 b L s wr) (hB : Below wr.heap.size wr w') : Plays w0 b L s w' := by
  obtain ⟨ok, P, vO, vI, h⟩ := h
  exact ⟨ok, P, vO, vI, h.then hB⟩
theorem Plays.below (h : Plays w0 b L s wr) : Below w0.heap.size w0 wr := by
  obtain ⟨ok, P, vO, vI, h⟩ := h
  exact h.d.below
theorem PL.cut (h : PL w0 b L s vO vI ok P wr) : ∃ AO cO AI cI, vO = .slice AO s.out.length cO ∧ vI = .slice AI s.inn.length cI := by
  obtain ⟨A, c, B, d, e1, e2, -⟩ := stt_reads h.d.st
  exact ⟨A, c, B, d, e1, e2⟩
theorem PL.store (h : PL w0 b L s vO vI ok P wr) (hD : DW w0 b t t vO' vI' ok' P' w') (h1 : ∀ k, ok' k → ok k ∨ wr.heap.size ≤ k) (h2 : ∀ k, P' k → P k ∨ wr.heap.size ≤ k) (hk : Keep (fun k => ok k ∨ P k) wr w') :
    PL w0 b L t vO' vI' ok' P' (((((w'.setCell ⟨L, 0, none⟩ (.bool t.q)).setCell ⟨L, 1, none⟩ (.int .i64 t.cap)).setCell ⟨L, 2, none⟩ vO').setCell ⟨L, 3, none⟩ vI').setCell ⟨L, 4, none⟩ (.int .i64 t.lost)) := by
  have hl := lt_blk h.blk
  have n1 : ¬ ok' L := fun h' => (h1 L h').elim h.nok (fun h => by omega)
  have n2 : ¬ P' L := fun h' => (h2 L h').elim h.nP (fun h => by omega)
  exact ⟨hD.set5 h.lo n1 n2, blk_set5 (blk_keep h.blk hk (fun h' => h'.elim h.nok h.nP)), h.lo, n1, n2⟩
end
/-- Two blocks of old worlds are new ones now. -/
theorem plays_new {w w1 w2 w3 : World} {b : Nat} {s : Pt} {ok : Nat → Prop} {vO vI : Value} (h1 : Below w.heap.size w w1) (hP : IsPort w1 w.heap.size ok b s) (hS : Stt w2 w1.heap.size (fun _ => True) s vO vI) (hB : Below w1.heap.size w1 w2) (hB3 : Below w2.heap.size w2 w3) {L : Nat} (hL : w2.heap.size ≤ L) (hblk : w3.heap[L]? = some (.cells #[.bool s.q, .int .i64 s.cap, vO, vI, .int .i64 s.lost] TZ (0, 0))) : Plays w b L s w3 := by
  have hz := hB.size
  have hz1 := h1.size
  have hz3 := hB3.size
  refine ⟨ok, fun k => w1.heap.size ≤ k ∧ k < w2.heap.size, vO, vI, ⟨below_then (below_then h1 hB) hB3, (hP.below hB).below hB3, Stt.below ⟨?_, ?_⟩ hB3, fun k hk => ⟨by omega, by omega, fun h => by have := (hP.z k h).2; omega⟩⟩, hblk, by omega, fun h => by have := (hP.z L h).2; omega, fun h => by omega⟩
  · exact Kd.R_mono (Kd.R_lower (Kd.R_mono (Kd.R_bound hS.o) (fun k ho => (⟨ho.2.1, ho.2.2.1⟩ : w1.heap.size ≤ k ∧ k < w2.heap.size))) hz1) (fun _ h => h)
  · exact Kd.R_mono (Kd.R_lower (Kd.R_mono (Kd.R_bound hS.i) (fun k ho => (⟨ho.2.1, ho.2.2.1⟩ : w1.heap.size ≤ k ∧ k < w2.heap.size))) hz1) (fun _ h => h)
end Go.Proofs.Ytdienpcifklinaa
