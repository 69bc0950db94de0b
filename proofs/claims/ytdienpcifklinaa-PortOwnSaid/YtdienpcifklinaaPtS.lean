import Derived.Test.YtdienpcifklinaaPtP
set_option linter.unusedSimpArgs false
set_option linter.unusedVariables false
namespace Go.Proofs.Ytdienpcifklinaa
open Go.RowKit Go.Proofs.YtdienpcifklinaaW.PrintWords Go.Proofs.YtdienpcifklinaaW.PrintMore Go.Proofs.YtdienpcifklinaaW.PrintLast PPortOwn
/-! The document's state in memory; its Put; does: printed by gen15f.py. -/
structure Stt (w : World) (base : Nat) (P : Nat → Prop) (s : Pt) (vO vI : Value) : Prop where
  o : Kd.R (Kd.int .i64) TI w base P vO s.out
  i : Kd.R kA TA w base P vI s.inn
section
variable {w w1 w' : World} {base : Nat} {P Q F : Nat → Prop} {s : Pt} {vO vI : Value}
theorem Stt.below (h : Stt w base P s vO vI) (hB : Below w.heap.size w w') : Stt w' base P s vO vI := ⟨Kd.R_below h.o hB, Kd.R_below h.i hB⟩
theorem Stt.mono (h : Stt w base P s vO vI) (hP : ∀ k, P k → Q k) : Stt w base Q s vO vI := ⟨Kd.R_mono h.o hP, Kd.R_mono h.i hP⟩
theorem Stt.step (h : Stt w base P s vO vI) (hk : Keep F w w') (hF : ∀ k, F k → ¬ P k) : Stt w' base P s vO vI := ⟨Kd.R_step h.o (fun k ho hl => hk.block k hl (fun f => hF k f ho)), Kd.R_step h.i (fun k ho hl => hk.block k hl (fun f => hF k f ho))⟩
theorem Stt.new {n : Nat} (h : Stt w' n (fun _ => True) s vO vI) (hn : w.heap.size ≤ n) (hb : base ≤ n) : Stt w' base (Ex P w w') s vO vI :=
  ⟨Kd.R_mono (Kd.R_lower (Kd.R_mono (Kd.R_bound h.o) (fun k ho => (.inr ⟨Nat.le_trans hn ho.2.1, ho.2.2.1⟩ : Ex P w w' k))) hb) (fun _ h => h),
   Kd.R_mono (Kd.R_lower (Kd.R_mono (Kd.R_bound h.i) (fun k ho => (.inr ⟨Nat.le_trans hn ho.2.1, ho.2.2.1⟩ : Ex P w w' k))) hb) (fun _ h => h)⟩
end
/-- The port (s), the document's state (t), and nothing shared. -/
structure DW (w0 : World) (b : Nat) (s t : Pt) (vO vI : Value) (ok P : Nat → Prop) (wr : World) : Prop where
  below : Below w0.heap.size w0 wr
  port : IsPort wr w0.heap.size ok b s
  st : Stt wr w0.heap.size P t vO vI
  zp : ∀ k, P k → w0.heap.size ≤ k ∧ k < wr.heap.size ∧ ¬ ok k
section
variable {w0 wr w' : World} {b : Nat} {s s' t t' : Pt} {vO vI vO' vI' : Value} {ok P F : Nat → Prop}
theorem DW.then (h : DW w0 b s t vO vI ok P wr) (hB : Below wr.heap.size wr w') : DW w0 b s t vO vI ok P w' :=
  ⟨below_then h.below hB, h.port.below hB, h.st.below hB, fun k hk => by obtain ⟨a, c, d⟩ := h.zp k hk; exact ⟨a, Nat.lt_of_lt_of_le c hB.size, d⟩⟩
/-- Blocks that are neither's are written. -/
theorem DW.far (h : DW w0 b s t vO vI ok P wr) (hk : Keep F wr w') (hF : ∀ k, F k → w0.heap.size ≤ k ∧ ¬ ok k ∧ ¬ P k) : DW w0 b s t vO vI ok P w' :=
  ⟨below_then_keep h.below h.below.size hk (fun i hi => (hF i hi).1), h.port.keep hk (fun k f => (hF k f).2.1), h.st.step hk (fun k f => (hF k f).2.2), fun k hk' => by obtain ⟨a, c, d⟩ := h.zp k hk'; exact ⟨a, Nat.lt_of_lt_of_le c hk.size, d⟩⟩
theorem DW.portStep (h : DW w0 b s t vO vI ok P wr) (hP : IsPort w' w0.heap.size (Ex ok wr w') b s') (hk : Keep ok wr w') : DW w0 b s' t vO vI (Ex ok wr w') P w' :=
  ⟨below_then_keep h.below h.below.size hk (fun i hi => (h.port.z i hi).1), hP, h.st.step hk (fun k f hp => (h.zp k hp).2.2 f), fun k hk' => by obtain ⟨a, c, d⟩ := h.zp k hk'; exact ⟨a, Nat.lt_of_lt_of_le c hk.size, fun hE => hE.elim d (fun hE => by omega)⟩⟩
theorem DW.stStep (h : DW w0 b s t vO vI ok P wr) (hS : Stt w' w0.heap.size (Ex P wr w') t' vO' vI') (hk : Keep P wr w') : DW w0 b s t' vO' vI' ok (Ex P wr w') w' :=
  ⟨below_then_keep h.below h.below.size hk (fun i hi => (h.zp i hi).1), h.port.keep hk (fun k hp ho => (h.zp k hp).2.2 ho), hS, fun k hk' => by
    have hs := hk.size
    have hw := h.below.size
    rcases hk' with hk' | hk'
    · obtain ⟨a, c, d⟩ := h.zp k hk'; exact ⟨a, Nat.lt_of_lt_of_le c hs, d⟩
    · exact ⟨by omega, hk'.2, fun ho => by have := (h.port.z k ho).2; omega⟩⟩
end
theorem stt_reads {w : World} {base : Nat} {P : Nat → Prop} {s : Pt} {vO vI : Value} (h : Stt w base P s vO vI) : ∃ A c B d, vO = .slice A s.out.length c ∧ vI = .slice B s.inn.length d ∧ s.out.length ≤ c ∧ s.inn.length ≤ d ∧ (Kd.int .i64).C w A s.out.length s.out ∧ kA.C w B s.inn.length s.inn := by
  obtain ⟨A, c, h1, h2, h3⟩ := Kd.R_reads h.o
  obtain ⟨B, d, h4, h5, h6⟩ := Kd.R_reads h.i
  exact ⟨A, c, B, d, h1, h4, h2, h5, h3, h6⟩
theorem copy_any {w : World} {base : Nat} {P : Nat → Prop} {s : Pt} {vO vI : Value} (h : Stt w base P s vO vI) (hg : Good s) : Calls Try.prog 20 #[.agg #[.bool s.q, .int .i64 s.cap, vO, vI, .int .i64 s.lost]] w fun e w' => ∃ vO' vI', e = .returned (.agg #[.bool s.q, .int .i64 s.cap, vO', vI', .int .i64 s.lost]) ∧ Stt w' w.heap.size (fun _ => True) s vO' vI' ∧ Below w.heap.size w w' := by
  obtain ⟨A, c, B, d, rfl, rfl, hc, hd, h1, h2⟩ := stt_reads h
  have := hg.c1
  have := hg.o
  have := hg.i
  exact (rotaref15_Copy.calls _ s.q s.cap A c s.out B d s.inn s.lost _ _ _ _ _ w h1 hc h2 hd (copy_ok s.q s.cap s.out s.inn s.lost (by omega) (by omega) _ (Nat.lt_succ_self _))).mono fun e w' ⟨v1, v2, he, hr1, hr2, hB⟩ => ⟨v1, v2, he, ⟨hr1, hr2⟩, hB⟩
theorem get_any {w0 w : World} {P : Nat → Prop} {s : Pt} {vO vI : Value} (hB : Below w0.heap.size w0 w) (h : Stt w w0.heap.size P s vO vI) (hg : Good s) : Calls Try.prog 25 #[.agg #[.bool s.q, .int .i64 s.cap, vO, vI, .int .i64 s.lost]] w fun e w' => ∃ vO' vI', e = .returned (.tuple #[.agg #[.bool (getP s).1.q, .int .i64 (getP s).1.cap, vO', vI', .int .i64 (getP s).1.lost], .int .i64 (getP s).2.1, .int .i64 (getP s).2.2]) ∧ Stt w' w0.heap.size (Ex P w w') (getP s).1 vO' vI' ∧ Keep P w w' :=
  (rotaref15_Get.calls _ s.q s.cap P vO s.out P vI s.inn s.lost _ _ _ _ _ _ _ w0 w hB h.o h.i (get_ok s hg)).mono fun e w' ⟨v1, v2, he, hr1, hr2, hB', hk⟩ =>
    ⟨v1, v2, he, ⟨R_ex (Kd.R_mono hr1 (fun k hk => hk.imp (fun h => h.elim id id) id)), R_ex (Kd.R_mono hr2 (fun k hk => hk.imp (fun h => h.elim id id) id))⟩, ⟨hB'.os.trans hB.os.symm, hB'.tape.trans hB.tape.symm, hB'.output.trans hB.output.symm, hk.1, fun i hi hn => hk.2 i hi (fun h => hn (h.elim id id))⟩⟩
theorem deliv_any {w : World} {base : Nat} {P : Nat → Prop} {s : Pt} {vO vI : Value} (h : Stt w base P s vO vI) (hg : Good s) : Calls Try.prog 26 #[.agg #[.bool s.q, .int .i64 s.cap, vO, vI, .int .i64 s.lost]] w fun e w' => ∃ vO' vI', e = .returned (.agg #[.bool (delivP s).q, .int .i64 (delivP s).cap, vO', vI', .int .i64 (delivP s).lost]) ∧ Stt w' w.heap.size (fun _ => True) (delivP s) vO' vI' ∧ Below w.heap.size w w' := by
  obtain ⟨A, c, B, d, rfl, rfl, hc, hd, h1, h2⟩ := stt_reads h
  exact (rotaref15_Deliver.calls _ s.q s.cap A c s.out B d s.inn s.lost _ _ _ _ _ w h1 hc h2 hd (deliv_ok s hg)).mono fun e w' ⟨v1, v2, he, hr1, hr2, hB⟩ => ⟨v1, v2, he, ⟨hr1, hr2⟩, hB⟩
theorem same_any {w : World} {base base' : Nat} {P P' : Nat → Prop} {s : Pt} {vO vI vO' vI' : Value} (h : Stt w base P s vO vI) (h' : Stt w base' P' s vO' vI') (hg : Good s) : Calls Try.prog 17 #[.agg #[.bool s.q, .int .i64 s.cap, vO, vI, .int .i64 s.lost], .agg #[.bool s.q, .int .i64 s.cap, vO', vI', .int .i64 s.lost]] w fun e w' => e = .returned (.bool true) ∧ Below w.heap.size w w' := by
  obtain ⟨A, c, B, d, rfl, rfl, hc, hd, h1, h2⟩ := stt_reads h
  obtain ⟨A', c', B', d', rfl, rfl, hc', hd', h1', h2'⟩ := stt_reads h'
  have := hg.c1
  have := hg.o
  have := hg.i
  exact rotaref15_Same.calls _ s.q s.cap A c s.out B d s.inn s.lost s.q s.cap A' c' s.out B' d' s.inn s.lost _ w h1 hc h2 hd h1' hc' h2' hd' (same_ok s.q s.cap s.out s.inn s.lost (by omega) (by omega))
end Go.Proofs.Ytdienpcifklinaa
