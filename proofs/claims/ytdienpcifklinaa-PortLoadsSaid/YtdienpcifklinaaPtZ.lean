import Derived.Test.YtdienpcifklinaaPtL3
set_option linter.unusedSimpArgs false
set_option linter.unusedVariables false
namespace Go.Proofs.Ytdienpcifklinaa
open Go.RowKit Go.ChangeShapes Go.WideShapes Go.ChangeAt Go.Proofs.YtdienpcifklinaaW.PrintWords Go.Proofs.YtdienpcifklinaaW.PrintMore Go.Proofs.YtdienpcifklinaaW.PrintLast PPortOwn
/-! A port's state as data: printed by gen15g.py. -/
def kZ : Kd Pt := Kd.iso (Kd.pair Kd.bool (Kd.pair (Kd.int .i64) (Kd.pair (Kd.slice TI (Kd.int .i64)) (Kd.pair (Kd.slice TA kA) (Kd.int .i64))))) (fun s : Pt => (s.q, s.cap, s.out, s.inn, s.lost))
theorem opensAg : Op.Opens Try.prog kA TA (fun _ => True) (fun _ => 1) :=
  Op.opens_mono (Op.opens_struct Try.underlying68 (by kernel_rfl) (Op.opens_isoF (Op.opensF_cons rfl (by kernel_rfl) (by decide) (Op.opens_int Try.underlying2) (Op.opensF_last rfl (by kernel_rfl) (Op.opens_int Try.underlying3))) _ (fun t : Int × Int => (⟨t.1, t.2⟩ : Ag)) (fun _ => rfl))) (fun _ _ => trivial) (fun _ => by simp)
theorem opensZ : Op.Opens Try.prog kZ TZ (fun s => s.out.length * 8 ≤ reachBytes ∧ s.inn.length * 16 ≤ reachBytes) (fun s => s.out.length + s.inn.length) :=
  Op.opens_mono (Op.opens_struct Try.underlying40 (by kernel_rfl) (Op.opens_isoF (Op.opensF_cons rfl (by kernel_rfl) (by decide) (Op.opens_bool Try.underlying4) (Op.opensF_cons rfl (by kernel_rfl) (by decide) (Op.opens_int Try.underlying3) (Op.opensF_cons rfl (by kernel_rfl) (by decide) (Op.opens_slice Try.underlying25 (by kernel_rfl) (Op.opens_int Try.underlying2)) (Op.opensF_cons rfl (by kernel_rfl) (by decide) (Op.opens_slice Try.underlying38 (by kernel_rfl) opensAg) (Op.opensF_last rfl (by kernel_rfl) (Op.opens_int Try.underlying3)))))) _ (fun t : Bool × Int × List Int × List Ag × Int => (⟨t.1, t.2.1, t.2.2.1, t.2.2.2.1, t.2.2.2.2⟩ : Pt)) (fun _ => rfl)))
    (fun s h => by
      have h1 := h.2.2.1.1
      have h2 := h.2.2.2.1.1
      rw [show Try.prog.bytesOf TI = 8 from by kernel_rfl] at h1
      rw [show Try.prog.bytesOf TA = 16 from by kernel_rfl] at h2
      exact ⟨h1, h2⟩)
    (fun s => by
      have h1 := sum_one s.out
      have h2 := sum_one s.inn
      simp only at *
      omega)
theorem kZ_open {w : World} {s : Pt} {cs : List Value} (h : kZ.K w s cs) : ∃ vO vI, cs = [.bool s.q, .int .i64 s.cap, vO, vI, .int .i64 s.lost] ∧ SttR w s vO vI := by
  obtain ⟨_, _, rfl, rfl, ⟨_, _, rfl, rfl, ⟨_, _, rfl, ⟨A, c, rfl, hc, hC⟩, ⟨_, _, rfl, ⟨B, d, rfl, hd, hD⟩, rfl⟩⟩⟩⟩ := h
  exact ⟨_, _, rfl, A, c, B, d, rfl, rfl, hc, hd, hC, hD⟩
end Go.Proofs.Ytdienpcifklinaa
