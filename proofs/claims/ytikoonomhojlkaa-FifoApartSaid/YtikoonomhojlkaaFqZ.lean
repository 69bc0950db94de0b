import Derived.Test.YtikoonomhojlkaaFqL
import Derived.Test.YtikoonomhojlkaaOpen
import Derived.Test.YtikoonomhojlkaaFqY
set_option linter.unusedSimpArgs false
set_option linter.unusedVariables false
namespace Go.Proofs.Ytikoonomhojlkaa
open Go.RowKit Go.ChangeShapes Go.WideShapes Go.ChangeAt Go.Proofs.YtikoonomhojlkaaW.PrintWords Go.Proofs.YtikoonomhojlkaaW.PrintMore Go.Proofs.YtikoonomhojlkaaW.PrintLast
/-! Those that wait, as data. -/
theorem opensG : Op.Opens Try.prog PFifoLoads.k29 29 (fun _ => True) (fun _ => 1) :=
  Op.opens_mono (Op.opens_struct Try.underlying29 (by kernel_rfl) (Op.opens_isoF (Op.opensF_cons rfl (by kernel_rfl) (by decide) (Op.opens_int Try.underlying3) (Op.opensF_last rfl (by kernel_rfl) (Op.opens_int Try.underlying3))) _ (fun t : Int × Int => (⟨t.1, t.2⟩ : PFifoLoads.S29)) (fun _ => rfl))) (fun _ _ => trivial) (fun _ => by simp)
theorem opensW : Op.Opens Try.prog kW 32 (fun _ => True) (fun _ => 1) :=
  Op.opens_mono (Op.opens_struct Try.underlying32 (by kernel_rfl) (Op.opens_isoF (Op.opensF_cons rfl (by kernel_rfl) (by decide) opensG (Op.opensF_last rfl (by kernel_rfl) (Op.opens_int Try.underlying30))) _ (fun t : PFifoLoads.S29 × Int => (⟨t.1, t.2⟩ : Wt)) (fun _ => rfl))) (fun _ _ => trivial) (fun _ => by simp)
end Go.Proofs.Ytikoonomhojlkaa
set_option linter.unusedSimpArgs false
set_option linter.unusedVariables false
namespace Go.Proofs.Ytikoonomhojlkaa
open Go.RowKit Go.ChangeShapes Go.WideShapes Go.ChangeAt Go.Proofs.YtikoonomhojlkaaW.PrintWords Go.Proofs.YtikoonomhojlkaaW.PrintMore Go.Proofs.YtikoonomhojlkaaW.PrintLast
/-! Acts as data; the queue and the list from round to round. -/
abbrev Ac : Type := Int × Wt × Int × Int
def kAc : Kd Ac := Kd.pair (Kd.int .i64) (Kd.pair kW (Kd.pair (Kd.int .i64) (Kd.int .i64)))
theorem kAc_open {w : World} {x : Ac} {cs : List Value} (h : kAc.K w x cs) : cs = [.int .i64 x.1, .int .i64 x.2.1.f0.f0, .int .i64 x.2.1.f0.f1, .int .u64 x.2.1.f1, .int .i64 x.2.2.1, .int .i64 x.2.2.2] := by
  obtain ⟨_, _, rfl, rfl, ⟨_, _, rfl, h3, ⟨_, _, rfl, rfl, rfl⟩⟩⟩ := h
  obtain rfl := kW_open h3
  rfl
theorem act_at {w : World} {b off n : Nat} {xs : List Ac} (h : kAc.C w (some ⟨b, off, none⟩) n xs) (i : Nat) (hi : i < n) : ∃ e, xs[i]? = some e ∧ w.cell? ⟨b, off + i * 6, none⟩ = some (.int .i64 e.1) ∧ w.cell? ⟨b, off + i * 6 + 1, none⟩ = some (.int .i64 e.2.1.f0.f0) ∧ w.cell? ⟨b, off + i * 6 + 2, none⟩ = some (.int .i64 e.2.1.f0.f1) ∧ w.cell? ⟨b, off + i * 6 + 3, none⟩ = some (.int .u64 e.2.1.f1) ∧ w.cell? ⟨b, off + i * 6 + 4, none⟩ = some (.int .i64 e.2.2.1) ∧ w.cell? ⟨b, off + i * 6 + 5, none⟩ = some (.int .i64 e.2.2.2) := by
  obtain ⟨ad, e, hc⟩ := h.2.2 (by omega)
  injection e with e
  subst e
  have hl : i < xs.length := by have := h.1; omega
  obtain ⟨cs, hcl, hK, hat⟩ := hc i _ (List.getElem?_eq_getElem hl)
  obtain rfl := kAc_open hK
  have g : ∀ j u, _ → w.cell? ⟨b, off + i * 6 + j, none⟩ = some u := fun j u hj => by have := hat j u hj; rw [adds, ← Nat.add_assoc] at this; exact this
  exact ⟨_, List.getElem?_eq_getElem hl, g 0 _ rfl, g 1 _ rfl, g 2 _ rfl, g 3 _ rfl, g 4 _ rfl, g 5 _ rfl⟩
theorem opensAc : Op.Opens Try.prog kAc 51 (fun _ => True) (fun _ => 1) :=
  Op.opens_mono (Op.opens_struct Try.underlying51 (by kernel_rfl) (Op.opensF_cons rfl (by kernel_rfl) (by decide) (Op.opens_int Try.underlying3) (Op.opensF_cons rfl (by kernel_rfl) (by decide) opensW (Op.opensF_cons rfl (by kernel_rfl) (by decide) (Op.opens_int Try.underlying3) (Op.opensF_last rfl (by kernel_rfl) (Op.opens_int Try.underlying3)))))) (fun _ _ => trivial) (fun _ => by simp)
theorem R_empty' (W : World) (base : Nat) (hb : base ≤ W.heap.size) : Kd.R kW TW (W.alloc (.cells #[] TW)) base (fun k => k = W.heap.size) (.slice (some ⟨W.heap.size, 0, none⟩) 0 0) [] := by
  refine ⟨fun k hk => ?_, [], ?_, Reps.none _ _⟩
  · have : W.heap.size = k := by simpa [Value.ownBlock] using hk
    omega
  · exact World.ownsRow_lit (base := base) (e := TW) (size := kW.sz) W #[] 0 hb (Nat.zero_le _) (by simp)
end Go.Proofs.Ytikoonomhojlkaa
