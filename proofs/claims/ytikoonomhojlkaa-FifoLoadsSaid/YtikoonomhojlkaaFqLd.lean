import Derived.Test.YtikoonomhojlkaaFqL
import Derived.Test.YtikoonomhojlkaaOpen
import Derived.Test.YtikoonomhojlkaaFqY
set_option linter.unusedSimpArgs false
set_option linter.unusedVariables false
namespace Go.Proofs.Ytikoonomhojlkaa
open Go.RowKit Go.ChangeShapes Go.WideShapes Go.ChangeAt Go.Proofs.YtikoonomhojlkaaW.PrintWords Go.Proofs.YtikoonomhojlkaaW.PrintMore Go.Proofs.YtikoonomhojlkaaW.PrintLast
/-! Those that wait, as data. -/
theorem opensG : Op.Opens Try.prog PFifoLoads.k29 29 (fun _ => True) (fun _ => 1) :=
  Op.opens_mono (Op.opens_struct Try.underlying29 (by kernel_rfl) (Op.opens_isoF (Op.opensF_cons rfl (by kernel_rfl) (by decide) (Op.opens_int Try.underlying3) (Op.opensF_last rfl (by kernel_rfl) (Op.opens_int Try.underlying3))) _ (fun t : Int × Int => (⟨t.1, t.2⟩ : PFifoLoads.S29)) (fun _ => rfl))) (fun _ _ => trivial) (fun _ => by simp)
theorem opensW : Op.Opens Try.prog kW 32 (fun _ => True) (fun _ => 1) :=
  Op.opens_mono (Op.opens_struct Try.underlying32 (by kernel_rfl) (Op.opens_isoF (Op.opensF_cons rfl (by kernel_rfl) (by decide) opensG (Op.opensF_last rfl (by kernel_rfl) (Op.opens_int Try.underlying30))) _ (fun t : PFifoLoads.S29 × Int => (⟨t.1, t.2⟩ : Wt)) (fun _ => rfl))) (fun _ _ => trivial) (fun _ => by simp)
end Go.Proofs.Ytikoonomhojlkaa
set_option linter.unusedSimpArgs false
set_option linter.unusedVariables false
namespace Go.Proofs.Ytikoonomhojlkaa
open Go.RowKit Go.ChangeShapes Go.WideShapes Go.ChangeAt Go.Proofs.YtikoonomhojlkaaW.PrintWords Go.Proofs.YtikoonomhojlkaaW.PrintMore Go.Proofs.YtikoonomhojlkaaW.PrintLast
/-! Acts as data; the queue and the list from round to round. -/
abbrev Ac : Type := Int × Wt × Int × Int
def kAc : Kd Ac := Kd.pair (Kd.int .i64) (Kd.pair kW (Kd.pair (Kd.int .i64) (Kd.int .i64)))
theorem kAc_open {w : World} {x : Ac} {cs : List Value} (h : kAc.K w x cs) : cs = [.int .i64 x.1, .int .i64 x.2.1.f0.f0, .int .i64 x.2.1.f0.f1, .int .u64 x.2.1.f1, .int .i64 x.2.2.1, .int .i64 x.2.2.2] := by
  obtain ⟨_, _, rfl, rfl, ⟨_, _, rfl, h3, ⟨_, _, rfl, rfl, rfl⟩⟩⟩ := h
  obtain rfl := kW_open h3
  rfl
theorem opensAc : Op.Opens Try.prog kAc 51 (fun _ => True) (fun _ => 1) :=
  Op.opens_mono (Op.opens_struct Try.underlying51 (by kernel_rfl) (Op.opensF_cons rfl (by kernel_rfl) (by decide) (Op.opens_int Try.underlying3) (Op.opensF_cons rfl (by kernel_rfl) (by decide) opensW (Op.opensF_cons rfl (by kernel_rfl) (by decide) (Op.opens_int Try.underlying3) (Op.opensF_last rfl (by kernel_rfl) (Op.opens_int Try.underlying3)))))) (fun _ _ => trivial) (fun _ => by simp)
def DQE (w0 : World) (b : Nat) (l : List Wt) (vl : Value) (wr : World) : Prop := ∃ v ok P, DQ w0 b l l v vl ok P wr
end Go.Proofs.Ytikoonomhojlkaa
set_option linter.unusedSimpArgs false
set_option linter.unusedVariables false
namespace Go.Proofs.Ytikoonomhojlkaa
open Go.RowKit Go.Proofs.YtikoonomhojlkaaW.PrintWords Go.Proofs.YtikoonomhojlkaaW.PrintMore Go.Proofs.YtikoonomhojlkaaW.PrintLast PFifoLoads
/-! fifo.Load. -/
def QloadP (w : World) (r : List Wt × Int) (e : Ending) (w' : World) : Prop := Below w.heap.size w w' ∧ ((r.2 = 0 ∧ ∃ b, e = .returned (.tuple #[.pointer (some ⟨b, 0, none⟩), .int .i64 0]) ∧ QueE w b r.1 w') ∨ (r.2 ≠ 0 ∧ e = .returned (.tuple #[.pointer none, .int .i64 r.2])))
set_option maxHeartbeats 4000000 in
set_option maxRecDepth 100000 in
theorem qload_any (w : World) (A : Option Addr) (c : Nat) (l : List Wt) (hC : kW.C w A l.length l) (hc : l.length ≤ c) (hl : l.length ≤ 8796093022208) : Calls Try.prog 14 #[.slice A l.length c] w (QloadP w (loadF l [])) := by
  have HC := Aside0.mk hC
  have hN := que_new w
  clear hC
  unfold QloadP
  go_enter Try.func14, Try.ntmps14
  go_wp2_with fail
  refine hN.mono ?_
  clear hN
  rintro e w1 ⟨b, rfl, hQ1⟩
  have H1 := Aside0.mk hQ1
  clear hQ1
  go_wp2_with fail
  go_loopw [11] (fun i wr => ∃ (k : Nat) (Q : List Wt), k ≤ l.length ∧ i = .int .i64 k ∧ Aside0 (QueE w b Q wr) ∧ Aside0 (loadF l [] = loadF (l.drop k) Q)) (fun i _ => l.length - (intOf i).toNat)
  case atStart => exact ⟨0, [], by omega, rfl, H1, ⟨by rw [List.drop_zero]⟩⟩
  case round =>
    clear H1
    obtain ⟨k, Q, hk, rfl, HQ, HF⟩ := hrel
    by_cases hlt : k < l.length
    · obtain ⟨ab, off, rfl, hab⟩ := C_form HC.out (by omega) (by decide)
      obtain ⟨x, hx, e0, e1, e2⟩ := waits_at HC.out k hlt
      have HB := Aside0.mk HQ.out.below
      have e0 := (HB.out.cell (p := ⟨ab, off + k * 3, none⟩) hab).trans e0
      have e1 := (HB.out.cell (p := ⟨ab, off + k * 3 + 1, none⟩) hab).trans e1
      have e2 := (HB.out.cell (p := ⟨ab, off + k * 3 + 2, none⟩) hab).trans e2
      have hki : (0 : Int) ≤ (k : Int) := by omega
      have hkl : (k : Int) < (l.length : Int) := by omega
      obtain ⟨ok, v, hQ⟩ := HQ.out
      have hP := que_put x (hQ.then (w' := wr.alloc (.cells #[.int .i64 x.f0.f0, .int .i64 x.f0.f1, .int .u64 x.f1] TW)) (below_al (Below.refl _ _) _))
      have HX := Aside0.mk (drop_cons hx)
      clear hx hQ
      go_wp2_with fail
      refine hP.mono ?_
      clear hP e0 e1 e2
      rintro e w3 ⟨rfl, ⟨v3, hQ3⟩, -⟩
      have H3 := Aside0.mk (show QueE w b (putL Q x).1 w3 from ⟨_, _, hQ3⟩)
      have hF2 : loadF l [] = if (putL Q x).2 = 0 then loadF (l.drop (k + 1)) (putL Q x).1 else ([], (putL Q x).2) := by rw [HF.out, HX.out, loadF]
      have HF2 := Aside0.mk hF2
      clear hQ3 hF2
      generalize putL Q x = r at *
      obtain ⟨r1, r2⟩ := r
      simp only at H3 HF2 ⊢
      by_cases hr : r2 = 0
      · subst hr
        go_wp2
        go_roundw
        case rel => exact ⟨k + 1, r1, by omega, by go_num, H3, ⟨by rw [HF2.out, if_pos rfl]⟩⟩
        case measure => simp [intOf]; omega
      · have hrb : (r2 == 0) = false := by simpa using hr
        have hrn : (r2 != 0) = true := by simpa using hr
        go_wp2
        go_ret2
        rw [HF2.out, if_neg hr]
        exact ⟨H3.out.below, .inr ⟨hr, rfl⟩⟩
    · obtain rfl : k = l.length := by omega
      have HF2 : Aside0 (loadF l [] = (Q, 0)) := ⟨by rw [HF.out, List.drop_length, loadF]⟩
      go_wp2
      go_ret2
      rw [HF2.out]
      exact ⟨HQ.out.below, .inl ⟨rfl, b, rfl, HQ.out⟩⟩
theorem rload_any (w : World) (A : Option Addr) (c : Nat) (l : List Wt) (hC : kW.C w A l.length l) (hc : l.length ≤ c) (hl : l.length ≤ 8796093022208) : Calls Try.prog 15 #[.slice A l.length c] w fun e w' => ∃ v', e = .returned (.tuple #[v', .int .i64 (loadF l []).2]) ∧ Kd.R kW TW w' w.heap.size (fun _ => True) v' (loadF l []).1 ∧ Below w.heap.size w w' :=
  rotaref03_Load.calls _ A c l _ _ w hC hc (load_ok l hl)
end Go.Proofs.Ytikoonomhojlkaa
