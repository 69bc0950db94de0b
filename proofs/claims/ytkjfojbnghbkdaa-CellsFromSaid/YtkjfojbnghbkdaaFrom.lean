/- CellsFrom: who wrote what each access of any log found: the program's answer is the document's. No condition. -/
import Derived.Test.YtkjfojbnghbkdaaCellsD
import Derived.Test.YtkjfojbnghbkdaaLib2
import Derived.Test.YtkjfojbnghbkdaaOpen
import Derived.Test.YtkjfojbnghbkdaaFromP
namespace Go.Proofs.Ytkjfojbnghbkdaa
open Go.RowKit Go.ChangeShapes Go.WideShapes Go.ChangeAt Go.Proofs.YtkjfojbnghbkdaaW.PrintWords
theorem opensAcc28 : Op.Opens Try.prog PCellsFrom.k28 28 (fun _ => True) (fun _ => 6) :=
  Op.opens_mono (Op.opens_struct Try.underlying28 (by kernel_rfl) (Op.opens_isoF (Op.opensF_cons rfl (by kernel_rfl) (by decide) (Op.opens_int Try.underlying3) (Op.opensF_cons rfl (by kernel_rfl) (by decide) (Op.opens_int Try.underlying3) (Op.opensF_cons rfl (by kernel_rfl) (by decide) (Op.opens_int Try.underlying2) (Op.opensF_cons rfl (by kernel_rfl) (by decide) (Op.opens_int Try.underlying2) (Op.opensF_last rfl (by kernel_rfl) (Op.opens_bool Try.underlying4)))))) _ (fun t : Int × Int × Int × Int × Bool => (⟨t.1, t.2.1, t.2.2.1, t.2.2.2.1, t.2.2.2.2⟩ : PCellsFrom.S28)) (fun _ => rfl))) (fun _ _ => trivial) (fun _ => by simp)
set_option maxRecDepth 100000 in
set_option maxHeartbeats 4000000 in
theorem cellsFrom.walk (w : World) (A : Option Addr) (c : Nat) (xs : List PCellsFrom.S28) (hc : xs.length ≤ c) (hC : PCellsFrom.k28.C w A xs.length xs)
    (hG : xs.length * Try.prog.bytesOf 28 ≤ reachBytes ∧ xs.length ≤ 9223372036854775807 ∧ ∀ x ∈ xs, True) :
    Calls Try.prog 4 #[.slice A xs.length c] w fun e w' => e = .returned (.bool true) ∧ Below w.heap.size w w' := by
  have hl : xs.length < 17592186044416 := by
    have h := hG.1
    rw [show Try.prog.bytesOf 28 = 40 from by kernel_rfl] at h
    unfold reachBytes at h
    omega
  clear hG
  have HC := Aside0.mk hC
  clear hC
  go_enter Try.func4, Try.ntmps4
  go_wp2_with fail
  refine (PCellsFrom.cells_From.calls _ A c xs _ w HC.out hc (PCellsFrom.cells_From_eq hl)).mono ?_
  rintro e w1 ⟨v, rfl, hv, hB⟩
  go_wp2_with fail
  refine (PCellsFrom.rotaref10_From.calls _ A c xs _ w1 (Kd.C_below HC.out hB) hc (PCellsFrom.ref_From_eq hl)).mono ?_
  rintro e w2 ⟨v2, rfl, hv2, hB2⟩
  have hv' := Kd.R_below hv hB2
  have hB' := below_then hB hB2
  generalize hzs : PCellsFrom.frm xs xs.length = zs at *
  have hlz : zs.length < 17592186044416 := by rw [← hzs, PCellsFrom.frm_length]; exact hl
  clear hzs hv hB hB2
  obtain ⟨A1, c1, rfl, hc1, hC1⟩ := Kd.R_reads hv'
  obtain ⟨A2, c2, rfl, hc2, hC2⟩ := Kd.R_reads hv2
  have HC1 := Aside0.mk hC1
  have HC2 := Aside0.mk hC2
  have HB := Aside0.mk hB'
  clear hv' hv2 hC1 hC2 hB'
  go_wp2
  go_loopw [5] (fun i wr => ∃ (k : Nat), k ≤ zs.length ∧ i = .int .i64 k ∧ Aside0 (Below w2.heap.size w2 wr)) (fun i _ => zs.length - (intOf i).toNat)
  case atStart => exact ⟨0, by omega, rfl, ⟨Below.refl _ _⟩⟩
  case round =>
    obtain ⟨k, hk, rfl, HBr⟩ := hrel
    by_cases hlt : k < zs.length
    · obtain ⟨a1, o1, rfl, hab1⟩ := C_form HC1.out (by omega) (by decide)
      obtain ⟨a2, o2, rfl, hab2⟩ := C_form HC2.out (by omega) (by decide)
      have h1 := (HBr.out.cell (p := ⟨a1, o1 + k, none⟩) hab1).trans (ints_at HC1.out k hlt)
      have h2 := (HBr.out.cell (p := ⟨a2, o2 + k, none⟩) hab2).trans (ints_at HC2.out k hlt)
      generalize rd zs k = z at *
      go_wp2
      go_quiet (fail)
      go_wp2
      go_roundw
      case rel => exact ⟨k + 1, by omega, by go_num, ⟨below_drewN HBr.out _⟩⟩
      case measure => simp [intOf]; omega
    · have hd : decide ((k : Int) < (zs.length : Int)) = false := by simp; omega
      go_wp2_with fail
      refine (awake_any wr).mono ?_
      rintro e w5 ⟨rfl, hB5⟩
      go_wp2
      go_ret
      exact ⟨rfl, below_then (below_then HB.out HBr.out) hB5⟩
theorem cellsFrom.own : ownKnob Try.prog.godebug = none := by kernel_rfl
theorem cellsFrom.laidOut : laidOutB Try.prog = true := by kernel_rfl
set_option maxRecDepth 100000 in
set_option maxHeartbeats 1000000 in
theorem cellsFrom.lifted (os : Os) (started : os.Started) (H : Type) (enc : TypeId × Value → H)
    : ReturnsInHanded {} Try.checked os 4 .any (Rows.cellsFromSpec.pre6 enc Try.prog Try.f4 Rows.cellsFromRow.domain false) (Rows.cellsFromSpec.post enc Try.prog Try.f4 false true false false) := by
  refine returnsInHanded_of_change_sized (C := Try.checked) cellsFrom.own started (by kernel_rfl) Try.func4
    (ChangeSpec.witness6 (enc := enc) (C := Try.checked) false ⟨#[], #[.slice none 0 0], []⟩ 8 (by kernel_rfl) (by kernel_rfl) (by kernel_rfl) (by kernel_rfl)) ?_
  intro W base args ds gs before hval0 hW hcnd hsz0 _
  have hsz : (DataW.weightsEach Try.prog (Try.f4.params.toList ++ Rows.cellsFromSpec.plain.varTypes Try.prog) (ds ++ gs)).all (· ≤ reachBytes) = true := hsz0
  have hval : ∀ (j : Nat) t v, Try.f4.params[j]? = some t → args[j]? = some v → Value.okWide Try.prog W .any base t v := hval0
  have hW' := hW
  obtain ⟨p, q, hA0, hV, rfl, hfz, hnd⟩ := hW
  have hA : DataW.TrodAll enc Try.prog W 0 (fun _ => true) true Try.f4.params.toList args.toList ds p := hA0
  rw [Try.params4] at hA hval hsz
  obtain ⟨v0, vs0, d0, ds0, p0, q0, hargs, rfl, rfl, h0, r0⟩ := trodAll_cons hA
  obtain ⟨rfl, rfl, rfl⟩ := trodAll_nil r0
  obtain rfl : args = #[v0] := by cases args; simp_all
  obtain ⟨rfl, rfl⟩ := trodVars_none hV
  have k0 := h0
  have lt0 : ∀ x ∈ p0, x.block < W.heap.size := by obtain ⟨m, hm⟩ := k0; exact DataW.trod_lt m _ _ _ hm
  have W0 := Op.weights_of hsz (j := 0) (t := 34) (d := d0) rfl rfl
  obtain ⟨A0, len0, cap0, rfl⟩ := okWide_slice Try.underlying34 (hval 0 34 v0 rfl rfl)
  obtain ⟨f0, hf0⟩ := h0
  obtain ⟨a0, hK0, hG0, hM0⟩ := Op.opens_slice Try.underlying34 (by kernel_rfl) opensAcc28 H enc W _ true f0 _ (d0, p0) hf0 W0
  obtain ⟨A', c', he0, hc0, hC0⟩ := hK0
  obtain ⟨rfl, rfl, rfl⟩ : A0 = A' ∧ len0 = a0.length ∧ cap0 = c' := by simpa [Value.cells] using he0
  clear hA0 hval0 hsz0 hsz
  refine (cellsFrom.walk W A0 cap0 a0 hc0 hC0 hG0).mono fun e W' ⟨he, bel⟩ => ?_
  subst he
  exact ⟨_, rfl, _, _, _, [], _, [], hW', trodAll_mk1 (shut_bool Try.underlying4 _), (trodAll_cons_mk (Below.trod cellsFrom.laidOut (by kernel_rfl) (of_decide_eq_true (by kernel_rfl)) k0 bel lt0) trodAll_mk0), rfl, bel.frame _, fun h => by cases h⟩
theorem cellsFrom_holds : Rows.CellsFromSaid :=
  OpenClaim.holds_of_wide 4 Try.f4 rfl rfl rfl rfl rfl rfl rfl ⟨rfl, rfl, rfl, rfl, rfl⟩ rfl rfl rfl rfl rfl (by kernel_rfl) Try.func4 (by kernel_rfl)
    (of_decide_eq_true (by kernel_rfl)) (by unfold Func.isWrapper; first | (rw [if_pos (by decide +kernel)]; kernel_rfl) | (rw [if_neg (by decide +kernel)]; exact ⟨rfl, rfl⟩))
    (fun os started H enc _ => cellsFrom.lifted os started H enc)
#print axioms cellsFrom_holds

end Go.Proofs.Ytkjfojbnghbkdaa
