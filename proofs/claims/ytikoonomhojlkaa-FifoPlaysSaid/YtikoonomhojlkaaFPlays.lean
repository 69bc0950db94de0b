/- FifoPlays: every script of calls, answer by answer. No condition. -/
import Derived.Test.YtikoonomhojlkaaFqZ
import Derived.Test.YtikoonomhojlkaaOpen
set_option linter.unusedSimpArgs false
set_option linter.unusedVariables false
namespace Go.Proofs.Ytikoonomhojlkaa
open Go.RowKit Go.ChangeShapes Go.WideShapes Go.ChangeAt Go.Proofs.YtikoonomhojlkaaW.PrintWords Go.Proofs.YtikoonomhojlkaaW.PrintMore Go.Proofs.YtikoonomhojlkaaW.PrintLast
/-! FifoPlays -/
set_option maxRecDepth 100000 in
set_option maxHeartbeats 8000000 in
theorem FifoPlays0.walk (w : World) (A : Option Addr) (c : Nat) (acts : List Ac) (hC : kAc.C w A acts.length acts) (hc : acts.length ≤ c) (hl : acts.length ≤ 140737488355328) :
    Calls Try.prog 5 #[.slice A acts.length c] w fun e w' => e = .returned (.bool true) ∧ Below w.heap.size w w' := by
  have HC := Aside0.mk hC
  have hN := que_new w
  clear hC
  go_enter Try.func5, Try.ntmps5
  go_wp2_with fail
  refine hN.mono ?_
  clear hN
  rintro e w1 ⟨b, rfl, hQ1⟩
  have hqe := qeq_some b
  go_wp2_with fail
  refine (lives_any w1).mono ?_
  rintro e w2 ⟨rfl, hB2⟩
  have H2 := Aside0.mk (dq_new (hQ1.then hB2))
  clear hQ1 hB2
  go_wp2_with fail
  go_loopw [4, 5, 6] (fun s4 s5 i wr => ∃ (k : Nat) (L : List Wt), k ≤ acts.length ∧ i = .int .i64 k ∧ Aside0 (DQE w b L s4 wr)) (fun _ _ i _ => acts.length - (intOf i).toNat)
  case atStart => exact ⟨0, [], by omega, rfl, H2⟩
  case round =>
    clear H2
    obtain ⟨k, L, hk, rfl, HD⟩ := hrel
    obtain ⟨v, ok, P, hD⟩ := HD.out
    obtain ⟨Al, cl, he, -, -⟩ := Kd.R_reads hD.r
    subst he
    have HB := Aside0.mk hD.q.below
    by_cases hlt : k < acts.length
    · obtain ⟨ab, off, rfl, hab⟩ := C_form HC.out (by omega) (by decide)
      obtain ⟨⟨d, x, procs, room⟩, ha, e0, e1, e2, e3, e4, e5⟩ := act_at HC.out k hlt
      simp only at e0 e1 e2 e3 e4 e5
      have e0 := (HB.out.cell (p := ⟨ab, off + k * 6, none⟩) hab).trans e0
      have e1 := (HB.out.cell (p := ⟨ab, off + k * 6 + 1, none⟩) hab).trans e1
      have e2 := (HB.out.cell (p := ⟨ab, off + k * 6 + 2, none⟩) hab).trans e2
      have e3 := (HB.out.cell (p := ⟨ab, off + k * 6 + 3, none⟩) hab).trans e3
      have e4 := (HB.out.cell (p := ⟨ab, off + k * 6 + 4, none⟩) hab).trans e4
      have e5 := (HB.out.cell (p := ⟨ab, off + k * 6 + 5, none⟩) hab).trans e5
      have hki : (0 : Int) ≤ (k : Int) := by omega
      have hkl : (k : Int) < (acts.length : Int) := by omega
      have hT := does_any d x procs room hD
      clear hD ha HD
      go_wp2_with fail
      refine hT.mono ?_
      clear hT e0 e1 e2 e3 e4 e5
      rintro e w3 ⟨v3, vl3, ok3, P3, rfl, hD3, -⟩
      have H3 := Aside0.mk (show DQE w b (doL L d x procs room) vl3 w3 from ⟨_, _, _, hD3⟩)
      generalize doL L d x procs room = L3 at *
      clear hD3
      go_wp2
      go_roundw
      case rel => exact ⟨k + 1, L3, by omega, by go_num, H3⟩
      case measure => simp [intOf]; omega
    · obtain rfl : k = acts.length := by omega
      have hT := told_any 0 0 hD
      clear hD HD
      go_wp2_with fail
      refine hT.mono ?_
      clear hT
      rintro e w3 ⟨rfl, hB3⟩
      have HB3 := Aside0.mk (below_then HB.out hB3)
      clear hB3
      go_wp2
      go_ret
      exact ⟨rfl, HB3.out⟩
theorem fifoPlays.walk (w : World) (A : Option Addr) (c : Nat) (acts : List Ac) (hc : acts.length ≤ c) (hC : kAc.C w A acts.length acts) (hG : acts.length * Try.prog.bytesOf 51 ≤ reachBytes ∧ acts.length ≤ 9223372036854775807 ∧ ∀ x ∈ acts, True) :
    Calls Try.prog 5 #[.slice A acts.length c] w fun e w' => e = .returned (.bool true) ∧ Below w.heap.size w w' := by
  have h1 : Try.prog.bytesOf 51 = 48 := by kernel_rfl
  rw [h1] at hG
  have hg := hG.1
  unfold reachBytes at hg
  exact FifoPlays0.walk w A c acts hC hc (by omega)
theorem fifoPlays.own : ownKnob Try.prog.godebug = none := by kernel_rfl
theorem fifoPlays.laidOut : laidOutB Try.prog = true := by kernel_rfl
set_option maxRecDepth 100000 in
set_option maxHeartbeats 1000000 in
theorem fifoPlays.lifted (os : Os) (started : os.Started) (H : Type) (enc : TypeId × Value → H)
    : ReturnsInHanded {} Try.checked os 5 .any (Rows.fifoPlaysSpec.pre6 enc Try.prog Try.f5 Rows.fifoPlaysRow.domain false) (Rows.fifoPlaysSpec.post enc Try.prog Try.f5 false true false false) := by
  refine returnsInHanded_of_change_sized (C := Try.checked) fifoPlays.own started (by kernel_rfl) Try.func5
    (ChangeSpec.witness6 (enc := enc) (C := Try.checked) false ⟨#[], #[.slice none 0 0], []⟩ 8 (by kernel_rfl) (by kernel_rfl) (by kernel_rfl) (by kernel_rfl)) ?_
  intro W base args ds gs before hval0 hW hcnd hsz0 _
  have hsz : (DataW.weightsEach Try.prog (Try.f5.params.toList ++ Rows.fifoPlaysSpec.plain.varTypes Try.prog) (ds ++ gs)).all (· ≤ reachBytes) = true := hsz0
  have hval : ∀ (j : Nat) t v, Try.f5.params[j]? = some t → args[j]? = some v → Value.okWide Try.prog W .any base t v := hval0
  have hW' := hW
  obtain ⟨p, q, hA0, hV, rfl, hfz, hnd⟩ := hW
  have hA : DataW.TrodAll enc Try.prog W 0 (fun _ => true) true Try.f5.params.toList args.toList ds p := hA0
  rw [Try.params5] at hA hval hsz
  obtain ⟨v0, vs0, d0, ds0, p0, q0, hargs, rfl, rfl, h0, r0⟩ := trodAll_cons hA
  obtain ⟨rfl, rfl, rfl⟩ := trodAll_nil r0
  obtain rfl : args = #[v0] := by cases args; simp_all
  obtain ⟨rfl, rfl⟩ := trodVars_none hV
  have k0 := h0
  have lt0 : ∀ x ∈ p0, x.block < W.heap.size := by obtain ⟨m, hm⟩ := k0; exact DataW.trod_lt m _ _ _ hm
  have W0 := Op.weights_of hsz (j := 0) (t := 47) (d := d0) rfl rfl
  obtain ⟨A0, len0, cap0, rfl⟩ := okWide_slice Try.underlying47 (hval 0 47 v0 rfl rfl)
  obtain ⟨f0, hf0⟩ := h0
  obtain ⟨a0, hK0, hG0, hM0⟩ := Op.opens_slice Try.underlying47 (by kernel_rfl) opensAc H enc W _ true f0 _ (d0, p0) hf0 W0
  obtain ⟨A', c', he0, hc0, hC0⟩ := hK0
  obtain ⟨rfl, rfl, rfl⟩ : A0 = A' ∧ len0 = a0.length ∧ cap0 = c' := by simpa [Value.cells] using he0
  clear hA0 hval0 hsz0 hsz
  refine (fifoPlays.walk W A0 cap0 a0 hc0 hC0 hG0).mono fun e W' ⟨he, bel⟩ => ?_
  subst he
  exact ⟨_, rfl, _, _, _, [], _, [], hW', trodAll_mk1 (shut_bool Try.underlying4 _), (trodAll_cons_mk (Below.trod fifoPlays.laidOut (by kernel_rfl) (of_decide_eq_true (by kernel_rfl)) k0 bel lt0) trodAll_mk0), rfl, bel.frame _, fun h => by cases h⟩
theorem fifoPlays_holds : Rows.FifoPlaysSaid :=
  OpenClaim.holds_of_wide 5 Try.f5 rfl rfl rfl rfl rfl rfl rfl ⟨rfl, rfl, rfl, rfl, rfl⟩ rfl rfl rfl rfl rfl (by kernel_rfl) Try.func5 (by kernel_rfl)
    (of_decide_eq_true (by kernel_rfl)) (by unfold Func.isWrapper; first | (rw [if_pos (by decide +kernel)]; kernel_rfl) | (rw [if_neg (by decide +kernel)]; exact ⟨rfl, rfl⟩))
    (fun os started H enc _ => fifoPlays.lifted os started H enc)
#print axioms fifoPlays_holds

end Go.Proofs.Ytikoonomhojlkaa
