/- CellsReplay: any log, from any values: the program's answer is the document's. No condition. -/
import Derived.Test.YtkjfojbnghbkdaaReplayP
namespace Go.Proofs.Ytkjfojbnghbkdaa
open Go.RowKit Go.ChangeShapes Go.WideShapes Go.ChangeAt Go.Proofs.YtkjfojbnghbkdaaW.PrintWords
theorem opensAcc : Op.Opens Try.prog kAcc 28 (fun _ => True) (fun _ => 6) :=
  Op.opens_mono (Op.opens_struct Try.underlying28 (by kernel_rfl) (Op.opens_isoF (Op.opensF_cons rfl (by kernel_rfl) (by decide) (Op.opens_int Try.underlying3) (Op.opensF_cons rfl (by kernel_rfl) (by decide) (Op.opens_int Try.underlying3) (Op.opensF_cons rfl (by kernel_rfl) (by decide) (Op.opens_int Try.underlying2) (Op.opensF_cons rfl (by kernel_rfl) (by decide) (Op.opens_int Try.underlying2) (Op.opensF_last rfl (by kernel_rfl) (Op.opens_bool Try.underlying4)))))) _ (fun t : Int × Int × Int × Int × Bool => (⟨t.1, t.2.1, t.2.2.1, t.2.2.2.1, t.2.2.2.2⟩ : Acc)) (fun _ => rfl))) (fun _ _ => trivial) (fun _ => by simp)
theorem rpl_length (ys : List Int) (i : Nat) (l : List Acc) : (rpl ys i l).1.length ≤ ys.length := by
  induction l generalizing ys i with
  | nil => exact Nat.le_refl _
  | cons a l ih =>
    rw [rpl]
    split
    · simp
    · split
      · simp
      · exact Nat.le_trans (ih _ _) (by simp)
set_option maxRecDepth 100000 in
set_option maxHeartbeats 4000000 in
theorem cellsReplay.walk (w : World) (A0 : Option Addr) (c0 : Nat) (ys : List Int) (hc0 : ys.length ≤ c0) (hC0 : Kd.C (Kd.int .i64) w A0 ys.length ys)
    (hG0 : ys.length * Try.prog.bytesOf 2 ≤ reachBytes ∧ ys.length ≤ 9223372036854775807 ∧ ∀ x ∈ ys, (Lit.int .i64 x).wf = true)
    (A : Option Addr) (c : Nat) (xs : List Acc) (hc : xs.length ≤ c) (hC : kAcc.C w A xs.length xs)
    (hG : xs.length * Try.prog.bytesOf 28 ≤ reachBytes ∧ xs.length ≤ 9223372036854775807 ∧ ∀ x ∈ xs, True) :
    Calls Try.prog 8 #[.slice A0 ys.length c0, .slice A xs.length c] w fun e w' => e = .returned (.bool true) ∧ Below w.heap.size w w' := by
  have hl : xs.length < 4398046511104 := by
    have h := hG.1
    rw [show Try.prog.bytesOf 28 = 40 from by kernel_rfl] at h
    unfold reachBytes at h
    omega
  have hy : ys.length < 17592186044416 := by
    have h := hG0.1
    rw [show Try.prog.bytesOf 2 = 8 from by kernel_rfl] at h
    unfold reachBytes at h
    omega
  clear hG hG0
  have hrl := rpl_length ys 0 xs
  go_enter Try.func8, Try.ntmps8
  go_wp2_with fail
  refine (replay_any w A0 c0 ys A c xs hC0 hC (by omega) (by omega)).mono ?_
  rintro e w1 ⟨v, rfl, hv, hB⟩
  have hC1 := C_conv toS rfl (fun _ _ => toS_k) (Kd.C_below hC hB)
  have hC01 := Kd.C_below hC0 hB
  have hrf := ref_replay (l := xs) (ys := ys) (by omega) hy
  have hcall := PCellsReplay.rotaref10_Replay.calls (xs.length + 2) A0 c0 ys A c (xs.map toS) _ _ _ w1 hC01 hc0 (by rw [List.length_map]; exact hC1) (by rw [List.length_map]; exact hc) hrf
  rw [List.length_map] at hcall
  clear hC0 hC hC1 hC01 hrf
  generalize rpl ys 0 xs = q at *
  obtain ⟨zs, n, f⟩ := q
  go_wp2_with fail
  refine hcall.mono ?_
  rintro e w2 ⟨v2, rfl, hv2, hB2⟩
  have hv' := Kd.R_below hv hB2
  have hB' := below_then hB hB2
  clear hcall hv hB hB2
  go_wp2_with fail
  refine (same_ok w2 v v2 zs hv' hv2 (by omega)).mono ?_
  rintro e w3 ⟨rfl, hB3⟩
  have hB3' := below_then hB' hB3
  clear hB' hB3 hv' hv2
  go_wp2_with fail
  refine (awake_any w3).mono ?_
  rintro e w5 ⟨rfl, hB5⟩
  go_wp2
  go_ret
  exact ⟨rfl, below_then hB3' hB5⟩
theorem cellsReplay.own : ownKnob Try.prog.godebug = none := by kernel_rfl
theorem cellsReplay.laidOut : laidOutB Try.prog = true := by kernel_rfl
set_option maxRecDepth 100000 in
set_option maxHeartbeats 1000000 in
theorem cellsReplay.lifted (os : Os) (started : os.Started) (H : Type) (enc : TypeId × Value → H)
    : ReturnsInHanded {} Try.checked os 8 .any (Rows.cellsReplaySpec.pre6 enc Try.prog Try.f8 Rows.cellsReplayRow.domain false) (Rows.cellsReplaySpec.post enc Try.prog Try.f8 false true false false) := by
  refine returnsInHanded_of_change_sized (C := Try.checked) cellsReplay.own started (by kernel_rfl) Try.func8
    (ChangeSpec.witness6 (enc := enc) (C := Try.checked) false ⟨#[], #[.slice none 0 0, .slice none 0 0], []⟩ 8 (by kernel_rfl) (by kernel_rfl) (by kernel_rfl) (by kernel_rfl)) ?_
  intro W base args ds gs before hval0 hW hcnd hsz0 _
  have hsz : (DataW.weightsEach Try.prog (Try.f8.params.toList ++ Rows.cellsReplaySpec.plain.varTypes Try.prog) (ds ++ gs)).all (· ≤ reachBytes) = true := hsz0
  have hval : ∀ (j : Nat) t v, Try.f8.params[j]? = some t → args[j]? = some v → Value.okWide Try.prog W .any base t v := hval0
  have hW' := hW
  obtain ⟨p, q, hA0, hV, rfl, hfz, hnd⟩ := hW
  have hA : DataW.TrodAll enc Try.prog W 0 (fun _ => true) true Try.f8.params.toList args.toList ds p := hA0
  rw [Try.params8] at hA hval hsz
  obtain ⟨v0, vs0, d0, ds0, p0, q0, hargs, rfl, rfl, h0, r0⟩ := trodAll_cons hA
  obtain ⟨v1, vs1, d1, ds1, p1, q1, rfl, rfl, rfl, h1, r1⟩ := trodAll_cons r0
  obtain ⟨rfl, rfl, rfl⟩ := trodAll_nil r1
  obtain rfl : args = #[v0, v1] := by cases args; simp_all
  obtain ⟨rfl, rfl⟩ := trodVars_none hV
  have k0 := h0
  have lt0 : ∀ x ∈ p0, x.block < W.heap.size := by obtain ⟨m, hm⟩ := k0; exact DataW.trod_lt m _ _ _ hm
  have W0 := Op.weights_of hsz (j := 0) (t := 22) (d := d0) rfl rfl
  obtain ⟨A0, len0, cap0, rfl⟩ := okWide_slice Try.underlying22 (hval 0 22 v0 rfl rfl)
  obtain ⟨f0, hf0⟩ := h0
  obtain ⟨a0, hK0, hG0, hM0⟩ := Op.opens_slice Try.underlying22 (by kernel_rfl) (Op.opens_int Try.underlying2) H enc W _ true f0 _ (d0, p0) hf0 W0
  obtain ⟨A', c', he0, hc0, hC0⟩ := hK0
  obtain ⟨rfl, rfl, rfl⟩ : A0 = A' ∧ len0 = a0.length ∧ cap0 = c' := by simpa [Value.cells] using he0
  have k1 := h1
  have lt1 : ∀ x ∈ p1, x.block < W.heap.size := by obtain ⟨m, hm⟩ := k1; exact DataW.trod_lt m _ _ _ hm
  have W1 := Op.weights_of hsz (j := 1) (t := 34) (d := d1) rfl rfl
  obtain ⟨A1, len1, cap1, rfl⟩ := okWide_slice Try.underlying34 (hval 1 34 v1 rfl rfl)
  obtain ⟨f1, hf1⟩ := h1
  obtain ⟨a1, hK1, hG1, hM1⟩ := Op.opens_slice Try.underlying34 (by kernel_rfl) opensAcc H enc W _ true f1 _ (d1, p1) hf1 W1
  obtain ⟨A', c', he1, hc1, hC1⟩ := hK1
  obtain ⟨rfl, rfl, rfl⟩ : A1 = A' ∧ len1 = a1.length ∧ cap1 = c' := by simpa [Value.cells] using he1
  clear hA0 hval0 hsz0 hsz
  refine (cellsReplay.walk W A0 cap0 a0 hc0 hC0 hG0 A1 cap1 a1 hc1 hC1 hG1).mono fun e W' ⟨he, bel⟩ => ?_
  subst he
  exact ⟨_, rfl, _, _, _, [], _, [], hW', trodAll_mk1 (shut_bool Try.underlying4 _), (trodAll_cons_mk (Below.trod cellsReplay.laidOut (by kernel_rfl) (of_decide_eq_true (by kernel_rfl)) k0 bel lt0) (trodAll_cons_mk (Below.trod cellsReplay.laidOut (by kernel_rfl) (of_decide_eq_true (by kernel_rfl)) k1 bel lt1) trodAll_mk0)), rfl, bel.frame _, fun h => by cases h⟩
theorem cellsReplay_holds : Rows.CellsReplaySaid :=
  OpenClaim.holds_of_wide 8 Try.f8 rfl rfl rfl rfl rfl rfl rfl ⟨rfl, rfl, rfl, rfl, rfl⟩ rfl rfl rfl rfl rfl (by kernel_rfl) Try.func8 (by kernel_rfl)
    (of_decide_eq_true (by kernel_rfl)) (by unfold Func.isWrapper; first | (rw [if_pos (by decide +kernel)]; kernel_rfl) | (rw [if_neg (by decide +kernel)]; exact ⟨rfl, rfl⟩))
    (fun os started H enc _ => cellsReplay.lifted os started H enc)
#print axioms cellsReplay_holds

end Go.Proofs.Ytkjfojbnghbkdaa
