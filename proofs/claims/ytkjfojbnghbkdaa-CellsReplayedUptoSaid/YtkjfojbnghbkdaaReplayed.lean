/- CellsReplayed: the accesses that calls told are replayed, from noughts, to what is in the cells. Where what is read is of bulk at most 1048576. -/
import Derived.Test.YtkjfojbnghbkdaaLog
namespace Go.Proofs.Ytkjfojbnghbkdaa
open Go.RowKit Go.ChangeShapes Go.WideShapes Go.ChangeAt Go.Proofs.YtkjfojbnghbkdaaW.PrintWords
theorem sum_five (xs : List COp) : xs.length ≤ (xs.map (fun _ => 5)).sum + 1 := by
  induction xs with
  | nil => exact Nat.zero_le _
  | cons x xs ih => rw [List.map_cons, List.sum_cons, List.length_cons]; omega
set_option maxRecDepth 100000 in
set_option maxHeartbeats 4000000 in
theorem cellsReplayed.walk (w : World) (n : Int) (_ : (Lit.int .i64 n).wf = true) (A : Option Addr) (c : Nat) (xs : List COp) (_ : xs.length ≤ c) (hC : kOp.C w A xs.length xs)
    (hG : xs.length * Try.prog.bytesOf 45 ≤ reachBytes ∧ xs.length ≤ 9223372036854775807 ∧ ∀ x ∈ xs, True) (hMM : 1 + xs.length ≤ 1048576) :
    Calls Try.prog 10 #[.int .i64 n, .slice A xs.length c] w fun e w' => e = .returned (.bool true) ∧ Below w.heap.size w w' := by
  clear hG
  have hfn := fitN_le n
  go_enter Try.func10, Try.ntmps10
  go_wp2_with fail
  refine (fit_ok n w).mono ?_
  rintro e w0 ⟨rfl, hB0⟩
  generalize fitN n = N at *
  have hmk := run_make_row' (P := Try.prog) 22 2 (.int .i64 0) 8 Try.underlying22 Try.info2 rfl .i64 .i64 N (by omega) (by omega)
  go_wp2_with fail
  refine (new_ok N hfn w0).mono ?_
  rintro e w1 ⟨rfl, hI, hB⟩
  go_wp2_with fail
  refine (log_any w0 w1 _ _ _ A c xs hI hB (by omega) (by omega) (Kd.C_below hC hB0) (by omega)).mono ?_
  rintro e w2 ⟨v, rfl, hv, hI2, hB2⟩
  have hrp := lg_rpl (List.replicate N 0) xs (List.replicate N 0) [] rfl
  have hll := lg_len1 xs (List.replicate N 0) []
  have hl2 := lg_length xs (List.replicate N 0) []
  rw [List.length_replicate] at hl2
  rw [List.length_nil, Nat.zero_add] at hll
  generalize lg (List.replicate N 0) xs [] = q at *
  obtain ⟨l, zs⟩ := q
  simp only at hrp hll hl2 hv hI2
  clear hI hB hC
  obtain ⟨A1, c1, rfl, hc1, hC1⟩ := Kd.R_reads hv
  rw [List.length_map] at hC1 hc1
  have hC1' := C_conv ofS rfl (fun _ _ => ofS_k) hC1
  rw [ofS_map] at hC1'
  have HC1 := Aside0.mk hC1'
  have HI2 := Aside0.mk hI2
  have HB2 := Aside0.mk hB2
  clear hC1 hC1' hv hI2 hB2
  go_wp2_with fail
  have hBa : Below w2.heap.size w2 (w2.alloc (.cells (madeCells #[.int .i64 0] N) 2)) := below_al (Below.refl _ _) _
  have hb : (w2.alloc (.cells (madeCells #[.int .i64 0] N) 2)).heap[w2.heap.size]? = some (.cells (ints (List.replicate N 0)) 2 (0, 0)) := by rw [← ints_made]; exact blk_new _ _
  have hC0 := C_of_block hb (by simp; omega)
  rw [List.length_replicate] at hC0
  have hcall := replay_any _ (some ⟨w2.heap.size, 0, none⟩) N (List.replicate N 0) A1 c1 l (by rw [List.length_replicate]; exact hC0) (Kd.C_below HC1.out hBa) (by rw [List.length_replicate]; omega) (by omega)
  rw [List.length_replicate, hrp] at hcall
  clear hC0 hb
  have HI3 := Aside0.mk (HI2.out.new hBa)
  have HB3 := Aside0.mk (HB2.out.trans (hBa.mono HB2.out.size))
  clear HI2 HB2 HC1
  generalize w2.alloc (.cells (madeCells #[.int .i64 0] N) 2) = W at *
  refine hcall.mono ?_
  rintro e w3 ⟨v, rfl, hv, hB3⟩
  have HV := Aside0.mk hv
  have HI4 := HI3.out.new hB3
  have HB4 := Aside0.mk (HB3.out.trans (hB3.mono HB3.out.size))
  clear hcall hv HI3 hBa
  go_wp2_with fail
  refine (values_any _ _ _ w3 HI4).mono ?_
  rintro e w4 ⟨v2, rfl, hv2, hB4⟩
  have hv1 := Kd.R_below HV.out hB4
  go_wp2_with fail
  refine (same_ok w4 v v2 zs hv1 hv2 (by omega)).mono ?_
  rintro e w5 ⟨rfl, hB5⟩
  go_wp2_with fail
  refine (awake_any w5).mono ?_
  rintro e w6 ⟨rfl, hB6⟩
  go_wp2
  go_ret
  have h6 := below_then (below_then hB4 hB5) hB6
  have h0 := HB4.out.trans (h6.mono HB4.out.size)
  exact ⟨rfl, below_then hB0 h0⟩
theorem cellsReplayed.own : ownKnob Try.prog.godebug = none := by kernel_rfl
theorem cellsReplayed.laidOut : laidOutB Try.prog = true := by kernel_rfl
set_option maxRecDepth 100000 in
set_option maxHeartbeats 1000000 in
theorem cellsReplayed.lifted (os : Os) (started : os.Started) (H : Type) (enc : TypeId × Value → H)
  (F : Stop.Interp) : ReturnsInHanded {} Try.checked os 10 .any ((Rows.OpenSpec.upto Rows.cellsReplayedSpec).pre6 enc Try.prog Try.f10 Rows.cellsReplayedUptoRow.domain false) (((Rows.OpenSpec.upto Rows.cellsReplayedSpec).at F).post enc Try.prog Try.f10 false true false false) := by
  refine returnsInHanded_of_cond_sized (C := Try.checked) (s := Rows.OpenSpec.upto Rows.cellsReplayedSpec) (k := Rows.uptoSmall) rfl cellsReplayed.own started (by kernel_rfl) Try.func10
    (OpenSpec.witness (enc := enc) (C := Try.checked) (s := Rows.OpenSpec.upto Rows.cellsReplayedSpec) (k := Rows.uptoSmall) rfl false ⟨#[], #[.int .i64 0, .slice none 0 0], []⟩ 8 (by kernel_rfl) (by kernel_rfl) (by kernel_rfl)
      (x := ([.lit (.int .i64 0), .nil], [], [])) (by kernel_rfl) rfl (by kernel_rfl)) ?_
  intro W base args ds gs before hval0 hW hcnd hk hsz0 _
  have hsz : (DataW.weightsEach Try.prog (Try.f10.params.toList ++ Rows.cellsReplayedSpec.plain.varTypes Try.prog) (ds ++ gs)).all (· ≤ reachBytes) = true := hsz0
  have hval : ∀ (j : Nat) t v, Try.f10.params[j]? = some t → args[j]? = some v → Value.okWide Try.prog W .any base t v := hval0
  have hW' := hW
  obtain ⟨p, q, hA0, hV, rfl, hfz, hnd⟩ := hW
  have hA : DataW.TrodAll enc Try.prog W 0 (fun _ => true) true Try.f10.params.toList args.toList ds p := hA0
  rw [Try.params10] at hA hval hsz
  obtain ⟨v0, vs0, d0, ds0, p0, q0, hargs, rfl, rfl, h0, r0⟩ := trodAll_cons hA
  obtain ⟨v1, vs1, d1, ds1, p1, q1, rfl, rfl, rfl, h1, r1⟩ := trodAll_cons r0
  obtain ⟨rfl, rfl, rfl⟩ := trodAll_nil r1
  obtain rfl : args = #[v0, v1] := by cases args; simp_all
  obtain ⟨rfl, rfl⟩ := trodVars_none hV
  have k0 := h0
  have lt0 : ∀ x ∈ p0, x.block < W.heap.size := by obtain ⟨m, hm⟩ := k0; exact DataW.trod_lt m _ _ _ hm
  have W0 := Op.weights_of hsz (j := 0) (t := 3) (d := d0) rfl rfl
  obtain ⟨n0, rfl⟩ := okWide_int Try.underlying3 (hval 0 3 v0 rfl rfl)
  obtain ⟨f0, hf0⟩ := h0
  obtain ⟨a0, hK0, hG0, hM0⟩ := Op.opens_int Try.underlying3 H enc W _ true f0 _ (d0, p0) hf0 W0
  obtain rfl : n0 = a0 := by have := hK0; simpa [Value.cells, Kd.int, Kd.scalar] using this
  have k1 := h1
  have lt1 : ∀ x ∈ p1, x.block < W.heap.size := by obtain ⟨m, hm⟩ := k1; exact DataW.trod_lt m _ _ _ hm
  have W1 := Op.weights_of hsz (j := 1) (t := 50) (d := d1) rfl rfl
  obtain ⟨A1, len1, cap1, rfl⟩ := okWide_slice Try.underlying50 (hval 1 50 v1 rfl rfl)
  obtain ⟨f1, hf1⟩ := h1
  obtain ⟨a1, hK1, hG1, hM1⟩ := Op.opens_mono (Op.opens_slice Try.underlying50 (by kernel_rfl) (Op.opens_mono opensOp (fun _ _ => trivial) (fun _ => Nat.le_refl _))) (fun _ h => h) (fun xs => sum_five xs) H enc W _ true f1 _ (d1, p1) hf1 W1
  obtain ⟨A', c', he1, hc1, hC1⟩ := hK1
  obtain ⟨rfl, rfl, rfl⟩ : A1 = A' ∧ len1 = a1.length ∧ cap1 = c' := by simpa [Value.cells] using he1
  have hM : Rows.uptoBulk d0 + Rows.uptoBulk d1 ≤ 1048576 := by
    have := of_decide_eq_true hk
    simp only [List.append_nil, Rows.uptoBulkAll] at this
    omega
  have hMM := Nat.le_trans (Nat.add_le_add hM0 hM1) hM
  clear hA0 hval0 hsz0 hsz
  refine (cellsReplayed.walk W n0 hG0 A1 cap1 a1 hc1 hC1 hG1 hMM).mono fun e W' ⟨he, bel⟩ => ?_
  subst he
  exact ⟨_, rfl, _, _, _, [], _, [], hW', trodAll_mk1 (shut_bool Try.underlying4 _), (trodAll_cons_mk (Below.trod cellsReplayed.laidOut (by kernel_rfl) (of_decide_eq_true (by kernel_rfl)) k0 bel lt0) (trodAll_cons_mk (Below.trod cellsReplayed.laidOut (by kernel_rfl) (of_decide_eq_true (by kernel_rfl)) k1 bel lt1) trodAll_mk0)), rfl, bel.frame _, fun h => by cases h⟩
theorem cellsReplayed_holds : Rows.CellsReplayedUptoSaid :=
  OpenClaim.holds_of_cond 10 Try.f10 rfl rfl rfl rfl rfl rfl rfl ⟨rfl, rfl, rfl, rfl, rfl⟩ rfl rfl rfl rfl rfl (by kernel_rfl) Try.func10 (by kernel_rfl)
    (of_decide_eq_true (by kernel_rfl)) (by unfold Func.isWrapper; first | (rw [if_pos (by decide +kernel)]; kernel_rfl) | (rw [if_neg (by decide +kernel)]; exact ⟨rfl, rfl⟩))
    (fun os started H enc _ F => cellsReplayed.lifted os started H enc F)
#print axioms cellsReplayed_holds

end Go.Proofs.Ytkjfojbnghbkdaa
