/- CellsFound: each access that was told found what the write that From tells left, or nought. Where what is read is of bulk at most 1048576. -/
import Derived.Test.YtkjfojbnghbkdaaFoundP
namespace Go.Proofs.Ytkjfojbnghbkdaa
open Go.RowKit Go.ChangeShapes Go.WideShapes Go.ChangeAt Go.Proofs.YtkjfojbnghbkdaaW.PrintWords
theorem sum_five (xs : List COp) : xs.length ≤ (xs.map (fun _ => 5)).sum + 1 := by
  induction xs with
  | nil => exact Nat.zero_le _
  | cons x xs ih => rw [List.map_cons, List.sum_cons, List.length_cons]; omega
set_option maxRecDepth 100000 in
set_option maxHeartbeats 4000000 in
theorem cellsFound.walk (w : World) (n : Int) (_ : (Lit.int .i64 n).wf = true) (A : Option Addr) (c : Nat) (xs : List COp) (_ : xs.length ≤ c) (hC : kOp.C w A xs.length xs)
    (hG : xs.length * Try.prog.bytesOf 45 ≤ reachBytes ∧ xs.length ≤ 9223372036854775807 ∧ ∀ x ∈ xs, True) (hMM : 1 + xs.length ≤ 1048576) :
    Calls Try.prog 9 #[.int .i64 n, .slice A xs.length c] w fun e w' => e = .returned (.bool true) ∧ Below w.heap.size w w' := by
  clear hG
  have hfn := fitN_le n
  go_enter Try.func9, Try.ntmps9
  go_wp2_with fail
  refine (fit_ok n w).mono ?_
  rintro e w0 ⟨rfl, hB0⟩
  generalize fitN n = N at *
  go_wp2_with fail
  refine (new_ok N hfn w0).mono ?_
  rintro e w1 ⟨rfl, hI, hB⟩
  go_wp2_with fail
  refine (log_any w0 w1 _ _ _ A c xs hI hB (by omega) (by omega) (Kd.C_below hC hB0) (by omega)).mono ?_
  rintro e w2 ⟨v, rfl, hv, hI2, hB2⟩
  have hrp := lg_rpl (List.replicate N 0) xs (List.replicate N 0) [] rfl
  have hll := lg_len1 xs (List.replicate N 0) []
  rw [List.length_nil, Nat.zero_add] at hll
  generalize lg (List.replicate N 0) xs [] = q at *
  obtain ⟨l, zs⟩ := q
  simp only at hrp hll hv hI2
  clear hI hB hC hI2
  obtain ⟨A1, c1, rfl, hc1, hC1⟩ := Kd.R_reads hv
  rw [List.length_map] at hC1 hc1
  have hC1' := C_conv ofS rfl (fun _ _ => ofS_k) hC1
  rw [ofS_map] at hC1'
  have hC2 := C_conv toF rfl (fun _ _ => toF_k) hC1'
  have hcall := PCellsFrom.cells_From.calls _ A1 c1 (l.map toF) _ w2 (by rw [List.length_map]; exact hC2) (by rw [List.length_map]; exact hc1) (PCellsFrom.cells_From_eq (by rw [List.length_map]; omega))
  rw [List.length_map] at hcall
  have hfl := PCellsFrom.frm_length (l.map toF) l.length
  have HB2 := Aside0.mk (below_then hB0 hB2)
  have HRP := Aside0.mk hrp
  clear hC1 hv hC2 hB2 hB0 hrp
  go_wp2_with fail
  refine hcall.mono ?_
  rintro e w3 ⟨v3, rfl, hv3, hB3⟩
  have HC1 := Aside0.mk (Kd.C_below hC1' hB3)
  have HB3 := Aside0.mk (below_then HB2.out hB3)
  obtain ⟨zf, hzf⟩ : ∃ zf, zf = PCellsFrom.frm (l.map toF) l.length := ⟨_, rfl⟩
  rw [← hzf] at hv3 hfl
  have HZF := Aside0.mk hzf
  clear hzf hcall hC1' hB3 HB2
  obtain ⟨A3, c3, rfl, hc3, hC3⟩ := Kd.R_reads hv3
  rw [hfl] at hC3 hc3
  have HC3 := Aside0.mk hC3
  clear hC3 hv3
  rw [hfl]
  go_wp2
  go_loopw [9] (fun i wr => ∃ (k : Nat), k ≤ l.length ∧ i = .int .i64 k ∧ Aside0 (Below w3.heap.size w3 wr)) (fun i _ => l.length - (intOf i).toNat)
  case atStart => exact ⟨0, by omega, rfl, ⟨Below.refl _ _⟩⟩
  case round =>
    obtain ⟨k, hk, rfl, HBr⟩ := hrel
    by_cases hlt : k < l.length
    · obtain ⟨a1, o1, rfl, hab1⟩ := C_form HC1.out (by omega) (by decide)
      obtain ⟨a3, o3, rfl, hab3⟩ := C_form HC3.out (by omega) (by decide)
      have hf := (HBr.out.cell (p := ⟨a3, o3 + k, none⟩) hab3).trans (ints_at HC3.out k hlt)
      obtain ⟨a, ha, h0, h1, h2, h3, h4⟩ := accs_at HC1.out k hlt
      replace h0 := (HBr.out.cell (p := ⟨a1, o1 + k * 5, none⟩) hab1).trans h0
      replace h2 := (HBr.out.cell (p := ⟨a1, o1 + k * 5 + 2, none⟩) hab1).trans h2
      clear h1 h3 h4
      have hfk : rd zf k = PCellsFrom.lastW (l.map toF) a.c k := by
        rw [HZF.out, frm_get hlt, rd_toF ha]
        rfl
      rw [hfk] at hf
      clear hfk
      rcases found_ok HRP.out ha with ⟨hm, hb0⟩ | ⟨j, b, hj, hm, hb, hbc, hbw, hba⟩
      · rw [hm] at hf
        rw [hb0] at h2
        clear ha hm hb0
        generalize a.c = ac at *
        go_wp2
        go_quiet (fail)
        go_wp2
        go_roundw
        case rel => exact ⟨k + 1, by omega, by go_num, ⟨below_drewN HBr.out _⟩⟩
        case measure => simp [intOf]; omega
      · rw [hm] at hf
        obtain ⟨b', hb', g0, g1, g2, g3, g4⟩ := accs_at HC1.out j (by omega)
        have hbb : b' = b := by rw [hb] at hb'; exact (Option.some.inj hb').symm
        rw [hbb] at g0 g1 g2 g3 g4
        rw [hbc] at g0
        rw [hba] at g3
        rw [hbw] at g4
        replace g0 := (HBr.out.cell (p := ⟨a1, o1 + j * 5, none⟩) hab1).trans g0
        replace g3 := (HBr.out.cell (p := ⟨a1, o1 + j * 5 + 3, none⟩) hab1).trans g3
        replace g4 := (HBr.out.cell (p := ⟨a1, o1 + j * 5 + 4, none⟩) hab1).trans g4
        clear ha hm hb hb' hbb hbc hba hbw g1 g2
        generalize a.c = ac at *
        generalize a.b = av at *
        have d1 : ((j : Int) == -1) = false := by simp
        have d2 : decide ((j : Int) < -1) = false := by simp <;> omega
        have d3 : decide ((j : Int) ≥ (k : Int)) = false := by simp; omega
        have d4 : decide ((j : Int) ≥ 0) = true := by simp
        go_wp2
        go_quiet (fail)
        go_wp2
        go_roundw
        case rel => exact ⟨k + 1, by omega, by go_num, ⟨below_drewN HBr.out _⟩⟩
        case measure => simp [intOf]; omega
    · have hd : decide ((k : Int) < (l.length : Int)) = false := by simp; omega
      go_wp2_with fail
      refine (awake_any wr).mono ?_
      rintro e w5 ⟨rfl, hB5⟩
      go_wp2
      go_ret
      exact ⟨rfl, below_then (below_then HB3.out HBr.out) hB5⟩
theorem cellsFound.own : ownKnob Try.prog.godebug = none := by kernel_rfl
theorem cellsFound.laidOut : laidOutB Try.prog = true := by kernel_rfl
set_option maxRecDepth 100000 in
set_option maxHeartbeats 1000000 in
theorem cellsFound.lifted (os : Os) (started : os.Started) (H : Type) (enc : TypeId × Value → H)
  (F : Stop.Interp) : ReturnsInHanded {} Try.checked os 9 .any ((Rows.OpenSpec.upto Rows.cellsFoundSpec).pre6 enc Try.prog Try.f9 Rows.cellsFoundUptoRow.domain false) (((Rows.OpenSpec.upto Rows.cellsFoundSpec).at F).post enc Try.prog Try.f9 false true false false) := by
  refine returnsInHanded_of_cond_sized (C := Try.checked) (s := Rows.OpenSpec.upto Rows.cellsFoundSpec) (k := Rows.uptoSmall) rfl cellsFound.own started (by kernel_rfl) Try.func9
    (OpenSpec.witness (enc := enc) (C := Try.checked) (s := Rows.OpenSpec.upto Rows.cellsFoundSpec) (k := Rows.uptoSmall) rfl false ⟨#[], #[.int .i64 0, .slice none 0 0], []⟩ 8 (by kernel_rfl) (by kernel_rfl) (by kernel_rfl)
      (x := ([.lit (.int .i64 0), .nil], [], [])) (by kernel_rfl) rfl (by kernel_rfl)) ?_
  intro W base args ds gs before hval0 hW hcnd hk hsz0 _
  have hsz : (DataW.weightsEach Try.prog (Try.f9.params.toList ++ Rows.cellsFoundSpec.plain.varTypes Try.prog) (ds ++ gs)).all (· ≤ reachBytes) = true := hsz0
  have hval : ∀ (j : Nat) t v, Try.f9.params[j]? = some t → args[j]? = some v → Value.okWide Try.prog W .any base t v := hval0
  have hW' := hW
  obtain ⟨p, q, hA0, hV, rfl, hfz, hnd⟩ := hW
  have hA : DataW.TrodAll enc Try.prog W 0 (fun _ => true) true Try.f9.params.toList args.toList ds p := hA0
  rw [Try.params9] at hA hval hsz
  obtain ⟨v0, vs0, d0, ds0, p0, q0, hargs, rfl, rfl, h0, r0⟩ := trodAll_cons hA
  obtain ⟨v1, vs1, d1, ds1, p1, q1, rfl, rfl, rfl, h1, r1⟩ := trodAll_cons r0
  obtain ⟨rfl, rfl, rfl⟩ := trodAll_nil r1
  obtain rfl : args = #[v0, v1] := by cases args; simp_all
  obtain ⟨rfl, rfl⟩ := trodVars_none hV
  have k0 := h0
  have lt0 : ∀ x ∈ p0, x.block < W.heap.size := by obtain ⟨m, hm⟩ := k0; exact DataW.trod_lt m _ _ _ hm
  have W0 := Op.weights_of hsz (j := 0) (t := 3) (d := d0) rfl rfl
  obtain ⟨n0, rfl⟩ := okWide_int Try.underlying3 (hval 0 3 v0 rfl rfl)
  obtain ⟨f0, hf0⟩ := h0
  obtain ⟨a0, hK0, hG0, hM0⟩ := Op.opens_int Try.underlying3 H enc W _ true f0 _ (d0, p0) hf0 W0
  obtain rfl : n0 = a0 := by have := hK0; simpa [Value.cells, Kd.int, Kd.scalar] using this
  have k1 := h1
  have lt1 : ∀ x ∈ p1, x.block < W.heap.size := by obtain ⟨m, hm⟩ := k1; exact DataW.trod_lt m _ _ _ hm
  have W1 := Op.weights_of hsz (j := 1) (t := 50) (d := d1) rfl rfl
  obtain ⟨A1, len1, cap1, rfl⟩ := okWide_slice Try.underlying50 (hval 1 50 v1 rfl rfl)
  obtain ⟨f1, hf1⟩ := h1
  obtain ⟨a1, hK1, hG1, hM1⟩ := Op.opens_mono (Op.opens_slice Try.underlying50 (by kernel_rfl) (Op.opens_mono opensOp (fun _ _ => trivial) (fun _ => Nat.le_refl _))) (fun _ h => h) (fun xs => sum_five xs) H enc W _ true f1 _ (d1, p1) hf1 W1
  obtain ⟨A', c', he1, hc1, hC1⟩ := hK1
  obtain ⟨rfl, rfl, rfl⟩ : A1 = A' ∧ len1 = a1.length ∧ cap1 = c' := by simpa [Value.cells] using he1
  have hM : Rows.uptoBulk d0 + Rows.uptoBulk d1 ≤ 1048576 := by
    have := of_decide_eq_true hk
    simp only [List.append_nil, Rows.uptoBulkAll] at this
    omega
  have hMM := Nat.le_trans (Nat.add_le_add hM0 hM1) hM
  clear hA0 hval0 hsz0 hsz
  refine (cellsFound.walk W n0 hG0 A1 cap1 a1 hc1 hC1 hG1 hMM).mono fun e W' ⟨he, bel⟩ => ?_
  subst he
  exact ⟨_, rfl, _, _, _, [], _, [], hW', trodAll_mk1 (shut_bool Try.underlying4 _), (trodAll_cons_mk (Below.trod cellsFound.laidOut (by kernel_rfl) (of_decide_eq_true (by kernel_rfl)) k0 bel lt0) (trodAll_cons_mk (Below.trod cellsFound.laidOut (by kernel_rfl) (of_decide_eq_true (by kernel_rfl)) k1 bel lt1) trodAll_mk0)), rfl, bel.frame _, fun h => by cases h⟩
theorem cellsFound_holds : Rows.CellsFoundUptoSaid :=
  OpenClaim.holds_of_cond 9 Try.f9 rfl rfl rfl rfl rfl rfl rfl ⟨rfl, rfl, rfl, rfl, rfl⟩ rfl rfl rfl rfl rfl (by kernel_rfl) Try.func9 (by kernel_rfl)
    (of_decide_eq_true (by kernel_rfl)) (by unfold Func.isWrapper; first | (rw [if_pos (by decide +kernel)]; kernel_rfl) | (rw [if_neg (by decide +kernel)]; exact ⟨rfl, rfl⟩))
    (fun os started H enc _ F => cellsFound.lifted os started H enc F)
#print axioms cellsFound_holds

end Go.Proofs.Ytkjfojbnghbkdaa
