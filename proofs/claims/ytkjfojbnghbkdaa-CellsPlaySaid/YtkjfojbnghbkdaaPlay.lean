/- CellsPlay: whatever is called on New's cells, each access is told as the document's, and what is in the cells behind each call reads as the document's. No condition. -/
import Derived.Test.YtkjfojbnghbkdaaCellsF
namespace Go.Proofs.Ytkjfojbnghbkdaa
open Go.RowKit Go.ChangeShapes Go.WideShapes Go.ChangeAt Go.Proofs.YtkjfojbnghbkdaaW.PrintWords

set_option maxRecDepth 100000 in
set_option maxHeartbeats 4000000 in
theorem cellsPlay.walk (w : World) (n : Int) (_ : (Lit.int .i64 n).wf = true) (A : Option Addr) (c : Nat) (xs : List COp) (_ : xs.length ≤ c) (hC : kOp.C w A xs.length xs)
    (hG : xs.length * Try.prog.bytesOf 45 ≤ reachBytes ∧ xs.length ≤ 9223372036854775807 ∧ ∀ x ∈ xs, True) :
    Calls Try.prog 7 #[.int .i64 n, .slice A xs.length c] w fun e w' => e = .returned (.bool true) ∧ Below w.heap.size w w' := by
  have hlen := hG.2.1
  clear hG
  have HC := Aside0.mk hC
  clear hC
  have hfn := fitN_le n
  go_enter Try.func7, Try.ntmps7
  go_wp2_with fail
  refine (fit_ok n w).mono ?_
  rintro e w0 ⟨rfl, hB0⟩
  generalize fitN n = N at *
  go_wp2_with fail
  refine (new_ok N hfn w0).mono ?_
  rintro e w1 ⟨rfl, hI, hB⟩
  go_wp2_with fail
  refine (PCellsOwn.rotaref10_New.calls N _ _ w1 (refnew_ok N hfn)).mono ?_
  rintro e w2 ⟨m, rfl, hm, hB2⟩
  have hs1 := hB.size
  have hs0 := hB0.size
  have hI2 := hI.new hB2
  have hlt2 := lt_blk hI2.blk
  have hltI := lt_blk hI.blk
  have HINV : Inv w w2 (w0.heap.size + 1) w0.heap.size (fun k => k ≠ w0.heap.size + 1 ∧ k ≠ w0.heap.size) m (List.replicate N 0) := ⟨hI2, Kd.R_lower (Kd.R_mono (Kd.R_bound hm) (fun k hk => by have := hk.2.1; omega)) (by omega), below_then (below_then hB0 hB) hB2, by omega, by omega⟩
  have HV := Aside0.mk HINV
  clear hI2 hI hm hB2 hB hB0 HINV
  go_wp2
  go_loopw [7, 9, 10] (fun mv ok i wr => ∃ (k : Nat) (ys : List Int), k ≤ xs.length ∧ i = .int .i64 k ∧ ok = .bool true ∧ Aside0 (ys.length = N) ∧ Aside0 (Inv w wr (w0.heap.size + 1) w0.heap.size (fun k => k ≠ w0.heap.size + 1 ∧ k ≠ w0.heap.size) mv ys)) (fun _ _ i _ => xs.length - (intOf i).toNat)
  case atStart => exact ⟨0, _, by omega, rfl, rfl, ⟨by simp⟩, HV⟩
  case round =>
    obtain ⟨k, ys, hk, rfl, rfl, HL, HI⟩ := hrel
    by_cases hlt : k < xs.length
    · obtain ⟨ab, off, rfl, hab⟩ := C_form HC.out (by omega) (by decide)
      obtain ⟨o, ho, h0, h1, h2, h3⟩ := ops_at HC.out k hlt
      replace h0 := (HI.out.below.cell (p := ⟨ab, off + k * 4, none⟩) hab).trans h0
      replace h1 := (HI.out.below.cell (p := ⟨ab, off + k * 4 + 1, none⟩) hab).trans h1
      replace h2 := (HI.out.below.cell (p := ⟨ab, off + k * 4 + 2, none⟩) hab).trans h2
      replace h3 := (HI.out.below.cell (p := ⟨ab, off + k * 4 + 3, none⟩) hab).trans h3
      clear ho
      go_wp2_with fail
      refine (calls_any w _ _ _ _ ys o _ HI.out (by simp)).mono ?_
      rintro e w3 ⟨m', rfl, hI3', _⟩
      have hb1 := lt_blk HI.out.cells.blk
      have hb2 := lt_blk HI.out.cells.vals
      have hI3 := hI3'.mono (Q := fun k => k ≠ w0.heap.size + 1 ∧ k ≠ w0.heap.size) (fun k h => by omega)
      clear hI3' hb1 hb2
      have hl3 : (ck ys o).1.length = N := (ck_length ys o).trans HL.out
      generalize hck : ck ys o = q at hI3 hl3 ⊢
      clear hck
      obtain ⟨zs, ⟨ac, ak, ab', aa, aw⟩, sm⟩ := q
      have HL3 := Aside0.mk hl3
      have HI3 := Aside0.mk hI3
      clear hl3 hI3 h0 h1 h2 h3
      unfold Acc.val
      go_wp2_with fail
      refine (len_any _ _ zs _ HI3.out.cells).mono ?_
      rintro e w' ⟨rfl, rfl⟩
      rw [HL3.out]
      go_wp2_with fail
      refine (values_any _ _ zs _ HI3.out.cells).mono ?_
      rintro e w4 ⟨v, rfl, hv, hB4⟩
      have hm4 := Kd.R_below HI3.out.own hB4
      go_wp2_with fail
      refine (same_ok w4 v m' _ hv hm4 (by have := HI3.out.cells.len; omega)).mono ?_
      rintro e w5 ⟨rfl, hB5⟩
      have hB35 := below_then hB4 hB5
      have HI5 : Inv w w5 (w0.heap.size + 1) w0.heap.size (fun k => k ≠ w0.heap.size + 1 ∧ k ≠ w0.heap.size) m' zs := ⟨HI3.out.cells.new hB35, Kd.R_below HI3.out.own hB35, HI3.out.below.trans (hB35.mono HI3.out.below.size), HI3.out.b0, HI3.out.vb0⟩
      have HV5 := Aside0.mk HI5
      clear hv hm4 hB4 hB5 hB35 HI5
      go_wp2
      go_roundw
      case rel => exact ⟨k + 1, zs, by omega, by go_num, rfl, HL3, HV5⟩
      case measure => simp [intOf]; omega
    · have hd : decide ((k : Int) < (xs.length : Int)) = false := by simp; omega
      have hl2 : ys.length ≤ 4611686018427387904 := by have := HI.out.cells.len; omega
      go_wp2_with fail
      refine (values_any _ _ ys _ HI.out.cells).mono ?_
      rintro e w4 ⟨v, rfl, hv, hB4⟩
      have hm4 := Kd.R_below HI.out.own hB4
      go_wp2_with fail
      refine (same_ok w4 v _ _ hv hm4 hl2).mono ?_
      rintro e w5 ⟨rfl, hB5⟩
      go_wp2_with fail
      refine (awake_any w5).mono ?_
      rintro e w6 ⟨rfl, hB6⟩
      go_wp2
      go_ret
      exact ⟨rfl, HI.out.below.trans ((below_then (below_then hB4 hB5) hB6).mono HI.out.below.size)⟩
theorem cellsPlay.own : ownKnob Try.prog.godebug = none := by kernel_rfl
theorem cellsPlay.laidOut : laidOutB Try.prog = true := by kernel_rfl
set_option maxRecDepth 100000 in
set_option maxHeartbeats 1000000 in
theorem cellsPlay.lifted (os : Os) (started : os.Started) (H : Type) (enc : TypeId × Value → H)
    : ReturnsInHanded {} Try.checked os 7 .any (Rows.cellsPlaySpec.pre6 enc Try.prog Try.f7 Rows.cellsPlayRow.domain false) (Rows.cellsPlaySpec.post enc Try.prog Try.f7 false true false false) := by
  refine returnsInHanded_of_change_sized (C := Try.checked) cellsPlay.own started (by kernel_rfl) Try.func7
    (ChangeSpec.witness6 (enc := enc) (C := Try.checked) false ⟨#[], #[.int .i64 0, .slice none 0 0], []⟩ 8 (by kernel_rfl) (by kernel_rfl) (by kernel_rfl) (by kernel_rfl)) ?_
  intro W base args ds gs before hval0 hW hcnd hsz0 _
  have hsz : (DataW.weightsEach Try.prog (Try.f7.params.toList ++ Rows.cellsPlaySpec.plain.varTypes Try.prog) (ds ++ gs)).all (· ≤ reachBytes) = true := hsz0
  have hval : ∀ (j : Nat) t v, Try.f7.params[j]? = some t → args[j]? = some v → Value.okWide Try.prog W .any base t v := hval0
  have hW' := hW
  obtain ⟨p, q, hA0, hV, rfl, hfz, hnd⟩ := hW
  have hA : DataW.TrodAll enc Try.prog W 0 (fun _ => true) true Try.f7.params.toList args.toList ds p := hA0
  rw [Try.params7] at hA hval hsz
  obtain ⟨v0, vs0, d0, ds0, p0, q0, hargs, rfl, rfl, h0, r0⟩ := trodAll_cons hA
  obtain ⟨v1, vs1, d1, ds1, p1, q1, rfl, rfl, rfl, h1, r1⟩ := trodAll_cons r0
  obtain ⟨rfl, rfl, rfl⟩ := trodAll_nil r1
  obtain rfl : args = #[v0, v1] := by cases args; simp_all
  obtain ⟨rfl, rfl⟩ := trodVars_none hV
  have k0 := h0
  have lt0 : ∀ x ∈ p0, x.block < W.heap.size := by obtain ⟨m, hm⟩ := k0; exact DataW.trod_lt m _ _ _ hm
  have W0 := Op.weights_of hsz (j := 0) (t := 3) (d := d0) rfl rfl
  obtain ⟨n0, rfl⟩ := okWide_int Try.underlying3 (hval 0 3 v0 rfl rfl)
  obtain ⟨f0, hf0⟩ := h0
  obtain ⟨a0, hK0, hG0, hM0⟩ := Op.opens_int Try.underlying3 H enc W _ true f0 _ (d0, p0) hf0 W0
  obtain rfl : n0 = a0 := by have := hK0; simpa [Value.cells, Kd.int, Kd.scalar] using this
  have k1 := h1
  have lt1 : ∀ x ∈ p1, x.block < W.heap.size := by obtain ⟨m, hm⟩ := k1; exact DataW.trod_lt m _ _ _ hm
  have W1 := Op.weights_of hsz (j := 1) (t := 50) (d := d1) rfl rfl
  obtain ⟨A1, len1, cap1, rfl⟩ := okWide_slice Try.underlying50 (hval 1 50 v1 rfl rfl)
  obtain ⟨f1, hf1⟩ := h1
  obtain ⟨a1, hK1, hG1, hM1⟩ := Op.opens_slice Try.underlying50 (by kernel_rfl) (Op.opens_mono opensOp (fun _ _ => trivial) (fun _ => Nat.le_refl _)) H enc W _ true f1 _ (d1, p1) hf1 W1
  obtain ⟨A', c', he1, hc1, hC1⟩ := hK1
  obtain ⟨rfl, rfl, rfl⟩ : A1 = A' ∧ len1 = a1.length ∧ cap1 = c' := by simpa [Value.cells] using he1
  clear hA0 hval0 hsz0 hsz
  refine (cellsPlay.walk W n0 hG0 A1 cap1 a1 hc1 hC1 hG1).mono fun e W' ⟨he, bel⟩ => ?_
  subst he
  exact ⟨_, rfl, _, _, _, [], _, [], hW', trodAll_mk1 (shut_bool Try.underlying4 _), (trodAll_cons_mk (Below.trod cellsPlay.laidOut (by kernel_rfl) (of_decide_eq_true (by kernel_rfl)) k0 bel lt0) (trodAll_cons_mk (Below.trod cellsPlay.laidOut (by kernel_rfl) (of_decide_eq_true (by kernel_rfl)) k1 bel lt1) trodAll_mk0)), rfl, bel.frame _, fun h => by cases h⟩
theorem cellsPlay_holds : Rows.CellsPlaySaid :=
  OpenClaim.holds_of_wide 7 Try.f7 rfl rfl rfl rfl rfl rfl rfl ⟨rfl, rfl, rfl, rfl, rfl⟩ rfl rfl rfl rfl rfl (by kernel_rfl) Try.func7 (by kernel_rfl)
    (of_decide_eq_true (by kernel_rfl)) (by unfold Func.isWrapper; first | (rw [if_pos (by decide +kernel)]; kernel_rfl) | (rw [if_neg (by decide +kernel)]; exact ⟨rfl, rfl⟩))
    (fun os started H enc _ => cellsPlay.lifted os started H enc)
#print axioms cellsPlay_holds

end Go.Proofs.Ytkjfojbnghbkdaa
