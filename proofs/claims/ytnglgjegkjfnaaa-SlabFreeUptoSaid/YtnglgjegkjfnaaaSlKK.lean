/- SlabFree: behind any calls the state is one that the document's Load takes: a free list holds no slot that is alive, and none twice; what was made and is not alive stands in one. Condition (Upto): at most 1048576 items in all. -/
import Derived.Test.YtnglgjegkjfnaaaSlJJ
namespace Go.Proofs.Ytnglgjegkjfnaaa
open Go.RowKit Go.ChangeShapes Go.WideShapes Go.ChangeAt Go.Proofs.YtnglgjegkjfnaaaW.PrintWords Go.Proofs.YtnglgjegkjfnaaaW.PrintMore Go.Proofs.YtnglgjegkjfnaaaW.PrintLast
attribute [local go_sem high] eqG
set_option maxRecDepth 100000 in
set_option maxHeartbeats 8000000 in
theorem SlabFree0.walk (w : World) (L P : Int) (A : Option Addr) (c : Nat) (ops : List SOp) (hC : kSOp.C w A ops.length ops) (hc : ops.length ≤ c) (hl : ops.length ≤ 1048576) :
    Calls Try.prog 4 #[.agg #[.int .i64 L, .int .i64 P, .slice A ops.length c]] w fun e w' => e = .returned (.bool true) ∧ Below w.heap.size w w' := by
  have hW : Below w.heap.size w (w.alloc (.cells #[.int .i64 L, .int .i64 P, .slice A ops.length c] 37)) := below_al (Below.refl _ _) _
  have hX : (w.alloc (.cells #[.int .i64 L, .int .i64 P, .slice A ops.length c] 37)).heap[w.heap.size]? = some (.cells #[.int .i64 L, .int .i64 P, .slice A ops.length c] 37 (0, 0)) := blk_new _ _
  have HF := Aside0.mk (fit_any L P (.slice A ops.length c) ⟨_, _, _, rfl⟩ (w.alloc (.cells #[.int .i64 L, .int .i64 P, .slice A ops.length c] 37)))
  have HC := Aside0.mk hC
  have HW := Aside0.mk hW
  have HX := Aside0.mk hX
  have hXl := lt_blk hX
  have hk := fit_ok L P
  clear hC hX hW
  go_enter Try.func4, Try.ntmps4
  go_wp2_with fail
  generalize (w.alloc (.cells #[.int .i64 L, .int .i64 P, .slice A ops.length c] 37)) = W at *
  refine HF.out.mono ?_
  clear HF
  rintro e w1 ⟨rfl, hB1⟩
  generalize fitL L = L' at *
  generalize fitP P = P' at *
  have hX1 := blk_below HX.out hB1
  have hb01 := below_then HW.out hB1
  have x0 := cell_blk hX1 0; have x1 := cell_blk hX1 1; have x2 := cell_blk hX1 2
  have f0 := frozen_blk hX1 0; have f1 := frozen_blk hX1 1; have f2 := frozen_blk hX1 2
  simp at x0 x1 x2
  have hXl1 := lt_blk hX1
  have hst : Keep (fun i => i = w.heap.size) w1 (((w1.setCell ⟨w.heap.size, 0, none⟩ (.int .i64 L')).setCell ⟨w.heap.size, 1, none⟩ (.int .i64 P')).setCell ⟨w.heap.size, 2, none⟩ (.slice A ops.length c)) := (by repeat (first | (with_reducible exact Keep.refl _ _) | (with_reducible refine Keep.drewN ?_ _) | (with_reducible refine Keep.drew ?_) | (with_reducible refine Keep.setCell ?_ _ _ (by first | (right; with_reducible rfl) | (left; simp; done) | (left; simp; omega) | (right; simp; done) | (right; assumption))) | (with_reducible refine Keep.alloc ?_ _)))
  have hX2 : (((w1.setCell ⟨w.heap.size, 0, none⟩ (.int .i64 L')).setCell ⟨w.heap.size, 1, none⟩ (.int .i64 P')).setCell ⟨w.heap.size, 2, none⟩ (.slice A ops.length c)).heap[w.heap.size]? = some (.cells #[.int .i64 L', .int .i64 P', .slice A ops.length c] 37 (0, 0)) := by
    have := blk_set (i := 2) (u := .slice A ops.length c) (blk_set (i := 1) (u := .int .i64 P') (blk_set (i := 0) (u := .int .i64 L') hX1))
    simpa using this
  have hb02 := below_then_keep hb01 hb01.size hst (fun i hi => by omega)
  have HX2 := Aside0.mk hX2
  have HB2 := Aside0.mk hb02
  clear hB1 hX1 hb01 hst hX2 hb02
  go_wp2_with fail
  generalize (((w1.setCell ⟨w.heap.size, 0, none⟩ (.int .i64 L')).setCell ⟨w.heap.size, 1, none⟩ (.int .i64 P')).setCell ⟨w.heap.size, 2, none⟩ (.slice A ops.length c)) = W2 at *
  clear x0 x1 x2 f0 f1 f2 hXl1
  have hs2 := HB2.out.size
  refine (snew_any L' P' W2).mono ?_
  rintro e w3 ⟨hB3, ⟨-, b, col, rfl, hS3, hc3⟩ | ⟨h0, -⟩⟩
  · have hX3 := blk_below HX2.out hB3
    have x0 := cell_blk hX3 0; have x1 := cell_blk hX3 1; have x2 := cell_blk hX3 2
    simp at x0 x1 x2
    have hXl3 := lt_blk hX3
    have HT := names_any W2 w3 b col L' P' A c ops hB3 hS3 hk (Kd.C_below HC.out HB2.out) hc hl
    have hz3 := hS3.z
    clear hX3
    go_wp2_with fail
    refine HT.mono ?_
    clear HT
    rintro e w4 hNP
    obtain ⟨vh, va, s, had, book, col4, rfl, hA4⟩ := after_names hB3 hz3 hc3 hNP
    have hSt := state_slab w4 hA4.sl hA4.i.wf.l0 hA4.i.wf.ok.bd
    have HI := Aside0.mk hA4.i
    have HB := Aside0.mk (below_then HB2.out hA4.below)
    clear hNP hS3 hB3 hc3 hz3 x0 x1 x2 hXl3 hA4
    go_wp2_with fail
    refine hSt.mono ?_
    clear hSt
    rintro e w5 ⟨vG, vA, vC, vF, vs, colw, rfl, hV, -, hB5⟩
    have hLd := load_ref w5 hV HI.out.wf.ok.bd
    have HB5 := Aside0.mk (below_then HB.out hB5)
    clear hV hB5
    go_wp2_with fail
    refine hLd.mono ?_
    clear hLd
    rintro e w6 ⟨hB6, ⟨h0, -⟩ | ⟨-, -, rfl⟩ | ⟨-, h0, -⟩⟩
    · have hw := HI.out.wf
      have := hw.l0; have := hw.l1; have := hw.c0; have := hw.c1
      rw [okNew_iff.2 ⟨by omega, by omega, by omega, by omega⟩] at h0
      cases h0
    · have HB6 := Aside0.mk (below_then HB5.out hB6)
      clear hB6
      go_wp2_with fail
      refine (awake_any w6).mono ?_
      rintro e w7 ⟨rfl, hB7⟩
      have HB7 := Aside0.mk (below_then HB6.out hB7)
      clear hB7
      go_wp2
      go_ret
      exact ⟨by simp, HB7.out⟩
    · exact absurd HI.out.wf h0
  · rw [hk] at h0
    cases h0
theorem slabFree.walk (w : World) (cs : Array Value) (x : Int × Int × List SOp) (hK : kScr.K w x cs.toList) (_ : True) (hm : x.2.2.length ≤ 1048576) : Calls Try.prog 4 #[.agg cs] w fun e w' => e = .returned (.bool true) ∧ Below w.heap.size w w' := by
  obtain ⟨A, c, hcs, hc, hC⟩ := kScr_open hK
  obtain rfl := Array.toList_inj.1 hcs
  exact SlabFree0.walk w x.1 x.2.1 A c x.2.2 hC hc hm
theorem slabFree.own : ownKnob Try.prog.godebug = none := by kernel_rfl
theorem slabFree.laidOut : laidOutB Try.prog = true := by kernel_rfl
set_option maxRecDepth 100000 in
set_option maxHeartbeats 1000000 in
theorem slabFree.lifted (os : Os) (started : os.Started) (H : Type) (enc : TypeId × Value → H)
  (F : Stop.Interp) : ReturnsInHanded {} Try.checked os 4 .any ((Rows.OpenSpec.upto Rows.slabFreeSpec).pre6 enc Try.prog Try.f4 Rows.slabFreeUptoRow.domain false) (((Rows.OpenSpec.upto Rows.slabFreeSpec).at F).post enc Try.prog Try.f4 false true false false) := by
  refine returnsInHanded_of_cond_sized (C := Try.checked) (s := Rows.OpenSpec.upto Rows.slabFreeSpec) (k := Rows.uptoSmall) rfl slabFree.own started (by kernel_rfl) Try.func4
    (OpenSpec.witness (enc := enc) (C := Try.checked) (s := Rows.OpenSpec.upto Rows.slabFreeSpec) (k := Rows.uptoSmall) rfl false ⟨#[], #[.agg #[.int .i64 0, .int .i64 0, .slice none 0 0]], []⟩ 8 (by kernel_rfl) (by kernel_rfl) (by kernel_rfl)
      (x := ([.agg [.lit (.int .i64 0), .lit (.int .i64 0), .nil]], [], [])) (by kernel_rfl) rfl (by kernel_rfl)) ?_
  intro W base args ds gs before hval0 hW hcnd hk hsz0 _
  have hsz : (DataW.weightsEach Try.prog (Try.f4.params.toList ++ Rows.slabFreeSpec.plain.varTypes Try.prog) (ds ++ gs)).all (· ≤ reachBytes) = true := hsz0
  have hval : ∀ (j : Nat) t v, Try.f4.params[j]? = some t → args[j]? = some v → Value.okWide Try.prog W .any base t v := hval0
  have hW' := hW
  obtain ⟨p, q, hA0, hV, rfl, hfz, hnd⟩ := hW
  have hA : DataW.TrodAll enc Try.prog W 0 (fun _ => true) true Try.f4.params.toList args.toList ds p := hA0
  rw [Try.params4] at hA hval hsz
  obtain ⟨v0, vs0, d0, ds0, p0, q0, hargs, rfl, rfl, h0, r0⟩ := trodAll_cons hA
  obtain ⟨rfl, rfl, rfl⟩ := trodAll_nil r0
  obtain rfl : args = #[v0] := by cases args; simp_all
  obtain ⟨rfl, rfl⟩ := trodVars_none hV
  have k0 := h0
  have lt0 : ∀ x ∈ p0, x.block < W.heap.size := by obtain ⟨m, hm⟩ := k0; exact DataW.trod_lt m _ _ _ hm
  have W0 := Op.weights_of hsz (j := 0) (t := 37) (d := d0) rfl rfl
  obtain ⟨cs0, rfl, sz0⟩ := okWide_struct Try.underlying37 (hval 0 37 v0 rfl rfl)
  obtain ⟨f0, hf0⟩ := h0
  obtain ⟨a0, hK0, hG0, hM0⟩ := opensScr H enc W _ true f0 _ (d0, p0) hf0 W0
  have hM : Rows.uptoBulk d0 ≤ 1048576 := by
    have := of_decide_eq_true hk
    simp only [List.append_nil, Rows.uptoBulkAll] at this
    omega
  have hMM := Nat.le_trans hM0 hM
  clear hA0 hval0 hsz0 hsz
  refine (slabFree.walk W cs0 a0 hK0 hG0 hMM).mono fun e W' ⟨he, bel⟩ => ?_
  subst he
  exact ⟨_, rfl, _, _, _, [], _, [], hW', trodAll_mk1 (shut_bool Try.underlying4 _), (trodAll_cons_mk (Below.trod slabFree.laidOut (by kernel_rfl) (of_decide_eq_true (by kernel_rfl)) k0 bel lt0) trodAll_mk0), rfl, bel.frame _, fun h => by cases h⟩
theorem slabFree_holds : Rows.SlabFreeUptoSaid :=
  OpenClaim.holds_of_cond 4 Try.f4 rfl rfl rfl rfl rfl rfl rfl ⟨rfl, rfl, rfl, rfl, rfl⟩ rfl rfl rfl rfl rfl (by kernel_rfl) Try.func4 (by kernel_rfl)
    (of_decide_eq_true (by kernel_rfl)) (by unfold Func.isWrapper; first | (rw [if_pos (by decide +kernel)]; kernel_rfl) | (rw [if_neg (by decide +kernel)]; exact ⟨rfl, rfl⟩))
    (fun os started H enc _ F => slabFree.lifted os started H enc F)
#print axioms slabFree_holds

end Go.Proofs.Ytnglgjegkjfnaaa
