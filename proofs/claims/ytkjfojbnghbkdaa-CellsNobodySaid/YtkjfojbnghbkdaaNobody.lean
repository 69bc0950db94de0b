/- CellsNobody: cells that nobody made (nil ones, and a Cells that New did not give) answer ErrArg, and hold nothing, whatever is asked. No condition. -/
import Derived.Test.YtkjfojbnghbkdaaCellsF
namespace Go.Proofs.Ytkjfojbnghbkdaa
open Go.RowKit Go.ChangeShapes Go.WideShapes Go.ChangeAt Go.Proofs.YtkjfojbnghbkdaaW.PrintWords

set_option maxRecDepth 100000 in
set_option maxHeartbeats 4000000 in
theorem cellsNobody.walk (w : World) (cs : Array Value) (o : COp) (hK : kOp.K w o cs.toList) (_ : True) : Calls Try.prog 6 #[.agg cs] w fun e w' => e = .returned (.bool true) ∧ Below w.heap.size w w' := by
  obtain rfl : cs = o.cells := Array.toList_inj.1 (kOp_open hK)
  clear hK
  unfold COp.cells
  go_enter Try.func6, Try.ntmps6
  go_wp2
  go_loopw [4] (fun i wr => ∃ k : Nat, k ≤ 2 ∧ i = .int .i64 k ∧ Below w.heap.size w wr ∧ wr.heap[w.heap.size]? = some (.cells #[.int .i64 o.k, .int .i64 o.c, .int .i64 o.o, .int .i64 o.v] 45 (0, 0))) (fun i _ => 2 - (intOf i).toNat)
  case atStart => exact ⟨0, by omega, rfl, (by repeat (first | (with_reducible exact Below.refl _ _) | (with_reducible refine Below.drew ?_) | (with_reducible refine below_drewN ?_ _) | (with_reducible refine below_al ?_ _) | (with_reducible refine Below.alloc ?_ (by first | exact Nat.le_refl _ | omega | (simp; done) | (simp; omega)) _) | (with_reducible refine Below.setCell ?_ (by first | (simp only []; omega) | (simp; done) | (simp; omega)) _))), blk_new _ _⟩
  case round =>
    obtain ⟨k, hk, rfl, HB, HO0⟩ := hrel
    rcases (by omega : k = 0 ∨ k = 1 ∨ k = 2) with rfl | rfl | rfl
    · have hl0 := lt_blk HO0
      have c01 := cell_blk HO0 1
      have c02 := cell_blk HO0 2
      have c03 := cell_blk HO0 3
      simp at c01 c02 c03
      have N0 : Nobody wr (.pointer none) := .inl rfl
      have X0 : Below w.heap.size w wr := HB
      go_wp2_with fail
      refine (load_nobody (.pointer none) o.c _ (N0 : Nobody _ _)).mono ?_
      rintro e w1 ⟨rfl, hB1⟩
      have X1' := below_then X0 hB1
      have HO1 := blk_below HO0 hB1
      have hl1 := lt_blk HO1
      have c11 := cell_blk HO1 1
      have c12 := cell_blk HO1 2
      have c13 := cell_blk HO1 3
      simp at c11 c12 c13
      clear c01 c02 c03
      unfold Acc.val Acc.zero
      have X1 : Below w.heap.size w (w1.alloc (.cells #[.int .i64 0, .int .i64 0, .int .i64 0, .int .i64 0, .bool false] 28)) := below_al X1' _
      have N1 : Nobody (w1.alloc (.cells #[.int .i64 0, .int .i64 0, .int .i64 0, .int .i64 0, .bool false] 28)) (.pointer none) := N0.below (below_al hB1 _)
      go_wp2_with fail
      refine (store_nobody (.pointer none) o.c o.v _ (N1 : Nobody _ _)).mono ?_
      rintro e w2 ⟨rfl, hB2⟩
      have X2' := below_then X1 hB2
      have HO2 := blk_below (blk_alloc HO1) hB2
      have hl2 := lt_blk HO2
      have c21 := cell_blk HO2 1
      have c22 := cell_blk HO2 2
      have c23 := cell_blk HO2 3
      simp at c21 c22 c23
      clear c11 c12 c13
      unfold Acc.val Acc.zero
      have X2 : Below w.heap.size w (w2.alloc (.cells #[.int .i64 0, .int .i64 0, .int .i64 0, .int .i64 0, .bool false] 28)) := below_al X2' _
      have N2 : Nobody (w2.alloc (.cells #[.int .i64 0, .int .i64 0, .int .i64 0, .int .i64 0, .bool false] 28)) (.pointer none) := N1.below (below_al hB2 _)
      go_wp2_with fail
      refine (swap_nobody (.pointer none) o.c o.o o.v _ (N2 : Nobody _ _)).mono ?_
      rintro e w3 ⟨rfl, hB3⟩
      have X3' := below_then X2 hB3
      have HO3 := blk_below (blk_alloc HO2) hB3
      have hl3 := lt_blk HO3
      have c31 := cell_blk HO3 1
      have c32 := cell_blk HO3 2
      have c33 := cell_blk HO3 3
      simp at c31 c32 c33
      clear c21 c22 c23
      unfold Acc.val Acc.zero
      have X3 : Below w.heap.size w (w3.alloc (.cells #[.int .i64 0, .int .i64 0, .int .i64 0, .int .i64 0, .bool false] 28)) := below_al X3' _
      have N3 : Nobody (w3.alloc (.cells #[.int .i64 0, .int .i64 0, .int .i64 0, .int .i64 0, .bool false] 28)) (.pointer none) := N2.below (below_al hB3 _)
      go_wp2_with fail
      refine (add_nobody (.pointer none) o.c o.v _ (N3 : Nobody _ _)).mono ?_
      rintro e w4 ⟨rfl, hB4⟩
      have X4' := below_then X3 hB4
      have HO4 := blk_below (blk_alloc HO3) hB4
      have hl4 := lt_blk HO4
      have c41 := cell_blk HO4 1
      have c42 := cell_blk HO4 2
      have c43 := cell_blk HO4 3
      simp at c41 c42 c43
      clear c31 c32 c33
      unfold Acc.val Acc.zero
      have X4 : Below w.heap.size w (w4.alloc (.cells #[.int .i64 0, .int .i64 0, .int .i64 0, .int .i64 0, .bool false] 28)) := below_al X4' _
      have N4 : Nobody (w4.alloc (.cells #[.int .i64 0, .int .i64 0, .int .i64 0, .int .i64 0, .bool false] 28)) (.pointer none) := N3.below (below_al hB4 _)
      go_wp2_with fail
      refine (len_nobody (.pointer none) _ N4).mono ?_
      rintro e w5 ⟨rfl, rfl⟩
      go_wp2_with fail
      refine (values_nobody (.pointer none) _ N4).mono ?_
      rintro e w6 ⟨rfl, rfl⟩
      go_wp2
      go_roundw
      case rel => exact ⟨1, by omega, by go_num, X4, blk_alloc HO4⟩
      case measure => simp [intOf]
    · have hl0 := lt_blk HO0
      have c01 := cell_blk HO0 1
      have c02 := cell_blk HO0 2
      have c03 := cell_blk HO0 3
      simp at c01 c02 c03
      have N0 : Nobody (wr.alloc (.cells #[.bool false, .slice none 0 0] 47)) (.pointer (some ⟨wr.heap.size, 0, none⟩)) := .inr ⟨_, rfl, blk_new _ _⟩
      have X0 : Below w.heap.size w (wr.alloc (.cells #[.bool false, .slice none 0 0] 47)) := below_al HB _
      have HO0' := HO0
      go_wp2_with fail
      refine (load_nobody (.pointer (some ⟨wr.heap.size, 0, none⟩)) o.c _ (N0 : Nobody _ _)).mono ?_
      rintro e w1 ⟨rfl, hB1⟩
      have X1' := below_then X0 hB1
      have HO1 := blk_below (blk_alloc HO0) hB1
      have hl1 := lt_blk HO1
      have c11 := cell_blk HO1 1
      have c12 := cell_blk HO1 2
      have c13 := cell_blk HO1 3
      simp at c11 c12 c13
      clear c01 c02 c03
      unfold Acc.val Acc.zero
      have X1 : Below w.heap.size w (w1.alloc (.cells #[.int .i64 0, .int .i64 0, .int .i64 0, .int .i64 0, .bool false] 28)) := below_al X1' _
      have N1 : Nobody (w1.alloc (.cells #[.int .i64 0, .int .i64 0, .int .i64 0, .int .i64 0, .bool false] 28)) (.pointer (some ⟨wr.heap.size, 0, none⟩)) := N0.below (below_al hB1 _)
      go_wp2_with fail
      refine (store_nobody (.pointer (some ⟨wr.heap.size, 0, none⟩)) o.c o.v _ (N1 : Nobody _ _)).mono ?_
      rintro e w2 ⟨rfl, hB2⟩
      have X2' := below_then X1 hB2
      have HO2 := blk_below (blk_alloc HO1) hB2
      have hl2 := lt_blk HO2
      have c21 := cell_blk HO2 1
      have c22 := cell_blk HO2 2
      have c23 := cell_blk HO2 3
      simp at c21 c22 c23
      clear c11 c12 c13
      unfold Acc.val Acc.zero
      have X2 : Below w.heap.size w (w2.alloc (.cells #[.int .i64 0, .int .i64 0, .int .i64 0, .int .i64 0, .bool false] 28)) := below_al X2' _
      have N2 : Nobody (w2.alloc (.cells #[.int .i64 0, .int .i64 0, .int .i64 0, .int .i64 0, .bool false] 28)) (.pointer (some ⟨wr.heap.size, 0, none⟩)) := N1.below (below_al hB2 _)
      go_wp2_with fail
      refine (swap_nobody (.pointer (some ⟨wr.heap.size, 0, none⟩)) o.c o.o o.v _ (N2 : Nobody _ _)).mono ?_
      rintro e w3 ⟨rfl, hB3⟩
      have X3' := below_then X2 hB3
      have HO3 := blk_below (blk_alloc HO2) hB3
      have hl3 := lt_blk HO3
      have c31 := cell_blk HO3 1
      have c32 := cell_blk HO3 2
      have c33 := cell_blk HO3 3
      simp at c31 c32 c33
      clear c21 c22 c23
      unfold Acc.val Acc.zero
      have X3 : Below w.heap.size w (w3.alloc (.cells #[.int .i64 0, .int .i64 0, .int .i64 0, .int .i64 0, .bool false] 28)) := below_al X3' _
      have N3 : Nobody (w3.alloc (.cells #[.int .i64 0, .int .i64 0, .int .i64 0, .int .i64 0, .bool false] 28)) (.pointer (some ⟨wr.heap.size, 0, none⟩)) := N2.below (below_al hB3 _)
      go_wp2_with fail
      refine (add_nobody (.pointer (some ⟨wr.heap.size, 0, none⟩)) o.c o.v _ (N3 : Nobody _ _)).mono ?_
      rintro e w4 ⟨rfl, hB4⟩
      have X4' := below_then X3 hB4
      have HO4 := blk_below (blk_alloc HO3) hB4
      have hl4 := lt_blk HO4
      have c41 := cell_blk HO4 1
      have c42 := cell_blk HO4 2
      have c43 := cell_blk HO4 3
      simp at c41 c42 c43
      clear c31 c32 c33
      unfold Acc.val Acc.zero
      have X4 : Below w.heap.size w (w4.alloc (.cells #[.int .i64 0, .int .i64 0, .int .i64 0, .int .i64 0, .bool false] 28)) := below_al X4' _
      have N4 : Nobody (w4.alloc (.cells #[.int .i64 0, .int .i64 0, .int .i64 0, .int .i64 0, .bool false] 28)) (.pointer (some ⟨wr.heap.size, 0, none⟩)) := N3.below (below_al hB4 _)
      go_wp2_with fail
      refine (len_nobody (.pointer (some ⟨wr.heap.size, 0, none⟩)) _ N4).mono ?_
      rintro e w5 ⟨rfl, rfl⟩
      go_wp2_with fail
      refine (values_nobody (.pointer (some ⟨wr.heap.size, 0, none⟩)) _ N4).mono ?_
      rintro e w6 ⟨rfl, rfl⟩
      go_wp2
      go_roundw
      case rel => exact ⟨2, by omega, by go_num, X4, blk_alloc HO4⟩
      case measure => simp [intOf]
    · go_wp2
      go_ret
      exact ⟨rfl, HB⟩
theorem cellsNobody.own : ownKnob Try.prog.godebug = none := by kernel_rfl
theorem cellsNobody.laidOut : laidOutB Try.prog = true := by kernel_rfl
set_option maxRecDepth 100000 in
set_option maxHeartbeats 1000000 in
theorem cellsNobody.lifted (os : Os) (started : os.Started) (H : Type) (enc : TypeId × Value → H)
    : ReturnsInHanded {} Try.checked os 6 .any (Rows.cellsNobodySpec.pre6 enc Try.prog Try.f6 Rows.cellsNobodyRow.domain false) (Rows.cellsNobodySpec.post enc Try.prog Try.f6 false true false false) := by
  refine returnsInHanded_of_change_sized (C := Try.checked) cellsNobody.own started (by kernel_rfl) Try.func6
    (ChangeSpec.witness6 (enc := enc) (C := Try.checked) false ⟨#[], #[.agg #[.int .i64 0, .int .i64 0, .int .i64 0, .int .i64 0]], []⟩ 8 (by kernel_rfl) (by kernel_rfl) (by kernel_rfl) (by kernel_rfl)) ?_
  intro W base args ds gs before hval0 hW hcnd hsz0 _
  have hsz : (DataW.weightsEach Try.prog (Try.f6.params.toList ++ Rows.cellsNobodySpec.plain.varTypes Try.prog) (ds ++ gs)).all (· ≤ reachBytes) = true := hsz0
  have hval : ∀ (j : Nat) t v, Try.f6.params[j]? = some t → args[j]? = some v → Value.okWide Try.prog W .any base t v := hval0
  have hW' := hW
  obtain ⟨p, q, hA0, hV, rfl, hfz, hnd⟩ := hW
  have hA : DataW.TrodAll enc Try.prog W 0 (fun _ => true) true Try.f6.params.toList args.toList ds p := hA0
  rw [Try.params6] at hA hval hsz
  obtain ⟨v0, vs0, d0, ds0, p0, q0, hargs, rfl, rfl, h0, r0⟩ := trodAll_cons hA
  obtain ⟨rfl, rfl, rfl⟩ := trodAll_nil r0
  obtain rfl : args = #[v0] := by cases args; simp_all
  obtain ⟨rfl, rfl⟩ := trodVars_none hV
  have k0 := h0
  have lt0 : ∀ x ∈ p0, x.block < W.heap.size := by obtain ⟨m, hm⟩ := k0; exact DataW.trod_lt m _ _ _ hm
  have W0 := Op.weights_of hsz (j := 0) (t := 45) (d := d0) rfl rfl
  obtain ⟨cs0, rfl, sz0⟩ := okWide_struct Try.underlying45 (hval 0 45 v0 rfl rfl)
  obtain ⟨f0, hf0⟩ := h0
  obtain ⟨a0, hK0, hG0, hM0⟩ := opensOp H enc W _ true f0 _ (d0, p0) hf0 W0
  clear hA0 hval0 hsz0 hsz
  refine (cellsNobody.walk W cs0 a0 hK0 hG0).mono fun e W' ⟨he, bel⟩ => ?_
  subst he
  exact ⟨_, rfl, _, _, _, [], _, [], hW', trodAll_mk1 (shut_bool Try.underlying4 _), (trodAll_cons_mk (Below.trod cellsNobody.laidOut (by kernel_rfl) (of_decide_eq_true (by kernel_rfl)) k0 bel lt0) trodAll_mk0), rfl, bel.frame _, fun h => by cases h⟩
theorem cellsNobody_holds : Rows.CellsNobodySaid :=
  OpenClaim.holds_of_wide 6 Try.f6 rfl rfl rfl rfl rfl rfl rfl ⟨rfl, rfl, rfl, rfl, rfl⟩ rfl rfl rfl rfl rfl (by kernel_rfl) Try.func6 (by kernel_rfl)
    (of_decide_eq_true (by kernel_rfl)) (by unfold Func.isWrapper; first | (rw [if_pos (by decide +kernel)]; kernel_rfl) | (rw [if_neg (by decide +kernel)]; exact ⟨rfl, rfl⟩))
    (fun os started H enc _ => cellsNobody.lifted os started H enc)
#print axioms cellsNobody_holds

end Go.Proofs.Ytkjfojbnghbkdaa
