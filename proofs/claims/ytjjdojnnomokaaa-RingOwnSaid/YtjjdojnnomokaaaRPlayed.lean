import Derived.Test.YtjjdojnnomokaaaRPlay
import Derived.Deep.RegionHeld3
set_option linter.unusedSimpArgs false
set_option linter.unusedVariables false
namespace Go.Proofs.Ytjjdojnnomokaaa
open Go.RowKit Go.Proofs.YtjjdojnnomokaaaW.PrintWords Go.Proofs.YtjjdojnnomokaaaW.PrintMore Go.Proofs.YtjjdojnnomokaaaW.PrintLast
/-! Two new rings; any calls of them. -/
theorem neq_nil (b : Nat) (w : World) : (binOp .neq 33 (.pointer (some ⟨b, 0, none⟩)) (.pointer none)).run Try.prog w = .ok (.bool true) w := by kernel_rfl
set_option maxHeartbeats 4000000 in
theorem begun_any (w : World) : Calls Try.prog 27 #[] w fun e w' => ∃ b0 b1 : Nat, e = .returned (.tuple #[.agg #[.pointer (some ⟨b0, 0, none⟩), .pointer (some ⟨b1, 0, none⟩), .slice none 0 0, .bool false, .int .i64 0, .int .i64 0, .int .u64 0, .slice none 0 0, .bool false, .int .i64 0, .int .i64 0, .int .u64 0, .int .i64 0], .bool true]) ∧ w.heap.size ≤ b0 ∧ b0 < b1 ∧ IsRing w' b0 Rg.new ∧ IsRing w' b1 Rg.new ∧ Below w.heap.size w w' := by
  have hq := neq_nil
  go_enter Try.func27, Try.ntmps27
  go_wp2_with fail
  have hW : Below w.heap.size w (w.alloc (.cells #[.pointer none, .pointer none, .slice none 0 0, .bool false, .int .i64 0, .int .i64 0, .int .u64 0, .slice none 0 0, .bool false, .int .i64 0, .int .i64 0, .int .u64 0, .int .i64 0] 55)) := below_al (Below.refl _ _) _
  have hRR : (w.alloc (.cells #[.pointer none, .pointer none, .slice none 0 0, .bool false, .int .i64 0, .int .i64 0, .int .u64 0, .slice none 0 0, .bool false, .int .i64 0, .int .i64 0, .int .u64 0, .int .i64 0] 55)).heap[w.heap.size]? = some (.cells #[.pointer none, .pointer none, .slice none 0 0, .bool false, .int .i64 0, .int .i64 0, .int .u64 0, .slice none 0 0, .bool false, .int .i64 0, .int .i64 0, .int .u64 0, .int .i64 0] 55 (0, 0)) := blk_new _ _
  refine (new_any _).mono ?_
  rintro e w1 ⟨b0, rfl, hb0, hI0, hB1⟩
  have hR1 := blk_below hRR hB1
  have hC1 := below_then hW hB1
  have hb0' : w.heap.size < b0 := by have := lt_blk hRR; omega
  clear hRR hW hB1 hb0
  go_wp2_with fail
  refine (new_any _).mono ?_
  rintro e w2 ⟨b1, rfl, hb1, hI1, hB2⟩
  have hR2 := blk_below hR1 hB2
  have hC2 := below_then hC1 hB2
  have hI2 := hI0.below hB2
  have hb01 : b0 < b1 := by have := hI0.lt; omega
  clear hI0 hR1 hC1 hB2 hb1
  have hRl := lt_blk hR2
  have hb0l := hI2.lt
  have hb1l := hI1.lt
  have hq0 := hq b0
  have hq1 := hq b1
  clear hq
  go_wp2_with fail
  have hA2 : Below w2.heap.size w2 (w2.alloc (.cells #[.pointer (some ⟨b0, 0, none⟩), .pointer (some ⟨b1, 0, none⟩), .slice none 0 0, .bool false, .int .i64 0, .int .i64 0, .int .u64 0, .slice none 0 0, .bool false, .int .i64 0, .int .i64 0, .int .u64 0, .int .i64 0] 55)) := below_al (Below.refl _ _) _
  have hG3 : (w2.alloc (.cells #[.pointer (some ⟨b0, 0, none⟩), .pointer (some ⟨b1, 0, none⟩), .slice none 0 0, .bool false, .int .i64 0, .int .i64 0, .int .u64 0, .slice none 0 0, .bool false, .int .i64 0, .int .i64 0, .int .u64 0, .int .i64 0] 55)).heap[w2.heap.size]? = some (.cells #[.pointer (some ⟨b0, 0, none⟩), .pointer (some ⟨b1, 0, none⟩), .slice none 0 0, .bool false, .int .i64 0, .int .i64 0, .int .u64 0, .slice none 0 0, .bool false, .int .i64 0, .int .i64 0, .int .u64 0, .int .i64 0] 55 (0, 0)) := blk_new _ _
  have hR3 := blk_below hR2 hA2
  have hC3 := below_then hC2 hA2
  have hI3 := Aside0.mk (hI2.below hA2)
  have hJ3 := Aside0.mk (hI1.below hA2)
  clear hR2 hC2 hI2 hI1 hA2
  generalize w2.alloc (.cells #[.pointer (some ⟨b0, 0, none⟩), .pointer (some ⟨b1, 0, none⟩), .slice none 0 0, .bool false, .int .i64 0, .int .i64 0, .int .u64 0, .slice none 0 0, .bool false, .int .i64 0, .int .i64 0, .int .u64 0, .int .i64 0] 55) = W at *
  have c0 : W.cell? ⟨w2.heap.size, 0, none⟩ = some (.pointer (some ⟨b0, 0, none⟩)) := cell_blk hG3 0; have c1 : W.cell? ⟨w2.heap.size, 1, none⟩ = some (.pointer (some ⟨b1, 0, none⟩)) := cell_blk hG3 1; have c2 : W.cell? ⟨w2.heap.size, 2, none⟩ = some (.slice none 0 0) := cell_blk hG3 2; have c3 : W.cell? ⟨w2.heap.size, 3, none⟩ = some (.bool false) := cell_blk hG3 3; have c4 : W.cell? ⟨w2.heap.size, 4, none⟩ = some (.int .i64 0) := cell_blk hG3 4; have c5 : W.cell? ⟨w2.heap.size, 5, none⟩ = some (.int .i64 0) := cell_blk hG3 5; have c6 : W.cell? ⟨w2.heap.size, 6, none⟩ = some (.int .u64 0) := cell_blk hG3 6; have c7 : W.cell? ⟨w2.heap.size, 7, none⟩ = some (.slice none 0 0) := cell_blk hG3 7; have c8 : W.cell? ⟨w2.heap.size, 8, none⟩ = some (.bool false) := cell_blk hG3 8; have c9 : W.cell? ⟨w2.heap.size, 9, none⟩ = some (.int .i64 0) := cell_blk hG3 9; have c10 : W.cell? ⟨w2.heap.size, 10, none⟩ = some (.int .i64 0) := cell_blk hG3 10; have c11 : W.cell? ⟨w2.heap.size, 11, none⟩ = some (.int .u64 0) := cell_blk hG3 11; have c12 : W.cell? ⟨w2.heap.size, 12, none⟩ = some (.int .i64 0) := cell_blk hG3 12
  have r0 : W.cell? ⟨w.heap.size, 0, none⟩ = some (.pointer none) := cell_blk hR3 0; have r1 : W.cell? ⟨w.heap.size, 1, none⟩ = some (.pointer none) := cell_blk hR3 1; have r2 : W.cell? ⟨w.heap.size, 2, none⟩ = some (.slice none 0 0) := cell_blk hR3 2; have r3 : W.cell? ⟨w.heap.size, 3, none⟩ = some (.bool false) := cell_blk hR3 3; have r4 : W.cell? ⟨w.heap.size, 4, none⟩ = some (.int .i64 0) := cell_blk hR3 4; have r5 : W.cell? ⟨w.heap.size, 5, none⟩ = some (.int .i64 0) := cell_blk hR3 5; have r6 : W.cell? ⟨w.heap.size, 6, none⟩ = some (.int .u64 0) := cell_blk hR3 6; have r7 : W.cell? ⟨w.heap.size, 7, none⟩ = some (.slice none 0 0) := cell_blk hR3 7; have r8 : W.cell? ⟨w.heap.size, 8, none⟩ = some (.bool false) := cell_blk hR3 8; have r9 : W.cell? ⟨w.heap.size, 9, none⟩ = some (.int .i64 0) := cell_blk hR3 9; have r10 : W.cell? ⟨w.heap.size, 10, none⟩ = some (.int .i64 0) := cell_blk hR3 10; have r11 : W.cell? ⟨w.heap.size, 11, none⟩ = some (.int .u64 0) := cell_blk hR3 11; have r12 : W.cell? ⟨w.heap.size, 12, none⟩ = some (.int .i64 0) := cell_blk hR3 12; have f0 : W.frozen? ⟨w.heap.size, 0, none⟩ = false := frozen_blk hR3 0; have f1 : W.frozen? ⟨w.heap.size, 1, none⟩ = false := frozen_blk hR3 1; have f2 : W.frozen? ⟨w.heap.size, 2, none⟩ = false := frozen_blk hR3 2; have f3 : W.frozen? ⟨w.heap.size, 3, none⟩ = false := frozen_blk hR3 3; have f4 : W.frozen? ⟨w.heap.size, 4, none⟩ = false := frozen_blk hR3 4; have f5 : W.frozen? ⟨w.heap.size, 5, none⟩ = false := frozen_blk hR3 5; have f6 : W.frozen? ⟨w.heap.size, 6, none⟩ = false := frozen_blk hR3 6; have f7 : W.frozen? ⟨w.heap.size, 7, none⟩ = false := frozen_blk hR3 7; have f8 : W.frozen? ⟨w.heap.size, 8, none⟩ = false := frozen_blk hR3 8; have f9 : W.frozen? ⟨w.heap.size, 9, none⟩ = false := frozen_blk hR3 9; have f10 : W.frozen? ⟨w.heap.size, 10, none⟩ = false := frozen_blk hR3 10; have f11 : W.frozen? ⟨w.heap.size, 11, none⟩ = false := frozen_blk hR3 11; have f12 : W.frozen? ⟨w.heap.size, 12, none⟩ = false := frozen_blk hR3 12
  have hGl := lt_blk hG3
  have hRW := lt_blk hR3
  go_region
  go_wp2
  refine bodyPost_ret (v := .tuple #[.agg #[.pointer (some ⟨b0, 0, none⟩), .pointer (some ⟨b1, 0, none⟩), .slice none 0 0, .bool false, .int .i64 0, .int .i64 0, .int .u64 0, .slice none 0 0, .bool false, .int .i64 0, .int .i64 0, .int .u64 0, .int .i64 0], .bool true]) (by simp [results, Try.results27, go_sem, r0, r1, r2, r3, r4, r5, r6, r7, r8, r9, r10, r11, r12]) rfl ⟨b0, b1, rfl, by omega, hb01, hI3.out.keep (F := fun k => k = w.heap.size) (by repeat (first | (with_reducible exact Keep.refl _ _) | (with_reducible refine Keep.drewN ?_ _) | (with_reducible refine Keep.drew ?_) | (with_reducible refine Keep.setCell ?_ _ _ (by first | (right; with_reducible rfl) | (left; simp; done) | (left; simp; omega) | (right; simp; done) | (right; assumption))) | (with_reducible refine Keep.alloc ?_ _))) (by omega), hJ3.out.keep (F := fun k => k = w.heap.size) (by repeat (first | (with_reducible exact Keep.refl _ _) | (with_reducible refine Keep.drewN ?_ _) | (with_reducible refine Keep.drew ?_) | (with_reducible refine Keep.setCell ?_ _ _ (by first | (right; with_reducible rfl) | (left; simp; done) | (left; simp; omega) | (right; simp; done) | (right; assumption))) | (with_reducible refine Keep.alloc ?_ _))) (by omega), (by repeat (first | (with_reducible exact hC3) | (with_reducible refine Below.drew ?_) | (with_reducible refine below_drewN ?_ _) | (with_reducible refine below_al ?_ _) | (with_reducible refine Below.alloc ?_ (by first | exact Nat.le_refl _ | omega | (simp; done) | (simp; omega)) _) | (with_reducible refine Below.setCell ?_ (by first | (simp only []; omega) | (simp; done) | (simp; omega)) _)))⟩
end Go.Proofs.Ytjjdojnnomokaaa
