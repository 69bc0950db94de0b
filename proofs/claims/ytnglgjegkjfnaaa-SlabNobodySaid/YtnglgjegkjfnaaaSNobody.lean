/- SlabNobody: a nil slab, and a plain one, answer so. No condition. -/
import Derived.Test.YtnglgjegkjfnaaaSlabA
import Derived.Test.YtnglgjegkjfnaaaOpen
namespace Go.Proofs.Ytnglgjegkjfnaaa
open Go.RowKit Go.ChangeShapes Go.WideShapes Go.ChangeAt Go.Proofs.YtnglgjegkjfnaaaW.PrintWords Go.Proofs.YtnglgjegkjfnaaaW.PrintMore
def kSO : Kd (Int × Int × Int × Int × Int) := Kd.pair (Kd.int .i64) (Kd.pair (Kd.int .i64) (Kd.pair (Kd.int .i64) (Kd.pair (Kd.int .i64) (Kd.int .i64))))
theorem kSO_open {w : World} {x : Int × Int × Int × Int × Int} {cs : List Value} (h : kSO.K w x cs) : cs = [.int .i64 x.1, .int .i64 x.2.1, .int .i64 x.2.2.1, .int .i64 x.2.2.2.1, .int .i64 x.2.2.2.2] := by
  obtain ⟨_, _, rfl, rfl, _, _, rfl, rfl, _, _, rfl, rfl, _, _, rfl, rfl, rfl⟩ := h
  rfl
theorem opensSO : Op.Opens Try.prog kSO 55 (fun _ => True) (fun _ => 1) :=
  Op.opens_mono (Op.opens_struct Try.underlying55 (by kernel_rfl) (Op.opensF_cons rfl (by kernel_rfl) (by decide) (Op.opens_int Try.underlying3) (Op.opensF_cons rfl (by kernel_rfl) (by decide) (Op.opens_int Try.underlying3) (Op.opensF_cons rfl (by kernel_rfl) (by decide) (Op.opens_int Try.underlying3)
    (Op.opensF_last rfl (by kernel_rfl) (Op.opens_struct Try.underlying48 (by kernel_rfl) (Op.opensF_cons rfl (by kernel_rfl) (by decide) (Op.opens_int Try.underlying3) (Op.opensF_last rfl (by kernel_rfl) (Op.opens_int Try.underlying3)))))))) ) (fun _ _ => trivial) (fun _ => by simp)
set_option maxHeartbeats 4000000 in
theorem SlabNobody0.walk (w : World) (o0 o1 o2 o3 o4 : Int) :
    Calls Try.prog 7 #[.agg #[.int .i64 o0, .int .i64 o1, .int .i64 o2, .int .i64 o3, .int .i64 o4]] w fun e w' => e = .returned (.bool true) ∧ Below w.heap.size w w' := by
  have hg : ∀ w : World, (binOp .neq 48 (.agg #[.int .i64 0, .int .i64 0]) (.agg #[.int .i64 0, .int .i64 0])).run Try.prog w = .ok (.bool false) w := fun _ => by kernel_rfl
  have hO : (w.alloc (.cells #[.int .i64 o0, .int .i64 o1, .int .i64 o2, .int .i64 o3, .int .i64 o4] 55)).heap[w.heap.size]? = some (.cells #[.int .i64 o0, .int .i64 o1, .int .i64 o2, .int .i64 o3, .int .i64 o4] 55 (0, 0)) := blk_new _ _
  have hB : Below w.heap.size w (w.alloc (.cells #[.int .i64 o0, .int .i64 o1, .int .i64 o2, .int .i64 o3, .int .i64 o4] 55)) := (by repeat (first | (with_reducible exact Below.refl _ _) | (with_reducible refine Below.drew ?_) | (with_reducible refine below_drewN ?_ _) | (with_reducible refine below_al ?_ _) | (with_reducible refine Below.alloc ?_ (by first | exact Nat.le_refl _ | omega | (simp; done) | (simp; omega)) _) | (with_reducible refine Below.setCell ?_ (by first | (simp only []; omega) | (simp; done) | (simp; omega)) _)))
  go_enter Try.func7, Try.ntmps7
  go_wp2_with fail
  generalize w.alloc (.cells #[.int .i64 o0, .int .i64 o1, .int .i64 o2, .int .i64 o3, .int .i64 o4] 55) = W at *
  go_loopw [4] (fun i wr => ∃ k : Nat, k ≤ 2 ∧ i = .int .i64 k ∧ Aside0 (Below w.heap.size w wr) ∧ Aside0 (wr.heap[w.heap.size]? = some (.cells #[.int .i64 o0, .int .i64 o1, .int .i64 o2, .int .i64 o3, .int .i64 o4] 55 (0, 0)))) (fun i _ => 2 - (intOf i).toNat)
  case atStart => exact ⟨0, by omega, rfl, ⟨hB⟩, ⟨hO⟩⟩
  case round =>
    clear hB hO
    obtain ⟨k, hk, rfl, HB, HO⟩ := hrel
    by_cases hlt : k < 2
    · have hp : (k = 0 ∧ NoSlab wr (.pointer none)) ∨ (k = 1 ∧ NoSlab (wr.alloc (.cells #[.int .i64 0, .slice none 0 0, .slice none 0 0, .slice none 0 0, .slice none 0 0] 57)) (.pointer (some ⟨wr.heap.size, 0, none⟩))) := by
        rcases (show k = 0 ∨ k = 1 by omega) with rfl | rfl
        · exact .inl ⟨rfl, .inl rfl⟩
        · exact .inr ⟨rfl, .inr ⟨_, rfl, cell_blk (blk_new _ _) 0, by simp⟩⟩
      rcases hp with ⟨rfl, hn⟩ | ⟨rfl, hn⟩
      · have hB0 : Below w.heap.size w wr := (by repeat (first | (with_reducible exact HB.out) | (with_reducible refine Below.drew ?_) | (with_reducible refine below_drewN ?_ _) | (with_reducible refine below_al ?_ _) | (with_reducible refine Below.alloc ?_ (by first | exact Nat.le_refl _ | omega | (simp; done) | (simp; omega)) _) | (with_reducible refine Below.setCell ?_ (by first | (simp only []; omega) | (simp; done) | (simp; omega)) _)))
        have hO0 : wr.heap[w.heap.size]? = some (.cells #[.int .i64 o0, .int .i64 o1, .int .i64 o2, .int .i64 o3, .int .i64 o4] 55 (0, 0)) := (by repeat (first | (with_reducible exact HO.out) | (with_reducible refine blk_set_ne ?_ (by first | assumption | (with_reducible rfl) | (simp; done) | (simp; omega) | omega)) | (with_reducible refine blk_drewN ?_ _) | (with_reducible refine blk_drew ?_) | (with_reducible refine blk_alloc ?_)))
        have c0 : wr.cell? ⟨w.heap.size, 0, none⟩ = some (.int .i64 o0) := cell_blk hO0 0; have c1 : wr.cell? ⟨w.heap.size, 1, none⟩ = some (.int .i64 o1) := cell_blk hO0 1; have c2 : wr.cell? ⟨w.heap.size, 2, none⟩ = some (.int .i64 o2) := cell_blk hO0 2; have c3 : wr.cell? ⟨w.heap.size, 3, none⟩ = some (.int .i64 o3) := cell_blk hO0 3; have c4 : wr.cell? ⟨w.heap.size, 4, none⟩ = some (.int .i64 o4) := cell_blk hO0 4
        have hl0 := lt_blk hO0
        have HN := Aside0.mk hn
        have hO := Aside0.mk hO0
        clear hn hO0
        go_wp2_with fail
        refine (take_no (.pointer none) o1 _ HN.out).mono ?_
        rintro e w2 ⟨rfl, hB2⟩
        have hA2 : Below w2.heap.size w2 (w2.alloc (.cells #[.int .i64 0, .int .i64 0] 48)) := below_al (Below.refl _ _) _
        have HN2 := Aside0.mk ((HN.out.below hB2).below hA2)
        have hO2 := blk_below (blk_below hO.out hB2) hA2
        have hC2 := below_then (below_then hB0 hB2) hA2
        clear c0 c1 c2 c3 c4 hl0 HN hO hB0
        have c0 : (w2.alloc (.cells #[.int .i64 0, .int .i64 0] 48)).cell? ⟨w.heap.size, 0, none⟩ = some (.int .i64 o0) := cell_blk hO2 0; have c1 : (w2.alloc (.cells #[.int .i64 0, .int .i64 0] 48)).cell? ⟨w.heap.size, 1, none⟩ = some (.int .i64 o1) := cell_blk hO2 1; have c2 : (w2.alloc (.cells #[.int .i64 0, .int .i64 0] 48)).cell? ⟨w.heap.size, 2, none⟩ = some (.int .i64 o2) := cell_blk hO2 2; have c3 : (w2.alloc (.cells #[.int .i64 0, .int .i64 0] 48)).cell? ⟨w.heap.size, 3, none⟩ = some (.int .i64 o3) := cell_blk hO2 3; have c4 : (w2.alloc (.cells #[.int .i64 0, .int .i64 0] 48)).cell? ⟨w.heap.size, 4, none⟩ = some (.int .i64 o4) := cell_blk hO2 4
        have hl2 := lt_blk hO2
        have hO2 := Aside0.mk hO2
        go_wp2_with fail
        refine (give_no (.pointer none) o1 o3 o4 _ HN2.out).mono ?_
        rintro e w3 ⟨rfl, hB3⟩
        have HN3 := Aside0.mk (HN2.out.below hB3)
        have hO3 := blk_below hO2.out hB3
        have hC3 := below_then hC2 hB3
        clear c0 c1 c2 c3 c4 hl2 HN2 hO2 hC2 hB3 hA2 hB2
        have c0 : w3.cell? ⟨w.heap.size, 0, none⟩ = some (.int .i64 o0) := cell_blk hO3 0; have c1 : w3.cell? ⟨w.heap.size, 1, none⟩ = some (.int .i64 o1) := cell_blk hO3 1; have c2 : w3.cell? ⟨w.heap.size, 2, none⟩ = some (.int .i64 o2) := cell_blk hO3 2; have c3 : w3.cell? ⟨w.heap.size, 3, none⟩ = some (.int .i64 o3) := cell_blk hO3 3; have c4 : w3.cell? ⟨w.heap.size, 4, none⟩ = some (.int .i64 o4) := cell_blk hO3 4
        have hl3 := lt_blk hO3
        have hO3 := Aside0.mk hO3
        go_wp2_with fail
        refine (flush_no (.pointer none) o1 _ HN3.out).mono ?_
        rintro e w4 ⟨rfl, hB4⟩
        have HN4 := Aside0.mk (HN3.out.below hB4)
        have hO4 := blk_below hO3.out hB4
        have hC4 := below_then hC3 hB4
        clear c0 c1 c2 c3 c4 hl3 HN3 hO3 hC3 hB4
        have hO4 := Aside0.mk hO4
        go_wp2_with fail
        refine (state_no (.pointer none) _ HN4.out).mono ?_
        rintro e w5 ⟨rfl, hB5⟩
        have hA5 : Below w5.heap.size w5 (w5.alloc (.cells #[.int .i64 0, .slice none 0 0, .slice none 0 0, .slice none 0 0, .slice none 0 0] 30)) := below_al (Below.refl _ _) _
        have hT5 : (w5.alloc (.cells #[.int .i64 0, .slice none 0 0, .slice none 0 0, .slice none 0 0, .slice none 0 0] 30)).heap[w5.heap.size]? = some (.cells #[.int .i64 0, .slice none 0 0, .slice none 0 0, .slice none 0 0, .slice none 0 0] 30 (0, 0)) := blk_new _ _
        have HN5 := Aside0.mk ((HN4.out.below hB5).below hA5)
        have hO5 := blk_below (blk_below hO4.out hB5) hA5
        have hC5 := below_then (below_then hC4 hB5) hA5
        clear HN4 hO4 hC4 hB5 hA5
        have c0 : (w5.alloc (.cells #[.int .i64 0, .slice none 0 0, .slice none 0 0, .slice none 0 0, .slice none 0 0] 30)).cell? ⟨w.heap.size, 0, none⟩ = some (.int .i64 o0) := cell_blk hO5 0; have c1 : (w5.alloc (.cells #[.int .i64 0, .slice none 0 0, .slice none 0 0, .slice none 0 0, .slice none 0 0] 30)).cell? ⟨w.heap.size, 1, none⟩ = some (.int .i64 o1) := cell_blk hO5 1; have c2 : (w5.alloc (.cells #[.int .i64 0, .slice none 0 0, .slice none 0 0, .slice none 0 0, .slice none 0 0] 30)).cell? ⟨w.heap.size, 2, none⟩ = some (.int .i64 o2) := cell_blk hO5 2; have c3 : (w5.alloc (.cells #[.int .i64 0, .slice none 0 0, .slice none 0 0, .slice none 0 0, .slice none 0 0] 30)).cell? ⟨w.heap.size, 3, none⟩ = some (.int .i64 o3) := cell_blk hO5 3; have c4 : (w5.alloc (.cells #[.int .i64 0, .slice none 0 0, .slice none 0 0, .slice none 0 0, .slice none 0 0] 30)).cell? ⟨w.heap.size, 4, none⟩ = some (.int .i64 o4) := cell_blk hO5 4
        have hl5 := lt_blk hO5
        have hO5 := Aside0.mk hO5
        have hT5 := Aside0.mk hT5
        go_wp2_with fail
        refine (alive_no (.pointer none) o3 o4 _ HN5.out).mono ?_
        rintro e w6 ⟨rfl, hB6⟩
        have HN6 := Aside0.mk (HN5.out.below hB6)
        have hO6 := Aside0.mk (blk_below hO5.out hB6)
        have hT6 := Aside0.mk (blk_below hT5.out hB6)
        have hC6 := below_then hC5 hB6
        clear c0 c1 c2 c3 c4 hl5 HN5 hO5 hT5 hC5 hB6
        go_wp2_with fail
        refine (live_no (.pointer none) _ HN6.out).mono ?_
        rintro e w7 ⟨rfl, hB7⟩
        have hO7 := Aside0.mk (blk_below hO6.out hB7)
        have hT7 := blk_below hT6.out hB7
        have hC7 := below_then hC6 hB7
        obtain ⟨t0, t1, t2, t3, t4⟩ : w7.cell? ⟨w5.heap.size, 0, none⟩ = some (.int .i64 0) ∧ w7.cell? ⟨w5.heap.size, 1, none⟩ = some (.slice none 0 0) ∧ w7.cell? ⟨w5.heap.size, 2, none⟩ = some (.slice none 0 0) ∧ w7.cell? ⟨w5.heap.size, 3, none⟩ = some (.slice none 0 0) ∧ w7.cell? ⟨w5.heap.size, 4, none⟩ = some (.slice none 0 0) := ⟨cell_blk hT7 0, cell_blk hT7 1, cell_blk hT7 2, cell_blk hT7 3, cell_blk hT7 4⟩
        clear HN6 hO6 hT6 hC6 hB7
        go_wp2
        go_roundw
        case rel => exact ⟨1, by omega, by go_num, ⟨hC7⟩, hO7⟩
        case measure => simp [intOf]
      · have hB0 : Below w.heap.size w (wr.alloc (.cells #[.int .i64 0, .slice none 0 0, .slice none 0 0, .slice none 0 0, .slice none 0 0] 57)) := (by repeat (first | (with_reducible exact HB.out) | (with_reducible refine Below.drew ?_) | (with_reducible refine below_drewN ?_ _) | (with_reducible refine below_al ?_ _) | (with_reducible refine Below.alloc ?_ (by first | exact Nat.le_refl _ | omega | (simp; done) | (simp; omega)) _) | (with_reducible refine Below.setCell ?_ (by first | (simp only []; omega) | (simp; done) | (simp; omega)) _)))
        have hO0 : (wr.alloc (.cells #[.int .i64 0, .slice none 0 0, .slice none 0 0, .slice none 0 0, .slice none 0 0] 57)).heap[w.heap.size]? = some (.cells #[.int .i64 o0, .int .i64 o1, .int .i64 o2, .int .i64 o3, .int .i64 o4] 55 (0, 0)) := (by repeat (first | (with_reducible exact HO.out) | (with_reducible refine blk_set_ne ?_ (by first | assumption | (with_reducible rfl) | (simp; done) | (simp; omega) | omega)) | (with_reducible refine blk_drewN ?_ _) | (with_reducible refine blk_drew ?_) | (with_reducible refine blk_alloc ?_)))
        have c0 : (wr.alloc (.cells #[.int .i64 0, .slice none 0 0, .slice none 0 0, .slice none 0 0, .slice none 0 0] 57)).cell? ⟨w.heap.size, 0, none⟩ = some (.int .i64 o0) := cell_blk hO0 0; have c1 : (wr.alloc (.cells #[.int .i64 0, .slice none 0 0, .slice none 0 0, .slice none 0 0, .slice none 0 0] 57)).cell? ⟨w.heap.size, 1, none⟩ = some (.int .i64 o1) := cell_blk hO0 1; have c2 : (wr.alloc (.cells #[.int .i64 0, .slice none 0 0, .slice none 0 0, .slice none 0 0, .slice none 0 0] 57)).cell? ⟨w.heap.size, 2, none⟩ = some (.int .i64 o2) := cell_blk hO0 2; have c3 : (wr.alloc (.cells #[.int .i64 0, .slice none 0 0, .slice none 0 0, .slice none 0 0, .slice none 0 0] 57)).cell? ⟨w.heap.size, 3, none⟩ = some (.int .i64 o3) := cell_blk hO0 3; have c4 : (wr.alloc (.cells #[.int .i64 0, .slice none 0 0, .slice none 0 0, .slice none 0 0, .slice none 0 0] 57)).cell? ⟨w.heap.size, 4, none⟩ = some (.int .i64 o4) := cell_blk hO0 4
        have hl0 := lt_blk hO0
        have HN := Aside0.mk hn
        have hO := Aside0.mk hO0
        clear hn hO0
        go_wp2_with fail
        refine (take_no (.pointer (some ⟨wr.heap.size, 0, none⟩)) o1 _ HN.out).mono ?_
        rintro e w2 ⟨rfl, hB2⟩
        have hA2 : Below w2.heap.size w2 (w2.alloc (.cells #[.int .i64 0, .int .i64 0] 48)) := below_al (Below.refl _ _) _
        have HN2 := Aside0.mk ((HN.out.below hB2).below hA2)
        have hO2 := blk_below (blk_below hO.out hB2) hA2
        have hC2 := below_then (below_then hB0 hB2) hA2
        clear c0 c1 c2 c3 c4 hl0 HN hO hB0
        have c0 : (w2.alloc (.cells #[.int .i64 0, .int .i64 0] 48)).cell? ⟨w.heap.size, 0, none⟩ = some (.int .i64 o0) := cell_blk hO2 0; have c1 : (w2.alloc (.cells #[.int .i64 0, .int .i64 0] 48)).cell? ⟨w.heap.size, 1, none⟩ = some (.int .i64 o1) := cell_blk hO2 1; have c2 : (w2.alloc (.cells #[.int .i64 0, .int .i64 0] 48)).cell? ⟨w.heap.size, 2, none⟩ = some (.int .i64 o2) := cell_blk hO2 2; have c3 : (w2.alloc (.cells #[.int .i64 0, .int .i64 0] 48)).cell? ⟨w.heap.size, 3, none⟩ = some (.int .i64 o3) := cell_blk hO2 3; have c4 : (w2.alloc (.cells #[.int .i64 0, .int .i64 0] 48)).cell? ⟨w.heap.size, 4, none⟩ = some (.int .i64 o4) := cell_blk hO2 4
        have hl2 := lt_blk hO2
        have hO2 := Aside0.mk hO2
        go_wp2_with fail
        refine (give_no (.pointer (some ⟨wr.heap.size, 0, none⟩)) o1 o3 o4 _ HN2.out).mono ?_
        rintro e w3 ⟨rfl, hB3⟩
        have HN3 := Aside0.mk (HN2.out.below hB3)
        have hO3 := blk_below hO2.out hB3
        have hC3 := below_then hC2 hB3
        clear c0 c1 c2 c3 c4 hl2 HN2 hO2 hC2 hB3 hA2 hB2
        have c0 : w3.cell? ⟨w.heap.size, 0, none⟩ = some (.int .i64 o0) := cell_blk hO3 0; have c1 : w3.cell? ⟨w.heap.size, 1, none⟩ = some (.int .i64 o1) := cell_blk hO3 1; have c2 : w3.cell? ⟨w.heap.size, 2, none⟩ = some (.int .i64 o2) := cell_blk hO3 2; have c3 : w3.cell? ⟨w.heap.size, 3, none⟩ = some (.int .i64 o3) := cell_blk hO3 3; have c4 : w3.cell? ⟨w.heap.size, 4, none⟩ = some (.int .i64 o4) := cell_blk hO3 4
        have hl3 := lt_blk hO3
        have hO3 := Aside0.mk hO3
        go_wp2_with fail
        refine (flush_no (.pointer (some ⟨wr.heap.size, 0, none⟩)) o1 _ HN3.out).mono ?_
        rintro e w4 ⟨rfl, hB4⟩
        have HN4 := Aside0.mk (HN3.out.below hB4)
        have hO4 := blk_below hO3.out hB4
        have hC4 := below_then hC3 hB4
        clear c0 c1 c2 c3 c4 hl3 HN3 hO3 hC3 hB4
        have hO4 := Aside0.mk hO4
        go_wp2_with fail
        refine (state_no (.pointer (some ⟨wr.heap.size, 0, none⟩)) _ HN4.out).mono ?_
        rintro e w5 ⟨rfl, hB5⟩
        have hA5 : Below w5.heap.size w5 (w5.alloc (.cells #[.int .i64 0, .slice none 0 0, .slice none 0 0, .slice none 0 0, .slice none 0 0] 30)) := below_al (Below.refl _ _) _
        have hT5 : (w5.alloc (.cells #[.int .i64 0, .slice none 0 0, .slice none 0 0, .slice none 0 0, .slice none 0 0] 30)).heap[w5.heap.size]? = some (.cells #[.int .i64 0, .slice none 0 0, .slice none 0 0, .slice none 0 0, .slice none 0 0] 30 (0, 0)) := blk_new _ _
        have HN5 := Aside0.mk ((HN4.out.below hB5).below hA5)
        have hO5 := blk_below (blk_below hO4.out hB5) hA5
        have hC5 := below_then (below_then hC4 hB5) hA5
        clear HN4 hO4 hC4 hB5 hA5
        have c0 : (w5.alloc (.cells #[.int .i64 0, .slice none 0 0, .slice none 0 0, .slice none 0 0, .slice none 0 0] 30)).cell? ⟨w.heap.size, 0, none⟩ = some (.int .i64 o0) := cell_blk hO5 0; have c1 : (w5.alloc (.cells #[.int .i64 0, .slice none 0 0, .slice none 0 0, .slice none 0 0, .slice none 0 0] 30)).cell? ⟨w.heap.size, 1, none⟩ = some (.int .i64 o1) := cell_blk hO5 1; have c2 : (w5.alloc (.cells #[.int .i64 0, .slice none 0 0, .slice none 0 0, .slice none 0 0, .slice none 0 0] 30)).cell? ⟨w.heap.size, 2, none⟩ = some (.int .i64 o2) := cell_blk hO5 2; have c3 : (w5.alloc (.cells #[.int .i64 0, .slice none 0 0, .slice none 0 0, .slice none 0 0, .slice none 0 0] 30)).cell? ⟨w.heap.size, 3, none⟩ = some (.int .i64 o3) := cell_blk hO5 3; have c4 : (w5.alloc (.cells #[.int .i64 0, .slice none 0 0, .slice none 0 0, .slice none 0 0, .slice none 0 0] 30)).cell? ⟨w.heap.size, 4, none⟩ = some (.int .i64 o4) := cell_blk hO5 4
        have hl5 := lt_blk hO5
        have hO5 := Aside0.mk hO5
        have hT5 := Aside0.mk hT5
        go_wp2_with fail
        refine (alive_no (.pointer (some ⟨wr.heap.size, 0, none⟩)) o3 o4 _ HN5.out).mono ?_
        rintro e w6 ⟨rfl, hB6⟩
        have HN6 := Aside0.mk (HN5.out.below hB6)
        have hO6 := Aside0.mk (blk_below hO5.out hB6)
        have hT6 := Aside0.mk (blk_below hT5.out hB6)
        have hC6 := below_then hC5 hB6
        clear c0 c1 c2 c3 c4 hl5 HN5 hO5 hT5 hC5 hB6
        go_wp2_with fail
        refine (live_no (.pointer (some ⟨wr.heap.size, 0, none⟩)) _ HN6.out).mono ?_
        rintro e w7 ⟨rfl, hB7⟩
        have hO7 := Aside0.mk (blk_below hO6.out hB7)
        have hT7 := blk_below hT6.out hB7
        have hC7 := below_then hC6 hB7
        obtain ⟨t0, t1, t2, t3, t4⟩ : w7.cell? ⟨w5.heap.size, 0, none⟩ = some (.int .i64 0) ∧ w7.cell? ⟨w5.heap.size, 1, none⟩ = some (.slice none 0 0) ∧ w7.cell? ⟨w5.heap.size, 2, none⟩ = some (.slice none 0 0) ∧ w7.cell? ⟨w5.heap.size, 3, none⟩ = some (.slice none 0 0) ∧ w7.cell? ⟨w5.heap.size, 4, none⟩ = some (.slice none 0 0) := ⟨cell_blk hT7 0, cell_blk hT7 1, cell_blk hT7 2, cell_blk hT7 3, cell_blk hT7 4⟩
        clear HN6 hO6 hT6 hC6 hB7
        go_wp2
        go_roundw
        case rel => exact ⟨2, by omega, by go_num, ⟨hC7⟩, hO7⟩
        case measure => simp [intOf]
    · obtain rfl : k = 2 := by omega
      go_wp2
      go_ret
      exact ⟨rfl, HB.out⟩
theorem slabNobody.walk (w : World) (cs : Array Value) (x : Int × Int × Int × Int × Int) (hK : kSO.K w x cs.toList) (_ : True) : Calls Try.prog 7 #[.agg cs] w fun e w' => e = .returned (.bool true) ∧ Below w.heap.size w w' := by
  obtain rfl : cs = #[.int .i64 x.1, .int .i64 x.2.1, .int .i64 x.2.2.1, .int .i64 x.2.2.2.1, .int .i64 x.2.2.2.2] := Array.toList_inj.1 (kSO_open hK)
  exact SlabNobody0.walk w _ _ _ _ _
theorem slabNobody.own : ownKnob Try.prog.godebug = none := by kernel_rfl
theorem slabNobody.laidOut : laidOutB Try.prog = true := by kernel_rfl
set_option maxRecDepth 100000 in
set_option maxHeartbeats 1000000 in
theorem slabNobody.lifted (os : Os) (started : os.Started) (H : Type) (enc : TypeId × Value → H)
    : ReturnsInHanded {} Try.checked os 7 .any (Rows.slabNobodySpec.pre6 enc Try.prog Try.f7 Rows.slabNobodyRow.domain false) (Rows.slabNobodySpec.post enc Try.prog Try.f7 false true false false) := by
  refine returnsInHanded_of_change_sized (C := Try.checked) slabNobody.own started (by kernel_rfl) Try.func7
    (ChangeSpec.witness6 (enc := enc) (C := Try.checked) false ⟨#[], #[.agg #[.int .i64 0, .int .i64 0, .int .i64 0, .int .i64 0, .int .i64 0]], []⟩ 8 (by kernel_rfl) (by kernel_rfl) (by kernel_rfl) (by kernel_rfl)) ?_
  intro W base args ds gs before hval0 hW hcnd hsz0 _
  have hsz : (DataW.weightsEach Try.prog (Try.f7.params.toList ++ Rows.slabNobodySpec.plain.varTypes Try.prog) (ds ++ gs)).all (· ≤ reachBytes) = true := hsz0
  have hval : ∀ (j : Nat) t v, Try.f7.params[j]? = some t → args[j]? = some v → Value.okWide Try.prog W .any base t v := hval0
  have hW' := hW
  obtain ⟨p, q, hA0, hV, rfl, hfz, hnd⟩ := hW
  have hA : DataW.TrodAll enc Try.prog W 0 (fun _ => true) true Try.f7.params.toList args.toList ds p := hA0
  rw [Try.params7] at hA hval hsz
  obtain ⟨v0, vs0, d0, ds0, p0, q0, hargs, rfl, rfl, h0, r0⟩ := trodAll_cons hA
  obtain ⟨rfl, rfl, rfl⟩ := trodAll_nil r0
  obtain rfl : args = #[v0] := by cases args; simp_all
  obtain ⟨rfl, rfl⟩ := trodVars_none hV
  have k0 := h0
  have lt0 : ∀ x ∈ p0, x.block < W.heap.size := by obtain ⟨m, hm⟩ := k0; exact DataW.trod_lt m _ _ _ hm
  have W0 := Op.weights_of hsz (j := 0) (t := 55) (d := d0) rfl rfl
  obtain ⟨cs0, rfl, sz0⟩ := okWide_struct Try.underlying55 (hval 0 55 v0 rfl rfl)
  obtain ⟨f0, hf0⟩ := h0
  obtain ⟨a0, hK0, hG0, hM0⟩ := opensSO H enc W _ true f0 _ (d0, p0) hf0 W0
  clear hA0 hval0 hsz0 hsz
  refine (slabNobody.walk W cs0 a0 hK0 hG0).mono fun e W' ⟨he, bel⟩ => ?_
  subst he
  exact ⟨_, rfl, _, _, _, [], _, [], hW', trodAll_mk1 (shut_bool Try.underlying4 _), (trodAll_cons_mk (Below.trod slabNobody.laidOut (by kernel_rfl) (of_decide_eq_true (by kernel_rfl)) k0 bel lt0) trodAll_mk0), rfl, bel.frame _, fun h => by cases h⟩
theorem slabNobody_holds : Rows.SlabNobodySaid :=
  OpenClaim.holds_of_wide 7 Try.f7 rfl rfl rfl rfl rfl rfl rfl ⟨rfl, rfl, rfl, rfl, rfl⟩ rfl rfl rfl rfl rfl (by kernel_rfl) Try.func7 (by kernel_rfl)
    (of_decide_eq_true (by kernel_rfl)) (by unfold Func.isWrapper; first | (rw [if_pos (by decide +kernel)]; kernel_rfl) | (rw [if_neg (by decide +kernel)]; exact ⟨rfl, rfl⟩))
    (fun os started H enc _ => slabNobody.lifted os started H enc)
#print axioms slabNobody_holds

end Go.Proofs.Ytnglgjegkjfnaaa
