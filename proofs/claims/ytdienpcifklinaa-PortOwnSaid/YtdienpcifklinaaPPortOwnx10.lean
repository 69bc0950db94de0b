-- PRINTED BY print.sh 35421559b90ae4d0a3588c463048766b98c2df88dd9212a6774a882060cdf62d: not written by this session
import Derived.Test.YtdienpcifklinaaPPortOwnx0
namespace Go.Proofs.Ytdienpcifklinaa.PPortOwn
open Go.RowKit Go.Proofs.YtdienpcifklinaaW.PrintWords Go.Proofs.YtdienpcifklinaaW.PrintLast Go.Proofs.YtdienpcifklinaaW.PrintMore
attribute [local go_sem] max2_int min2_int max_two min_two max_three min_three max_four min_four   -- for this text's walks alone
set_option linter.unusedVariables false
set_option linter.unusedSimpArgs false

/-! ### rotalaw15_spoil: function 22 -/
mutual
def rotalaw15_spoil.l0 : Nat → Int → Bool → Int → List Int → List (S68) → Int → Option (Unit)
  | 0, _, _, _, _, _, _ => none
  | k + 1, x2, x210000, x210001, x210002, x210003, x210004 => if x2 < (x210002.length : Int) then (if 0 ≤ x2 then (rotalaw15_spoil.l0 k (wrap64 (x2 + 1)) x210000 x210001 (x210002.set (x2 : Int).toNat (-77)) x210003 x210004) else (none)) else (rotalaw15_spoil.l1 k 0 x210000 x210001 x210002 x210003 x210004)
def rotalaw15_spoil.l1 : Nat → Int → Bool → Int → List Int → List (S68) → Int → Option (Unit)
  | 0, _, _, _, _, _, _ => none
  | k + 1, x3, x210000, x210001, x210002, x210003, x210004 => if x3 < (x210003.length : Int) then (if 0 ≤ x3 then (rotalaw15_spoil.l1 k (wrap64 (x3 + 1)) x210000 x210001 x210002 (x210003.set (x3 : Int).toNat (⟨(-77), (rd_T68 x210003 x3).f1⟩ : S68)) x210004) else (none)) else (rotalaw15_spoil.l2 k 0 x210000 x210001 x210002 x210003 x210004)
def rotalaw15_spoil.l2 : Nat → Int → Bool → Int → List Int → List (S68) → Int → Option (Unit)
  | 0, _, _, _, _, _, _ => none
  | k + 1, x4, x210000, x210001, x210002, x210003, x210004 => if x4 < 8 then (if x210002.length < 17592186044416 then (if x210003.length < 8796093022208 then (rotalaw15_spoil.l2 k (wrap64 (x4 + 1)) x210000 x210001 (x210002 ++ [(-78)]) (x210003 ++ [(⟨(-78), 0⟩ : S68)]) x210004) else (none)) else (none)) else (some ())
end
def rotalaw15_spoil.f (k : Nat) (a0_0 : Bool) (a0_1 : Int) (l0_2 : List Int) (l0_3 : List (S68)) (a0_4 : Int) : Option (Unit) := rotalaw15_spoil.l0 k 0 a0_0 a0_1 l0_2 l0_3 a0_4
theorem rotalaw15_spoil.mono_l : ∀ k, (∀ y0 y1 y2 y3 y4 y5, LeO (rotalaw15_spoil.l0 k y0 y1 y2 y3 y4 y5) (rotalaw15_spoil.l0 (k + 1) y0 y1 y2 y3 y4 y5)) ∧ (∀ y0 y1 y2 y3 y4 y5, LeO (rotalaw15_spoil.l1 k y0 y1 y2 y3 y4 y5) (rotalaw15_spoil.l1 (k + 1) y0 y1 y2 y3 y4 y5)) ∧ (∀ y0 y1 y2 y3 y4 y5, LeO (rotalaw15_spoil.l2 k y0 y1 y2 y3 y4 y5) (rotalaw15_spoil.l2 (k + 1) y0 y1 y2 y3 y4 y5))
  | 0 => ⟨fun _ _ _ _ _ _ r h => by simp [rotalaw15_spoil.l0] at h, fun _ _ _ _ _ _ r h => by simp [rotalaw15_spoil.l1] at h, fun _ _ _ _ _ _ r h => by simp [rotalaw15_spoil.l2] at h⟩
  | k + 1 => by
    obtain ⟨ih0, ih1, ih2⟩ := rotalaw15_spoil.mono_l k
    refine ⟨?_, ?_, ?_⟩
    · intro y0 y1 y2 y3 y4 y5
      unfold rotalaw15_spoil.l0
      repeat' first
      | (with_reducible exact ih0 _ _ _ _ _ _)
      | (with_reducible exact ih1 _ _ _ _ _ _)
      | (with_reducible exact ih2 _ _ _ _ _ _)
      | (with_reducible exact LeO.refl _)
      | (with_reducible exact LeO.none _)
      | (with_reducible refine LeO.ite ?_ ?_)
      | (with_reducible refine LeO.bind ?_ (fun _ => ?_))
      | exact ih0 _ _ _ _ _ _
      | exact ih1 _ _ _ _ _ _
      | exact ih2 _ _ _ _ _ _
      | exact LeO.none _
      | refine LeO.ite ?_ ?_
      | refine LeO.bind ?_ (fun _ => ?_)
    · intro y0 y1 y2 y3 y4 y5
      unfold rotalaw15_spoil.l1
      repeat' first
      | (with_reducible exact ih0 _ _ _ _ _ _)
      | (with_reducible exact ih1 _ _ _ _ _ _)
      | (with_reducible exact ih2 _ _ _ _ _ _)
      | (with_reducible exact LeO.refl _)
      | (with_reducible exact LeO.none _)
      | (with_reducible refine LeO.ite ?_ ?_)
      | (with_reducible refine LeO.bind ?_ (fun _ => ?_))
      | exact ih0 _ _ _ _ _ _
      | exact ih1 _ _ _ _ _ _
      | exact ih2 _ _ _ _ _ _
      | exact LeO.none _
      | refine LeO.ite ?_ ?_
      | refine LeO.bind ?_ (fun _ => ?_)
    · intro y0 y1 y2 y3 y4 y5
      unfold rotalaw15_spoil.l2
      repeat' first
      | (with_reducible exact ih0 _ _ _ _ _ _)
      | (with_reducible exact ih1 _ _ _ _ _ _)
      | (with_reducible exact ih2 _ _ _ _ _ _)
      | (with_reducible exact LeO.refl _)
      | (with_reducible exact LeO.none _)
      | (with_reducible refine LeO.ite ?_ ?_)
      | (with_reducible refine LeO.bind ?_ (fun _ => ?_))
      | exact ih0 _ _ _ _ _ _
      | exact ih1 _ _ _ _ _ _
      | exact ih2 _ _ _ _ _ _
      | exact LeO.none _
      | refine LeO.ite ?_ ?_
      | refine LeO.bind ?_ (fun _ => ?_)
theorem rotalaw15_spoil.mono : ∀ a0 a1 a2 a3 a4 k, LeO (rotalaw15_spoil.f k a0 a1 a2 a3 a4) (rotalaw15_spoil.f (k + 1) a0 a1 a2 a3 a4) := by
  intro a0 a1 a2 a3 a4 k
  obtain ⟨ih0, ih1, ih2⟩ := rotalaw15_spoil.mono_l k
  unfold rotalaw15_spoil.f
  repeat' first
      | (with_reducible exact ih0 _ _ _ _ _ _)
      | (with_reducible exact ih1 _ _ _ _ _ _)
      | (with_reducible exact ih2 _ _ _ _ _ _)
      | (with_reducible exact LeO.refl _)
      | (with_reducible exact LeO.none _)
      | (with_reducible refine LeO.ite ?_ ?_)
      | (with_reducible refine LeO.bind ?_ (fun _ => ?_))
      | exact ih0 _ _ _ _ _ _
      | exact ih1 _ _ _ _ _ _
      | exact ih2 _ _ _ _ _ _
      | exact LeO.none _
      | refine LeO.ite ?_ ?_
      | refine LeO.bind ?_ (fun _ => ?_)
set_option maxHeartbeats 8000000 in
set_option maxRecDepth 100000 in
theorem rotalaw15_spoil.calls (k : Nat) (a0_0 : Bool) (a0_1 : Int) (P0_2_ : Nat → Prop) (u9000_ : Value) (l0_2 : List Int) (P0_3_ : Nat → Prop) (u9001_ : Value) (l0_3 : List (S68)) (a0_4 : Int) (w0 w : World) (hB : Below w0.heap.size w0 w) (ho0_2 : Kd.R (Kd.int .i64) 2 w w0.heap.size P0_2_ u9000_ l0_2) (ho0_3 : Kd.R k68 68 w w0.heap.size P0_3_ u9001_ l0_3) (h : rotalaw15_spoil.f k a0_0 a0_1 l0_2 l0_3 a0_4 = some ()) :
    Calls Try.prog 22 #[.agg #[.bool a0_0, .int .i64 a0_1, u9000_, u9001_, .int .i64 a0_4]] w fun e w' => e = .returned (.tuple #[]) ∧ Below w0.heap.size w0 w' ∧ Kept w w' (fun k_ => P0_2_ k_ ∨ P0_3_ k_) := by
  have hu40 := Try.underlying40
  have hu68 := Try.underlying68
  have HO0_2 := Aside0.mk (show Kd.R (Kd.int .i64) 2 w w0.heap.size (fun k_ => ((P0_2_ k_ ∨ P0_3_ k_) ∨ w.heap.size ≤ k_)) u9000_ l0_2 from Kd.R_mono ho0_2 (fun k_ hk => (.inl (.inl hk))))
  have HO0_3 := Aside0.mk (show Kd.R k68 68 w w0.heap.size (fun k_ => ((P0_2_ k_ ∨ P0_3_ k_) ∨ w.heap.size ≤ k_)) u9001_ l0_3 from Kd.R_mono ho0_3 (fun k_ hk => (.inl (.inr hk))))
  have HK := Aside0.mk (Kept.refl w (fun k_ => P0_2_ k_ ∨ P0_3_ k_))
  have HW0 := Aside0.mk hB.size
  have HB := Aside0.mk hB
  clear hB
  have H : (rotalaw15_spoil.l0 k 0 a0_0 a0_1 l0_2 l0_3 a0_4) = some () := h
  clear h
  have H' := Aside0.mk H
  clear H
  obtain ⟨Ao2, co2, eo2⟩ := Kd.R_slice HO0_2.out
  subst eo2
  obtain ⟨Ao3, co3, eo3⟩ := Kd.R_slice HO0_3.out
  subst eo3
  go_enter Try.func22, Try.ntmps22
  go_wp2_with (first | ((with_reducible refine gate_dst (N := 1) rfl ?_); refine box_event ?hg (N := 1) ?hd (cs := #[.bool a0_0, .int .i64 a0_1, .slice Ao2 l0_2.length co2, .slice Ao3 l0_3.length co3, .int .i64 a0_4]) (t := 40) ?hr ?_; (case hd => rfl); (case hg => rfl); (case hr => first | (go_simp; done) | (go_simp; rfl)); intro gb209 hg w4 hbox hb; have n0_ := Aside0.mk (Kd.R_below (by (with_reducible repeat (first | apply Kd.R_alloc | apply Kd.R_drewN | apply Kd.R_drew)); exact HO0_2.out) hb); have n1_ := Aside0.mk (Kd.R_below (by (with_reducible repeat (first | apply Kd.R_alloc | apply Kd.R_drewN | apply Kd.R_drew)); exact HO0_3.out) hb); have n2_ := Aside0.mk (Kept.below (S := (fun k_ => P0_2_ k_ ∨ P0_3_ k_)) (by repeat (first | (with_reducible first | exact HK.out | apply Kept.alloc | apply Kept.drewN | apply Kept.drew) | exact HK.out)) hb); have n3_ := Aside0.mk (below_step (by repeat (first | (with_reducible first | exact HB.out | apply below_alloc | apply pw_below_drewN | apply below_drew1) | exact HB.out)) hb); have n4_ := Aside0.mk (hbox); have n5_ := Aside0.mk ((by rw [hg]; exact (by first | exact HK.out.1 | exact (show Kept w _ (fun k_ => P0_2_ k_ ∨ P0_3_ k_) from by repeat (first | (with_reducible first | exact HK.out | apply Kept.alloc | apply Kept.drewN | apply Kept.drew) | exact HK.out)).1) : w.heap.size ≤ gb209)); have n6_ := Aside0.mk ((by rw [hg]; exact (below_size (by repeat (first | (with_reducible first | exact HB.out | apply below_alloc | apply pw_below_drewN | apply below_drew1) | exact HB.out))) : w0.heap.size ≤ gb209)); clear HO0_2; clear HO0_3; clear HK; clear HB; have HO0_2 := n0_; have HO0_3 := n1_; have HK := n2_; have HB := n3_; have BK209 := n4_; have GW209 := n5_; have GE209 := n6_; clear n0_ n1_ n2_ n3_ n4_ n5_ n6_; clear hb hbox hg))
  go_loopg [2] k (fun kq v2 w' => ∃ (x2_1 : Int) (x210002_1 : List Int) (u210002 : Value), v2 = .int .i64 x2_1 ∧ Aside0 (rotalaw15_spoil.l0 kq x2_1 a0_0 a0_1 x210002_1 l0_3 a0_4 = some ()) ∧ Aside0 (kq ≤ k) ∧ Aside0 (Kd.R (Kd.int .i64) 2 w' w0.heap.size (fun k_ => ((P0_2_ k_ ∨ P0_3_ k_) ∨ w.heap.size ≤ k_)) u210002 x210002_1) ∧ Aside0 (Kd.R k68 68 w' w0.heap.size (fun k_ => ((P0_2_ k_ ∨ P0_3_ k_) ∨ w.heap.size ≤ k_)) (.slice Ao3 l0_3.length co3) l0_3) ∧ Aside0 (w'.heap[gb209]? = some (.cells #[.bool a0_0, .int .i64 a0_1, u210002, (.slice Ao3 l0_3.length co3), .int .i64 a0_4] 40 (0, 0))) ∧ Aside0 (Kept w w' (fun k_ => P0_2_ k_ ∨ P0_3_ k_)) ∧ Aside0 (Below w0.heap.size w0 w'))
  case atStart => exact ⟨(0), (l0_2), (.slice Ao2 l0_2.length co2), (by first | rfl | (simp; done) | (simp [*]; done)), H', ⟨Nat.le_refl _⟩, ⟨by (with_reducible repeat (first | apply Kd.R_alloc | apply Kd.R_drewN | apply Kd.R_drew)); exact HO0_2.out⟩, ⟨by (with_reducible repeat (first | apply Kd.R_alloc | apply Kd.R_drewN | apply Kd.R_drew)); exact HO0_3.out⟩, ⟨by (with_reducible repeat (first | refine blk_drewN ?_ _ | refine blk_drew ?_ | refine blk_alloc ?_ _)); exact BK209.out⟩, ⟨by repeat (first | (with_reducible first | exact HK.out | apply Kept.alloc | apply Kept.drewN | apply Kept.drew | refine Kept.setCell ?_ (.inr GW209.out) _) | exact HK.out)⟩, ⟨by repeat (first | (with_reducible first | exact HB.out | apply below_alloc | apply pw_below_drewN | apply below_drew1 | refine below_set ?_ GE209.out) | exact HB.out)⟩⟩
  case round =>
    clear H'
    try clear c2
    try clear p2
    obtain ⟨x2_1, x210002_1, u210002, rfl, HA, HK1, HO_210002, HO_210003, BK209, HK, HB⟩ := hrel
    cases gk with
    | zero => exact absurd HA.out (by simp [rotalaw15_spoil.l0])
    | succ k1 =>
      have H := HA.out
      clear HA
      simp only [rotalaw15_spoil.l0] at H
      by_cases c5 : x2_1 < (x210002_1.length : Int)
      · rw [if_pos c5] at H
        have c5b0 : decide (x2_1 < (x210002_1.length : Int)) = true := decide_eq_true c5
        clear c5
        by_cases c6 : 0 ≤ x2_1
        · rw [if_pos c6] at H
          have c6b0 : decide (0 ≤ x2_1) = true := decide_eq_true c6
          clear c6
          obtain ⟨y210, hy210⟩ : ∃ y_ : List Int, y_ = (x210002_1.set (x2_1 : Int).toNat (-77)) := ⟨_, rfl⟩
          replace H : (rotalaw15_spoil.l0 k1 (wrap64 (x2_1 + 1)) a0_0 a0_1 y210 l0_3 a0_4) = some () := by first | (rw [hy210]; with_reducible exact H) | (have H2_ := (Option.bind_some _ _).symm.trans H; rw [hy210]; with_reducible exact H2_) | (have H2_ := (Option.bind_some _ _).symm.trans H; with_reducible exact H2_) | with_reducible exact H | (rw [hy210]; exact H) | exact H
          have Ny210 := Aside0.mk hy210
          clear hy210
          have H' := Aside0.mk H
          clear H
          have hcz8_0 : wr.cell? ⟨gb209, 0, none⟩ = some (.bool a0_0) := (blk_cell BK209.out 0).trans rfl
          have hcz8_1 : wr.cell? ⟨gb209, 1, none⟩ = some (.int .i64 a0_1) := (blk_cell BK209.out 1).trans rfl
          have hcz8_2 : wr.cell? ⟨gb209, 2, none⟩ = some (u210002) := (blk_cell BK209.out 2).trans rfl
          have hcz8_3 : wr.cell? ⟨gb209, 3, none⟩ = some (.slice Ao3 l0_3.length co3) := (blk_cell BK209.out 3).trans rfl
          have hcz8_4 : wr.cell? ⟨gb209, 4, none⟩ = some (.int .i64 a0_4) := (blk_cell BK209.out 4).trans rfl
          have hfz8_0 := blk_frozen BK209.out 0
          have hfz8_1 := blk_frozen BK209.out 1
          have hfz8_2 := blk_frozen BK209.out 2
          have hfz8_3 := blk_frozen BK209.out 3
          have hfz8_4 := blk_frozen BK209.out 4
          obtain ⟨Ao9, co9, eo9⟩ := Kd.R_slice HO_210002.out
          subst eo9
          have p7 : 0 ≤ (x2_1 : Int) := of_decide_eq_true (by first | (with_reducible assumption) | assumption)
          have q7 : (x2_1 : Int) < ((x210002_1.length : Int) : Int) := of_decide_eq_true (by first | (with_reducible assumption) | assumption)
          obtain ⟨go7, co7, eo7, gb7, gl7, cl7, HG7⟩ := Kd.R_form HO_210002.out (by omega)
          (first | cases eo7 | (injection eo7 with ea_ en_ ec_; (first | subst ea_ | (injection ea_ with ea_; subst ea_)); subst ec_; clear en_))
          have GB7 := Aside0.mk gb7
          have GG7 := Aside0.mk HG7
          clear gb7 gl7 HG7
          have HMgo7 := Aside0.mk (show ((P0_2_ go7 ∨ P0_3_ go7) ∨ w.heap.size ≤ go7) from (HO_210002.out.1 _ rfl))
          obtain ⟨hx7_0, hf7_0⟩ := Kd.R_celln 0 HO_210002.out (x2_1 : Int) p7 q7
          replace p7 := eq_true p7
          replace q7 := eq_true q7
          have HP10 := Kd.R_putg HO_210002.out (x2_1 : Int) (-77)
          go_wp2_with (first | ((with_reducible refine gate_store (t := 2) (p := 15) rfl ?_); refine store_event (t := 2) (p := 15) (v := ?vo_w11) (w1 := (wr.setCell ⟨go7, (x2_1 : Int).toNat, none⟩ (.int .i64 (-77)))) ?hg ?ho ?hn ?hr ?_; (case ho => rfl); (case hg => rfl); (case hn => rfl); (case hr => first | (go_simp; done) | (go_simp; rfl)); intro w11 hw; have hg : wr.grownBy w11 (some go7) := (by rw [hw]; exact HP10.2); have hp_ : Kd.R (Kd.int .i64) 2 w11 w0.heap.size (fun k_ => ((P0_2_ k_ ∨ P0_3_ k_) ∨ w.heap.size ≤ k_)) (.slice (some ⟨go7, 0, none⟩) x210002_1.length co9) y210 := (by rw [hw, Ny210.out]; exact HP10.1); clear HP10; have n0_ := Aside0.mk (hp_); have n1_ := Aside0.mk (Kd.R_over' (v := (.slice (some ⟨go7, 0, none⟩) x210002_1.length co9)) (by (with_reducible repeat (first | apply Kd.R_alloc | apply Kd.R_drewN | apply Kd.R_drew)); exact HO_210003.out) (Kd.R_typed HO_210002.out) (by decide) hg); have n2_ := Aside0.mk (blk_grown (g := gb209) (o := .cells #[.bool a0_0, .int .i64 a0_1, .slice (some ⟨go7, 0, none⟩) x210002_1.length co9, .slice Ao3 l0_3.length co3, .int .i64 a0_4] 40 (0, 0)) (by (with_reducible repeat (first | refine blk_drewN ?_ _ | refine blk_drew ?_ | refine blk_alloc ?_ _)); exact BK209.out) hg (Kd.R_ne HO_210002.out BK209.out (by decide))); have n3_ := Aside0.mk ((by rw [hw]; exact below_set (HB.out) GB7.out : Below w0.heap.size w0 w11)); have n4_ := Aside0.mk (Kept.of_grown (S := (fun k_ => P0_2_ k_ ∨ P0_3_ k_)) hg (by repeat (first | (with_reducible first | exact HK.out | apply Kept.alloc | apply Kept.drewN | apply Kept.drew | refine Kept.setCell ?_ (.inr GW209.out) _) | exact HK.out)) (fun k_ e_ => (HO_210002.out.1 k_ e_))); clear HO_210002; clear HO_210003; clear BK209; clear HB; clear HK; have HO_210002 := n0_; have HO_210003 := n1_; have BK209 := n2_; have HB := n3_; have HK := n4_; clear n0_ n1_ n2_ n3_ n4_; clear hg hw hp_))
          go_roundg k1
          case measure => have := HK1.out; omega
          case rel => exact ⟨(wrap64 (x2_1 + 1)), (y210), (.slice (some ⟨go7, 0, none⟩) x210002_1.length co9), (by first | rfl | (simp; done) | (simp [*]; done)), H', ⟨by have := HK1.out; omega⟩, ⟨by (with_reducible repeat (first | apply Kd.R_alloc | apply Kd.R_drewN | apply Kd.R_drew)); exact HO_210002.out⟩, ⟨by (with_reducible repeat (first | apply Kd.R_alloc | apply Kd.R_drewN | apply Kd.R_drew)); exact HO_210003.out⟩, ⟨by (with_reducible repeat (first | refine blk_drewN ?_ _ | refine blk_drew ?_ | refine blk_alloc ?_ _)); exact BK209.out⟩, ⟨by repeat (first | (with_reducible first | exact HK.out | apply Kept.alloc | apply Kept.drewN | apply Kept.drew | refine Kept.setCell ?_ (.inr GW209.out) _) | exact HK.out)⟩, ⟨by repeat (first | (with_reducible first | exact HB.out | apply below_alloc | apply pw_below_drewN | apply below_drew1 | refine below_set ?_ GE209.out) | exact HB.out)⟩⟩
        · rw [if_neg c6] at H
          exact absurd H (by simp)
      · rw [if_neg c5] at H
        have c5b0 : decide (x2_1 < (x210002_1.length : Int)) = false := decide_eq_false c5
        clear c5
        have H' := Aside0.mk H
        clear H
        have hcz12_0 : wr.cell? ⟨gb209, 0, none⟩ = some (.bool a0_0) := (blk_cell BK209.out 0).trans rfl
        have hcz12_1 : wr.cell? ⟨gb209, 1, none⟩ = some (.int .i64 a0_1) := (blk_cell BK209.out 1).trans rfl
        have hcz12_2 : wr.cell? ⟨gb209, 2, none⟩ = some (u210002) := (blk_cell BK209.out 2).trans rfl
        have hcz12_3 : wr.cell? ⟨gb209, 3, none⟩ = some (.slice Ao3 l0_3.length co3) := (blk_cell BK209.out 3).trans rfl
        have hcz12_4 : wr.cell? ⟨gb209, 4, none⟩ = some (.int .i64 a0_4) := (blk_cell BK209.out 4).trans rfl
        have hfz12_0 := blk_frozen BK209.out 0
        have hfz12_1 := blk_frozen BK209.out 1
        have hfz12_2 := blk_frozen BK209.out 2
        have hfz12_3 := blk_frozen BK209.out 3
        have hfz12_4 := blk_frozen BK209.out 4
        obtain ⟨Ao13, co13, eo13⟩ := Kd.R_slice HO_210002.out
        subst eo13
        go_wp2
        go_loopg [3] k1 (fun kq v3 w' => ∃ (x3_2 : Int) (x210003_2 : List (S68)) (u210003 : Value), v3 = .int .i64 x3_2 ∧ Aside0 (rotalaw15_spoil.l1 kq x3_2 a0_0 a0_1 x210002_1 x210003_2 a0_4 = some ()) ∧ Aside0 (kq ≤ k1) ∧ Aside0 (Kd.R (Kd.int .i64) 2 w' w0.heap.size (fun k_ => ((P0_2_ k_ ∨ P0_3_ k_) ∨ w.heap.size ≤ k_)) (.slice Ao13 x210002_1.length co13) x210002_1) ∧ Aside0 (Kd.R k68 68 w' w0.heap.size (fun k_ => ((P0_2_ k_ ∨ P0_3_ k_) ∨ w.heap.size ≤ k_)) u210003 x210003_2) ∧ Aside0 (w'.heap[gb209]? = some (.cells #[.bool a0_0, .int .i64 a0_1, (.slice Ao13 x210002_1.length co13), u210003, .int .i64 a0_4] 40 (0, 0))) ∧ Aside0 (Kept w w' (fun k_ => P0_2_ k_ ∨ P0_3_ k_)) ∧ Aside0 (Below w0.heap.size w0 w'))
        case atStart => exact ⟨(0), (l0_3), (.slice Ao3 l0_3.length co3), (by first | rfl | (simp; done) | (simp [*]; done)), H', ⟨Nat.le_refl _⟩, ⟨by (with_reducible repeat (first | apply Kd.R_alloc | apply Kd.R_drewN | apply Kd.R_drew)); exact HO_210002.out⟩, ⟨by (with_reducible repeat (first | apply Kd.R_alloc | apply Kd.R_drewN | apply Kd.R_drew)); exact HO_210003.out⟩, ⟨by (with_reducible repeat (first | refine blk_drewN ?_ _ | refine blk_drew ?_ | refine blk_alloc ?_ _)); exact BK209.out⟩, ⟨by repeat (first | (with_reducible first | exact HK.out | apply Kept.alloc | apply Kept.drewN | apply Kept.drew | refine Kept.setCell ?_ (.inr GW209.out) _) | exact HK.out)⟩, ⟨by repeat (first | (with_reducible first | exact HB.out | apply below_alloc | apply pw_below_drewN | apply below_drew1 | refine below_set ?_ GE209.out) | exact HB.out)⟩⟩
        case round =>
          clear H'
          try clear c2
          try clear p2
          try clear c5
          try clear c5b0
          try clear c6
          try clear c6b0
          try clear p6
          try clear p7
          try clear q7
          try clear hx7
          try clear hf7
          try clear hcz12_0
          try clear hcz12_1
          try clear hcz12_2
          try clear hcz12_3
          try clear hcz12_4
          try clear hcz8_0
          try clear hcz8_1
          try clear hcz8_2
          try clear hcz8_3
          try clear hcz8_4
          try clear hfz12_0
          try clear hfz12_1
          try clear hfz12_2
          try clear hfz12_3
          try clear hfz12_4
          try clear hfz8_0
          try clear hfz8_1
          try clear hfz8_2
          try clear hfz8_3
          try clear hfz8_4
          try clear hx7_0
          try clear p2
          try clear p7
          try clear q7
          obtain ⟨x3_2, x210003_2, u210003, rfl, HA, HK2, HO_210002, HO_210003, BK209, HK, HB⟩ := hrel
          cases gk with
          | zero => exact absurd HA.out (by simp [rotalaw15_spoil.l1])
          | succ k2 =>
            have H := HA.out
            clear HA
            simp only [rotalaw15_spoil.l1] at H
            by_cases c14 : x3_2 < (x210003_2.length : Int)
            · rw [if_pos c14] at H
              have c14b0 : decide (x3_2 < (x210003_2.length : Int)) = true := decide_eq_true c14
              clear c14
              by_cases c15 : 0 ≤ x3_2
              · rw [if_pos c15] at H
                have c15b0 : decide (0 ≤ x3_2) = true := decide_eq_true c15
                clear c15
                obtain ⟨y211, hy211⟩ : ∃ y_ : List (S68), y_ = (x210003_2.set (x3_2 : Int).toNat (⟨(-77), (rd_T68 x210003_2 x3_2).f1⟩ : S68)) := ⟨_, rfl⟩
                replace H : (rotalaw15_spoil.l1 k2 (wrap64 (x3_2 + 1)) a0_0 a0_1 x210002_1 y211 a0_4) = some () := by first | (rw [hy211]; with_reducible exact H) | (have H2_ := (Option.bind_some _ _).symm.trans H; rw [hy211]; with_reducible exact H2_) | (have H2_ := (Option.bind_some _ _).symm.trans H; with_reducible exact H2_) | with_reducible exact H | (rw [hy211]; exact H) | exact H
                have Ny211 := Aside0.mk hy211
                clear hy211
                have H' := Aside0.mk H
                clear H
                have hcz17_0 : wr.cell? ⟨gb209, 0, none⟩ = some (.bool a0_0) := (blk_cell BK209.out 0).trans rfl
                have hcz17_1 : wr.cell? ⟨gb209, 1, none⟩ = some (.int .i64 a0_1) := (blk_cell BK209.out 1).trans rfl
                have hcz17_2 : wr.cell? ⟨gb209, 2, none⟩ = some (.slice Ao13 x210002_1.length co13) := (blk_cell BK209.out 2).trans rfl
                have hcz17_3 : wr.cell? ⟨gb209, 3, none⟩ = some (u210003) := (blk_cell BK209.out 3).trans rfl
                have hcz17_4 : wr.cell? ⟨gb209, 4, none⟩ = some (.int .i64 a0_4) := (blk_cell BK209.out 4).trans rfl
                have hfz17_0 := blk_frozen BK209.out 0
                have hfz17_1 := blk_frozen BK209.out 1
                have hfz17_2 := blk_frozen BK209.out 2
                have hfz17_3 := blk_frozen BK209.out 3
                have hfz17_4 := blk_frozen BK209.out 4
                obtain ⟨Ao18, co18, eo18⟩ := Kd.R_slice HO_210003.out
                subst eo18
                have p16 : 0 ≤ (x3_2 : Int) := of_decide_eq_true (by first | (with_reducible assumption) | assumption)
                have q16 : (x3_2 : Int) < ((x210003_2.length : Int) : Int) := of_decide_eq_true (by first | (with_reducible assumption) | assumption)
                obtain ⟨go16, co16, eo16, gb16, gl16, cl16, HG16⟩ := Kd.R_form HO_210003.out (by omega)
                (first | cases eo16 | (injection eo16 with ea_ en_ ec_; (first | subst ea_ | (injection ea_ with ea_; subst ea_)); subst ec_; clear en_))
                have GB16 := Aside0.mk gb16
                have GG16 := Aside0.mk HG16
                clear gb16 gl16 HG16
                have HMgo16 := Aside0.mk (show ((P0_2_ go16 ∨ P0_3_ go16) ∨ w.heap.size ≤ go16) from (HO_210003.out.1 _ rfl))
                obtain ⟨ce16, hcl16, hM16, hcc16, hfr16⟩ := Kd.R_elem HO_210003.out z68 (x3_2 : Int) p16 q16
                obtain rfl := k68_openM hM16
                have hx16_0 : wr.cell? ⟨go16, (x3_2 : Int).toNat * 2, none⟩ = some (.int .i64 ((rd_T68 x210003_2 x3_2).f0)) := hcc16 0 _ rfl
                have hx16_1 : wr.cell? ⟨go16, (x3_2 : Int).toNat * 2 + 1, none⟩ = some (.int .i64 ((rd_T68 x210003_2 x3_2).f1)) := hcc16 1 _ rfl
                have hf16_0 : wr.frozen? ⟨go16, (x3_2 : Int).toNat * 2, none⟩ = false := hfr16 0
                have hf16_1 : wr.frozen? ⟨go16, (x3_2 : Int).toNat * 2 + 1, none⟩ = false := hfr16 1
                clear hcl16 hcc16 hfr16 hM16
                replace p16 := eq_true p16
                replace q16 := eq_true q16
                have HX19 := Aside0.mk (show Kd.R k68 68 wr w0.heap.size (fun k_ => ((P0_2_ k_ ∨ P0_3_ k_) ∨ w.heap.size ≤ k_)) (.slice (some ⟨go16, 0, none⟩) x210003_2.length co18) x210003_2 from (by (with_reducible repeat (first | apply Kd.R_alloc | apply Kd.R_drewN | apply Kd.R_drew)); exact HO_210003.out))
                obtain ⟨ce19, hcl19, hM19, hcc19, hfr19⟩ := Kd.R_elem HX19.out z68 (x3_2 : Int) (of_decide_eq_true (by first | (with_reducible assumption) | assumption)) (by have h_ : (x3_2 : Int) < ((x210003_2.length : Int) : Int) := of_decide_eq_true (by first | (with_reducible assumption) | assumption); first | exact h_ | (have e_ := (Kd.R_reads' HO_210003.out).1; omega) | simpa using h_)
                obtain rfl := k68_openM hM19
                have HP19 := Kd.R_seg HX19.out (x3_2 : Int) (of_decide_eq_true (by first | (with_reducible assumption) | assumption)) (by have h_ : (x3_2 : Int) < ((x210003_2.length : Int) : Int) := of_decide_eq_true (by first | (with_reducible assumption) | assumption); first | exact h_ | (have e_ := (Kd.R_reads' HO_210003.out).1; omega) | simpa using h_) (seg := [.int .i64 (-77)]) (j := 0) hcl19 hcc19 (show 1 ≤ 2 from by decide) (x' := (⟨(-77), (rd_T68 x210003_2 x3_2).f1⟩ : S68)) (k68_mkM _ _ _ (⟨(-77), (rd_T68 x210003_2 x3_2).f1⟩ : S68) ) (fun _ hk => hk)
                have hx19_0 := hcc19 0 _ rfl
                (try simp only [show (k68).sz = 2 from rfl, Nat.mul_one, Nat.add_zero] at hx19_0)
                have hf19_0 := hfr19 0
                (try simp only [show (k68).sz = 2 from rfl, Nat.mul_one, Nat.add_zero] at hf19_0)
                clear hcl19 hcc19 hfr19 hM19
                go_wp2_with (first | ((with_reducible refine gate_store (t := 2) (p := 27) rfl ?_); refine store_event (t := 2) (p := 27) (v := ?vo_w20) (w1 := (wr.setCell ⟨go16, (x3_2 : Int).toNat * 2, none⟩ (.int .i64 (-77)))) ?hg ?ho ?hn ?hr ?_; (case ho => rfl); (case hg => rfl); (case hn => rfl); (case hr => first | (go_simp; done) | (go_simp; rfl)); intro w20 hw; have hg : wr.grownBy w20 (some go16) := (by rw [hw]; exact HP19.2); have hp_ : Kd.R k68 68 w20 w0.heap.size (fun k_ => ((P0_2_ k_ ∨ P0_3_ k_) ∨ w.heap.size ≤ k_)) (.slice (some ⟨go16, 0, none⟩) x210003_2.length co18) y211 := (by rw [hw, Ny211.out]; exact HP19.1); clear HP19; have n0_ := Aside0.mk (Kd.R_over' (v := (.slice (some ⟨go16, 0, none⟩) x210003_2.length co18)) (by (with_reducible repeat (first | apply Kd.R_alloc | apply Kd.R_drewN | apply Kd.R_drew)); exact HO_210002.out) (Kd.R_typed HO_210003.out) (by decide) hg); have n1_ := Aside0.mk (hp_); have n2_ := Aside0.mk (blk_grown (g := gb209) (o := .cells #[.bool a0_0, .int .i64 a0_1, .slice Ao13 x210002_1.length co13, .slice (some ⟨go16, 0, none⟩) x210003_2.length co18, .int .i64 a0_4] 40 (0, 0)) (by (with_reducible repeat (first | refine blk_drewN ?_ _ | refine blk_drew ?_ | refine blk_alloc ?_ _)); exact BK209.out) hg (Kd.R_ne HO_210003.out BK209.out (by decide))); have n3_ := Aside0.mk ((by rw [hw]; exact below_set (HB.out) GB16.out : Below w0.heap.size w0 w20)); have n4_ := Aside0.mk (Kept.of_grown (S := (fun k_ => P0_2_ k_ ∨ P0_3_ k_)) hg (by repeat (first | (with_reducible first | exact HK.out | apply Kept.alloc | apply Kept.drewN | apply Kept.drew | refine Kept.setCell ?_ (.inr GW209.out) _) | exact HK.out)) (fun k_ e_ => (HO_210003.out.1 k_ e_))); clear HO_210002; clear HO_210003; clear BK209; clear HB; clear HK; have HO_210002 := n0_; have HO_210003 := n1_; have BK209 := n2_; have HB := n3_; have HK := n4_; clear n0_ n1_ n2_ n3_ n4_; clear hg hw hp_))
                go_roundg k2
                case measure => have := HK1.out; have := HK2.out; omega
                case rel => exact ⟨(wrap64 (x3_2 + 1)), (y211), (.slice (some ⟨go16, 0, none⟩) x210003_2.length co18), (by first | rfl | (simp; done) | (simp [*]; done)), H', ⟨by have := HK1.out; have := HK2.out; omega⟩, ⟨by (with_reducible repeat (first | apply Kd.R_alloc | apply Kd.R_drewN | apply Kd.R_drew)); exact HO_210002.out⟩, ⟨by (with_reducible repeat (first | apply Kd.R_alloc | apply Kd.R_drewN | apply Kd.R_drew)); exact HO_210003.out⟩, ⟨by (with_reducible repeat (first | refine blk_drewN ?_ _ | refine blk_drew ?_ | refine blk_alloc ?_ _)); exact BK209.out⟩, ⟨by repeat (first | (with_reducible first | exact HK.out | apply Kept.alloc | apply Kept.drewN | apply Kept.drew | refine Kept.setCell ?_ (.inr GW209.out) _) | exact HK.out)⟩, ⟨by repeat (first | (with_reducible first | exact HB.out | apply below_alloc | apply pw_below_drewN | apply below_drew1 | refine below_set ?_ GE209.out) | exact HB.out)⟩⟩
              · rw [if_neg c15] at H
                exact absurd H (by simp)
            · rw [if_neg c14] at H
              have c14b0 : decide (x3_2 < (x210003_2.length : Int)) = false := decide_eq_false c14
              clear c14
              have H' := Aside0.mk H
              clear H
              have hcz21_0 : wr.cell? ⟨gb209, 0, none⟩ = some (.bool a0_0) := (blk_cell BK209.out 0).trans rfl
              have hcz21_1 : wr.cell? ⟨gb209, 1, none⟩ = some (.int .i64 a0_1) := (blk_cell BK209.out 1).trans rfl
              have hcz21_2 : wr.cell? ⟨gb209, 2, none⟩ = some (.slice Ao13 x210002_1.length co13) := (blk_cell BK209.out 2).trans rfl
              have hcz21_3 : wr.cell? ⟨gb209, 3, none⟩ = some (u210003) := (blk_cell BK209.out 3).trans rfl
              have hcz21_4 : wr.cell? ⟨gb209, 4, none⟩ = some (.int .i64 a0_4) := (blk_cell BK209.out 4).trans rfl
              have hfz21_0 := blk_frozen BK209.out 0
              have hfz21_1 := blk_frozen BK209.out 1
              have hfz21_2 := blk_frozen BK209.out 2
              have hfz21_3 := blk_frozen BK209.out 3
              have hfz21_4 := blk_frozen BK209.out 4
              obtain ⟨Ao22, co22, eo22⟩ := Kd.R_slice HO_210003.out
              subst eo22
              go_wp2
              go_loopg [4] k2 (fun kq v4 w' => ∃ (x4_3 : Int) (x210002_3 : List Int) (x210003_3 : List (S68)) (u210002 : Value) (u210003 : Value), v4 = .int .i64 x4_3 ∧ Aside0 (rotalaw15_spoil.l2 kq x4_3 a0_0 a0_1 x210002_3 x210003_3 a0_4 = some ()) ∧ Aside0 (kq ≤ k2) ∧ Aside0 (Kd.R (Kd.int .i64) 2 w' w0.heap.size (fun k_ => ((P0_2_ k_ ∨ P0_3_ k_) ∨ w.heap.size ≤ k_)) u210002 x210002_3) ∧ Aside0 (Kd.R k68 68 w' w0.heap.size (fun k_ => ((P0_2_ k_ ∨ P0_3_ k_) ∨ w.heap.size ≤ k_)) u210003 x210003_3) ∧ Aside0 (w'.heap[gb209]? = some (.cells #[.bool a0_0, .int .i64 a0_1, u210002, u210003, .int .i64 a0_4] 40 (0, 0))) ∧ Aside0 (Kept w w' (fun k_ => P0_2_ k_ ∨ P0_3_ k_)) ∧ Aside0 (Below w0.heap.size w0 w'))
              case atStart => exact ⟨(0), (x210002_1), (x210003_2), (.slice Ao13 x210002_1.length co13), (.slice Ao22 x210003_2.length co22), (by first | rfl | (simp; done) | (simp [*]; done)), H', ⟨Nat.le_refl _⟩, ⟨by (with_reducible repeat (first | apply Kd.R_alloc | apply Kd.R_drewN | apply Kd.R_drew)); exact HO_210002.out⟩, ⟨by (with_reducible repeat (first | apply Kd.R_alloc | apply Kd.R_drewN | apply Kd.R_drew)); exact HO_210003.out⟩, ⟨by (with_reducible repeat (first | refine blk_drewN ?_ _ | refine blk_drew ?_ | refine blk_alloc ?_ _)); exact BK209.out⟩, ⟨by repeat (first | (with_reducible first | exact HK.out | apply Kept.alloc | apply Kept.drewN | apply Kept.drew | refine Kept.setCell ?_ (.inr GW209.out) _) | exact HK.out)⟩, ⟨by repeat (first | (with_reducible first | exact HB.out | apply below_alloc | apply pw_below_drewN | apply below_drew1 | refine below_set ?_ GE209.out) | exact HB.out)⟩⟩
              case round =>
                clear H'
                try clear c1
                try clear p1
                try clear q1
                try clear hx1
                try clear hf1
                try clear c2
                try clear p2
                try clear c5
                try clear c5b0
                try clear c6
                try clear c6b0
                try clear p6
                try clear p7
                try clear q7
                try clear hx7
                try clear hf7
                try clear c14
                try clear c14b0
                try clear c15
                try clear c15b0
                try clear c16
                try clear p16
                try clear q16
                try clear hx16
                try clear hf16
                try clear c19
                try clear hx19
                try clear hf19
                try clear c22
                try clear hcz12_0
                try clear hcz12_1
                try clear hcz12_2
                try clear hcz12_3
                try clear hcz12_4
                try clear hcz17_0
                try clear hcz17_1
                try clear hcz17_2
                try clear hcz17_3
                try clear hcz17_4
                try clear hcz21_0
                try clear hcz21_1
                try clear hcz21_2
                try clear hcz21_3
                try clear hcz21_4
                try clear hcz8_0
                try clear hcz8_1
                try clear hcz8_2
                try clear hcz8_3
                try clear hcz8_4
                try clear hfz12_0
                try clear hfz12_1
                try clear hfz12_2
                try clear hfz12_3
                try clear hfz12_4
                try clear hfz17_0
                try clear hfz17_1
                try clear hfz17_2
                try clear hfz17_3
                try clear hfz17_4
                try clear hfz21_0
                try clear hfz21_1
                try clear hfz21_2
                try clear hfz21_3
                try clear hfz21_4
                try clear hfz8_0
                try clear hfz8_1
                try clear hfz8_2
                try clear hfz8_3
                try clear hfz8_4
                try clear hx16_0
                try clear hx16_1
                try clear hx19_0
                try clear hx7_0
                try clear p16
                try clear p2
                try clear p6
                try clear p7
                try clear q16
                try clear q7
                obtain ⟨x4_3, x210002_3, x210003_3, u210002, u210003, rfl, HA, HK3, HO_210002, HO_210003, BK209, HK, HB⟩ := hrel
                cases gk with
                | zero => exact absurd HA.out (by simp [rotalaw15_spoil.l2])
                | succ k3 =>
                  have H := HA.out
                  clear HA
                  simp only [rotalaw15_spoil.l2] at H
                  by_cases c23 : x4_3 < 8
                  · rw [if_pos c23] at H
                    have c23b0 : decide (x4_3 < 8) = true := decide_eq_true c23
                    clear c23
                    by_cases c24 : x210002_3.length < 17592186044416
                    · rw [if_pos c24] at H
                      have LMc24 := Aside0.mk c24
                      clear c24
                      obtain ⟨y212, hy212⟩ : ∃ y_ : List Int, y_ = (x210002_3 ++ [(-78)]) := ⟨_, rfl⟩
                      replace H : (if x210003_3.length < 8796093022208 then (rotalaw15_spoil.l2 k3 (wrap64 (x4_3 + 1)) a0_0 a0_1 y212 (x210003_3 ++ [(⟨(-78), 0⟩ : S68)]) a0_4) else (none)) = some () := by first | (rw [hy212]; with_reducible exact H) | (have H2_ := (Option.bind_some _ _).symm.trans H; rw [hy212]; with_reducible exact H2_) | (have H2_ := (Option.bind_some _ _).symm.trans H; with_reducible exact H2_) | with_reducible exact H | (rw [hy212]; exact H) | exact H
                      have Ny212 := Aside0.mk hy212
                      clear hy212
                      by_cases c25 : x210003_3.length < 8796093022208
                      · rw [if_pos c25] at H
                        have LMc25 := Aside0.mk c25
                        clear c25
                        obtain ⟨y215, hy215⟩ : ∃ y_ : List (S68), y_ = (x210003_3 ++ [(⟨(-78), 0⟩ : S68)]) := ⟨_, rfl⟩
                        replace H : (rotalaw15_spoil.l2 k3 (wrap64 (x4_3 + 1)) a0_0 a0_1 y212 y215 a0_4) = some () := by first | (rw [hy215]; with_reducible exact H) | (have H2_ := (Option.bind_some _ _).symm.trans H; rw [hy215]; with_reducible exact H2_) | (have H2_ := (Option.bind_some _ _).symm.trans H; with_reducible exact H2_) | with_reducible exact H | (rw [hy215]; exact H) | exact H
                        have Ny215 := Aside0.mk hy215
                        clear hy215
                        have H' := Aside0.mk H
                        clear H
                        have hcz26_0 : wr.cell? ⟨gb209, 0, none⟩ = some (.bool a0_0) := (blk_cell BK209.out 0).trans rfl
                        have hcz26_1 : wr.cell? ⟨gb209, 1, none⟩ = some (.int .i64 a0_1) := (blk_cell BK209.out 1).trans rfl
                        have hcz26_2 : wr.cell? ⟨gb209, 2, none⟩ = some (u210002) := (blk_cell BK209.out 2).trans rfl
                        have hcz26_3 : wr.cell? ⟨gb209, 3, none⟩ = some (u210003) := (blk_cell BK209.out 3).trans rfl
                        have hcz26_4 : wr.cell? ⟨gb209, 4, none⟩ = some (.int .i64 a0_4) := (blk_cell BK209.out 4).trans rfl
                        have hfz26_0 := blk_frozen BK209.out 0
                        have hfz26_1 := blk_frozen BK209.out 1
                        have hfz26_2 := blk_frozen BK209.out 2
                        have hfz26_3 := blk_frozen BK209.out 3
                        have hfz26_4 := blk_frozen BK209.out 4
                        go_wp2_with (first | ((with_reducible refine gate_builtin (b := .append) (xs := #[.tmp 33, .tmp 34]) rfl ?_); at_builtin; refine Kd.R_append (Kd.int .i64) (w0 := w0) w0.heap.size rfl (.tmp 33) (.tmp 34) 25 2 (.int .i64 0) 8 rfl Try.underlying25 info2 rfl (by decide) (by omega) u210002 x210002_3 (-78) [.int .i64 (-78)] (fun k_ => ((P0_2_ k_ ∨ P0_3_ k_) ∨ w.heap.size ≤ k_)) (fun _ => False) rfl rfl ?aP (fun _ hk => hk.elim) ?aF ?aO ?aB ?aS ?aL ?_; (case aP => exact rfl); (case aB => exact (by repeat (first | (with_reducible first | exact HB.out | apply below_alloc | apply pw_below_drewN | apply below_drew1 | refine below_set ?_ GE209.out) | exact HB.out))); (case aF => exact (fun k_ hk => (.inr (Nat.le_trans (by first | exact HK.out.1 | exact (show Kept w _ (fun k_ => P0_2_ k_ ∨ P0_3_ k_) from by repeat (first | (with_reducible first | exact HK.out | apply Kept.alloc | apply Kept.drewN | apply Kept.drew | refine Kept.setCell ?_ (.inr GW209.out) _) | exact HK.out)).1) hk)))); (case aO => exact (by (with_reducible repeat (first | apply Kd.R_alloc | apply Kd.R_drewN | apply Kd.R_drew)); exact HO_210002.out)); (case aS => exact (below_size (by repeat (first | (with_reducible first | exact HB.out | apply below_alloc | apply pw_below_drewN | apply below_drew1 | refine below_set ?_ GE209.out) | exact HB.out)))); (case aL => have := LMc24.out; omega); intro v213 w27 ho hb hg hat; rw [← Ny212.out] at ho; have n0_ := Aside0.mk (Kd.R_over' (by (with_reducible repeat (first | apply Kd.R_alloc | apply Kd.R_drewN | apply Kd.R_drew)); exact HO_210003.out) (Kd.R_typed (by (with_reducible repeat (first | apply Kd.R_alloc | apply Kd.R_drewN | apply Kd.R_drew)); exact HO_210002.out)) (by decide) hg); have n1_ := Aside0.mk (blk_grown (g := gb209) (o := .cells #[.bool a0_0, .int .i64 a0_1, u210002, u210003, .int .i64 a0_4] 40 (0, 0)) (by (with_reducible repeat (first | refine blk_drewN ?_ _ | refine blk_drew ?_ | refine blk_alloc ?_ _)); exact BK209.out) hg (Kd.R_ne HO_210002.out BK209.out (by decide))); have n2_ := Aside0.mk (hb); have n3_ := Aside0.mk (Kept.of_grown (S := (fun k_ => P0_2_ k_ ∨ P0_3_ k_)) hg (by repeat (first | (with_reducible first | exact HK.out | apply Kept.alloc | apply Kept.drewN | apply Kept.drew | refine Kept.setCell ?_ (.inr GW209.out) _) | exact HK.out)) (fun k_ e_ => (HO_210002.out.1 k_ e_))); have n4_ := Aside0.mk (ho); clear HO_210003; clear BK209; clear HB; clear HK; clear HO_210002; have HO_210003 := n0_; have BK209 := n1_; have HB := n2_; have HK := n3_; have HO214 := n4_; clear n0_ n1_ n2_ n3_ n4_; clear ho hb hg hat; obtain ⟨Ao28, co28, eo28⟩ := Kd.R_slice HO214.out; subst eo28; have hcz29_0 : w27.cell? ⟨gb209, 0, none⟩ = some (.bool a0_0) := (blk_cell BK209.out 0).trans rfl; have hcz29_1 : w27.cell? ⟨gb209, 1, none⟩ = some (.int .i64 a0_1) := (blk_cell BK209.out 1).trans rfl; have hcz29_2 : w27.cell? ⟨gb209, 2, none⟩ = some (u210002) := (blk_cell BK209.out 2).trans rfl; have hcz29_3 : w27.cell? ⟨gb209, 3, none⟩ = some (u210003) := (blk_cell BK209.out 3).trans rfl; have hcz29_4 : w27.cell? ⟨gb209, 4, none⟩ = some (.int .i64 a0_4) := (blk_cell BK209.out 4).trans rfl; have hfz29_0 := blk_frozen BK209.out 0; have hfz29_1 := blk_frozen BK209.out 1; have hfz29_2 := blk_frozen BK209.out 2; have hfz29_3 := blk_frozen BK209.out 3; have hfz29_4 := blk_frozen BK209.out 4) | ((with_reducible refine gate_builtin (b := .append) (xs := #[.tmp 38, .tmp 40]) rfl ?_); at_builtin; refine Kd.R_append k68 (w0 := w0) w0.heap.size rfl (.tmp 38) (.tmp 40) 38 68 (.agg #[(.int .i64 0), (.int .i64 0)]) 16 rfl Try.underlying38 info68 rfl (by decide) (by omega) u210003 x210003_3 (⟨(-78), 0⟩ : S68) [.int .i64 (-78), .int .i64 0] (fun k_ => ((P0_2_ k_ ∨ P0_3_ k_) ∨ w.heap.size ≤ k_)) (fun _ => False) rfl (by first | (go_simp; done) | (go_simp; rfl)) ?aP (fun _ hk => hk.elim) ?aF ?aO ?aB ?aS ?aL ?_; (case aP => exact k68_mkM _ _ _ (⟨(-78), 0⟩ : S68)); (case aB => exact (by repeat (first | (with_reducible first | exact HB.out | apply below_alloc | apply pw_below_drewN | apply below_drew1 | refine below_set ?_ GE209.out) | exact HB.out))); (case aF => exact (fun k_ hk => (.inr (Nat.le_trans (show Kept w _ (fun k_ => P0_2_ k_ ∨ P0_3_ k_) from by repeat (first | (with_reducible first | exact HK.out | apply Kept.alloc | apply Kept.drewN | apply Kept.drew | refine Kept.setCell ?_ (.inr GW209.out) _) | exact HK.out)).1 hk)))); (case aO => exact (by (with_reducible repeat (first | apply Kd.R_alloc | apply Kd.R_drewN | apply Kd.R_drew)); exact Kd.R_mono (Kd.R_far (p := ⟨gb209, 2, none⟩) (Kd.R_types HO_210003.out BK209.out (by decide)) (fun _ hk => hk.2) (.slice Ao28 y212.length co28)) (fun _ hk => hk.1))); (case aS => exact (below_size (by repeat (first | (with_reducible first | exact HB.out | apply below_alloc | apply pw_below_drewN | apply below_drew1 | refine below_set ?_ GE209.out) | exact HB.out)))); (case aL => have := LMc25.out; omega); intro v216 w30 ho hb hg hat; rw [← Ny215.out] at ho; have n0_ := Aside0.mk (blk_grown (g := gb209) (o := .cells #[.bool a0_0, .int .i64 a0_1, .slice Ao28 y212.length co28, u210003, .int .i64 a0_4] 40 (0, 0)) (by (with_reducible repeat (first | refine blk_drewN ?_ _ | refine blk_drew ?_ | refine blk_alloc ?_ _)); refine blk_put (cs := #[.bool a0_0, .int .i64 a0_1, u210002, u210003, .int .i64 a0_4]) ?_ 2 _ rfl; (with_reducible repeat (first | refine blk_drewN ?_ _ | refine blk_drew ?_ | refine blk_alloc ?_ _)); exact BK209.out) hg (Kd.R_ne HO_210003.out BK209.out (by decide))); have n1_ := Aside0.mk (Kd.R_over' (by (with_reducible repeat (first | apply Kd.R_alloc | apply Kd.R_drewN | apply Kd.R_drew)); exact (Kd.R_mono (Kd.R_far (p := ⟨gb209, 2, none⟩) (Kd.R_types HO214.out BK209.out (by decide)) (fun _ hk => hk.2) (.slice Ao28 y212.length co28)) (fun _ h_ => h_.1))) (Kd.R_typed (by (with_reducible repeat (first | apply Kd.R_alloc | apply Kd.R_drewN | apply Kd.R_drew)); exact (Kd.R_mono (Kd.R_far (p := ⟨gb209, 2, none⟩) (Kd.R_types HO_210003.out BK209.out (by decide)) (fun _ hk => hk.2) (.slice Ao28 y212.length co28)) (fun _ h_ => h_.1)))) (by decide) hg); have n2_ := Aside0.mk (hb); have n3_ := Aside0.mk (Kept.of_grown (S := (fun k_ => P0_2_ k_ ∨ P0_3_ k_)) hg (by repeat (first | (with_reducible first | exact HK.out | apply Kept.alloc | apply Kept.drewN | apply Kept.drew | refine Kept.setCell ?_ (.inr GW209.out) _) | exact HK.out)) (fun k_ e_ => (HO_210003.out.1 k_ e_))); have n4_ := Aside0.mk (ho); clear BK209; clear HO214; clear HB; clear HK; clear HO_210003; have BK209 := n0_; have HO214 := n1_; have HB := n2_; have HK := n3_; have HO217 := n4_; clear n0_ n1_ n2_ n3_ n4_; clear ho hb hg hat; obtain ⟨Ao31, co31, eo31⟩ := Kd.R_slice HO217.out; subst eo31; have hcz32_0 : w30.cell? ⟨gb209, 0, none⟩ = some (.bool a0_0) := (blk_cell BK209.out 0).trans rfl; have hcz32_1 : w30.cell? ⟨gb209, 1, none⟩ = some (.int .i64 a0_1) := (blk_cell BK209.out 1).trans rfl; have hcz32_2 : w30.cell? ⟨gb209, 2, none⟩ = some (.slice Ao28 y212.length co28) := (blk_cell BK209.out 2).trans rfl; have hcz32_3 : w30.cell? ⟨gb209, 3, none⟩ = some (u210003) := (blk_cell BK209.out 3).trans rfl; have hcz32_4 : w30.cell? ⟨gb209, 4, none⟩ = some (.int .i64 a0_4) := (blk_cell BK209.out 4).trans rfl; have hfz32_0 := blk_frozen BK209.out 0; have hfz32_1 := blk_frozen BK209.out 1; have hfz32_2 := blk_frozen BK209.out 2; have hfz32_3 := blk_frozen BK209.out 3; have hfz32_4 := blk_frozen BK209.out 4))
                        go_roundg k3
                        case measure => have := HK1.out; have := HK2.out; have := HK3.out; omega
                        case rel => exact ⟨(wrap64 (x4_3 + 1)), (y212), (y215), (.slice Ao28 y212.length co28), (.slice Ao31 y215.length co31), (by first | rfl | (simp; done) | (simp [*]; done)), H', ⟨by have := HK1.out; have := HK2.out; have := HK3.out; omega⟩, ⟨by (with_reducible repeat (first | apply Kd.R_alloc | apply Kd.R_drewN | apply Kd.R_drew)); exact Kd.R_mono (Kd.R_far (p := ⟨gb209, 3, none⟩) (Kd.R_types HO214.out BK209.out (by decide)) (fun _ hk => hk.2) (.slice Ao31 y215.length co31)) (fun _ hk => hk.1)⟩, ⟨by (with_reducible repeat (first | apply Kd.R_alloc | apply Kd.R_drewN | apply Kd.R_drew)); exact Kd.R_mono (Kd.R_far (p := ⟨gb209, 3, none⟩) (Kd.R_types HO217.out BK209.out (by decide)) (fun _ hk => hk.2) (.slice Ao31 y215.length co31)) (fun _ hk => hk.1)⟩, ⟨by (with_reducible repeat (first | refine blk_drewN ?_ _ | refine blk_drew ?_ | refine blk_alloc ?_ _)); refine blk_put (cs := #[.bool a0_0, .int .i64 a0_1, .slice Ao28 y212.length co28, u210003, .int .i64 a0_4]) ?_ 3 _ rfl; (with_reducible repeat (first | refine blk_drewN ?_ _ | refine blk_drew ?_ | refine blk_alloc ?_ _)); exact BK209.out⟩, ⟨by repeat (first | (with_reducible first | exact HK.out | apply Kept.alloc | apply Kept.drewN | apply Kept.drew | refine Kept.setCell ?_ (.inr GW209.out) _) | exact HK.out)⟩, ⟨by repeat (first | (with_reducible first | exact HB.out | apply below_alloc | apply pw_below_drewN | apply below_drew1 | refine below_set ?_ GE209.out) | exact HB.out)⟩⟩
                      · rw [if_neg c25] at H
                        exact absurd H (by simp)
                    · rw [if_neg c24] at H
                      exact absurd H (by simp)
                  · rw [if_neg c23] at H
                    have c23b0 : decide (x4_3 < 8) = false := decide_eq_false c23
                    clear c23
                    go_wp2
                    first | go_end0 | ((try simp only [Exit.inBlock, Exit.then]); refine bodyPost_ret (results_none rfl _ _ _) rfl ?_)
                    exact ⟨by first | rfl | (simp [errW_none, errW_some] <;> rfl) | (simp [*, errW_none, errW_some] <;> rfl), by repeat (first | (with_reducible first | exact HB.out | apply below_alloc | apply pw_below_drewN | apply below_drew1 | refine below_set ?_ GE209.out) | exact HB.out), by repeat (first | (with_reducible first | exact HK.out | apply Kept.alloc | apply Kept.drewN | apply Kept.drew | refine Kept.setCell ?_ (.inr GW209.out) _) | exact HK.out)⟩

-- NOT PRINTED: function 8 (rotalaw15_PortOwn)

end Go.Proofs.Ytdienpcifklinaa.PPortOwn
