-- PRINTED BY print.sh 35421559b90ae4d0a3588c463048766b98c2df88dd9212a6774a882060cdf62d: not written by this session
import Derived.Test.YtdienpcifklinaaPPortOwnx0
import Derived.Test.YtdienpcifklinaaPPortOwnx4
namespace Go.Proofs.Ytdienpcifklinaa.PPortOwn
open Go.RowKit Go.Proofs.YtdienpcifklinaaW.PrintWords Go.Proofs.YtdienpcifklinaaW.PrintLast Go.Proofs.YtdienpcifklinaaW.PrintMore
attribute [local go_sem] max2_int min2_int max_two min_two max_three min_three max_four min_four   -- for this text's walks alone
set_option linter.unusedVariables false
set_option linter.unusedSimpArgs false

/-! ### rotaref15_Deliver: function 26 -/
mutual
def rotaref15_Deliver.l0 : Nat → Int → Bool → Int → List Int → List (S68) → Int → Bool → Int → List (S68) → Int → Option (Bool × Int × List Int × (List (S68)) × Int)
  | 0, _, _, _, _, _, _, _, _, _, _ => none
  | k + 1, x4, x155000, x155001, x155002, x155003, x155004, x166000, x166001, x166003, x166004 => if x4 < (x166003.length : Int) then (if 0 ≤ x4 then (if ((rd_T68 x166003 x4).f1) < 2147483647 then (rotaref15_Deliver.l0 k (wrap64 (x4 + 1)) x155000 x155001 x155002 x155003 x155004 x166000 x166001 (x166003.set (x4 : Int).toNat (⟨(rd_T68 x166003 x4).f0, wrap64 (((rd_T68 x166003 x4).f1) + 1)⟩ : S68)) x166004) else (rotaref15_Deliver.l0 k (wrap64 (x4 + 1)) x155000 x155001 x155002 x155003 x155004 x166000 x166001 x166003 x166004)) else (none)) else (if x155000 = true then (rotaref15_Deliver.l1 k 0 x155000 x155001 x155002 x155003 x155004 x166000 x166001 x166003 x166004) else (if (x155002.length : Int) > 0 then (if 0 < (x155002.length : Int) then (some (x166000, x166001, ([] : List Int), (([(⟨rd x155002 0, 0⟩ : S68)] : List (S68))), x166004)) else (none)) else (some (x166000, x166001, ([] : List Int), x166003, x166004))))
def rotaref15_Deliver.l1 : Nat → Int → Bool → Int → List Int → List (S68) → Int → Bool → Int → List (S68) → Int → Option (Bool × Int × List Int × (List (S68)) × Int)
  | 0, _, _, _, _, _, _, _, _, _, _ => none
  | k + 1, x5, x155000, x155001, x155002, x155003, x155004, x166000, x166001, x166003, x166004 => if x5 < (x155002.length : Int) then (if (x166003.length : Int) < x155001 then (if 0 ≤ x5 then (if x166003.length < 8796093022208 then (rotaref15_Deliver.l1 k (wrap64 (x5 + 1)) x155000 x155001 x155002 x155003 x155004 x166000 x166001 (x166003 ++ [(⟨rd x155002 x5, 0⟩ : S68)]) x166004) else (none)) else (none)) else (if x166004 < 2147483647 then (rotaref15_Deliver.l1 k (wrap64 (x5 + 1)) x155000 x155001 x155002 x155003 x155004 x166000 x166001 x166003 (wrap64 (x166004 + 1))) else (rotaref15_Deliver.l1 k (wrap64 (x5 + 1)) x155000 x155001 x155002 x155003 x155004 x166000 x166001 x166003 x166004))) else (some (x166000, x166001, ([] : List Int), x166003, x166004))
end
def rotaref15_Deliver.f (k : Nat) (a0_0 : Bool) (a0_1 : Int) (l0_2 : List Int) (l0_3 : List (S68)) (a0_4 : Int) : Option (Bool × Int × List Int × (List (S68)) × Int) := (rotaref15_Copy.f k a0_0 a0_1 l0_2 l0_3 a0_4).bind fun bt156 => (rotaref15_Deliver.l0 k 0 a0_0 a0_1 l0_2 l0_3 a0_4 bt156.1 bt156.2.1 bt156.2.2.2.1 bt156.2.2.2.2)
theorem rotaref15_Deliver.mono_l : ∀ k, (∀ y0 y1 y2 y3 y4 y5 y6 y7 y8 y9, LeO (rotaref15_Deliver.l0 k y0 y1 y2 y3 y4 y5 y6 y7 y8 y9) (rotaref15_Deliver.l0 (k + 1) y0 y1 y2 y3 y4 y5 y6 y7 y8 y9)) ∧ (∀ y0 y1 y2 y3 y4 y5 y6 y7 y8 y9, LeO (rotaref15_Deliver.l1 k y0 y1 y2 y3 y4 y5 y6 y7 y8 y9) (rotaref15_Deliver.l1 (k + 1) y0 y1 y2 y3 y4 y5 y6 y7 y8 y9))
  | 0 => ⟨fun _ _ _ _ _ _ _ _ _ _ r h => by simp [rotaref15_Deliver.l0] at h, fun _ _ _ _ _ _ _ _ _ _ r h => by simp [rotaref15_Deliver.l1] at h⟩
  | k + 1 => by
    obtain ⟨ih0, ih1⟩ := rotaref15_Deliver.mono_l k
    refine ⟨?_, ?_⟩
    · intro y0 y1 y2 y3 y4 y5 y6 y7 y8 y9
      unfold rotaref15_Deliver.l0
      repeat' first
      | (with_reducible exact ih0 _ _ _ _ _ _ _ _ _ _)
      | (with_reducible exact ih1 _ _ _ _ _ _ _ _ _ _)
      | (with_reducible exact rotaref15_Copy.mono _ _ _ _ _ _)
      | (with_reducible exact LeO.refl _)
      | (with_reducible exact LeO.none _)
      | (with_reducible refine LeO.ite ?_ ?_)
      | (with_reducible refine LeO.bind ?_ (fun _ => ?_))
      | exact ih0 _ _ _ _ _ _ _ _ _ _
      | exact ih1 _ _ _ _ _ _ _ _ _ _
      | exact rotaref15_Copy.mono _ _ _ _ _ _
      | exact LeO.none _
      | refine LeO.ite ?_ ?_
      | refine LeO.bind ?_ (fun _ => ?_)
    · intro y0 y1 y2 y3 y4 y5 y6 y7 y8 y9
      unfold rotaref15_Deliver.l1
      repeat' first
      | (with_reducible exact ih0 _ _ _ _ _ _ _ _ _ _)
      | (with_reducible exact ih1 _ _ _ _ _ _ _ _ _ _)
      | (with_reducible exact rotaref15_Copy.mono _ _ _ _ _ _)
      | (with_reducible exact LeO.refl _)
      | (with_reducible exact LeO.none _)
      | (with_reducible refine LeO.ite ?_ ?_)
      | (with_reducible refine LeO.bind ?_ (fun _ => ?_))
      | exact ih0 _ _ _ _ _ _ _ _ _ _
      | exact ih1 _ _ _ _ _ _ _ _ _ _
      | exact rotaref15_Copy.mono _ _ _ _ _ _
      | exact LeO.none _
      | refine LeO.ite ?_ ?_
      | refine LeO.bind ?_ (fun _ => ?_)
theorem rotaref15_Deliver.mono : ∀ a0 a1 a2 a3 a4 k, LeO (rotaref15_Deliver.f k a0 a1 a2 a3 a4) (rotaref15_Deliver.f (k + 1) a0 a1 a2 a3 a4) := by
  intro a0 a1 a2 a3 a4 k
  obtain ⟨ih0, ih1⟩ := rotaref15_Deliver.mono_l k
  unfold rotaref15_Deliver.f
  repeat' first
      | (with_reducible exact ih0 _ _ _ _ _ _ _ _ _ _)
      | (with_reducible exact ih1 _ _ _ _ _ _ _ _ _ _)
      | (with_reducible exact rotaref15_Copy.mono _ _ _ _ _ _)
      | (with_reducible exact LeO.refl _)
      | (with_reducible exact LeO.none _)
      | (with_reducible refine LeO.ite ?_ ?_)
      | (with_reducible refine LeO.bind ?_ (fun _ => ?_))
      | exact ih0 _ _ _ _ _ _ _ _ _ _
      | exact ih1 _ _ _ _ _ _ _ _ _ _
      | exact rotaref15_Copy.mono _ _ _ _ _ _
      | exact LeO.none _
      | refine LeO.ite ?_ ?_
      | refine LeO.bind ?_ (fun _ => ?_)
def rotaref15_Deliver.T16 : Bool × List (List Nat × List Nat) := (true, [([], []), ([0], [0]), ([], []), ([2], [2]), ([], []), ([3, 4], [3, 4]), ([5], [5]), ([6], [6]), ([7], [7]), ([1, 8], [1, 8]), ([0, 1, 2, 3, 4, 5, 6, 7, 8, 9], []), ([10, 9, 9, 0, 1, 2, 3, 4, 5, 6, 7, 8, 9], [9, 10])])
def rotaref15_Deliver.B16 : List Nat := [0, 1, 0, 4, 0, 28, 60, 124, 252, 511, 1023, 2047]
theorem rotaref15_Deliver.tab16 : rtab .any (opsOf Try.f26 16) = rotaref15_Deliver.T16 := by kernel_rfl
theorem rotaref15_Deliver.bits16 : waitsOk rotaref15_Deliver.T16.2 rotaref15_Deliver.B16 = true := by kernel_rfl
set_option maxHeartbeats 8000000 in
set_option maxRecDepth 100000 in
theorem rotaref15_Deliver.calls (k : Nat) (a0_0 : Bool) (a0_1 : Int) (A0_2 : Option Addr) (c0_2 : Nat) (l0_2 : List Int) (A0_3 : Option Addr) (c0_3 : Nat) (l0_3 : List (S68)) (a0_4 : Int) (r1 : Bool) (r2 : Int) (r3 : List Int) (r4 : List (S68)) (r5 : Int) (w : World) (hr0_2 : Kd.C (Kd.int .i64) w A0_2 l0_2.length l0_2) (hc0_2 : l0_2.length ≤ c0_2) (hr0_3 : Kd.C k68 w A0_3 l0_3.length l0_3) (hc0_3 : l0_3.length ≤ c0_3) (h : rotaref15_Deliver.f k a0_0 a0_1 l0_2 l0_3 a0_4 = some (r1, r2, r3, r4, r5)) :
    Calls Try.prog 26 #[.agg #[.bool a0_0, .int .i64 a0_1, .slice A0_2 l0_2.length c0_2, .slice A0_3 l0_3.length c0_3, .int .i64 a0_4]] w fun e w' => ∃ v2_ v3_ : Value, e = .returned (.agg #[.bool r1, .int .i64 r2, v2_, v3_, .int .i64 r5]) ∧ Kd.R (Kd.int .i64) 2 w' w.heap.size (fun _ => True) v2_ r3 ∧ Kd.R k68 68 w' w.heap.size (fun _ => True) v3_ r4 ∧ Below w.heap.size w w' := by
  have hu40 := Try.underlying40
  have hu68 := Try.underlying68
  have HR0_2 := Aside0.mk hr0_2
  have HC0_2 := Aside0.mk hc0_2
  clear hr0_2 hc0_2
  have HR0_3 := Aside0.mk hr0_3
  have HC0_3 := Aside0.mk hc0_3
  clear hr0_3 hc0_3
  have HB := Aside0.mk (Below.refl w.heap.size w)
  have H : ((rotaref15_Copy.f k a0_0 a0_1 l0_2 l0_3 a0_4).bind fun bt156 => (rotaref15_Deliver.l0 k 0 a0_0 a0_1 l0_2 l0_3 a0_4 bt156.1 bt156.2.1 bt156.2.2.2.1 bt156.2.2.2.2)) = some (r1, r2, r3, r4, r5) := h
  clear h
  replace H := Option.bind_eq_some_iff.mp H
  obtain ⟨⟨t156, t157, t158, t161, t164⟩, A20, H⟩ := H
  replace H : (rotaref15_Deliver.l0 k 0 a0_0 a0_1 l0_2 l0_3 a0_4 t156 t157 t161 t164) = some (r1, r2, r3, r4, r5) := H
  have A2 := Aside0.mk A20
  clear A20
  have H' := Aside0.mk H
  clear H
  go_enter Try.func26, Try.ntmps26
  go_wp2_with (first | ((with_reducible refine gate_dst (N := 1) rfl ?_); refine box_event ?hg (N := 1) ?hd (cs := #[.bool a0_0, .int .i64 a0_1, .slice A0_2 l0_2.length c0_2, .slice A0_3 l0_3.length c0_3, .int .i64 a0_4]) (t := 40) ?hr ?_; (case hd => rfl); (case hg => rfl); (case hr => first | (go_simp; done) | (go_simp; rfl)); intro gb154 hg w3 hbox hb; have n0_ := Aside0.mk (below_step (by repeat (first | (with_reducible first | exact HB.out | apply below_alloc | apply pw_below_drewN | apply below_drew1) | exact HB.out)) hb); have n1_ := Aside0.mk (hbox); have n2_ := Aside0.mk ((by rw [hg]; exact (below_size (by repeat (first | (with_reducible first | exact HB.out | apply below_alloc | apply pw_below_drewN | apply below_drew1) | exact HB.out))) : w.heap.size ≤ gb154)); have n3_ := Aside0.mk ((by rw [hg]; exact (below_size (by repeat (first | (with_reducible first | exact HB.out | apply below_alloc | apply pw_below_drewN | apply below_drew1) | exact HB.out))) : w.heap.size ≤ gb154)); clear HB; have HB := n0_; have BK154 := n1_; have GW154 := n2_; have GE154 := n3_; clear n0_ n1_ n2_ n3_; clear hb hbox hg) | ((with_reducible refine gate_dst (N := 2) rfl ?_); refine box_event ?hg (N := 2) ?hd (cs := #[.bool false, .int .i64 0, .slice none 0 0, .slice none 0 0, .int .i64 0]) (t := 40) ?hr ?_; (case hd => rfl); (case hg => rfl); (case hr => first | (go_simp; done) | (go_simp; rfl)); intro gb155 hg w4 hbox hb; have n0_ := Aside0.mk (blk_below (g := gb154) (o := .cells #[.bool a0_0, .int .i64 a0_1, .slice A0_2 l0_2.length c0_2, .slice A0_3 l0_3.length c0_3, .int .i64 a0_4] 40 (0, 0)) (by (with_reducible repeat (first | refine blk_drewN ?_ _ | refine blk_drew ?_ | refine blk_alloc ?_ _)); exact BK154.out) hb); have n1_ := Aside0.mk (below_step (by repeat (first | (with_reducible first | exact HB.out | apply below_alloc | apply pw_below_drewN | apply below_drew1 | refine below_set ?_ GE154.out) | exact HB.out)) hb); have n2_ := Aside0.mk (hbox); have n3_ := Aside0.mk ((by rw [hg]; exact (below_size (by repeat (first | (with_reducible first | exact HB.out | apply below_alloc | apply pw_below_drewN | apply below_drew1 | refine below_set ?_ GE154.out) | exact HB.out))) : w.heap.size ≤ gb155)); have n4_ := Aside0.mk ((by rw [hg]; exact (below_size (by repeat (first | (with_reducible first | exact HB.out | apply below_alloc | apply pw_below_drewN | apply below_drew1 | refine below_set ?_ GE154.out) | exact HB.out))) : w.heap.size ≤ gb155)); have n5_ := Aside0.mk ((by rw [hg]; exact Nat.ne_of_lt (blk_lt (g := gb154) (o := .cells #[.bool a0_0, .int .i64 a0_1, .slice A0_2 l0_2.length c0_2, .slice A0_3 l0_3.length c0_3, .int .i64 a0_4] 40 (0, 0)) (by (with_reducible repeat (first | refine blk_drewN ?_ _ | refine blk_drew ?_ | refine blk_alloc ?_ _)); exact BK154.out)) : gb154 ≠ gb155)); have n6_ := Aside0.mk ((by rw [hg]; exact Nat.ne_of_gt (blk_lt (g := gb154) (o := .cells #[.bool a0_0, .int .i64 a0_1, .slice A0_2 l0_2.length c0_2, .slice A0_3 l0_3.length c0_3, .int .i64 a0_4] 40 (0, 0)) (by (with_reducible repeat (first | refine blk_drewN ?_ _ | refine blk_drew ?_ | refine blk_alloc ?_ _)); exact BK154.out)) : gb155 ≠ gb154)); clear BK154; clear HB; have BK154 := n0_; have HB := n1_; have BK155 := n2_; have GW155 := n3_; have GE155 := n4_; have NB154_155 := n5_; have NB155_154 := n6_; clear n0_ n1_ n2_ n3_ n4_ n5_ n6_; clear hb hbox hg; have hnb5 := NB154_155.out; have hnc5 := NB155_154.out; have hcz6_0 : w4.cell? ⟨gb154, 0, none⟩ = some (.bool a0_0) := (blk_cell BK154.out 0).trans rfl; have hcz6_1 : w4.cell? ⟨gb154, 1, none⟩ = some (.int .i64 a0_1) := (blk_cell BK154.out 1).trans rfl; have hcz6_2 : w4.cell? ⟨gb154, 2, none⟩ = some (.slice A0_2 l0_2.length c0_2) := (blk_cell BK154.out 2).trans rfl; have hcz6_3 : w4.cell? ⟨gb154, 3, none⟩ = some (.slice A0_3 l0_3.length c0_3) := (blk_cell BK154.out 3).trans rfl; have hcz6_4 : w4.cell? ⟨gb154, 4, none⟩ = some (.int .i64 a0_4) := (blk_cell BK154.out 4).trans rfl; have hfz6_0 := blk_frozen BK154.out 0; have hfz6_1 := blk_frozen BK154.out 1; have hfz6_2 := blk_frozen BK154.out 2; have hfz6_3 := blk_frozen BK154.out 3; have hfz6_4 := blk_frozen BK154.out 4) | ((with_reducible refine gate_callee (f := 20) rfl ?_); refine goesL_ (some 7) rfl rfl Try.func20 (by kernel_rfl) rfl #[.agg #[.bool a0_0, .int .i64 a0_1, .slice A0_2 l0_2.length c0_2, .slice A0_3 l0_3.length c0_3, .int .i64 a0_4]] rfl (by (try simp only [List.map_toArray, List.map_cons, List.map_nil]); first | done | rfl | (simp only [List.length_drop, List.length_take]; rfl)) ?_; (with_reducible refine (rotaref15_Copy.calls k a0_0 a0_1 _ _ l0_2 _ _ l0_3 a0_4 t156 t157 t158 t161 t164 _ ?side1 ?side2 ?side3 ?side4 A2.out).mono ?_); (case side1 => repeat (first | exact (Kd.C_below HR0_2.out HB.out) | (with_reducible refine Kd.C_alloc ?_ _) | (with_reducible refine Kd.C_drewN ?_ _) | (with_reducible refine Kd.C_drew ?_))); (case side2 => exact HC0_2.out); (case side3 => repeat (first | exact (Kd.C_below HR0_3.out HB.out) | (with_reducible refine Kd.C_alloc ?_ _) | (with_reducible refine Kd.C_drewN ?_ _) | (with_reducible refine Kd.C_drew ?_))); (case side4 => exact HC0_3.out); rintro e w7 ⟨v159, v162, rfl, ho0, ho1, hb⟩; refine ⟨_, rfl, ?_⟩; have n0_ := Aside0.mk (Kd.R_lower ho0 (below_size (by repeat (first | (with_reducible first | exact HB.out | apply below_alloc | apply pw_below_drewN | apply below_drew1 | refine below_set ?_ GE154.out | refine below_set ?_ GE155.out) | exact HB.out)))); have n1_ := Aside0.mk (Kd.R_lower ho1 (below_size (by repeat (first | (with_reducible first | exact HB.out | apply below_alloc | apply pw_below_drewN | apply below_drew1 | refine below_set ?_ GE154.out | refine below_set ?_ GE155.out) | exact HB.out)))); have n2_ := Aside0.mk (blk_below (g := gb154) (o := .cells #[.bool a0_0, .int .i64 a0_1, .slice A0_2 l0_2.length c0_2, .slice A0_3 l0_3.length c0_3, .int .i64 a0_4] 40 (0, 0)) (by (with_reducible repeat (first | refine blk_drewN ?_ _ | refine blk_drew ?_ | refine blk_alloc ?_ _)); exact BK154.out) hb); have n3_ := Aside0.mk (blk_below (g := gb155) (o := .cells #[.bool false, .int .i64 0, .slice none 0 0, .slice none 0 0, .int .i64 0] 40 (0, 0)) (by (with_reducible repeat (first | refine blk_drewN ?_ _ | refine blk_drew ?_ | refine blk_alloc ?_ _)); exact BK155.out) hb); have n4_ := Aside0.mk (below_step (by repeat (first | (with_reducible first | exact HB.out | apply below_alloc | apply pw_below_drewN | apply below_drew1 | refine below_set ?_ GE154.out | refine below_set ?_ GE155.out) | exact HB.out)) hb); clear BK154; clear BK155; clear HB; have HO160 := n0_; have HO163 := n1_; have BK154 := n2_; have BK155 := n3_; have HB := n4_; clear n0_ n1_ n2_ n3_ n4_; (try clear hb); (try clear hb2); (try clear hk); (try clear hi); (try clear ho0); (try clear ho1)) | ((with_reducible refine gate_dst (N := 3) rfl ?_); refine box_event ?hg (N := 3) ?hd (cs := #[.bool false, .int .i64 0, .slice none 0 0, .slice none 0 0, .int .i64 0]) (t := 40) ?hr ?_; (case hd => rfl); (case hg => rfl); (case hr => first | (go_simp; done) | (go_simp; rfl)); intro gb165 hg w8 hbox hb; have n0_ := Aside0.mk (Kd.R_below (by (with_reducible repeat (first | apply Kd.R_alloc | apply Kd.R_drewN | apply Kd.R_drew)); exact HO160.out) hb); have n1_ := Aside0.mk (Kd.R_below (by (with_reducible repeat (first | apply Kd.R_alloc | apply Kd.R_drewN | apply Kd.R_drew)); exact HO163.out) hb); have n2_ := Aside0.mk (blk_below (g := gb154) (o := .cells #[.bool a0_0, .int .i64 a0_1, .slice A0_2 l0_2.length c0_2, .slice A0_3 l0_3.length c0_3, .int .i64 a0_4] 40 (0, 0)) (by (with_reducible repeat (first | refine blk_drewN ?_ _ | refine blk_drew ?_ | refine blk_alloc ?_ _)); exact BK154.out) hb); have n3_ := Aside0.mk (blk_below (g := gb155) (o := .cells #[.bool false, .int .i64 0, .slice none 0 0, .slice none 0 0, .int .i64 0] 40 (0, 0)) (by (with_reducible repeat (first | refine blk_drewN ?_ _ | refine blk_drew ?_ | refine blk_alloc ?_ _)); exact BK155.out) hb); have n4_ := Aside0.mk (below_step (by repeat (first | (with_reducible first | exact HB.out | apply below_alloc | apply pw_below_drewN | apply below_drew1 | refine below_set ?_ GE154.out | refine below_set ?_ GE155.out) | exact HB.out)) hb); have n5_ := Aside0.mk (hbox); have n6_ := Aside0.mk ((by rw [hg]; exact (below_size (by repeat (first | (with_reducible first | exact HB.out | apply below_alloc | apply pw_below_drewN | apply below_drew1 | refine below_set ?_ GE154.out | refine below_set ?_ GE155.out) | exact HB.out))) : w.heap.size ≤ gb165)); have n7_ := Aside0.mk ((by rw [hg]; exact (below_size (by repeat (first | (with_reducible first | exact HB.out | apply below_alloc | apply pw_below_drewN | apply below_drew1 | refine below_set ?_ GE154.out | refine below_set ?_ GE155.out) | exact HB.out))) : w.heap.size ≤ gb165)); have n8_ := Aside0.mk ((by rw [hg]; exact Nat.ne_of_lt (blk_lt (g := gb154) (o := .cells #[.bool a0_0, .int .i64 a0_1, .slice A0_2 l0_2.length c0_2, .slice A0_3 l0_3.length c0_3, .int .i64 a0_4] 40 (0, 0)) (by (with_reducible repeat (first | refine blk_drewN ?_ _ | refine blk_drew ?_ | refine blk_alloc ?_ _)); exact BK154.out)) : gb154 ≠ gb165)); have n9_ := Aside0.mk ((by rw [hg]; exact Nat.ne_of_gt (blk_lt (g := gb154) (o := .cells #[.bool a0_0, .int .i64 a0_1, .slice A0_2 l0_2.length c0_2, .slice A0_3 l0_3.length c0_3, .int .i64 a0_4] 40 (0, 0)) (by (with_reducible repeat (first | refine blk_drewN ?_ _ | refine blk_drew ?_ | refine blk_alloc ?_ _)); exact BK154.out)) : gb165 ≠ gb154)); have n10_ := Aside0.mk ((by rw [hg]; exact Nat.ne_of_lt (blk_lt (g := gb155) (o := .cells #[.bool false, .int .i64 0, .slice none 0 0, .slice none 0 0, .int .i64 0] 40 (0, 0)) (by (with_reducible repeat (first | refine blk_drewN ?_ _ | refine blk_drew ?_ | refine blk_alloc ?_ _)); exact BK155.out)) : gb155 ≠ gb165)); have n11_ := Aside0.mk ((by rw [hg]; exact Nat.ne_of_gt (blk_lt (g := gb155) (o := .cells #[.bool false, .int .i64 0, .slice none 0 0, .slice none 0 0, .int .i64 0] 40 (0, 0)) (by (with_reducible repeat (first | refine blk_drewN ?_ _ | refine blk_drew ?_ | refine blk_alloc ?_ _)); exact BK155.out)) : gb165 ≠ gb155)); clear HO160; clear HO163; clear BK154; clear BK155; clear HB; have HO160 := n0_; have HO163 := n1_; have BK154 := n2_; have BK155 := n3_; have HB := n4_; have BK165 := n5_; have GW165 := n6_; have GE165 := n7_; have NB154_165 := n8_; have NB165_154 := n9_; have NB155_165 := n10_; have NB165_155 := n11_; clear n0_ n1_ n2_ n3_ n4_ n5_ n6_ n7_ n8_ n9_ n10_ n11_; clear hb hbox hg; have hnb9 := NB165_154.out; have hnc9 := NB154_165.out; have hnb10 := NB165_155.out; have hnc10 := NB155_165.out; have hcz11_0 : w8.cell? ⟨gb165, 0, none⟩ = some (.bool false) := (blk_cell BK165.out 0).trans rfl; have hcz11_1 : w8.cell? ⟨gb165, 1, none⟩ = some (.int .i64 0) := (blk_cell BK165.out 1).trans rfl; have hcz11_2 : w8.cell? ⟨gb165, 2, none⟩ = some (.slice none 0 0) := (blk_cell BK165.out 2).trans rfl; have hcz11_3 : w8.cell? ⟨gb165, 3, none⟩ = some (.slice none 0 0) := (blk_cell BK165.out 3).trans rfl; have hcz11_4 : w8.cell? ⟨gb165, 4, none⟩ = some (.int .i64 0) := (blk_cell BK165.out 4).trans rfl; have hfz11_0 := blk_frozen BK165.out 0; have hfz11_1 := blk_frozen BK165.out 1; have hfz11_2 := blk_frozen BK165.out 2; have hfz11_3 := blk_frozen BK165.out 3; have hfz11_4 := blk_frozen BK165.out 4; obtain ⟨Ao12, co12, eo12⟩ := Kd.R_slice HO160.out; subst eo12; obtain ⟨Ao13, co13, eo13⟩ := Kd.R_slice HO163.out; subst eo13))
  go_loopg [4] k (fun kq v4 w' => ∃ (x4_1 : Int) (x166003_1 : List (S68)) (u166003 : Value), v4 = .int .i64 x4_1 ∧ Aside0 (rotaref15_Deliver.l0 kq x4_1 a0_0 a0_1 l0_2 l0_3 a0_4 t156 t157 x166003_1 t164 = some (r1, r2, r3, r4, r5)) ∧ Aside0 (kq ≤ k) ∧ Aside0 (Kd.R k68 68 w' w.heap.size (fun _ => True) u166003 x166003_1) ∧ Aside0 (w'.heap[gb154]? = some (.cells #[.bool a0_0, .int .i64 a0_1, (.slice A0_2 l0_2.length c0_2), (.slice A0_3 l0_3.length c0_3), .int .i64 a0_4] 40 (0, 0))) ∧ Aside0 (w'.heap[gb155]? = some (.cells #[.bool false, .int .i64 0, (.slice none 0 0), (.slice none 0 0), .int .i64 0] 40 (0, 0))) ∧ Aside0 (w'.heap[gb165]? = some (.cells #[.bool t156, .int .i64 t157, (.slice none 0 0), u166003, .int .i64 t164] 40 (0, 0))) ∧ Aside0 (Below w.heap.size w w'))
  case atStart => exact ⟨(0), (t161), (.slice Ao13 t161.length co13), (by first | rfl | (simp; done) | (simp [*]; done)), H', ⟨Nat.le_refl _⟩, ⟨by (with_reducible repeat (first | apply Kd.R_alloc | apply Kd.R_drewN | apply Kd.R_drew)); exact Kd.R_mono (Kd.R_far (p := ⟨gb165, 2, none⟩) (Kd.R_far (p := ⟨gb165, 4, none⟩) (Kd.R_far (p := ⟨gb165, 3, none⟩) (Kd.R_far (p := ⟨gb165, 2, none⟩) (Kd.R_far (p := ⟨gb165, 1, none⟩) (Kd.R_far (p := ⟨gb165, 0, none⟩) (Kd.R_types HO163.out BK165.out (by decide)) (fun _ hk => hk.2) (.bool t156)) (fun _ hk => hk.2) (.int .i64 t157)) (fun _ hk => hk.2) (.slice Ao12 t158.length co12)) (fun _ hk => hk.2) (.slice Ao13 t161.length co13)) (fun _ hk => hk.2) (.int .i64 t164)) (fun _ hk => hk.2) (.slice none 0 0)) (fun _ hk => trivial)⟩, ⟨by (with_reducible repeat (first | refine blk_drewN ?_ _ | refine blk_drew ?_ | refine blk_alloc ?_ _)); refine blk_far ?_ NB154_165.out _; (with_reducible repeat (first | refine blk_drewN ?_ _ | refine blk_drew ?_ | refine blk_alloc ?_ _)); refine blk_far ?_ NB154_165.out _; (with_reducible repeat (first | refine blk_drewN ?_ _ | refine blk_drew ?_ | refine blk_alloc ?_ _)); refine blk_far ?_ NB154_165.out _; (with_reducible repeat (first | refine blk_drewN ?_ _ | refine blk_drew ?_ | refine blk_alloc ?_ _)); refine blk_far ?_ NB154_165.out _; (with_reducible repeat (first | refine blk_drewN ?_ _ | refine blk_drew ?_ | refine blk_alloc ?_ _)); refine blk_far ?_ NB154_165.out _; (with_reducible repeat (first | refine blk_drewN ?_ _ | refine blk_drew ?_ | refine blk_alloc ?_ _)); refine blk_far ?_ NB154_165.out _; (with_reducible repeat (first | refine blk_drewN ?_ _ | refine blk_drew ?_ | refine blk_alloc ?_ _)); exact BK154.out⟩, ⟨by (with_reducible repeat (first | refine blk_drewN ?_ _ | refine blk_drew ?_ | refine blk_alloc ?_ _)); refine blk_far ?_ NB155_165.out _; (with_reducible repeat (first | refine blk_drewN ?_ _ | refine blk_drew ?_ | refine blk_alloc ?_ _)); refine blk_far ?_ NB155_165.out _; (with_reducible repeat (first | refine blk_drewN ?_ _ | refine blk_drew ?_ | refine blk_alloc ?_ _)); refine blk_far ?_ NB155_165.out _; (with_reducible repeat (first | refine blk_drewN ?_ _ | refine blk_drew ?_ | refine blk_alloc ?_ _)); refine blk_far ?_ NB155_165.out _; (with_reducible repeat (first | refine blk_drewN ?_ _ | refine blk_drew ?_ | refine blk_alloc ?_ _)); refine blk_far ?_ NB155_165.out _; (with_reducible repeat (first | refine blk_drewN ?_ _ | refine blk_drew ?_ | refine blk_alloc ?_ _)); refine blk_far ?_ NB155_165.out _; (with_reducible repeat (first | refine blk_drewN ?_ _ | refine blk_drew ?_ | refine blk_alloc ?_ _)); exact BK155.out⟩, ⟨by (with_reducible repeat (first | refine blk_drewN ?_ _ | refine blk_drew ?_ | refine blk_alloc ?_ _)); refine blk_put (cs := #[.bool t156, .int .i64 t157, .slice Ao12 t158.length co12, .slice Ao13 t161.length co13, .int .i64 t164]) ?_ 2 _ rfl; (with_reducible repeat (first | refine blk_drewN ?_ _ | refine blk_drew ?_ | refine blk_alloc ?_ _)); refine blk_put (cs := #[.bool t156, .int .i64 t157, .slice Ao12 t158.length co12, .slice Ao13 t161.length co13, .int .i64 0]) ?_ 4 _ rfl; (with_reducible repeat (first | refine blk_drewN ?_ _ | refine blk_drew ?_ | refine blk_alloc ?_ _)); refine blk_put (cs := #[.bool t156, .int .i64 t157, .slice Ao12 t158.length co12, .slice none 0 0, .int .i64 0]) ?_ 3 _ rfl; (with_reducible repeat (first | refine blk_drewN ?_ _ | refine blk_drew ?_ | refine blk_alloc ?_ _)); refine blk_put (cs := #[.bool t156, .int .i64 t157, .slice none 0 0, .slice none 0 0, .int .i64 0]) ?_ 2 _ rfl; (with_reducible repeat (first | refine blk_drewN ?_ _ | refine blk_drew ?_ | refine blk_alloc ?_ _)); refine blk_put (cs := #[.bool t156, .int .i64 0, .slice none 0 0, .slice none 0 0, .int .i64 0]) ?_ 1 _ rfl; (with_reducible repeat (first | refine blk_drewN ?_ _ | refine blk_drew ?_ | refine blk_alloc ?_ _)); refine blk_put (cs := #[.bool false, .int .i64 0, .slice none 0 0, .slice none 0 0, .int .i64 0]) ?_ 0 _ rfl; (with_reducible repeat (first | refine blk_drewN ?_ _ | refine blk_drew ?_ | refine blk_alloc ?_ _)); exact BK165.out⟩, ⟨by repeat (first | (with_reducible first | exact HB.out | apply below_alloc | apply pw_below_drewN | apply below_drew1 | refine below_set ?_ GE154.out | refine below_set ?_ GE155.out | refine below_set ?_ GE165.out) | exact HB.out)⟩⟩
  case round =>
    clear H'
    try clear c1
    try clear c2
    try clear p2
    try clear c5
    try clear c9
    try clear c10
    try clear hcz11_0
    try clear hcz11_1
    try clear hcz11_2
    try clear hcz11_3
    try clear hcz11_4
    try clear hcz6_0
    try clear hcz6_1
    try clear hcz6_2
    try clear hcz6_3
    try clear hcz6_4
    try clear hfz11_0
    try clear hfz11_1
    try clear hfz11_2
    try clear hfz11_3
    try clear hfz11_4
    try clear hfz6_0
    try clear hfz6_1
    try clear hfz6_2
    try clear hfz6_3
    try clear hfz6_4
    obtain ⟨x4_1, x166003_1, u166003, rfl, HA, HK1, HO_166003, BK154, BK155, BK165, HB⟩ := hrel
    cases gk with
    | zero => exact absurd HA.out (by simp [rotaref15_Deliver.l0])
    | succ k1 =>
      have H := HA.out
      clear HA
      simp only [rotaref15_Deliver.l0] at H
      by_cases c14 : x4_1 < (x166003_1.length : Int)
      · rw [if_pos c14] at H
        have c14b0 : decide (x4_1 < (x166003_1.length : Int)) = true := decide_eq_true c14
        clear c14
        by_cases c15 : 0 ≤ x4_1
        · rw [if_pos c15] at H
          have c15b0 : decide (0 ≤ x4_1) = true := decide_eq_true c15
          clear c15
          by_cases c16 : ((rd_T68 x166003_1 x4_1).f1) < 2147483647
          · rw [if_pos c16] at H
            have c16b0 : decide (((rd_T68 x166003_1 x4_1).f1) < 2147483647) = true := decide_eq_true c16
            clear c16
            obtain ⟨y168, hy168⟩ : ∃ y_ : List (S68), y_ = (x166003_1.set (x4_1 : Int).toNat (⟨(rd_T68 x166003_1 x4_1).f0, wrap64 (((rd_T68 x166003_1 x4_1).f1) + 1)⟩ : S68)) := ⟨_, rfl⟩
            replace H : (rotaref15_Deliver.l0 k1 (wrap64 (x4_1 + 1)) a0_0 a0_1 l0_2 l0_3 a0_4 t156 t157 y168 t164) = some (r1, r2, r3, r4, r5) := by first | (rw [hy168]; with_reducible exact H) | (have H2_ := (Option.bind_some _ _).symm.trans H; rw [hy168]; with_reducible exact H2_) | (have H2_ := (Option.bind_some _ _).symm.trans H; with_reducible exact H2_) | with_reducible exact H | (rw [hy168]; exact H) | exact H
            have Ny168 := Aside0.mk hy168
            clear hy168
            have H' := Aside0.mk H
            clear H
            have hnb18 := NB165_154.out
            have hnc18 := NB154_165.out
            have hnb19 := NB165_155.out
            have hnc19 := NB155_165.out
            have hcz20_0 : wr.cell? ⟨gb165, 0, none⟩ = some (.bool t156) := (blk_cell BK165.out 0).trans rfl
            have hcz20_1 : wr.cell? ⟨gb165, 1, none⟩ = some (.int .i64 t157) := (blk_cell BK165.out 1).trans rfl
            have hcz20_2 : wr.cell? ⟨gb165, 2, none⟩ = some (.slice none 0 0) := (blk_cell BK165.out 2).trans rfl
            have hcz20_3 : wr.cell? ⟨gb165, 3, none⟩ = some (u166003) := (blk_cell BK165.out 3).trans rfl
            have hcz20_4 : wr.cell? ⟨gb165, 4, none⟩ = some (.int .i64 t164) := (blk_cell BK165.out 4).trans rfl
            have hfz20_0 := blk_frozen BK165.out 0
            have hfz20_1 := blk_frozen BK165.out 1
            have hfz20_2 := blk_frozen BK165.out 2
            have hfz20_3 := blk_frozen BK165.out 3
            have hfz20_4 := blk_frozen BK165.out 4
            obtain ⟨Ao21, co21, eo21⟩ := Kd.R_slice HO_166003.out
            subst eo21
            have p166 : 0 ≤ (x4_1 : Int) := of_decide_eq_true (by first | (with_reducible assumption) | assumption)
            have q166 : x4_1 < (x166003_1.length : Int) := of_decide_eq_true (by first | (with_reducible assumption) | assumption)
            obtain ⟨ad166, e166, hx166_0, hx166_1⟩ := at_T68 (Kd.R_reads' HO_166003.out).2.2 x4_1 p166 q166
            cases e166
            replace p166 := eq_true p166
            replace q166 := eq_true q166
            have p167 : 0 ≤ (x4_1 : Int) := of_decide_eq_true (by first | (with_reducible assumption) | assumption)
            have q167 : x4_1 < (x166003_1.length : Int) := of_decide_eq_true (by first | (with_reducible assumption) | assumption)
            obtain ⟨ad167, e167, hx167_0, hx167_1⟩ := at_T68 (Kd.R_reads' HO_166003.out).2.2 x4_1 p167 q167
            obtain rfl : ad166 = ad167 := (by injection e167)
            replace p167 := eq_true p167
            replace q167 := eq_true q167
            have p17 : 0 ≤ (x4_1 : Int) := of_decide_eq_true (by first | (with_reducible assumption) | assumption)
            have q17 : (x4_1 : Int) < ((x166003_1.length : Int) : Int) := of_decide_eq_true (by first | (with_reducible assumption) | assumption)
            obtain ⟨go17, co17, eo17, gb17, gl17, cl17, HG17⟩ := Kd.R_form HO_166003.out (by omega)
            (first | cases eo17 | (injection eo17 with ea_ en_ ec_; (first | subst ea_ | (injection ea_ with ea_; subst ea_)); subst ec_; clear en_))
            have GB17 := Aside0.mk gb17
            have GG17 := Aside0.mk HG17
            clear gb17 gl17 HG17
            (first | simp only [add_plain] at hx166_0 | skip)
            (first | simp only [add_plain] at hx166_1 | skip)
            (first | simp only [add_plain] at hx167_0 | skip)
            (first | simp only [add_plain] at hx167_1 | skip)
            obtain ⟨ce17, hcl17, hM17, hcc17, hfr17⟩ := Kd.R_elem HO_166003.out z68 (x4_1 : Int) p17 q17
            obtain rfl := k68_openM hM17
            have hx17_0 : wr.cell? ⟨go17, (x4_1 : Int).toNat * 2, none⟩ = some (.int .i64 ((rd_T68 x166003_1 x4_1).f0)) := hcc17 0 _ rfl
            have hx17_1 : wr.cell? ⟨go17, (x4_1 : Int).toNat * 2 + 1, none⟩ = some (.int .i64 ((rd_T68 x166003_1 x4_1).f1)) := hcc17 1 _ rfl
            have hf17_0 : wr.frozen? ⟨go17, (x4_1 : Int).toNat * 2, none⟩ = false := hfr17 0
            have hf17_1 : wr.frozen? ⟨go17, (x4_1 : Int).toNat * 2 + 1, none⟩ = false := hfr17 1
            clear hcl17 hcc17 hfr17 hM17
            replace p17 := eq_true p17
            replace q17 := eq_true q17
            have HX22 := Aside0.mk (show Kd.R k68 68 wr w.heap.size (fun _ => True) (.slice (some ⟨go17, 0, none⟩) x166003_1.length co21) x166003_1 from (by (with_reducible repeat (first | apply Kd.R_alloc | apply Kd.R_drewN | apply Kd.R_drew)); exact HO_166003.out))
            obtain ⟨ce22, hcl22, hM22, hcc22, hfr22⟩ := Kd.R_elem HX22.out z68 (x4_1 : Int) (of_decide_eq_true (by first | (with_reducible assumption) | assumption)) (by have h_ : (x4_1 : Int) < ((x166003_1.length : Int) : Int) := of_decide_eq_true (by first | (with_reducible assumption) | assumption); first | exact h_ | (have e_ := (Kd.R_reads' HO_166003.out).1; omega) | simpa using h_)
            obtain rfl := k68_openM hM22
            have HP22 := Kd.R_seg HX22.out (x4_1 : Int) (of_decide_eq_true (by first | (with_reducible assumption) | assumption)) (by have h_ : (x4_1 : Int) < ((x166003_1.length : Int) : Int) := of_decide_eq_true (by first | (with_reducible assumption) | assumption); first | exact h_ | (have e_ := (Kd.R_reads' HO_166003.out).1; omega) | simpa using h_) (seg := [.int .i64 (wrap64 (((rd_T68 x166003_1 x4_1).f1) + 1))]) (j := 1) hcl22 hcc22 (show 2 ≤ 2 from by decide) (x' := (⟨(rd_T68 x166003_1 x4_1).f0, wrap64 (((rd_T68 x166003_1 x4_1).f1) + 1)⟩ : S68)) (k68_mkM _ _ _ (⟨(rd_T68 x166003_1 x4_1).f0, wrap64 (((rd_T68 x166003_1 x4_1).f1) + 1)⟩ : S68) ) (fun _ hk => hk)
            have hx22_1 := hcc22 1 _ rfl
            (try simp only [show (k68).sz = 2 from rfl, Nat.mul_one, Nat.add_zero] at hx22_1)
            have hf22_1 := hfr22 1
            (try simp only [show (k68).sz = 2 from rfl, Nat.mul_one, Nat.add_zero] at hf22_1)
            clear hcl22 hcc22 hfr22 hM22
            go_wp2_with (first | ((with_reducible refine gate_store (t := 3) (p := 31) rfl ?_); refine store_event (t := 3) (p := 31) (v := ?vo_w23) (w1 := (wr.setCell ⟨go17, (x4_1 : Int).toNat * 2 + 1, none⟩ (.int .i64 (wrap64 (((rd_T68 x166003_1 x4_1).f1) + 1))))) ?hg ?ho ?hn ?hr ?_; (case ho => rfl); (case hg => rfl); (case hn => rfl); (case hr => first | (go_simp; done) | (go_simp; rfl)); intro w23 hw; have hg : wr.grownBy w23 (some go17) := (by rw [hw]; exact HP22.2); have hp_ : Kd.R k68 68 w23 w.heap.size (fun _ => True) (.slice (some ⟨go17, 0, none⟩) x166003_1.length co21) y168 := (by rw [hw, Ny168.out]; exact HP22.1); clear HP22; have n0_ := Aside0.mk (hp_); have n1_ := Aside0.mk (blk_grown (g := gb154) (o := .cells #[.bool a0_0, .int .i64 a0_1, .slice A0_2 l0_2.length c0_2, .slice A0_3 l0_3.length c0_3, .int .i64 a0_4] 40 (0, 0)) (by (with_reducible repeat (first | refine blk_drewN ?_ _ | refine blk_drew ?_ | refine blk_alloc ?_ _)); exact BK154.out) hg (Kd.R_ne HO_166003.out BK154.out (by decide))); have n2_ := Aside0.mk (blk_grown (g := gb155) (o := .cells #[.bool false, .int .i64 0, .slice none 0 0, .slice none 0 0, .int .i64 0] 40 (0, 0)) (by (with_reducible repeat (first | refine blk_drewN ?_ _ | refine blk_drew ?_ | refine blk_alloc ?_ _)); exact BK155.out) hg (Kd.R_ne HO_166003.out BK155.out (by decide))); have n3_ := Aside0.mk (blk_grown (g := gb165) (o := .cells #[.bool t156, .int .i64 t157, .slice none 0 0, .slice (some ⟨go17, 0, none⟩) x166003_1.length co21, .int .i64 t164] 40 (0, 0)) (by (with_reducible repeat (first | refine blk_drewN ?_ _ | refine blk_drew ?_ | refine blk_alloc ?_ _)); exact BK165.out) hg (Kd.R_ne HO_166003.out BK165.out (by decide))); have n4_ := Aside0.mk ((by rw [hw]; exact below_set (HB.out) GB17.out : Below w.heap.size w w23)); clear HO_166003; clear BK154; clear BK155; clear BK165; clear HB; have HO_166003 := n0_; have BK154 := n1_; have BK155 := n2_; have BK165 := n3_; have HB := n4_; clear n0_ n1_ n2_ n3_ n4_; clear hg hw hp_))
            go_roundg k1
            case measure => have := HK1.out; omega
            case rel => exact ⟨(wrap64 (x4_1 + 1)), (y168), (.slice (some ⟨go17, 0, none⟩) x166003_1.length co21), (by first | rfl | (simp; done) | (simp [*]; done)), H', ⟨by have := HK1.out; omega⟩, ⟨by (with_reducible repeat (first | apply Kd.R_alloc | apply Kd.R_drewN | apply Kd.R_drew)); exact HO_166003.out⟩, ⟨by (with_reducible repeat (first | refine blk_drewN ?_ _ | refine blk_drew ?_ | refine blk_alloc ?_ _)); exact BK154.out⟩, ⟨by (with_reducible repeat (first | refine blk_drewN ?_ _ | refine blk_drew ?_ | refine blk_alloc ?_ _)); exact BK155.out⟩, ⟨by (with_reducible repeat (first | refine blk_drewN ?_ _ | refine blk_drew ?_ | refine blk_alloc ?_ _)); exact BK165.out⟩, ⟨by repeat (first | (with_reducible first | exact HB.out | apply below_alloc | apply pw_below_drewN | apply below_drew1 | refine below_set ?_ GE154.out | refine below_set ?_ GE155.out | refine below_set ?_ GE165.out) | exact HB.out)⟩⟩
          · rw [if_neg c16] at H
            have c16b0 : decide (((rd_T68 x166003_1 x4_1).f1) < 2147483647) = false := decide_eq_false c16
            clear c16
            have H' := Aside0.mk H
            clear H
            have hnb24 := NB165_154.out
            have hnc24 := NB154_165.out
            have hnb25 := NB165_155.out
            have hnc25 := NB155_165.out
            have hcz26_0 : wr.cell? ⟨gb165, 0, none⟩ = some (.bool t156) := (blk_cell BK165.out 0).trans rfl
            have hcz26_1 : wr.cell? ⟨gb165, 1, none⟩ = some (.int .i64 t157) := (blk_cell BK165.out 1).trans rfl
            have hcz26_2 : wr.cell? ⟨gb165, 2, none⟩ = some (.slice none 0 0) := (blk_cell BK165.out 2).trans rfl
            have hcz26_3 : wr.cell? ⟨gb165, 3, none⟩ = some (u166003) := (blk_cell BK165.out 3).trans rfl
            have hcz26_4 : wr.cell? ⟨gb165, 4, none⟩ = some (.int .i64 t164) := (blk_cell BK165.out 4).trans rfl
            have hfz26_0 := blk_frozen BK165.out 0
            have hfz26_1 := blk_frozen BK165.out 1
            have hfz26_2 := blk_frozen BK165.out 2
            have hfz26_3 := blk_frozen BK165.out 3
            have hfz26_4 := blk_frozen BK165.out 4
            obtain ⟨Ao27, co27, eo27⟩ := Kd.R_slice HO_166003.out
            subst eo27
            have p166 : 0 ≤ (x4_1 : Int) := of_decide_eq_true (by first | (with_reducible assumption) | assumption)
            have q166 : x4_1 < (x166003_1.length : Int) := of_decide_eq_true (by first | (with_reducible assumption) | assumption)
            obtain ⟨ad166, e166, hx166_0, hx166_1⟩ := at_T68 (Kd.R_reads' HO_166003.out).2.2 x4_1 p166 q166
            cases e166
            replace p166 := eq_true p166
            replace q166 := eq_true q166
            go_wp2
            go_roundg k1
            case measure => have := HK1.out; omega
            case rel => exact ⟨(wrap64 (x4_1 + 1)), (x166003_1), (.slice (some ad166) x166003_1.length co27), (by first | rfl | (simp; done) | (simp [*]; done)), H', ⟨by have := HK1.out; omega⟩, ⟨by (with_reducible repeat (first | apply Kd.R_alloc | apply Kd.R_drewN | apply Kd.R_drew)); exact HO_166003.out⟩, ⟨by (with_reducible repeat (first | refine blk_drewN ?_ _ | refine blk_drew ?_ | refine blk_alloc ?_ _)); exact BK154.out⟩, ⟨by (with_reducible repeat (first | refine blk_drewN ?_ _ | refine blk_drew ?_ | refine blk_alloc ?_ _)); exact BK155.out⟩, ⟨by (with_reducible repeat (first | refine blk_drewN ?_ _ | refine blk_drew ?_ | refine blk_alloc ?_ _)); exact BK165.out⟩, ⟨by repeat (first | (with_reducible first | exact HB.out | apply below_alloc | apply pw_below_drewN | apply below_drew1 | refine below_set ?_ GE154.out | refine below_set ?_ GE155.out | refine below_set ?_ GE165.out) | exact HB.out)⟩⟩
        · rw [if_neg c15] at H
          exact absurd H (by simp)
      · rw [if_neg c14] at H
        have c14b0 : decide (x4_1 < (x166003_1.length : Int)) = false := decide_eq_false c14
        clear c14
        by_cases c28 : a0_0 = true
        · subst c28
          have H1 : (rotaref15_Deliver.l1 k1 0 true a0_1 l0_2 l0_3 a0_4 t156 t157 x166003_1 t164) = some (r1, r2, r3, r4, r5) := by rw [if_pos rfl] at H; exact H
          clear H
          have H := H1
          clear H1
          have H' := Aside0.mk H
          clear H
          have hnb29 := NB165_154.out
          have hnc29 := NB154_165.out
          have hnb30 := NB165_155.out
          have hnc30 := NB155_165.out
          have hcz31_0 : wr.cell? ⟨gb165, 0, none⟩ = some (.bool t156) := (blk_cell BK165.out 0).trans rfl
          have hcz31_1 : wr.cell? ⟨gb165, 1, none⟩ = some (.int .i64 t157) := (blk_cell BK165.out 1).trans rfl
          have hcz31_2 : wr.cell? ⟨gb165, 2, none⟩ = some (.slice none 0 0) := (blk_cell BK165.out 2).trans rfl
          have hcz31_3 : wr.cell? ⟨gb165, 3, none⟩ = some (u166003) := (blk_cell BK165.out 3).trans rfl
          have hcz31_4 : wr.cell? ⟨gb165, 4, none⟩ = some (.int .i64 t164) := (blk_cell BK165.out 4).trans rfl
          have hfz31_0 := blk_frozen BK165.out 0
          have hfz31_1 := blk_frozen BK165.out 1
          have hfz31_2 := blk_frozen BK165.out 2
          have hfz31_3 := blk_frozen BK165.out 3
          have hfz31_4 := blk_frozen BK165.out 4
          obtain ⟨Ao32, co32, eo32⟩ := Kd.R_slice HO_166003.out
          subst eo32
          have hnb33 := NB154_155.out
          have hnc33 := NB155_154.out
          have hcz34_0 : wr.cell? ⟨gb154, 0, none⟩ = some (.bool true) := (blk_cell BK154.out 0).trans rfl
          have hcz34_1 : wr.cell? ⟨gb154, 1, none⟩ = some (.int .i64 a0_1) := (blk_cell BK154.out 1).trans rfl
          have hcz34_2 : wr.cell? ⟨gb154, 2, none⟩ = some (.slice A0_2 l0_2.length c0_2) := (blk_cell BK154.out 2).trans rfl
          have hcz34_3 : wr.cell? ⟨gb154, 3, none⟩ = some (.slice A0_3 l0_3.length c0_3) := (blk_cell BK154.out 3).trans rfl
          have hcz34_4 : wr.cell? ⟨gb154, 4, none⟩ = some (.int .i64 a0_4) := (blk_cell BK154.out 4).trans rfl
          have hfz34_0 := blk_frozen BK154.out 0
          have hfz34_1 := blk_frozen BK154.out 1
          have hfz34_2 := blk_frozen BK154.out 2
          have hfz34_3 := blk_frozen BK154.out 3
          have hfz34_4 := blk_frozen BK154.out 4
          go_wp2
          go_loopg [5] k1 (fun kq v5 w' => ∃ (x5_2 : Int) (x166003_2 : List (S68)) (x166004_2 : Int) (u166003 : Value), v5 = .int .i64 x5_2 ∧ Aside0 (rotaref15_Deliver.l1 kq x5_2 true a0_1 l0_2 l0_3 a0_4 t156 t157 x166003_2 x166004_2 = some (r1, r2, r3, r4, r5)) ∧ Aside0 (kq ≤ k1) ∧ Aside0 (Kd.R k68 68 w' w.heap.size (fun _ => True) u166003 x166003_2) ∧ Aside0 (w'.heap[gb154]? = some (.cells #[.bool true, .int .i64 a0_1, (.slice A0_2 l0_2.length c0_2), (.slice A0_3 l0_3.length c0_3), .int .i64 a0_4] 40 (0, 0))) ∧ Aside0 (w'.heap[gb155]? = some (.cells #[.bool false, .int .i64 0, (.slice none 0 0), (.slice none 0 0), .int .i64 0] 40 (0, 0))) ∧ Aside0 (w'.heap[gb165]? = some (.cells #[.bool t156, .int .i64 t157, (.slice none 0 0), u166003, .int .i64 x166004_2] 40 (0, 0))) ∧ Aside0 (Below w.heap.size w w'))
          case atStart => exact ⟨(0), (x166003_1), (t164), (.slice Ao32 x166003_1.length co32), (by first | rfl | (simp; done) | (simp [*]; done)), H', ⟨Nat.le_refl _⟩, ⟨by (with_reducible repeat (first | apply Kd.R_alloc | apply Kd.R_drewN | apply Kd.R_drew)); exact HO_166003.out⟩, ⟨by (with_reducible repeat (first | refine blk_drewN ?_ _ | refine blk_drew ?_ | refine blk_alloc ?_ _)); exact BK154.out⟩, ⟨by (with_reducible repeat (first | refine blk_drewN ?_ _ | refine blk_drew ?_ | refine blk_alloc ?_ _)); exact BK155.out⟩, ⟨by (with_reducible repeat (first | refine blk_drewN ?_ _ | refine blk_drew ?_ | refine blk_alloc ?_ _)); exact BK165.out⟩, ⟨by repeat (first | (with_reducible first | exact HB.out | apply below_alloc | apply pw_below_drewN | apply below_drew1 | refine below_set ?_ GE154.out | refine below_set ?_ GE155.out | refine below_set ?_ GE165.out) | exact HB.out)⟩⟩
          case round =>
            clear H'
            try clear c1
            try clear p1
            try clear q1
            try clear hx1
            try clear hf1
            try clear c2
            try clear p2
            try clear hx2
            try clear hf2
            try clear c3
            try clear c5
            try clear p6
            try clear c9
            try clear c10
            try clear c14
            try clear c14b0
            try clear c15
            try clear c15b0
            try clear c16
            try clear c16b0
            try clear p16
            try clear q16
            try clear hx16
            try clear c17
            try clear p17
            try clear q17
            try clear hx17
            try clear hf17
            try clear c18
            try clear c19
            try clear c20
            try clear c22
            try clear hx22
            try clear hf22
            try clear c24
            try clear c25
            try clear c26
            try clear c28
            try clear c29
            try clear c30
            try clear c33
            try clear hcz11_0
            try clear hcz11_1
            try clear hcz11_2
            try clear hcz11_3
            try clear hcz11_4
            try clear hcz20_0
            try clear hcz20_1
            try clear hcz20_2
            try clear hcz20_3
            try clear hcz20_4
            try clear hcz26_0
            try clear hcz26_1
            try clear hcz26_2
            try clear hcz26_3
            try clear hcz26_4
            try clear hcz31_0
            try clear hcz31_1
            try clear hcz31_2
            try clear hcz31_3
            try clear hcz31_4
            try clear hcz34_0
            try clear hcz34_1
            try clear hcz34_2
            try clear hcz34_3
            try clear hcz34_4
            try clear hcz6_0
            try clear hcz6_1
            try clear hcz6_2
            try clear hcz6_3
            try clear hcz6_4
            try clear hfz11_0
            try clear hfz11_1
            try clear hfz11_2
            try clear hfz11_3
            try clear hfz11_4
            try clear hfz20_0
            try clear hfz20_1
            try clear hfz20_2
            try clear hfz20_3
            try clear hfz20_4
            try clear hfz26_0
            try clear hfz26_1
            try clear hfz26_2
            try clear hfz26_3
            try clear hfz26_4
            try clear hfz31_0
            try clear hfz31_1
            try clear hfz31_2
            try clear hfz31_3
            try clear hfz31_4
            try clear hfz34_0
            try clear hfz34_1
            try clear hfz34_2
            try clear hfz34_3
            try clear hfz34_4
            try clear hfz6_0
            try clear hfz6_1
            try clear hfz6_2
            try clear hfz6_3
            try clear hfz6_4
            try clear hx166_0
            try clear hx166_1
            try clear hx167_0
            try clear hx167_1
            try clear hx17_0
            try clear hx17_1
            try clear hx22_1
            try clear p166
            try clear p167
            try clear p17
            try clear p2
            try clear q166
            try clear q167
            try clear q17
            obtain ⟨x5_2, x166003_2, x166004_2, u166003, rfl, HA, HK2, HO_166003, BK154, BK155, BK165, HB⟩ := hrel
            cases gk with
            | zero => exact absurd HA.out (by simp [rotaref15_Deliver.l1])
            | succ k2 =>
              have H := HA.out
              clear HA
              simp only [rotaref15_Deliver.l1] at H
              by_cases c35 : x5_2 < (l0_2.length : Int)
              · rw [if_pos c35] at H
                have c35b0 : decide (x5_2 < (l0_2.length : Int)) = true := decide_eq_true c35
                clear c35
                by_cases c36 : (x166003_2.length : Int) < a0_1
                · rw [if_pos c36] at H
                  have c36b0 : decide ((x166003_2.length : Int) < a0_1) = true := decide_eq_true c36
                  clear c36
                  by_cases c37 : 0 ≤ x5_2
                  · rw [if_pos c37] at H
                    have c37b0 : decide (0 ≤ x5_2) = true := decide_eq_true c37
                    clear c37
                    by_cases c38 : x166003_2.length < 8796093022208
                    · rw [if_pos c38] at H
                      have LMc38 := Aside0.mk c38
                      clear c38
                      obtain ⟨y174, hy174⟩ : ∃ y_ : List (S68), y_ = (x166003_2 ++ [(⟨rd l0_2 x5_2, 0⟩ : S68)]) := ⟨_, rfl⟩
                      replace H : (rotaref15_Deliver.l1 k2 (wrap64 (x5_2 + 1)) true a0_1 l0_2 l0_3 a0_4 t156 t157 y174 x166004_2) = some (r1, r2, r3, r4, r5) := by first | (rw [hy174]; with_reducible exact H) | (have H2_ := (Option.bind_some _ _).symm.trans H; rw [hy174]; with_reducible exact H2_) | (have H2_ := (Option.bind_some _ _).symm.trans H; with_reducible exact H2_) | with_reducible exact H | (rw [hy174]; exact H) | exact H
                      have Ny174 := Aside0.mk hy174
                      clear hy174
                      have H' := Aside0.mk H
                      clear H
                      have hnb39 := NB154_155.out
                      have hnc39 := NB155_154.out
                      have hnb40 := NB154_165.out
                      have hnc40 := NB165_154.out
                      have hcz41_0 : wr.cell? ⟨gb154, 0, none⟩ = some (.bool true) := (blk_cell BK154.out 0).trans rfl
                      have hcz41_1 : wr.cell? ⟨gb154, 1, none⟩ = some (.int .i64 a0_1) := (blk_cell BK154.out 1).trans rfl
                      have hcz41_2 : wr.cell? ⟨gb154, 2, none⟩ = some (.slice A0_2 l0_2.length c0_2) := (blk_cell BK154.out 2).trans rfl
                      have hcz41_3 : wr.cell? ⟨gb154, 3, none⟩ = some (.slice A0_3 l0_3.length c0_3) := (blk_cell BK154.out 3).trans rfl
                      have hcz41_4 : wr.cell? ⟨gb154, 4, none⟩ = some (.int .i64 a0_4) := (blk_cell BK154.out 4).trans rfl
                      have hfz41_0 := blk_frozen BK154.out 0
                      have hfz41_1 := blk_frozen BK154.out 1
                      have hfz41_2 := blk_frozen BK154.out 2
                      have hfz41_3 := blk_frozen BK154.out 3
                      have hfz41_4 := blk_frozen BK154.out 4
                      have hnb42 := NB165_155.out
                      have hnc42 := NB155_165.out
                      have hcz43_0 : wr.cell? ⟨gb165, 0, none⟩ = some (.bool t156) := (blk_cell BK165.out 0).trans rfl
                      have hcz43_1 : wr.cell? ⟨gb165, 1, none⟩ = some (.int .i64 t157) := (blk_cell BK165.out 1).trans rfl
                      have hcz43_2 : wr.cell? ⟨gb165, 2, none⟩ = some (.slice none 0 0) := (blk_cell BK165.out 2).trans rfl
                      have hcz43_3 : wr.cell? ⟨gb165, 3, none⟩ = some (u166003) := (blk_cell BK165.out 3).trans rfl
                      have hcz43_4 : wr.cell? ⟨gb165, 4, none⟩ = some (.int .i64 x166004_2) := (blk_cell BK165.out 4).trans rfl
                      have hfz43_0 := blk_frozen BK165.out 0
                      have hfz43_1 := blk_frozen BK165.out 1
                      have hfz43_2 := blk_frozen BK165.out 2
                      have hfz43_3 := blk_frozen BK165.out 3
                      have hfz43_4 := blk_frozen BK165.out 4
                      obtain ⟨Ao44, co44, eo44⟩ := Kd.R_slice HO_166003.out
                      subst eo44
                      try go_wp2
                      have n0_ := Aside0.mk (Kd.R_drew HO_166003.out)
                      have n1_ := Aside0.mk (blk_drew BK154.out)
                      have n2_ := Aside0.mk (blk_drew BK155.out)
                      have n3_ := Aside0.mk (blk_drew BK165.out)
                      have n4_ := Aside0.mk (below_drew1 HB.out)
                      clear HO_166003
                      clear BK154
                      clear BK155
                      clear BK165
                      clear HB
                      have HO_166003 := n0_
                      have BK154 := n1_
                      have BK155 := n2_
                      have BK165 := n3_
                      have HB := n4_
                      clear n0_ n1_ n2_ n3_ n4_
                      have p173 : 0 ≤ (x5_2 : Int) := of_decide_eq_true (by first | (with_reducible assumption) | assumption)
                      have q173 : x5_2 < (l0_2.length : Int) := of_decide_eq_true (by first | (with_reducible assumption) | assumption)
                      obtain ⟨ad173, e173, hx173_0⟩ := Kd.at_int HR0_2.out x5_2 p173 q173
                      have hw173_0 := hx173_0
                      cases e173
                      replace hx173_0 := (HB.out.cell (World.block_lt_of_cell? w _ hx173_0)).trans hx173_0
                      replace p173 := eq_true p173
                      replace q173 := eq_true q173
                      refine start_ (n := 12) (S := fun w' => w'.cell? ⟨gb165, 0, none⟩ = some (.bool t156) ∧ w'.cell? ⟨gb165, 1, none⟩ = some (.int .i64 t157) ∧ w'.cell? ⟨gb165, 2, none⟩ = some (.slice none 0 0) ∧ w'.cell? ⟨gb165, 3, none⟩ = some (.slice Ao44 x166003_2.length co44) ∧ w'.cell? ⟨gb165, 4, none⟩ = some (.int .i64 x166004_2) ∧ w'.cell? ⟨gb154, 0, none⟩ = some (.bool true) ∧ w'.cell? ⟨gb154, 1, none⟩ = some (.int .i64 a0_1) ∧ w'.cell? ⟨gb154, 2, none⟩ = some (.slice (some ad173) l0_2.length c0_2) ∧ w'.cell? ⟨gb154, 3, none⟩ = some (.slice A0_3 l0_3.length c0_3) ∧ w'.cell? ⟨gb154, 4, none⟩ = some (.int .i64 a0_4) ∧ w'.cell? (ad173.add (x5_2).toNat) = some (.int .i64 (rd l0_2 x5_2))) (ds := [11]) #[false, false, false, false, false, false, false, false, false, false, false, false] (by kernel_rfl) rfl rfl ⟨(blk_cell BK165.out 0).trans rfl, (blk_cell BK165.out 1).trans rfl, (blk_cell BK165.out 2).trans rfl, (blk_cell BK165.out 3).trans rfl, (blk_cell BK165.out 4).trans rfl, (blk_cell BK154.out 0).trans rfl, (blk_cell BK154.out 1).trans rfl, (blk_cell BK154.out 2).trans rfl, (blk_cell BK154.out 3).trans rfl, (blk_cell BK154.out 4).trans rfl, ((HB.out.cell (World.block_lt_of_cell? w _ hw173_0)).trans hw173_0)⟩ (fun hHeld => ?_); refine with_tabW rotaref15_Deliver.tab16 rotaref15_Deliver.bits16 (fun HT_ HW_ => ?_)
                      generalize wr.drew = w45 at HO_166003 BK154 BK155 BK165 HB hx173_0 hHeld ⊢
                      refine pure_ (i := 0) (N := some 60) (v := ?_) (a' := ?_) #[true, false, false, false, false, false, false, false, false, false, false, false] rfl rfl (any_of HT_.out (by kernel_rfl)) (fun _ _ _ h => h) (Or.inl ⟨by rfl, ?_⟩) ?_ ?_
                      rotate_left
                      · intro w'
                        go_simp
                        with_reducible rfl
                      rotate_left
                      · simp only [Act.put, List.setIfInBounds_toArray, List.set_cons_zero, List.set_cons_succ, i64_w, i32_w]
                        rfl
                      refine pure_ (i := 2) (N := some 62) (v := ?_) (a' := ?_) #[true, false, true, false, false, false, false, false, false, false, false, false] rfl rfl (any_of HT_.out (by kernel_rfl)) (fun _ _ _ h => h) (Or.inl ⟨by rfl, ?_⟩) ?_ ?_
                      rotate_left
                      · intro w'
                        go_simp
                        with_reducible rfl
                      rotate_left
                      · simp only [Act.put, List.setIfInBounds_toArray, List.set_cons_zero, List.set_cons_succ, i64_w, i32_w]
                        rfl
                      refine pure_ (i := 4) (N := some 64) (v := ?_) (a' := ?_) #[true, false, true, false, true, false, false, false, false, false, false, false] rfl rfl (any_of HT_.out (by kernel_rfl)) (fun _ _ _ h => h) (Or.inl ⟨by rfl, ?_⟩) ?_ ?_
                      rotate_left
                      · intro w'
                        go_simp
                        with_reducible rfl
                      rotate_left
                      · simp only [Act.put, List.setIfInBounds_toArray, List.set_cons_zero, List.set_cons_succ, i64_w, i32_w]
                        rfl
                      refine take_ (i := 1) (N := some 61) (v := ?_) (a' := ?_) #[true, true, true, false, true, false, false, false, false, false, false, false] rfl rfl (take_ofW HT_.out HW_.out (by kernel_rfl)) (fun _ _ _ h => h) (Or.inl ⟨by rfl, ?_⟩) hHeld ?_ ?_
                      rotate_left
                      · rintro w' ⟨s0, s1, s2, s3, s4, s5, s6, s7, s8, s9, s10⟩
                        go_simp
                        with_reducible rfl
                      rotate_left
                      · simp only [Act.put, List.setIfInBounds_toArray, List.set_cons_zero, List.set_cons_succ, i64_w, i32_w]
                        rfl
                      refine take_ (i := 3) (N := some 63) (v := ?_) (a' := ?_) #[true, true, true, true, true, false, false, false, false, false, false, false] rfl rfl (take_ofW HT_.out HW_.out (by kernel_rfl)) (fun _ _ _ h => h) (Or.inl ⟨by rfl, ?_⟩) hHeld ?_ ?_
                      rotate_left
                      · rintro w' ⟨s0, s1, s2, s3, s4, s5, s6, s7, s8, s9, s10⟩
                        go_simp
                        with_reducible rfl
                      rotate_left
                      · simp only [Act.put, List.setIfInBounds_toArray, List.set_cons_zero, List.set_cons_succ, i64_w, i32_w]
                        rfl
                      refine pure_ (i := 5) (N := some 65) (v := ?_) (a' := ?_) #[true, true, true, true, true, true, false, false, false, false, false, false] rfl rfl (any_of HT_.out (by kernel_rfl)) (fun _ _ _ h => h) (Or.inl ⟨by rfl, ?_⟩) ?_ ?_
                      rotate_left
                      · intro w'
                        go_simp
                        with_reducible rfl
                      rotate_left
                      · simp only [Act.put, List.setIfInBounds_toArray, List.set_cons_zero, List.set_cons_succ, i64_w, i32_w]
                        rfl
                      refine take_ (i := 6) (N := some 66) (v := ?_) (a' := ?_) #[true, true, true, true, true, true, true, false, false, false, false, false] rfl rfl (take_ofW HT_.out HW_.out (by kernel_rfl)) (fun _ _ _ h => h) (Or.inl ⟨by rfl, ?_⟩) hHeld ?_ ?_
                      rotate_left
                      · rintro w' ⟨s0, s1, s2, s3, s4, s5, s6, s7, s8, s9, s10⟩
                        go_simp
                        with_reducible rfl
                      rotate_left
                      · simp only [Act.put, List.setIfInBounds_toArray, List.set_cons_zero, List.set_cons_succ, i64_w, i32_w]
                        rfl
                      refine pure_ (i := 7) (N := some 67) (v := ?_) (a' := ?_) #[true, true, true, true, true, true, true, true, false, false, false, false] rfl rfl (any_of HT_.out (by kernel_rfl)) (fun _ _ _ h => h) (Or.inl ⟨by rfl, ?_⟩) ?_ ?_
                      rotate_left
                      · intro w'
                        go_simp
                        with_reducible rfl
                      rotate_left
                      · simp only [Act.put, List.setIfInBounds_toArray, List.set_cons_zero, List.set_cons_succ, i64_w, i32_w]
                        rfl
                      refine one_ (i := 8) (N := some 68) #[true, true, true, true, true, true, true, true, true, false, false, false] rfl rfl (one_of HT_.out (by kernel_rfl)) (by decide) (fun K hK => ?_)
                      refine value_ (w1 := ?_) (v := ?_) (by rfl) rfl ?_ ?_
                      rotate_left 2
                      · go_simp
                        constructor
                        · rfl
                        · rfl
                      refine hK.out _ _ ⟨(blk_cell (blk_alloc BK165.out _) 0).trans rfl, (blk_cell (blk_alloc BK165.out _) 1).trans rfl, (blk_cell (blk_alloc BK165.out _) 2).trans rfl, (blk_cell (blk_alloc BK165.out _) 3).trans rfl, (blk_cell (blk_alloc BK165.out _) 4).trans rfl, (blk_cell (blk_alloc BK154.out _) 0).trans rfl, (blk_cell (blk_alloc BK154.out _) 1).trans rfl, (blk_cell (blk_alloc BK154.out _) 2).trans rfl, (blk_cell (blk_alloc BK154.out _) 3).trans rfl, (blk_cell (blk_alloc BK154.out _) 4).trans rfl, (World.cell?_alloc_lt _ _ _ (World.block_lt_of_cell? _ _ (((HB.out.cell (World.block_lt_of_cell? w _ hw173_0)).trans hw173_0)))).trans (((HB.out.cell (World.block_lt_of_cell? w _ hw173_0)).trans hw173_0))⟩ (fun hHeld => ?_)
                      clear hK K
                      refine norm_ (a' := ?_) ?_ ?_
                      rotate_left
                      · show Act.put _ (some 68) _ = _
                        simp only [Act.put, List.setIfInBounds_toArray, List.set_cons_zero, List.set_cons_succ, i64_w, i32_w]
                        rfl
                      refine one_ (i := 9) (N := some 69) #[true, true, true, true, true, true, true, true, true, true, false, false] rfl rfl (one_of HT_.out (by kernel_rfl)) (by decide) (fun K hK => ?_)
                      refine Kd.R_append_step k68 (w0 := w) w.heap.size (by rfl) (.tmp 61) (.tmp 68) 38 68 (.agg #[(.int .i64 0), (.int .i64 0)]) 16 rfl Try.underlying38 info68 rfl (by decide) (by omega) (.slice Ao44 x166003_2.length co44) x166003_2 (⟨rd l0_2 x5_2, 0⟩ : S68) [.int .i64 (rd l0_2 x5_2), .int .i64 0] (fun _ => True) (fun _ => False) rfl rfl ?aP (fun _ hk => hk.elim) ?aF ?aO ?aB ?aS ?aL ?_
                      (case aP => exact k68_mkM _ _ _ (⟨rd l0_2 x5_2, 0⟩ : S68))
                      (case aB => exact (by repeat (first | (with_reducible first | exact HB.out | apply below_alloc | apply pw_below_drewN | apply below_drew1 | refine below_set ?_ GE154.out | refine below_set ?_ GE155.out | refine below_set ?_ GE165.out) | exact HB.out)))
                      (case aF => exact (fun _ _ => trivial))
                      (case aO => exact (by (with_reducible repeat (first | apply Kd.R_alloc | apply Kd.R_drewN | apply Kd.R_drew)); exact HO_166003.out))
                      (case aS => exact (below_size (by repeat (first | (with_reducible first | exact HB.out | apply below_alloc | apply pw_below_drewN | apply below_drew1 | refine below_set ?_ GE154.out | refine below_set ?_ GE155.out | refine below_set ?_ GE165.out) | exact HB.out))))
                      (case aL => have := LMc38.out; omega)
                      intro v175 w46 ho hb hg hat
                      rw [← Ny174.out] at ho
                      have n0_ := Aside0.mk (blk_grown (g := gb154) (o := .cells #[.bool true, .int .i64 a0_1, .slice (some ad173) l0_2.length c0_2, .slice A0_3 l0_3.length c0_3, .int .i64 a0_4] 40 (0, 0)) (by (with_reducible repeat (first | refine blk_drewN ?_ _ | refine blk_drew ?_ | refine blk_alloc ?_ _)); exact BK154.out) hg (Kd.R_ne HO_166003.out BK154.out (by decide)))
                      have n1_ := Aside0.mk (blk_grown (g := gb155) (o := .cells #[.bool false, .int .i64 0, .slice none 0 0, .slice none 0 0, .int .i64 0] 40 (0, 0)) (by (with_reducible repeat (first | refine blk_drewN ?_ _ | refine blk_drew ?_ | refine blk_alloc ?_ _)); exact BK155.out) hg (Kd.R_ne HO_166003.out BK155.out (by decide)))
                      have n2_ := Aside0.mk (blk_grown (g := gb165) (o := .cells #[.bool t156, .int .i64 t157, .slice none 0 0, .slice Ao44 x166003_2.length co44, .int .i64 x166004_2] 40 (0, 0)) (by (with_reducible repeat (first | refine blk_drewN ?_ _ | refine blk_drew ?_ | refine blk_alloc ?_ _)); exact BK165.out) hg (Kd.R_ne HO_166003.out BK165.out (by decide)))
                      have n3_ := Aside0.mk (hb)
                      have n4_ := Aside0.mk (ho)
                      clear BK154
                      clear BK155
                      clear BK165
                      clear HB
                      clear HO_166003
                      have BK154 := n0_
                      have BK155 := n1_
                      have BK165 := n2_
                      have HB := n3_
                      have HO176 := n4_
                      clear n0_ n1_ n2_ n3_ n4_
                      clear ho hb hg hat
                      obtain ⟨Ao47, co47, eo47⟩ := Kd.R_slice HO176.out
                      (first | subst eo47 | (injection eo47 with f1_ f2_ f3_; have f4_ := f1_.symm; have f5_ := f3_.symm; clear f1_ f2_ f3_; subst f4_; subst f5_))
                      refine hK.out _ _ ⟨(blk_cell BK165.out 0).trans rfl, (blk_cell BK165.out 1).trans rfl, (blk_cell BK165.out 2).trans rfl, (blk_cell BK165.out 3).trans rfl, (blk_cell BK165.out 4).trans rfl, (blk_cell BK154.out 0).trans rfl, (blk_cell BK154.out 1).trans rfl, (blk_cell BK154.out 2).trans rfl, (blk_cell BK154.out 3).trans rfl, (blk_cell BK154.out 4).trans rfl, ((HB.out.cell (World.block_lt_of_cell? w _ hw173_0)).trans hw173_0)⟩ (fun hHeld => ?_)
                      clear hK K
                      refine norm_ (a' := ?_) ?_ ?_
                      rotate_left
                      · show Act.put _ (some 69) _ = _
                        simp only [Act.put, List.setIfInBounds_toArray, List.set_cons_zero, List.set_cons_succ, i64_w, i32_w]
                        rfl
                      refine pure_ (i := 10) (N := some 70) (v := ?_) (a' := ?_) #[true, true, true, true, true, true, true, true, true, true, true, false] rfl rfl (any_of HT_.out (by kernel_rfl)) (fun _ _ _ h => h) (Or.inl ⟨by rfl, ?_⟩) ?_ ?_
                      rotate_left
                      · intro w'
                        go_simp
                        with_reducible rfl
                      rotate_left
                      · simp only [Act.put, List.setIfInBounds_toArray, List.set_cons_zero, List.set_cons_succ, i64_w, i32_w]
                        rfl
                      refine last_ (i := 11) (N := none) #[true, true, true, true, true, true, true, true, true, true, true, true] rfl rfl (one_of HT_.out (by kernel_rfl)) (by decide) (fun K hK => ?_)
                      have hs48 : w46.cell? ⟨gb165, 3, none⟩ = some (.slice Ao44 x166003_2.length co44) := (blk_cell BK165.out 3).trans rfl
                      have hfs48 := blk_frozen BK165.out 3
                      have hns48_0 := NB154_165.out
                      have hns48_1 := NB155_165.out
                      have hms48_0 := NB165_154.out
                      have hms48_1 := NB165_155.out
                      refine skip_ (w1 := ?_) (by rfl) rfl ?_ ?_
                      rotate_left
                      · go_simp
                        rfl
                      refine hK.out _ _ ?_
                      clear hK K
                      refine done_ (done_of HT_.out (by kernel_rfl)) ?_
                      try go_wp2
                      go_roundg k2
                      case measure => have := HK1.out; have := HK2.out; omega
                      case rel => exact ⟨(wrap64 (x5_2 + 1)), (y174), (x166004_2), (.slice Ao47 y174.length co47), (by first | rfl | (simp; done) | (simp [*]; done)), H', ⟨by have := HK1.out; have := HK2.out; omega⟩, ⟨by (with_reducible repeat (first | apply Kd.R_alloc | apply Kd.R_drewN | apply Kd.R_drew)); exact Kd.R_mono (Kd.R_far (p := ⟨gb165, 3, none⟩) (Kd.R_types HO176.out BK165.out (by decide)) (fun _ hk => hk.2) (.slice Ao47 y174.length co47)) (fun _ hk => trivial)⟩, ⟨by (with_reducible repeat (first | refine blk_drewN ?_ _ | refine blk_drew ?_ | refine blk_alloc ?_ _)); refine blk_far ?_ NB154_165.out _; (with_reducible repeat (first | refine blk_drewN ?_ _ | refine blk_drew ?_ | refine blk_alloc ?_ _)); exact BK154.out⟩, ⟨by (with_reducible repeat (first | refine blk_drewN ?_ _ | refine blk_drew ?_ | refine blk_alloc ?_ _)); refine blk_far ?_ NB155_165.out _; (with_reducible repeat (first | refine blk_drewN ?_ _ | refine blk_drew ?_ | refine blk_alloc ?_ _)); exact BK155.out⟩, ⟨by (with_reducible repeat (first | refine blk_drewN ?_ _ | refine blk_drew ?_ | refine blk_alloc ?_ _)); refine blk_put (cs := #[.bool t156, .int .i64 t157, .slice none 0 0, .slice Ao44 x166003_2.length co44, .int .i64 x166004_2]) ?_ 3 _ rfl; (with_reducible repeat (first | refine blk_drewN ?_ _ | refine blk_drew ?_ | refine blk_alloc ?_ _)); exact BK165.out⟩, ⟨by repeat (first | (with_reducible first | exact HB.out | apply below_alloc | apply pw_below_drewN | apply below_drew1 | refine below_set ?_ GE154.out | refine below_set ?_ GE155.out | refine below_set ?_ GE165.out) | exact HB.out)⟩⟩
                    · rw [if_neg c38] at H
                      exact absurd H (by simp)
                  · rw [if_neg c37] at H
                    exact absurd H (by simp)
                · rw [if_neg c36] at H
                  have c36b0 : decide ((x166003_2.length : Int) < a0_1) = false := decide_eq_false c36
                  clear c36
                  by_cases c49 : x166004_2 < 2147483647
                  · rw [if_pos c49] at H
                    have c49b0 : decide (x166004_2 < 2147483647) = true := decide_eq_true c49
                    clear c49
                    have H' := Aside0.mk H
                    clear H
                    have hnb50 := NB154_155.out
                    have hnc50 := NB155_154.out
                    have hnb51 := NB154_165.out
                    have hnc51 := NB165_154.out
                    have hcz52_0 : wr.cell? ⟨gb154, 0, none⟩ = some (.bool true) := (blk_cell BK154.out 0).trans rfl
                    have hcz52_1 : wr.cell? ⟨gb154, 1, none⟩ = some (.int .i64 a0_1) := (blk_cell BK154.out 1).trans rfl
                    have hcz52_2 : wr.cell? ⟨gb154, 2, none⟩ = some (.slice A0_2 l0_2.length c0_2) := (blk_cell BK154.out 2).trans rfl
                    have hcz52_3 : wr.cell? ⟨gb154, 3, none⟩ = some (.slice A0_3 l0_3.length c0_3) := (blk_cell BK154.out 3).trans rfl
                    have hcz52_4 : wr.cell? ⟨gb154, 4, none⟩ = some (.int .i64 a0_4) := (blk_cell BK154.out 4).trans rfl
                    have hfz52_0 := blk_frozen BK154.out 0
                    have hfz52_1 := blk_frozen BK154.out 1
                    have hfz52_2 := blk_frozen BK154.out 2
                    have hfz52_3 := blk_frozen BK154.out 3
                    have hfz52_4 := blk_frozen BK154.out 4
                    have hnb53 := NB165_155.out
                    have hnc53 := NB155_165.out
                    have hcz54_0 : wr.cell? ⟨gb165, 0, none⟩ = some (.bool t156) := (blk_cell BK165.out 0).trans rfl
                    have hcz54_1 : wr.cell? ⟨gb165, 1, none⟩ = some (.int .i64 t157) := (blk_cell BK165.out 1).trans rfl
                    have hcz54_2 : wr.cell? ⟨gb165, 2, none⟩ = some (.slice none 0 0) := (blk_cell BK165.out 2).trans rfl
                    have hcz54_3 : wr.cell? ⟨gb165, 3, none⟩ = some (u166003) := (blk_cell BK165.out 3).trans rfl
                    have hcz54_4 : wr.cell? ⟨gb165, 4, none⟩ = some (.int .i64 x166004_2) := (blk_cell BK165.out 4).trans rfl
                    have hfz54_0 := blk_frozen BK165.out 0
                    have hfz54_1 := blk_frozen BK165.out 1
                    have hfz54_2 := blk_frozen BK165.out 2
                    have hfz54_3 := blk_frozen BK165.out 3
                    have hfz54_4 := blk_frozen BK165.out 4
                    obtain ⟨Ao55, co55, eo55⟩ := Kd.R_slice HO_166003.out
                    subst eo55
                    go_wp2
                    go_roundg k2
                    case measure => have := HK1.out; have := HK2.out; omega
                    case rel => exact ⟨(wrap64 (x5_2 + 1)), (x166003_2), (wrap64 (x166004_2 + 1)), (.slice Ao55 x166003_2.length co55), (by first | rfl | (simp; done) | (simp [*]; done)), H', ⟨by have := HK1.out; have := HK2.out; omega⟩, ⟨by (with_reducible repeat (first | apply Kd.R_alloc | apply Kd.R_drewN | apply Kd.R_drew)); exact Kd.R_mono (Kd.R_far (p := ⟨gb165, 4, none⟩) (Kd.R_types HO_166003.out BK165.out (by decide)) (fun _ hk => hk.2) (.int .i64 (wrap64 (x166004_2 + 1)))) (fun _ hk => trivial)⟩, ⟨by (with_reducible repeat (first | refine blk_drewN ?_ _ | refine blk_drew ?_ | refine blk_alloc ?_ _)); refine blk_far ?_ NB154_165.out _; (with_reducible repeat (first | refine blk_drewN ?_ _ | refine blk_drew ?_ | refine blk_alloc ?_ _)); exact BK154.out⟩, ⟨by (with_reducible repeat (first | refine blk_drewN ?_ _ | refine blk_drew ?_ | refine blk_alloc ?_ _)); refine blk_far ?_ NB155_165.out _; (with_reducible repeat (first | refine blk_drewN ?_ _ | refine blk_drew ?_ | refine blk_alloc ?_ _)); exact BK155.out⟩, ⟨by (with_reducible repeat (first | refine blk_drewN ?_ _ | refine blk_drew ?_ | refine blk_alloc ?_ _)); refine blk_put (cs := #[.bool t156, .int .i64 t157, .slice none 0 0, .slice Ao55 x166003_2.length co55, .int .i64 x166004_2]) ?_ 4 _ rfl; (with_reducible repeat (first | refine blk_drewN ?_ _ | refine blk_drew ?_ | refine blk_alloc ?_ _)); exact BK165.out⟩, ⟨by repeat (first | (with_reducible first | exact HB.out | apply below_alloc | apply pw_below_drewN | apply below_drew1 | refine below_set ?_ GE154.out | refine below_set ?_ GE155.out | refine below_set ?_ GE165.out) | exact HB.out)⟩⟩
                  · rw [if_neg c49] at H
                    have c49b0 : decide (x166004_2 < 2147483647) = false := decide_eq_false c49
                    clear c49
                    have H' := Aside0.mk H
                    clear H
                    have hnb56 := NB154_155.out
                    have hnc56 := NB155_154.out
                    have hnb57 := NB154_165.out
                    have hnc57 := NB165_154.out
                    have hcz58_0 : wr.cell? ⟨gb154, 0, none⟩ = some (.bool true) := (blk_cell BK154.out 0).trans rfl
                    have hcz58_1 : wr.cell? ⟨gb154, 1, none⟩ = some (.int .i64 a0_1) := (blk_cell BK154.out 1).trans rfl
                    have hcz58_2 : wr.cell? ⟨gb154, 2, none⟩ = some (.slice A0_2 l0_2.length c0_2) := (blk_cell BK154.out 2).trans rfl
                    have hcz58_3 : wr.cell? ⟨gb154, 3, none⟩ = some (.slice A0_3 l0_3.length c0_3) := (blk_cell BK154.out 3).trans rfl
                    have hcz58_4 : wr.cell? ⟨gb154, 4, none⟩ = some (.int .i64 a0_4) := (blk_cell BK154.out 4).trans rfl
                    have hfz58_0 := blk_frozen BK154.out 0
                    have hfz58_1 := blk_frozen BK154.out 1
                    have hfz58_2 := blk_frozen BK154.out 2
                    have hfz58_3 := blk_frozen BK154.out 3
                    have hfz58_4 := blk_frozen BK154.out 4
                    have hnb59 := NB165_155.out
                    have hnc59 := NB155_165.out
                    have hcz60_0 : wr.cell? ⟨gb165, 0, none⟩ = some (.bool t156) := (blk_cell BK165.out 0).trans rfl
                    have hcz60_1 : wr.cell? ⟨gb165, 1, none⟩ = some (.int .i64 t157) := (blk_cell BK165.out 1).trans rfl
                    have hcz60_2 : wr.cell? ⟨gb165, 2, none⟩ = some (.slice none 0 0) := (blk_cell BK165.out 2).trans rfl
                    have hcz60_3 : wr.cell? ⟨gb165, 3, none⟩ = some (u166003) := (blk_cell BK165.out 3).trans rfl
                    have hcz60_4 : wr.cell? ⟨gb165, 4, none⟩ = some (.int .i64 x166004_2) := (blk_cell BK165.out 4).trans rfl
                    have hfz60_0 := blk_frozen BK165.out 0
                    have hfz60_1 := blk_frozen BK165.out 1
                    have hfz60_2 := blk_frozen BK165.out 2
                    have hfz60_3 := blk_frozen BK165.out 3
                    have hfz60_4 := blk_frozen BK165.out 4
                    obtain ⟨Ao61, co61, eo61⟩ := Kd.R_slice HO_166003.out
                    subst eo61
                    go_wp2
                    go_roundg k2
                    case measure => have := HK1.out; have := HK2.out; omega
                    case rel => exact ⟨(wrap64 (x5_2 + 1)), (x166003_2), (x166004_2), (.slice Ao61 x166003_2.length co61), (by first | rfl | (simp; done) | (simp [*]; done)), H', ⟨by have := HK1.out; have := HK2.out; omega⟩, ⟨by (with_reducible repeat (first | apply Kd.R_alloc | apply Kd.R_drewN | apply Kd.R_drew)); exact HO_166003.out⟩, ⟨by (with_reducible repeat (first | refine blk_drewN ?_ _ | refine blk_drew ?_ | refine blk_alloc ?_ _)); exact BK154.out⟩, ⟨by (with_reducible repeat (first | refine blk_drewN ?_ _ | refine blk_drew ?_ | refine blk_alloc ?_ _)); exact BK155.out⟩, ⟨by (with_reducible repeat (first | refine blk_drewN ?_ _ | refine blk_drew ?_ | refine blk_alloc ?_ _)); exact BK165.out⟩, ⟨by repeat (first | (with_reducible first | exact HB.out | apply below_alloc | apply pw_below_drewN | apply below_drew1 | refine below_set ?_ GE154.out | refine below_set ?_ GE155.out | refine below_set ?_ GE165.out) | exact HB.out)⟩⟩
              · rw [if_neg c35] at H
                have c35b0 : decide (x5_2 < (l0_2.length : Int)) = false := decide_eq_false c35
                clear c35
                simp only [Option.some.injEq, Prod.mk.injEq] at H
                obtain ⟨rfl, rfl, rfl, rfl, rfl⟩ := H
                have hnb62 := NB154_155.out
                have hnc62 := NB155_154.out
                have hnb63 := NB154_165.out
                have hnc63 := NB165_154.out
                have hcz64_0 : wr.cell? ⟨gb154, 0, none⟩ = some (.bool true) := (blk_cell BK154.out 0).trans rfl
                have hcz64_1 : wr.cell? ⟨gb154, 1, none⟩ = some (.int .i64 a0_1) := (blk_cell BK154.out 1).trans rfl
                have hcz64_2 : wr.cell? ⟨gb154, 2, none⟩ = some (.slice A0_2 l0_2.length c0_2) := (blk_cell BK154.out 2).trans rfl
                have hcz64_3 : wr.cell? ⟨gb154, 3, none⟩ = some (.slice A0_3 l0_3.length c0_3) := (blk_cell BK154.out 3).trans rfl
                have hcz64_4 : wr.cell? ⟨gb154, 4, none⟩ = some (.int .i64 a0_4) := (blk_cell BK154.out 4).trans rfl
                have hfz64_0 := blk_frozen BK154.out 0
                have hfz64_1 := blk_frozen BK154.out 1
                have hfz64_2 := blk_frozen BK154.out 2
                have hfz64_3 := blk_frozen BK154.out 3
                have hfz64_4 := blk_frozen BK154.out 4
                have hnb65 := NB165_155.out
                have hnc65 := NB155_165.out
                have hcz66_0 : wr.cell? ⟨gb165, 0, none⟩ = some (.bool t156) := (blk_cell BK165.out 0).trans rfl
                have hcz66_1 : wr.cell? ⟨gb165, 1, none⟩ = some (.int .i64 t157) := (blk_cell BK165.out 1).trans rfl
                have hcz66_2 : wr.cell? ⟨gb165, 2, none⟩ = some (.slice none 0 0) := (blk_cell BK165.out 2).trans rfl
                have hcz66_3 : wr.cell? ⟨gb165, 3, none⟩ = some (u166003) := (blk_cell BK165.out 3).trans rfl
                have hcz66_4 : wr.cell? ⟨gb165, 4, none⟩ = some (.int .i64 x166004_2) := (blk_cell BK165.out 4).trans rfl
                have hfz66_0 := blk_frozen BK165.out 0
                have hfz66_1 := blk_frozen BK165.out 1
                have hfz66_2 := blk_frozen BK165.out 2
                have hfz66_3 := blk_frozen BK165.out 3
                have hfz66_4 := blk_frozen BK165.out 4
                have hcz67_0 : wr.cell? ⟨gb155, 0, none⟩ = some (.bool false) := (blk_cell BK155.out 0).trans rfl
                have hcz67_1 : wr.cell? ⟨gb155, 1, none⟩ = some (.int .i64 0) := (blk_cell BK155.out 1).trans rfl
                have hcz67_2 : wr.cell? ⟨gb155, 2, none⟩ = some (.slice none 0 0) := (blk_cell BK155.out 2).trans rfl
                have hcz67_3 : wr.cell? ⟨gb155, 3, none⟩ = some (.slice none 0 0) := (blk_cell BK155.out 3).trans rfl
                have hcz67_4 : wr.cell? ⟨gb155, 4, none⟩ = some (.int .i64 0) := (blk_cell BK155.out 4).trans rfl
                have hfz67_0 := blk_frozen BK155.out 0
                have hfz67_1 := blk_frozen BK155.out 1
                have hfz67_2 := blk_frozen BK155.out 2
                have hfz67_3 := blk_frozen BK155.out 3
                have hfz67_4 := blk_frozen BK155.out 4
                obtain ⟨Ao68, co68, eo68⟩ := Kd.R_slice HO_166003.out
                subst eo68
                go_wp2
                refine bodyPost_ret (results_cell_row rfl _ _ gb155 40 #[.bool t156, .int .i64 t157, .slice none 0 0, .slice Ao68 x166003_2.length co68, .int .i64 x166004_2] (0, 0) _ rfl (by (with_reducible repeat (first | refine blk_drewN ?_ _ | refine blk_drew ?_ | refine blk_alloc ?_ _)); refine blk_put (cs := #[.bool t156, .int .i64 t157, .slice none 0 0, .slice Ao68 x166003_2.length co68, .int .i64 0]) ?_ 4 _ rfl; (with_reducible repeat (first | refine blk_drewN ?_ _ | refine blk_drew ?_ | refine blk_alloc ?_ _)); refine blk_put (cs := #[.bool t156, .int .i64 t157, .slice none 0 0, .slice none 0 0, .int .i64 0]) ?_ 3 _ rfl; (with_reducible repeat (first | refine blk_drewN ?_ _ | refine blk_drew ?_ | refine blk_alloc ?_ _)); refine blk_put (cs := #[.bool t156, .int .i64 t157, .slice none 0 0, .slice none 0 0, .int .i64 0]) ?_ 2 _ rfl; (with_reducible repeat (first | refine blk_drewN ?_ _ | refine blk_drew ?_ | refine blk_alloc ?_ _)); refine blk_put (cs := #[.bool t156, .int .i64 0, .slice none 0 0, .slice none 0 0, .int .i64 0]) ?_ 1 _ rfl; (with_reducible repeat (first | refine blk_drewN ?_ _ | refine blk_drew ?_ | refine blk_alloc ?_ _)); refine blk_put (cs := #[.bool false, .int .i64 0, .slice none 0 0, .slice none 0 0, .int .i64 0]) ?_ 0 _ rfl; (with_reducible repeat (first | refine blk_drewN ?_ _ | refine blk_drew ?_ | refine blk_alloc ?_ _)); exact BK155.out) Try.underlying40 rfl (by kernel_rfl)) rfl ?_
                exact ⟨_, _, by first | rfl | (simp [errW_none, errW_some] <;> rfl) | (simp [*, errW_none, errW_some] <;> rfl), by first | exact Kd.R_nil _ _ _ _ _ | exact Kd.N_nil _ _ _ _ _ | exact Kd.V_nil _ _ _ _ _ | exact Kd.Q_nil _ _ _ _ _ | exact Kd.S_nil _ _ _ _ _, by (with_reducible repeat (first | apply Kd.R_alloc | apply Kd.R_drewN | apply Kd.R_drew)); exact Kd.R_mono (Kd.R_far (p := ⟨gb155, 4, none⟩) (Kd.R_far (p := ⟨gb155, 3, none⟩) (Kd.R_far (p := ⟨gb155, 2, none⟩) (Kd.R_far (p := ⟨gb155, 1, none⟩) (Kd.R_far (p := ⟨gb155, 0, none⟩) (Kd.R_types HO_166003.out BK155.out (by decide)) (fun _ hk => hk.2) (.bool t156)) (fun _ hk => hk.2) (.int .i64 t157)) (fun _ hk => hk.2) (.slice none 0 0)) (fun _ hk => hk.2) (.slice Ao68 x166003_2.length co68)) (fun _ hk => hk.2) (.int .i64 x166004_2)) (fun _ hk => trivial), by repeat (first | (with_reducible first | exact HB.out | apply below_alloc | apply pw_below_drewN | apply below_drew1 | refine below_set ?_ GE154.out | refine below_set ?_ GE155.out | refine below_set ?_ GE165.out) | exact HB.out)⟩
        · replace c28 := Bool.eq_false_iff.mpr c28
          subst c28
          have H1 : (if (l0_2.length : Int) > 0 then (if 0 < (l0_2.length : Int) then (some (t156, t157, ([] : List Int), (([(⟨rd l0_2 0, 0⟩ : S68)] : List (S68))), t164)) else (none)) else (some (t156, t157, ([] : List Int), x166003_1, t164))) = some (r1, r2, r3, r4, r5) := by rw [if_neg (show ¬ (false = true) by decide)] at H; exact H
          clear H
          have H := H1
          clear H1
          by_cases c69 : (l0_2.length : Int) > 0
          · rw [if_pos c69] at H
            have c69b0 : decide (0 < (l0_2.length : Int)) = true := decide_eq_true c69
            have c69b1 : decide (0 < l0_2.length) = true := decide_eq_true (by omega)
            clear c69
            by_cases c70 : 0 < (l0_2.length : Int)
            · rw [if_pos c70] at H
              have c70b0 : decide (0 < (l0_2.length : Int)) = true := decide_eq_true c70
              have c70b1 : decide (0 < l0_2.length) = true := decide_eq_true (by omega)
              clear c70
              obtain ⟨y170, hy170⟩ : ∃ y_ : List (S68), y_ = (([(⟨rd l0_2 0, 0⟩ : S68)] : List (S68))) := ⟨_, rfl⟩
              replace H : (some (t156, t157, ([] : List Int), y170, t164)) = some (r1, r2, r3, r4, r5) := by first | (rw [hy170]; with_reducible exact H) | (have H2_ := (Option.bind_some _ _).symm.trans H; rw [hy170]; with_reducible exact H2_) | (have H2_ := (Option.bind_some _ _).symm.trans H; with_reducible exact H2_) | with_reducible exact H | (rw [hy170]; exact H) | exact H
              have Ny170 := Aside0.mk hy170
              clear hy170
              simp only [Option.some.injEq, Prod.mk.injEq] at H
              obtain ⟨rfl, rfl, rfl, rfl, rfl⟩ := H
              have hnb71 := NB165_154.out
              have hnc71 := NB154_165.out
              have hnb72 := NB165_155.out
              have hnc72 := NB155_165.out
              have hcz73_0 : wr.cell? ⟨gb165, 0, none⟩ = some (.bool t156) := (blk_cell BK165.out 0).trans rfl
              have hcz73_1 : wr.cell? ⟨gb165, 1, none⟩ = some (.int .i64 t157) := (blk_cell BK165.out 1).trans rfl
              have hcz73_2 : wr.cell? ⟨gb165, 2, none⟩ = some (.slice none 0 0) := (blk_cell BK165.out 2).trans rfl
              have hcz73_3 : wr.cell? ⟨gb165, 3, none⟩ = some (u166003) := (blk_cell BK165.out 3).trans rfl
              have hcz73_4 : wr.cell? ⟨gb165, 4, none⟩ = some (.int .i64 t164) := (blk_cell BK165.out 4).trans rfl
              have hfz73_0 := blk_frozen BK165.out 0
              have hfz73_1 := blk_frozen BK165.out 1
              have hfz73_2 := blk_frozen BK165.out 2
              have hfz73_3 := blk_frozen BK165.out 3
              have hfz73_4 := blk_frozen BK165.out 4
              obtain ⟨Ao74, co74, eo74⟩ := Kd.R_slice HO_166003.out
              subst eo74
              have hnb75 := NB154_155.out
              have hnc75 := NB155_154.out
              have hcz76_0 : wr.cell? ⟨gb154, 0, none⟩ = some (.bool false) := (blk_cell BK154.out 0).trans rfl
              have hcz76_1 : wr.cell? ⟨gb154, 1, none⟩ = some (.int .i64 a0_1) := (blk_cell BK154.out 1).trans rfl
              have hcz76_2 : wr.cell? ⟨gb154, 2, none⟩ = some (.slice A0_2 l0_2.length c0_2) := (blk_cell BK154.out 2).trans rfl
              have hcz76_3 : wr.cell? ⟨gb154, 3, none⟩ = some (.slice A0_3 l0_3.length c0_3) := (blk_cell BK154.out 3).trans rfl
              have hcz76_4 : wr.cell? ⟨gb154, 4, none⟩ = some (.int .i64 a0_4) := (blk_cell BK154.out 4).trans rfl
              have hfz76_0 := blk_frozen BK154.out 0
              have hfz76_1 := blk_frozen BK154.out 1
              have hfz76_2 := blk_frozen BK154.out 2
              have hfz76_3 := blk_frozen BK154.out 3
              have hfz76_4 := blk_frozen BK154.out 4
              have p169 : 0 ≤ (0 : Int) := (by omega)
              have q169 : 0 < (l0_2.length : Int) := of_decide_eq_true (by first | (with_reducible assumption) | assumption)
              obtain ⟨ad169, e169, hx169_0⟩ := Kd.at_int HR0_2.out 0 p169 q169
              cases e169
              have qi169 : (0 < l0_2.length) = True := eq_true (by omega)
              (try rw [show ((0 : Int)).toNat = 0 from rfl] at hx169_0)
              (try rw [Addr.add_zero'] at hx169_0)
              replace hx169_0 := (HB.out.cell (World.block_lt_of_cell? w _ hx169_0)).trans hx169_0
              replace p169 := eq_true p169
              replace q169 := eq_true q169
              go_wp2_with (first | ((with_reducible refine gate_dst (N := 44) rfl ?_); refine Kd.R_lit k68 _ 68 ?hg (N := 44) ?hd (xs := ([(⟨rd l0_2 0, 0⟩ : S68)] : List (S68))) (inner := [.int .i64 (rd l0_2 0), .int .i64 0]) (ok := fun _ => True) (okp := fun _ => True) ?hr ?hp (fun _ hk => hk) trivial (Below.refl _ _) (Nat.le_refl _) (by simp) ?_; (case hd => rfl); (case hg => rfl); (case hr => first | (go_simp; done) | (go_simp; rfl)); (case hp => exact (Reps.c2 (show Kd.M k68 _ _ _ (⟨rd l0_2 0, 0⟩ : S68) [.int .i64 (rd l0_2 0), .int .i64 0] from (k68_mkM _ _ _ (⟨rd l0_2 0, 0⟩ : S68) )) (Reps.none _ _))); intro v171 w77 ho78 hb hg_ hnew_; clear hg_ hnew_; (first | rw [← Ny170.out] at ho78 | (simp only [Int.reduceToNat] at ho78; rw [← Ny170.out] at ho78)); have n0_ := Aside0.mk (Kd.R_elder' (by (with_reducible repeat (first | apply Kd.R_alloc | apply Kd.R_drewN | apply Kd.R_drew)); exact HO_166003.out) (Kd.R_base ho78) hb); have n1_ := Aside0.mk (Kd.R_lower (Kd.R_new' ho78 (Kd.R_lt (by (with_reducible repeat (first | apply Kd.R_alloc | apply Kd.R_drewN | apply Kd.R_drew)); exact HO_166003.out))) (below_size (by repeat (first | (with_reducible first | exact HB.out | apply below_alloc | apply pw_below_drewN | apply below_drew1 | refine below_set ?_ GE154.out | refine below_set ?_ GE155.out | refine below_set ?_ GE165.out) | exact HB.out)))); have n2_ := Aside0.mk (blk_below (g := gb154) (o := .cells #[.bool false, .int .i64 a0_1, .slice (some ad169) l0_2.length c0_2, .slice A0_3 l0_3.length c0_3, .int .i64 a0_4] 40 (0, 0)) (by (with_reducible repeat (first | refine blk_drewN ?_ _ | refine blk_drew ?_ | refine blk_alloc ?_ _)); exact BK154.out) hb); have n3_ := Aside0.mk (blk_below (g := gb155) (o := .cells #[.bool false, .int .i64 0, .slice none 0 0, .slice none 0 0, .int .i64 0] 40 (0, 0)) (by (with_reducible repeat (first | refine blk_drewN ?_ _ | refine blk_drew ?_ | refine blk_alloc ?_ _)); exact BK155.out) hb); have n4_ := Aside0.mk (blk_below (g := gb165) (o := .cells #[.bool t156, .int .i64 t157, .slice none 0 0, .slice Ao74 x166003_1.length co74, .int .i64 t164] 40 (0, 0)) (by (with_reducible repeat (first | refine blk_drewN ?_ _ | refine blk_drew ?_ | refine blk_alloc ?_ _)); exact BK165.out) hb); have n5_ := Aside0.mk (below_step (by repeat (first | (with_reducible first | exact HB.out | apply below_alloc | apply pw_below_drewN | apply below_drew1 | refine below_set ?_ GE154.out | refine below_set ?_ GE155.out | refine below_set ?_ GE165.out) | exact HB.out)) hb); clear HO_166003; clear BK154; clear BK155; clear BK165; clear HB; have HO_166003 := n0_; have HO172 := n1_; have BK154 := n2_; have BK155 := n3_; have BK165 := n4_; have HB := n5_; clear n0_ n1_ n2_ n3_ n4_ n5_; clear hb ho78; obtain ⟨Ao79, co79, eo79⟩ := Kd.R_slice HO172.out; subst eo79; have hcz80_0 : w77.cell? ⟨gb165, 0, none⟩ = some (.bool t156) := (blk_cell BK165.out 0).trans rfl; have hcz80_1 : w77.cell? ⟨gb165, 1, none⟩ = some (.int .i64 t157) := (blk_cell BK165.out 1).trans rfl; have hcz80_2 : w77.cell? ⟨gb165, 2, none⟩ = some (.slice none 0 0) := (blk_cell BK165.out 2).trans rfl; have hcz80_3 : w77.cell? ⟨gb165, 3, none⟩ = some (.slice Ao74 x166003_1.length co74) := (blk_cell BK165.out 3).trans rfl; have hcz80_4 : w77.cell? ⟨gb165, 4, none⟩ = some (.int .i64 t164) := (blk_cell BK165.out 4).trans rfl; have hfz80_0 := blk_frozen BK165.out 0; have hfz80_1 := blk_frozen BK165.out 1; have hfz80_2 := blk_frozen BK165.out 2; have hfz80_3 := blk_frozen BK165.out 3; have hfz80_4 := blk_frozen BK165.out 4; have hcz81_0 : w77.cell? ⟨gb155, 0, none⟩ = some (.bool false) := (blk_cell BK155.out 0).trans rfl; have hcz81_1 : w77.cell? ⟨gb155, 1, none⟩ = some (.int .i64 0) := (blk_cell BK155.out 1).trans rfl; have hcz81_2 : w77.cell? ⟨gb155, 2, none⟩ = some (.slice none 0 0) := (blk_cell BK155.out 2).trans rfl; have hcz81_3 : w77.cell? ⟨gb155, 3, none⟩ = some (.slice none 0 0) := (blk_cell BK155.out 3).trans rfl; have hcz81_4 : w77.cell? ⟨gb155, 4, none⟩ = some (.int .i64 0) := (blk_cell BK155.out 4).trans rfl; have hfz81_0 := blk_frozen BK155.out 0; have hfz81_1 := blk_frozen BK155.out 1; have hfz81_2 := blk_frozen BK155.out 2; have hfz81_3 := blk_frozen BK155.out 3; have hfz81_4 := blk_frozen BK155.out 4))
              refine bodyPost_ret (results_cell_row rfl _ _ gb155 40 #[.bool t156, .int .i64 t157, .slice none 0 0, .slice Ao79 y170.length co79, .int .i64 t164] (0, 0) _ rfl (by (with_reducible repeat (first | refine blk_drewN ?_ _ | refine blk_drew ?_ | refine blk_alloc ?_ _)); refine blk_put (cs := #[.bool t156, .int .i64 t157, .slice none 0 0, .slice Ao79 y170.length co79, .int .i64 0]) ?_ 4 _ rfl; (with_reducible repeat (first | refine blk_drewN ?_ _ | refine blk_drew ?_ | refine blk_alloc ?_ _)); refine blk_put (cs := #[.bool t156, .int .i64 t157, .slice none 0 0, .slice none 0 0, .int .i64 0]) ?_ 3 _ rfl; (with_reducible repeat (first | refine blk_drewN ?_ _ | refine blk_drew ?_ | refine blk_alloc ?_ _)); refine blk_put (cs := #[.bool t156, .int .i64 t157, .slice none 0 0, .slice none 0 0, .int .i64 0]) ?_ 2 _ rfl; (with_reducible repeat (first | refine blk_drewN ?_ _ | refine blk_drew ?_ | refine blk_alloc ?_ _)); refine blk_put (cs := #[.bool t156, .int .i64 0, .slice none 0 0, .slice none 0 0, .int .i64 0]) ?_ 1 _ rfl; (with_reducible repeat (first | refine blk_drewN ?_ _ | refine blk_drew ?_ | refine blk_alloc ?_ _)); refine blk_put (cs := #[.bool false, .int .i64 0, .slice none 0 0, .slice none 0 0, .int .i64 0]) ?_ 0 _ rfl; (with_reducible repeat (first | refine blk_drewN ?_ _ | refine blk_drew ?_ | refine blk_alloc ?_ _)); refine blk_far ?_ NB155_165.out _; (with_reducible repeat (first | refine blk_drewN ?_ _ | refine blk_drew ?_ | refine blk_alloc ?_ _)); exact BK155.out) Try.underlying40 rfl (by kernel_rfl)) rfl ?_
              exact ⟨_, _, by first | rfl | (simp [errW_none, errW_some] <;> rfl) | (simp [*, errW_none, errW_some] <;> rfl), by first | exact Kd.R_nil _ _ _ _ _ | exact Kd.N_nil _ _ _ _ _ | exact Kd.V_nil _ _ _ _ _ | exact Kd.Q_nil _ _ _ _ _ | exact Kd.S_nil _ _ _ _ _, by (with_reducible repeat (first | apply Kd.R_alloc | apply Kd.R_drewN | apply Kd.R_drew)); exact Kd.R_mono (Kd.R_far (p := ⟨gb155, 4, none⟩) (Kd.R_far (p := ⟨gb155, 3, none⟩) (Kd.R_far (p := ⟨gb155, 2, none⟩) (Kd.R_far (p := ⟨gb155, 1, none⟩) (Kd.R_far (p := ⟨gb155, 0, none⟩) (Kd.R_far (p := ⟨gb165, 3, none⟩) (Kd.R_types (Kd.R_types HO172.out BK165.out (by decide)) BK155.out (by decide)) (fun _ hk => hk.1.2) (.slice Ao79 y170.length co79)) (fun _ hk => hk.2) (.bool t156)) (fun _ hk => hk.2) (.int .i64 t157)) (fun _ hk => hk.2) (.slice none 0 0)) (fun _ hk => hk.2) (.slice Ao79 y170.length co79)) (fun _ hk => hk.2) (.int .i64 t164)) (fun _ hk => trivial), by repeat (first | (with_reducible first | exact HB.out | apply below_alloc | apply pw_below_drewN | apply below_drew1 | refine below_set ?_ GE154.out | refine below_set ?_ GE155.out | refine below_set ?_ GE165.out) | exact HB.out)⟩
            · rw [if_neg c70] at H
              exact absurd H (by simp)
          · rw [if_neg c69] at H
            have c69b0 : decide (0 < (l0_2.length : Int)) = false := decide_eq_false c69
            have c69b1 : decide (0 < l0_2.length) = false := decide_eq_false (by omega)
            clear c69
            simp only [Option.some.injEq, Prod.mk.injEq] at H
            obtain ⟨rfl, rfl, rfl, rfl, rfl⟩ := H
            have hnb82 := NB165_154.out
            have hnc82 := NB154_165.out
            have hnb83 := NB165_155.out
            have hnc83 := NB155_165.out
            have hcz84_0 : wr.cell? ⟨gb165, 0, none⟩ = some (.bool t156) := (blk_cell BK165.out 0).trans rfl
            have hcz84_1 : wr.cell? ⟨gb165, 1, none⟩ = some (.int .i64 t157) := (blk_cell BK165.out 1).trans rfl
            have hcz84_2 : wr.cell? ⟨gb165, 2, none⟩ = some (.slice none 0 0) := (blk_cell BK165.out 2).trans rfl
            have hcz84_3 : wr.cell? ⟨gb165, 3, none⟩ = some (u166003) := (blk_cell BK165.out 3).trans rfl
            have hcz84_4 : wr.cell? ⟨gb165, 4, none⟩ = some (.int .i64 t164) := (blk_cell BK165.out 4).trans rfl
            have hfz84_0 := blk_frozen BK165.out 0
            have hfz84_1 := blk_frozen BK165.out 1
            have hfz84_2 := blk_frozen BK165.out 2
            have hfz84_3 := blk_frozen BK165.out 3
            have hfz84_4 := blk_frozen BK165.out 4
            obtain ⟨Ao85, co85, eo85⟩ := Kd.R_slice HO_166003.out
            subst eo85
            have hnb86 := NB154_155.out
            have hnc86 := NB155_154.out
            have hcz87_0 : wr.cell? ⟨gb154, 0, none⟩ = some (.bool false) := (blk_cell BK154.out 0).trans rfl
            have hcz87_1 : wr.cell? ⟨gb154, 1, none⟩ = some (.int .i64 a0_1) := (blk_cell BK154.out 1).trans rfl
            have hcz87_2 : wr.cell? ⟨gb154, 2, none⟩ = some (.slice A0_2 l0_2.length c0_2) := (blk_cell BK154.out 2).trans rfl
            have hcz87_3 : wr.cell? ⟨gb154, 3, none⟩ = some (.slice A0_3 l0_3.length c0_3) := (blk_cell BK154.out 3).trans rfl
            have hcz87_4 : wr.cell? ⟨gb154, 4, none⟩ = some (.int .i64 a0_4) := (blk_cell BK154.out 4).trans rfl
            have hfz87_0 := blk_frozen BK154.out 0
            have hfz87_1 := blk_frozen BK154.out 1
            have hfz87_2 := blk_frozen BK154.out 2
            have hfz87_3 := blk_frozen BK154.out 3
            have hfz87_4 := blk_frozen BK154.out 4
            have hcz88_0 : wr.cell? ⟨gb155, 0, none⟩ = some (.bool false) := (blk_cell BK155.out 0).trans rfl
            have hcz88_1 : wr.cell? ⟨gb155, 1, none⟩ = some (.int .i64 0) := (blk_cell BK155.out 1).trans rfl
            have hcz88_2 : wr.cell? ⟨gb155, 2, none⟩ = some (.slice none 0 0) := (blk_cell BK155.out 2).trans rfl
            have hcz88_3 : wr.cell? ⟨gb155, 3, none⟩ = some (.slice none 0 0) := (blk_cell BK155.out 3).trans rfl
            have hcz88_4 : wr.cell? ⟨gb155, 4, none⟩ = some (.int .i64 0) := (blk_cell BK155.out 4).trans rfl
            have hfz88_0 := blk_frozen BK155.out 0
            have hfz88_1 := blk_frozen BK155.out 1
            have hfz88_2 := blk_frozen BK155.out 2
            have hfz88_3 := blk_frozen BK155.out 3
            have hfz88_4 := blk_frozen BK155.out 4
            go_wp2
            refine bodyPost_ret (results_cell_row rfl _ _ gb155 40 #[.bool t156, .int .i64 t157, .slice none 0 0, .slice Ao85 x166003_1.length co85, .int .i64 t164] (0, 0) _ rfl (by (with_reducible repeat (first | refine blk_drewN ?_ _ | refine blk_drew ?_ | refine blk_alloc ?_ _)); refine blk_put (cs := #[.bool t156, .int .i64 t157, .slice none 0 0, .slice Ao85 x166003_1.length co85, .int .i64 0]) ?_ 4 _ rfl; (with_reducible repeat (first | refine blk_drewN ?_ _ | refine blk_drew ?_ | refine blk_alloc ?_ _)); refine blk_put (cs := #[.bool t156, .int .i64 t157, .slice none 0 0, .slice none 0 0, .int .i64 0]) ?_ 3 _ rfl; (with_reducible repeat (first | refine blk_drewN ?_ _ | refine blk_drew ?_ | refine blk_alloc ?_ _)); refine blk_put (cs := #[.bool t156, .int .i64 t157, .slice none 0 0, .slice none 0 0, .int .i64 0]) ?_ 2 _ rfl; (with_reducible repeat (first | refine blk_drewN ?_ _ | refine blk_drew ?_ | refine blk_alloc ?_ _)); refine blk_put (cs := #[.bool t156, .int .i64 0, .slice none 0 0, .slice none 0 0, .int .i64 0]) ?_ 1 _ rfl; (with_reducible repeat (first | refine blk_drewN ?_ _ | refine blk_drew ?_ | refine blk_alloc ?_ _)); refine blk_put (cs := #[.bool false, .int .i64 0, .slice none 0 0, .slice none 0 0, .int .i64 0]) ?_ 0 _ rfl; (with_reducible repeat (first | refine blk_drewN ?_ _ | refine blk_drew ?_ | refine blk_alloc ?_ _)); exact BK155.out) Try.underlying40 rfl (by kernel_rfl)) rfl ?_
            exact ⟨_, _, by first | rfl | (simp [errW_none, errW_some] <;> rfl) | (simp [*, errW_none, errW_some] <;> rfl), by first | exact Kd.R_nil _ _ _ _ _ | exact Kd.N_nil _ _ _ _ _ | exact Kd.V_nil _ _ _ _ _ | exact Kd.Q_nil _ _ _ _ _ | exact Kd.S_nil _ _ _ _ _, by (with_reducible repeat (first | apply Kd.R_alloc | apply Kd.R_drewN | apply Kd.R_drew)); exact Kd.R_mono (Kd.R_far (p := ⟨gb155, 4, none⟩) (Kd.R_far (p := ⟨gb155, 3, none⟩) (Kd.R_far (p := ⟨gb155, 2, none⟩) (Kd.R_far (p := ⟨gb155, 1, none⟩) (Kd.R_far (p := ⟨gb155, 0, none⟩) (Kd.R_types HO_166003.out BK155.out (by decide)) (fun _ hk => hk.2) (.bool t156)) (fun _ hk => hk.2) (.int .i64 t157)) (fun _ hk => hk.2) (.slice none 0 0)) (fun _ hk => hk.2) (.slice Ao85 x166003_1.length co85)) (fun _ hk => hk.2) (.int .i64 t164)) (fun _ hk => trivial), by repeat (first | (with_reducible first | exact HB.out | apply below_alloc | apply pw_below_drewN | apply below_drew1 | refine below_set ?_ GE154.out | refine below_set ?_ GE155.out | refine below_set ?_ GE165.out) | exact HB.out)⟩

-- NOT PRINTED: function 16 (rotalaw15_does)

end Go.Proofs.Ytdienpcifklinaa.PPortOwn
