/- RingNobody: a nil ring answers so; a plain one is as a new one. No condition. -/
import Derived.Test.YtjjdojnnomokaaaRingJ
import Derived.Test.YtjjdojnnomokaaaOpen
import Derived.Test.YtjjdojnnomokaaaPRingLoadsx1
namespace Go.Proofs.Ytjjdojnnomokaaa
open Go.RowKit Go.ChangeShapes Go.WideShapes Go.ChangeAt Go.Proofs.YtjjdojnnomokaaaW.PrintWords Go.Proofs.YtjjdojnnomokaaaW.PrintMore Go.Proofs.YtjjdojnnomokaaaW.PrintLast
attribute [local go_sem high] PRingLoads.eqA27
theorem field29_1 : ∀ (A : Option Addr) (n c : Nat) (h : Bool) (a b d : Int) (w : World), (Instr.field 29 (.agg #[.slice A n c, .bool h, .int .i64 a, .int .i64 b, .int .u64 d]) 1).run Try.prog w = .ok (.bool h) w := fun _ _ _ _ _ _ _ _ => by kernel_rfl
theorem field29_0 : ∀ (A : Option Addr) (n c : Nat) (h : Bool) (a b d : Int) (w : World), (Instr.field 29 (.agg #[.slice A n c, .bool h, .int .i64 a, .int .i64 b, .int .u64 d]) 0).run Try.prog w = .ok (.slice A n c) w := fun _ _ _ _ _ _ _ _ => by kernel_rfl
theorem drain_nil (w : World) : Calls Try.prog 25 #[.pointer none] w fun e w' => e = .returned (.slice none 0 0) ∧ Below w.heap.size w w' := by
  go_enter Try.func25, Try.ntmps25
  go_wp2
  go_ret
  exact ⟨rfl, (by repeat (first | (with_reducible exact Below.refl _ _) | (with_reducible refine Below.drew ?_) | (with_reducible refine below_drewN ?_ _) | (with_reducible refine below_al ?_ _) | (with_reducible refine Below.alloc ?_ (by first | exact Nat.le_refl _ | omega | (simp; done) | (simp; omega)) _) | (with_reducible refine Below.setCell ?_ (by first | (simp only []; omega) | (simp; done) | (simp; omega)) _)))⟩
theorem state_nil (w : World) : Calls Try.prog 20 #[.pointer none] w fun e w' => e = .returned (.agg #[.slice none 0 0, .bool false, .int .i64 0, .int .i64 0, .int .u64 0]) ∧ Below w.heap.size w w' := by
  go_enter Try.func20, Try.ntmps20
  go_wp2
  exact bodyPost_ret (v := .agg #[.slice none 0 0, .bool false, .int .i64 0, .int .i64 0, .int .u64 0]) (by simp [results, Try.results20, go_sem]) rfl ⟨rfl, (by repeat (first | (with_reducible exact Below.refl _ _) | (with_reducible refine Below.drew ?_) | (with_reducible refine below_drewN ?_ _) | (with_reducible refine below_al ?_ _) | (with_reducible refine Below.alloc ?_ (by first | exact Nat.le_refl _ | omega | (simp; done) | (simp; omega)) _) | (with_reducible refine Below.setCell ?_ (by first | (simp only []; omega) | (simp; done) | (simp; omega)) _)))⟩
set_option maxRecDepth 100000 in
set_option maxHeartbeats 8000000 in
theorem RingNobody0.walk (w : World) (x : Wt) : Calls Try.prog 9 #[(.agg #[.int .i64 x.s, .int .i64 x.g, .int .u64 x.t])] w fun e w' => e = .returned (.bool true) ∧ Below w.heap.size w w' := by
  go_enter Try.func9, Try.ntmps9
  go_wp2_with fail
  have hB0 : Below w.heap.size w (w.alloc (.cells #[.int .i64 x.s, .int .i64 x.g, .int .u64 x.t] 27)) := below_al (Below.refl _ _) _
  have hx : (w.alloc (.cells #[.int .i64 x.s, .int .i64 x.g, .int .u64 x.t] 27)).heap[w.heap.size]? = some (.cells #[.int .i64 x.s, .int .i64 x.g, .int .u64 x.t] 27 (0, 0)) := blk_new _ _
  generalize w.alloc (.cells #[.int .i64 x.s, .int .i64 x.g, .int .u64 x.t] 27) = W at *
  refine (put_nil x W).mono ?_
  rintro e w1 ⟨rfl, hB1⟩
  have hx1 := blk_below hx hB1
  have hC1 := below_then hB0 hB1
  obtain ⟨x0, x1, x2, -, -, -⟩ := blk3 hx1
  clear hB1 hx hB0
  go_wp2_with fail
  refine (rdy_nil x w1).mono ?_
  rintro e w2 ⟨rfl, hB2⟩
  have hx2 := blk_below hx1 hB2
  have hC2 := below_then hC1 hB2
  clear x0 x1 x2 hB2 hx1 hC1
  go_wp2_with fail
  refine (take_nil w2).mono ?_
  rintro e w3 ⟨rfl, hB3⟩
  have hx3 := blk_below hx2 hB3
  have hC3 := below_then hC2 hB3
  clear hB3 hx2 hC2
  go_wp2_with fail
  have hA3 : Below w3.heap.size w3 (w3.alloc (.cells #[.int .i64 0, .int .i64 0, .int .u64 0] 27)) := below_al (Below.refl _ _) _
  refine (new_any _).mono ?_
  rintro e w4 ⟨b4, rfl, hb4, hI4, hB4⟩
  have hx4 := blk_below hx3 (below_then hA3 hB4)
  have hC4 := below_then hC3 (below_then hA3 hB4)
  clear hx3 hC3 hA3 hB4 hI4 hb4
  go_wp2_with fail
  refine (steal_nil1 _ (.inr ⟨b4, rfl⟩) w4).mono ?_
  rintro e w5 ⟨rfl, hB5⟩
  have hx5 := blk_below hx4 hB5
  have hC5 := below_then hC4 hB5
  have hA5 : Below w5.heap.size w5 (w5.alloc (.cells #[.int .i64 0, .int .i64 0, .int .u64 0] 27)) := below_al (Below.refl _ _) _
  clear hx4 hC4 hB5
  go_wp2_with fail
  refine (new_any _).mono ?_
  rintro e w6 ⟨b6, rfl, hb6, hI6, hB6⟩
  have hx6 := blk_below hx5 (below_then hA5 hB6)
  have hC6 := below_then hC5 (below_then hA5 hB6)
  clear hx5 hC5 hA5 hB6 hI6 hb6
  go_wp2_with fail
  refine (steal_nil2 b6 w6).mono ?_
  rintro e w7 ⟨rfl, hB7⟩
  have hx7 := blk_below hx6 hB7
  have hC7 := below_then hC6 hB7
  have hA7 : Below w7.heap.size w7 (w7.alloc (.cells #[.int .i64 0, .int .i64 0, .int .u64 0] 27)) := below_al (Below.refl _ _) _
  have hx8 := blk_below hx7 hA7
  have hC8 := below_then hC7 hA7
  clear hx6 hC6 hB7 hx7 hC7 hA7
  go_wp2_with fail
  generalize w7.alloc (.cells #[.int .i64 0, .int .i64 0, .int .u64 0] 27) = w8 at *
  refine (len_nil w8).mono ?_
  rintro e w9 ⟨rfl, rfl⟩
  go_wp2_with fail
  refine (kick_nil w8).mono ?_
  rintro e w9 ⟨rfl, hB9⟩
  have hx9 := blk_below hx8 hB9
  have hC9 := below_then hC8 hB9
  clear hx8 hC8 hB9
  go_wp2_with fail
  refine (drain_nil w9).mono ?_
  rintro e w10 ⟨rfl, hB10⟩
  have hx10 := blk_below hx9 hB10
  have hC10 := below_then hC9 hB10
  clear hx9 hC9 hB10
  have hf1 := field29_1
  have hf0 := field29_0
  have hz := ringZ_zero
  go_wp2_with fail
  refine (state_nil w10).mono ?_
  rintro e w11 ⟨rfl, hB11⟩
  have hx11 := blk_below hx10 hB11
  have hC11 := below_then hC10 hB11
  clear hx10 hC10 hB11
  go_wp2_with fail
  refine (state_nil w11).mono ?_
  rintro e w12 ⟨rfl, hB12⟩
  have hx12 := blk_below hx11 hB12
  have hC12 := below_then hC11 hB12
  obtain ⟨x0, x1, x2, -, -, -⟩ := blk3 hx12
  clear hx11 hC11 hB12
  have hbx := lt_blk hx12
  go_wp2_with fail
  have hA12 : Below w12.heap.size w12 (w12.alloc (.cells ringZ 71)) := below_al (Below.refl _ _) _
  have hI12 : IsRing (w12.alloc (.cells ringZ 71)) w12.heap.size Rg.new := ⟨0, ringZ, ⟨blk_new _ _, ringZ_new⟩⟩
  have hx13 := blk_below hx12 hA12
  have hC13 := below_then hC12 hA12
  clear x0 x1 x2 hA12 hx12 hC12
  obtain ⟨b, hb⟩ : ∃ b, b = w12.heap.size := ⟨_, rfl⟩
  rw [← hb] at hbx
  rw [← hb] at hI12 ⊢
  clear hb hz
  generalize w12.alloc (.cells ringZ 71) = w13 at *
  refine (put_any b Rg.new x w13 hI12).mono ?_
  have e1 : putE Rg.new x = 0 := rfl
  have e2 : putR Rg.new x = ⟨[x], false, Wt.zero⟩ := rfl
  rw [e1, e2]
  rintro e w14 ⟨v14, rfl, -, hI14, hK14⟩
  have hx14 := blk_keep hx13 hK14 (show ¬ w.heap.size = b by omega)
  have hC14 := below_then_keep hC13 hC13.size hK14 (fun i hi => by subst hi; omega)
  clear hI12 hx13 hC13 hK14 e1 e2
  go_wp2_with fail
  refine (take_any b _ w14 hI14).mono ?_
  have e1 : takeW ⟨[x], false, Wt.zero⟩ = x := rfl
  have e2 : takeR ⟨[x], false, Wt.zero⟩ = ⟨[], false, Wt.zero⟩ := rfl
  have e3 : takeE ⟨[x], false, Wt.zero⟩ = 0 := rfl
  rw [e1, e2, e3]
  rintro e w15 ⟨rfl, hI15, hK15⟩
  have hx15 := blk_keep hx14 hK15 (show ¬ w.heap.size = b by omega)
  have hC15 := below_then_keep hC14 hC14.size hK15 (fun i hi => by subst hi; omega)
  clear hI14 hx14 hC14 hK15 e1 e2 e3 hI15
  have hA15 : Below w15.heap.size w15 (w15.alloc (.cells #[.int .i64 x.s, .int .i64 x.g, .int .u64 x.t] 27)) := below_al (Below.refl _ _) _
  have hy15 : (w15.alloc (.cells #[.int .i64 x.s, .int .i64 x.g, .int .u64 x.t] 27)).heap[w15.heap.size]? = some (.cells #[.int .i64 x.s, .int .i64 x.g, .int .u64 x.t] 27 (0, 0)) := blk_new _ _
  have hx16 := blk_below hx15 hA15
  have hC16 := below_then hC15 hA15
  clear hx15 hC15 hA15
  go_wp2_with fail
  generalize w15.alloc (.cells #[.int .i64 x.s, .int .i64 x.g, .int .u64 x.t] 27) = w16 at *
  refine (steal_same b w16).mono ?_
  rintro e w17 ⟨rfl, hB17⟩
  have hx17 := blk_below hx16 hB17
  have hy17 := blk_below hy15 hB17
  have hC17 := below_then hC16 hB17
  obtain ⟨x0, x1, x2, -, -, -⟩ := blk3 hx17
  obtain ⟨y0, y1, y2, -, -, -⟩ := blk3 hy17
  clear hB17 hx16 hy15 hC16
  have hxx := lt_blk hx17
  have hyy := lt_blk hy17
  go_wp2
  go_ret
  exact ⟨rfl, (by repeat (first | (with_reducible exact hC17) | (with_reducible refine Below.drew ?_) | (with_reducible refine below_drewN ?_ _) | (with_reducible refine below_al ?_ _) | (with_reducible refine Below.alloc ?_ (by first | exact Nat.le_refl _ | omega | (simp; done) | (simp; omega)) _) | (with_reducible refine Below.setCell ?_ (by first | (simp only []; omega) | (simp; done) | (simp; omega)) _)))⟩
theorem opensW : Op.Opens Try.prog kW 27 (fun _ => True) (fun _ => 1) :=
  Op.opens_mono (Op.opens_struct Try.underlying27 (by kernel_rfl) (Op.opens_isoF (Op.opensF_cons rfl (by kernel_rfl) (by decide) (Op.opens_struct Try.underlying24 (by kernel_rfl) (Op.opensF_cons rfl (by kernel_rfl) (by decide) (Op.opens_int Try.underlying3) (Op.opensF_last rfl (by kernel_rfl) (Op.opens_int Try.underlying3)))) (Op.opensF_last rfl (by kernel_rfl) (Op.opens_int Try.underlying25))) _ (fun t : (Int × Int) × Int => (⟨t.1.1, t.1.2, t.2⟩ : Wt)) (fun _ => rfl))) (fun _ _ => trivial) (fun _ => by simp)
theorem ringNobody.walk (w : World) (cs : Array Value) (x : Wt) (hK : kW.K w x cs.toList) (_ : True) : Calls Try.prog 9 #[.agg cs] w fun e w' => e = .returned (.bool true) ∧ Below w.heap.size w w' := by
  obtain rfl : cs = #[.int .i64 x.s, .int .i64 x.g, .int .u64 x.t] := Array.toList_inj.1 (kW_open hK)
  exact RingNobody0.walk w x
theorem ringNobody.own : ownKnob Try.prog.godebug = none := by kernel_rfl
theorem ringNobody.laidOut : laidOutB Try.prog = true := by kernel_rfl
set_option maxRecDepth 100000 in
set_option maxHeartbeats 1000000 in
theorem ringNobody.lifted (os : Os) (started : os.Started) (H : Type) (enc : TypeId × Value → H)
    : ReturnsInHanded {} Try.checked os 9 .any (Rows.ringNobodySpec.pre6 enc Try.prog Try.f9 Rows.ringNobodyRow.domain false) (Rows.ringNobodySpec.post enc Try.prog Try.f9 false true false false) := by
  refine returnsInHanded_of_change_sized (C := Try.checked) ringNobody.own started (by kernel_rfl) Try.func9
    (ChangeSpec.witness6 (enc := enc) (C := Try.checked) false ⟨#[], #[.agg #[.int .i64 0, .int .i64 0, .int .u64 0]], []⟩ 8 (by kernel_rfl) (by kernel_rfl) (by kernel_rfl) (by kernel_rfl)) ?_
  intro W base args ds gs before hval0 hW hcnd hsz0 _
  have hsz : (DataW.weightsEach Try.prog (Try.f9.params.toList ++ Rows.ringNobodySpec.plain.varTypes Try.prog) (ds ++ gs)).all (· ≤ reachBytes) = true := hsz0
  have hval : ∀ (j : Nat) t v, Try.f9.params[j]? = some t → args[j]? = some v → Value.okWide Try.prog W .any base t v := hval0
  have hW' := hW
  obtain ⟨p, q, hA0, hV, rfl, hfz, hnd⟩ := hW
  have hA : DataW.TrodAll enc Try.prog W 0 (fun _ => true) true Try.f9.params.toList args.toList ds p := hA0
  rw [Try.params9] at hA hval hsz
  obtain ⟨v0, vs0, d0, ds0, p0, q0, hargs, rfl, rfl, h0, r0⟩ := trodAll_cons hA
  obtain ⟨rfl, rfl, rfl⟩ := trodAll_nil r0
  obtain rfl : args = #[v0] := by cases args; simp_all
  obtain ⟨rfl, rfl⟩ := trodVars_none hV
  have k0 := h0
  have lt0 : ∀ x ∈ p0, x.block < W.heap.size := by obtain ⟨m, hm⟩ := k0; exact DataW.trod_lt m _ _ _ hm
  have W0 := Op.weights_of hsz (j := 0) (t := 27) (d := d0) rfl rfl
  obtain ⟨cs0, rfl, sz0⟩ := okWide_struct Try.underlying27 (hval 0 27 v0 rfl rfl)
  obtain ⟨f0, hf0⟩ := h0
  obtain ⟨a0, hK0, hG0, hM0⟩ := opensW H enc W _ true f0 _ (d0, p0) hf0 W0
  clear hA0 hval0 hsz0 hsz
  refine (ringNobody.walk W cs0 a0 hK0 hG0).mono fun e W' ⟨he, bel⟩ => ?_
  subst he
  exact ⟨_, rfl, _, _, _, [], _, [], hW', trodAll_mk1 (shut_bool Try.underlying4 _), (trodAll_cons_mk (Below.trod ringNobody.laidOut (by kernel_rfl) (of_decide_eq_true (by kernel_rfl)) k0 bel lt0) trodAll_mk0), rfl, bel.frame _, fun h => by cases h⟩
theorem ringNobody_holds : Rows.RingNobodySaid :=
  OpenClaim.holds_of_wide 9 Try.f9 rfl rfl rfl rfl rfl rfl rfl ⟨rfl, rfl, rfl, rfl, rfl⟩ rfl rfl rfl rfl rfl (by kernel_rfl) Try.func9 (by kernel_rfl)
    (of_decide_eq_true (by kernel_rfl)) (by unfold Func.isWrapper; first | (rw [if_pos (by decide +kernel)]; kernel_rfl) | (rw [if_neg (by decide +kernel)]; exact ⟨rfl, rfl⟩))
    (fun os started H enc _ => ringNobody.lifted os started H enc)
#print axioms ringNobody_holds

end Go.Proofs.Ytjjdojnnomokaaa
