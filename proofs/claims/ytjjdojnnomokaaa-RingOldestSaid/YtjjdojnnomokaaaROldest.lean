/- RingOldest: Take without a next one, and Steal of places, answer the oldest place. No condition. -/
import Derived.Test.YtjjdojnnomokaaaRCom
namespace Go.Proofs.Ytjjdojnnomokaaa
open Go.RowKit Go.ChangeShapes Go.WideShapes Go.ChangeAt Go.Proofs.YtjjdojnnomokaaaW.PrintWords Go.Proofs.YtjjdojnnomokaaaW.PrintMore Go.Proofs.YtjjdojnnomokaaaW.PrintLast
attribute [local go_sem high] PRingLoads.eqA27
set_option maxRecDepth 100000 in
set_option maxHeartbeats 8000000 in
theorem RingOldest0.walk (w : World) (A : Option Addr) (c : Nat) (l : List Wt) (has : Bool) (nx : Wt) (hC : kW.C w A l.length l) (hc : l.length ≤ c) (hl : l.length ≤ 9223372036854775807) :
    Calls Try.prog 3 #[.agg #[.slice A l.length c, .bool has, .int .i64 nx.s, .int .i64 nx.g, .int .u64 nx.t]] w fun e w' => e = .returned (.bool true) ∧ Below w.heap.size w w' := by
  have HC := Aside0.mk hC
  clear hC
  have hB0 : Below w.heap.size w (w.alloc (.cells #[.slice A l.length c, .bool has, .int .i64 nx.s, .int .i64 nx.g, .int .u64 nx.t] 29)) := below_al (Below.refl _ _) _
  have hx : (w.alloc (.cells #[.slice A l.length c, .bool has, .int .i64 nx.s, .int .i64 nx.g, .int .u64 nx.t] 29)).heap[w.heap.size]? = some (.cells #[.slice A l.length c, .bool has, .int .i64 nx.s, .int .i64 nx.g, .int .u64 nx.t] 29 (0, 0)) := blk_new _ _
  go_enter Try.func3, Try.ntmps3
  go_wp2_with fail
  generalize w.alloc (.cells #[.slice A l.length c, .bool has, .int .i64 nx.s, .int .i64 nx.g, .int .u64 nx.t] 29) = W at *
  by_cases hE : loadE l has nx = 0
  · have hG := good_load hE
    refine (rload_good A c l has nx W (Kd.C_below HC.out hB0) hc hE).mono ?_
    clear hE
    obtain ⟨nz, hnz⟩ : ∃ nz, nz = if has then nx else Wt.zero := ⟨_, rfl⟩
    rw [← hnz] at hG ⊢
    have HNZ : Aside0 (has = true → nz = nx) := ⟨fun h => by rw [hnz, h]; rfl⟩
    have HG := Aside0.mk hG
    clear hnz hG
    rintro e w1 ⟨A1, c1, rfl, hc1, hR1, hB1⟩
    have hx1 := blk_below hx hB1
    have hC1 := below_then hB0 hB1
    have HR1 := Aside0.mk hR1
    have hA1 : Below w1.heap.size w1 (w1.alloc (.cells #[.slice A1 l.length c1, .bool has, .int .i64 nz.s, .int .i64 nz.g, .int .u64 nz.t] 29)) := below_al (Below.refl _ _) _
    have ht1 : (w1.alloc (.cells #[.slice A1 l.length c1, .bool has, .int .i64 nz.s, .int .i64 nz.g, .int .u64 nz.t] 29)).heap[w1.heap.size]? = some (.cells #[.slice A1 l.length c1, .bool has, .int .i64 nz.s, .int .i64 nz.g, .int .u64 nz.t] 29 (0, 0)) := blk_new _ _
    have htl := lt_blk hx1
    clear hx hB0 hB1 hR1
    go_wp2_with fail
    generalize w1.alloc (.cells #[.slice A1 l.length c1, .bool has, .int .i64 nz.s, .int .i64 nz.g, .int .u64 nz.t] 29) = W1 at *
    have HR1 := Aside0.mk (Kd.R_below HR1.out hA1)
    refine (load_good A1 c1 l has nz W1 (Kd.R_reads' HR1.out).2.2 hc1 HG.out).mono ?_
    rintro e w2 ⟨ba, rfl, hba, hIa, hB2⟩
    have hx2 := blk_below (blk_below hx1 hA1) hB2
    have ht2 := blk_below ht1 hB2
    have hC2 := below_then (below_then hC1 hA1) hB2
    have HR2 := Aside0.mk (Kd.R_below HR1.out hB2)
    have HIa := Aside0.mk hIa
    have htba : w1.heap.size < ba := by have := lt_blk ht1; omega
    obtain ⟨t0, t1, t2, t3, t4, q0, q1, q2, q3, q4⟩ := blk5 ht2
    have htl2 := lt_blk ht2
    clear hx1 hC1 HR1 hA1 ht1 hB2 hIa hba
    go_wp2_with fail
    have hS : Keep (fun i => i = w1.heap.size) w2 ((((w2.setCell ⟨w1.heap.size, 1, none⟩ (.bool false)).setCell ⟨w1.heap.size, 2, none⟩ (.int .i64 0)).setCell ⟨w1.heap.size, 3, none⟩ (.int .i64 0)).setCell ⟨w1.heap.size, 4, none⟩ (.int .u64 0)) := (by repeat (first | (with_reducible exact Keep.refl _ _) | (with_reducible refine Keep.drewN ?_ _) | (with_reducible refine Keep.drew ?_) | (with_reducible refine Keep.setCell ?_ _ _ (by first | (right; with_reducible rfl) | (left; simp; done) | (left; simp; omega) | (right; simp; done) | (right; assumption))) | (with_reducible refine Keep.alloc ?_ _)))
    have ht3 : ((((w2.setCell ⟨w1.heap.size, 1, none⟩ (.bool false)).setCell ⟨w1.heap.size, 2, none⟩ (.int .i64 0)).setCell ⟨w1.heap.size, 3, none⟩ (.int .i64 0)).setCell ⟨w1.heap.size, 4, none⟩ (.int .u64 0)).heap[w1.heap.size]? = some (.cells #[.slice A1 l.length c1, .bool false, .int .i64 0, .int .i64 0, .int .u64 0] 29 (0, 0)) := blk_set (blk_set (blk_set (blk_set ht2)))
    generalize ((((w2.setCell ⟨w1.heap.size, 1, none⟩ (.bool false)).setCell ⟨w1.heap.size, 2, none⟩ (.int .i64 0)).setCell ⟨w1.heap.size, 3, none⟩ (.int .i64 0)).setCell ⟨w1.heap.size, 4, none⟩ (.int .u64 0)) = w3 at *
    have HR3 := Aside0.mk (R_keepT HR2.out ht2 (by decide) hS)
    have hx3 := blk_keep hx2 hS (show ¬ w.heap.size = w1.heap.size by omega)
    have HI3 := Aside0.mk (HIa.out.keep hS (show ¬ ba = w1.heap.size by omega))
    have hC3 := below_then_keep hC2 hC2.size hS (fun i hi => by subst hi; omega)
    clear t0 t1 t2 t3 t4 q0 q1 q2 q3 q4 hS HR2 hx2 HIa hC2 ht2
    refine (load_plain A1 c1 l w3 (Kd.R_reads' HR3.out).2.2 hc1 HG.out.plain).mono ?_
    rintro e w4 ⟨bb, rfl, hbb, hIb, hB4⟩
    have hbab : ba ≠ bb := by have := HI3.out.lt; omega
    have hx4 := blk_below hx3 hB4
    have ht4 := blk_below ht3 hB4
    have hC4 := below_then hC3 hB4
    have HR4 := Aside0.mk (Kd.R_below HR3.out hB4)
    have HI4 := Aside0.mk (HI3.out.below hB4)
    have htbb : w1.heap.size < bb := by have := lt_blk ht3; omega
    clear hx3 hC3 HR3 HI3 ht3 hB4 hbb
    go_wp2_with fail
    refine (take_any bb _ w4 hIb).mono ?_
    rintro e w5 ⟨rfl, hIb5, hK5⟩
    have hx5 := blk_keep hx4 hK5 (show ¬ w.heap.size = bb by omega)
    have ht5 := blk_keep ht4 hK5 (show ¬ w1.heap.size = bb by omega)
    have hC5 := below_then_keep hC4 hC4.size hK5 (fun i hi => by subst hi; omega)
    have HR5 := Aside0.mk (R_keepR HR4.out hIb hK5)
    have HI5 := Aside0.mk (HI4.out.keep hK5 hbab)
    clear hx4 ht4 hC4 HR4 HI4 hK5 hIb hIb5
    obtain ⟨tw, htw⟩ : ∃ tw, tw = takeW ⟨l, false, Wt.zero⟩ := ⟨_, rfl⟩
    obtain ⟨te, hte⟩ : ∃ te, te = takeE ⟨l, false, Wt.zero⟩ := ⟨_, rfl⟩
    rw [← htw, ← hte]
    have HTW := Aside0.mk htw
    have HTE := Aside0.mk hte
    clear htw hte
    simp only []
    go_wp2_with fail
    have hA5 : Below w5.heap.size w5 (w5.alloc (.cells #[.int .i64 tw.s, .int .i64 tw.g, .int .u64 tw.t] 27)) := below_al (Below.refl _ _) _
    have hw5 : (w5.alloc (.cells #[.int .i64 tw.s, .int .i64 tw.g, .int .u64 tw.t] 27)).heap[w5.heap.size]? = some (.cells #[.int .i64 tw.s, .int .i64 tw.g, .int .u64 tw.t] 27 (0, 0)) := blk_new _ _
    generalize w5.alloc (.cells #[.int .i64 tw.s, .int .i64 tw.g, .int .u64 tw.t] 27) = W5 at *
    refine (new_any _).mono ?_
    rintro e w6 ⟨bn, rfl, hbn, hIn, hB6⟩
    have hD6 := below_then hA5 hB6
    have hx6 := blk_below hx5 hD6
    have ht6 := blk_below ht5 hD6
    have hw6 := blk_below hw5 hB6
    have hC6 := below_then hC5 hD6
    have HR6 := Aside0.mk (Kd.R_below HR5.out hD6)
    have HI6 := Aside0.mk (HI5.out.below hD6)
    have hban : ba ≠ bn := by have := HI5.out.lt; have := hA5.size; omega
    have hwn : w5.heap.size < bn := by have := lt_blk hw5; omega
    have hxn : w.heap.size < bn := by have := lt_blk hx5; have := hA5.size; omega
    have htn : w1.heap.size < bn := by have := lt_blk ht5; have := hA5.size; omega
    have hwa : ba < w5.heap.size := HI5.out.lt
    clear hx5 ht5 hC5 HR5 HI5 hA5 hw5 hB6 hD6 hbn
    go_wp2_with fail
    refine (steal_any ba bn _ _ w6 HI6.out hIn hban).mono ?_
    rintro e w7 ⟨rfl, -, -, hK7⟩
    have hx7 := blk_keep hx6 hK7 (show ¬ (w.heap.size = ba ∨ w.heap.size = bn) by omega)
    have ht7 := blk_keep ht6 hK7 (show ¬ (w1.heap.size = ba ∨ w1.heap.size = bn) by omega)
    have hw7 := blk_keep hw6 hK7 (show ¬ (w5.heap.size = ba ∨ w5.heap.size = bn) by omega)
    have hC7 := below_then_keep hC6 hC6.size hK7 (fun i hi => by omega)
    have HR7 := Aside0.mk (R_keepR2 HR6.out HI6.out hIn hK7)
    obtain ⟨sw, hsw⟩ : ∃ sw, sw = stealW ⟨l, has, nz⟩ Rg.new := ⟨_, rfl⟩
    obtain ⟨se, hse⟩ : ∃ se, se = stealE ⟨l, has, nz⟩ Rg.new := ⟨_, rfl⟩
    rw [← hsw, ← hse]
    have HSW := Aside0.mk hsw
    have HSE := Aside0.mk hse
    clear hx6 ht6 hw6 hC6 HR6 HI6 hIn hK7 hsw hse
    simp only []
    have hA7 : Below w7.heap.size w7 (w7.alloc (.cells #[.int .i64 sw.s, .int .i64 sw.g, .int .u64 sw.t] 27)) := below_al (Below.refl _ _) _
    have hs7 : (w7.alloc (.cells #[.int .i64 sw.s, .int .i64 sw.g, .int .u64 sw.t] 27)).heap[w7.heap.size]? = some (.cells #[.int .i64 sw.s, .int .i64 sw.g, .int .u64 sw.t] 27 (0, 0)) := blk_new _ _
    cases l with
    | nil =>
      have htw : tw = Wt.zero := HTW.out
      have hte : te = 21 := HTE.out
      subst htw hte
      obtain ⟨x0, x1, x2, x3, x4, -, -, -, -, -⟩ := blk5 hx7
      obtain ⟨t0, t1, t2, t3, t4, -, -, -, -, -⟩ := blk5 ht7
      have hxl := lt_blk hx7
      have htl := lt_blk ht7
      cases has with
      | true =>
        obtain rfl : nz = nx := HNZ.out rfl
        have hsw : sw = nz := HSW.out
        have hse : se = 0 := HSE.out
        subst hsw hse
        clear HTW HTE HSW HSE
        go_wp2
        go_ret
        exact ⟨rfl, (by repeat (first | (with_reducible exact hC7) | (with_reducible refine Below.drew ?_) | (with_reducible refine below_drewN ?_ _) | (with_reducible refine below_al ?_ _) | (with_reducible refine Below.alloc ?_ (by first | exact Nat.le_refl _ | omega | (simp; done) | (simp; omega)) _) | (with_reducible refine Below.setCell ?_ (by first | (simp only []; omega) | (simp; done) | (simp; omega)) _)))⟩
      | false =>
        have hse : se = 21 := HSE.out
        subst hse
        clear HTW HTE HSW HSE
        go_wp2
        go_ret
        exact ⟨rfl, (by repeat (first | (with_reducible exact hC7) | (with_reducible refine Below.drew ?_) | (with_reducible refine below_drewN ?_ _) | (with_reducible refine below_al ?_ _) | (with_reducible refine Below.alloc ?_ (by first | exact Nat.le_refl _ | omega | (simp; done) | (simp; omega)) _) | (with_reducible refine Below.setCell ?_ (by first | (simp only []; omega) | (simp; done) | (simp; omega)) _)))⟩
    | cons y l =>
      have htw : tw = y := HTW.out
      have hte : te = 0 := HTE.out
      have hse : se = 0 := by
        rw [HSE.out, stealE, if_neg (by decide), if_neg]
        cases has <;> simp [lenR] <;> try omega
      have hsw : sw = y := by
        have h := HSE.out
        rw [hse] at h
        rw [HSW.out, stealW, ← h, if_pos rfl, if_neg (by simp)]; rfl
      have hn : (((y :: l).length : Int) == 0) = false := by simp; omega
      have hn2 : ((((l.length : Int) + 1)) == 0) = false := by simp; omega
      have hlp : decide ((0 : Int) < ((y :: l).length : Int)) = true := by simp
      subst te se
      subst tw sw
      obtain ⟨ab, off, rfl, hab⟩ := C_form (Kd.R_reads' HR7.out).2.2 (by simp) (by decide)
      obtain ⟨y', hy', c0, c1', c2⟩ := wt_at (Kd.R_reads' HR7.out).2.2 0 (by simp)
      obtain rfl : y = y' := by simpa using hy'
      rw [Nat.zero_mul, Nat.add_zero] at c0 c1' c2
      clear HTW HTE HSW HSE hy'
      have ht8 := blk_below ht7 hA7
      have hw8 := blk_below hw7 hA7
      have d0 := (hA7.cell (p := ⟨ab, off, none⟩) hab).trans c0
      have d1 := (hA7.cell (p := ⟨ab, off + 1, none⟩) hab).trans c1'
      have d2 := (hA7.cell (p := ⟨ab, off + 2, none⟩) hab).trans c2
      have hC8 := below_then hC7 hA7
      obtain ⟨t0, t1, t2, t3, t4, -, -, -, -, -⟩ := blk5 ht7
      have htl := lt_blk ht7
      have hxl := lt_blk hx7
      clear hx7 hw7 hC7 HR7
      go_wp2
      generalize w7.alloc (.cells #[.int .i64 y.s, .int .i64 y.g, .int .u64 y.t] 27) = W7 at *
      clear t0 t1 t2 t3 t4
      obtain ⟨t0, t1, t2, t3, t4, -, -, -, -, -⟩ := blk5 ht8
      obtain ⟨v0, v1, v2, -, -, -⟩ := blk3 hw8
      obtain ⟨s0, s1, s2, -, -, -⟩ := blk3 hs7
      go_quiet (fail)
      go_wp2
      go_ret
      exact ⟨rfl, below_drewN hC8 _⟩
  · refine (rload_any A c l has nx W (Kd.C_below HC.out hB0) hc).mono ?_
    have hL : loadL l has nx = Rg.new := by rw [loadL, if_neg hE]
    have hd : (loadE l has nx != 0) = true := by simpa using hE
    rw [hL]
    rintro e w1 ⟨v, rfl, hR1, hB1⟩
    obtain ⟨A1, c1, rfl, -, -⟩ := Kd.R_reads hR1
    have hx1 := blk_below hx hB1
    have hC1 := below_then hB0 hB1
    have hxl := lt_blk hx1
    obtain ⟨x0, x1, x2, x3, x4, -, -, -, -, -⟩ := blk5 hx1
    have HE := Aside0.mk hE
    simp only [Rg.new, Wt.zero]
    clear hx hB0 hB1 hR1 hL hE
    go_wp2_with fail
    refine (load_not A c l has nx _ (Kd.C_below HC.out (below_al hC1 _)) hc hl HE.out).mono ?_
    rintro e w2 ⟨rfl, hB2⟩
    go_wp2
    go_ret
    exact ⟨rfl, below_then (below_al hC1 _) hB2⟩
theorem ringOldest.walk (w : World) (cs : Array Value) (s : List Wt × Bool × Wt) (hK : kS.K w s cs.toList) (hG : s.1.length * 24 ≤ reachBytes) : Calls Try.prog 3 #[.agg cs] w fun e w' => e = .returned (.bool true) ∧ Below w.heap.size w w' := by
  obtain ⟨A, c, hcs, hc, hC⟩ := kS_open hK
  obtain rfl := Array.toList_inj.1 hcs
  exact RingOldest0.walk w A c s.1 s.2.1 s.2.2 hC hc (by unfold reachBytes at hG; omega)
theorem ringOldest.own : ownKnob Try.prog.godebug = none := by kernel_rfl
theorem ringOldest.laidOut : laidOutB Try.prog = true := by kernel_rfl
set_option maxRecDepth 100000 in
set_option maxHeartbeats 1000000 in
theorem ringOldest.lifted (os : Os) (started : os.Started) (H : Type) (enc : TypeId × Value → H)
    : ReturnsInHanded {} Try.checked os 3 .any (Rows.ringOldestSpec.pre6 enc Try.prog Try.f3 Rows.ringOldestRow.domain false) (Rows.ringOldestSpec.post enc Try.prog Try.f3 false true false false) := by
  refine returnsInHanded_of_change_sized (C := Try.checked) ringOldest.own started (by kernel_rfl) Try.func3
    (ChangeSpec.witness6 (enc := enc) (C := Try.checked) false ⟨#[], #[.agg #[.slice none 0 0, .bool false, .int .i64 0, .int .i64 0, .int .u64 0]], []⟩ 8 (by kernel_rfl) (by kernel_rfl) (by kernel_rfl) (by kernel_rfl)) ?_
  intro W base args ds gs before hval0 hW hcnd hsz0 _
  have hsz : (DataW.weightsEach Try.prog (Try.f3.params.toList ++ Rows.ringOldestSpec.plain.varTypes Try.prog) (ds ++ gs)).all (· ≤ reachBytes) = true := hsz0
  have hval : ∀ (j : Nat) t v, Try.f3.params[j]? = some t → args[j]? = some v → Value.okWide Try.prog W .any base t v := hval0
  have hW' := hW
  obtain ⟨p, q, hA0, hV, rfl, hfz, hnd⟩ := hW
  have hA : DataW.TrodAll enc Try.prog W 0 (fun _ => true) true Try.f3.params.toList args.toList ds p := hA0
  rw [Try.params3] at hA hval hsz
  obtain ⟨v0, vs0, d0, ds0, p0, q0, hargs, rfl, rfl, h0, r0⟩ := trodAll_cons hA
  obtain ⟨rfl, rfl, rfl⟩ := trodAll_nil r0
  obtain rfl : args = #[v0] := by cases args; simp_all
  obtain ⟨rfl, rfl⟩ := trodVars_none hV
  have k0 := h0
  have lt0 : ∀ x ∈ p0, x.block < W.heap.size := by obtain ⟨m, hm⟩ := k0; exact DataW.trod_lt m _ _ _ hm
  have W0 := Op.weights_of hsz (j := 0) (t := 29) (d := d0) rfl rfl
  obtain ⟨cs0, rfl, sz0⟩ := okWide_struct Try.underlying29 (hval 0 29 v0 rfl rfl)
  obtain ⟨f0, hf0⟩ := h0
  obtain ⟨a0, hK0, hG0, hM0⟩ := opensS H enc W _ true f0 _ (d0, p0) hf0 W0
  clear hA0 hval0 hsz0 hsz
  refine (ringOldest.walk W cs0 a0 hK0 hG0).mono fun e W' ⟨he, bel⟩ => ?_
  subst he
  exact ⟨_, rfl, _, _, _, [], _, [], hW', trodAll_mk1 (shut_bool Try.underlying4 _), (trodAll_cons_mk (Below.trod ringOldest.laidOut (by kernel_rfl) (of_decide_eq_true (by kernel_rfl)) k0 bel lt0) trodAll_mk0), rfl, bel.frame _, fun h => by cases h⟩
theorem ringOldest_holds : Rows.RingOldestSaid :=
  OpenClaim.holds_of_wide 3 Try.f3 rfl rfl rfl rfl rfl rfl rfl ⟨rfl, rfl, rfl, rfl, rfl⟩ rfl rfl rfl rfl rfl (by kernel_rfl) Try.func3 (by kernel_rfl)
    (of_decide_eq_true (by kernel_rfl)) (by unfold Func.isWrapper; first | (rw [if_pos (by decide +kernel)]; kernel_rfl) | (rw [if_neg (by decide +kernel)]; exact ⟨rfl, rfl⟩))
    (fun os started H enc _ => ringOldest.lifted os started H enc)
#print axioms ringOldest_holds

end Go.Proofs.Ytjjdojnnomokaaa
