/- RingHalves: a theft of n places takes n - n / 2 of them, the oldest ones, in order. No condition. -/
import Derived.Test.YtjjdojnnomokaaaRAwake
namespace Go.Proofs.Ytjjdojnnomokaaa
open Go.RowKit Go.ChangeShapes Go.WideShapes Go.ChangeAt Go.Proofs.YtjjdojnnomokaaaW.PrintWords Go.Proofs.YtjjdojnnomokaaaW.PrintMore Go.Proofs.YtjjdojnnomokaaaW.PrintLast
attribute [local go_sem high] PRingLoads.eqA27
theorem IsRing.grown {W w1 : World} {b base : Nat} {ok : Nat → Prop} {r : Rg} {v : Value} {xs : List Wt} (h : IsRing W b r) (hg : W.grownBy w1 v.ownBlock) (ho : kW.R 27 W base ok v xs) : IsRing w1 b r := by
  obtain ⟨f, cs, h⟩ := h
  exact ⟨f, cs, ⟨blk_grown h.blk hg (Kd.R_ne ho h.blk (by decide)), h.cs⟩⟩
theorem row_ge {v v1 : Value} {n N : Nat} (hat : v1.ownBlock = v.ownBlock ∨ ∃ b, v1.ownBlock = some b ∧ N ≤ b) (hv : ∀ k, v.ownBlock = some k → n ≤ k) (hN : n ≤ N) : ∀ k, v1.ownBlock = some k → n ≤ k := by
  intro k hk
  rcases hat with h | ⟨b, h, hb⟩
  · exact hv k (by rw [← h]; exact hk)
  · rw [hk] at h
    injection h with h
    omega
theorem row_lit {g n c m : Nat} (h : m ≤ g) : ∀ k, (Value.slice (some ⟨g, 0, none⟩) n c).ownBlock = some k → m ≤ k := by
  intro k hk
  simp [Value.ownBlock] at hk
  omega
theorem R_apart {w w1 : World} {base n : Nat} {v u : Value} {xs : List Wt} (h : kW.R 27 w base (fun k => k < n) v xs) (hg : w.grownBy w1 u.ownBlock) (hu : ∀ k, u.ownBlock = some k → n ≤ k) : kW.R 27 w1 base (fun k => k < n) v xs :=
  Kd.R_grown h hg (fun k hk he => by have := hu k he.symm; omega)
theorem steal_new {y : Wt} {l : List Wt} {has : Bool} {nz : Wt} : stealE ⟨y :: l, has, nz⟩ Rg.new = 0 ∧ stealW ⟨y :: l, has, nz⟩ Rg.new = y ∧ stealF ⟨y :: l, has, nz⟩ Rg.new = ⟨(y :: l).drop (half (l.length + 1)), has, nz⟩ ∧ stealT ⟨y :: l, has, nz⟩ Rg.new = ⟨((y :: l).take (half (l.length + 1))).drop 1, false, Wt.zero⟩ := by
  have hE : stealE ⟨y :: l, has, nz⟩ Rg.new = 0 := by
    rw [stealE, if_neg (by decide), if_neg]
    cases has <;> simp [lenR] <;> try omega
  refine ⟨hE, ?_, ?_, ?_⟩
  · rw [stealW, hE, if_pos rfl, if_neg (by simp)]; rfl
  · rw [stealF, hE, if_pos rfl, if_neg (by simp)]; rfl
  · rw [stealT, hE, if_pos rfl, if_neg (by simp)]; rfl
theorem half_take {y : Wt} {l : List Wt} : [y] ++ ((y :: l).take (half (l.length + 1))).drop 1 = (y :: l).take (half (l.length + 1)) := by
  obtain ⟨m, hm⟩ : ∃ m, half (l.length + 1) = m + 1 := ⟨half (l.length + 1) - 1, by unfold half; omega⟩
  rw [hm]; rfl
set_option maxRecDepth 100000 in
set_option maxHeartbeats 8000000 in
theorem RingHalves0.walk (w : World) (A : Option Addr) (c : Nat) (l : List Wt) (has : Bool) (nx : Wt) (hC : kW.C w A l.length l) (hc : l.length ≤ c) (hl : l.length ≤ 9223372036854775807) :
    Calls Try.prog 8 #[.agg #[.slice A l.length c, .bool has, .int .i64 nx.s, .int .i64 nx.g, .int .u64 nx.t]] w fun e w' => e = .returned (.bool true) ∧ Below w.heap.size w w' := by
  have HC := Aside0.mk hC
  clear hC
  have hB0 : Below w.heap.size w (w.alloc (.cells #[.slice A l.length c, .bool has, .int .i64 nx.s, .int .i64 nx.g, .int .u64 nx.t] 29)) := below_al (Below.refl _ _) _
  go_enter Try.func8, Try.ntmps8
  go_wp2_with fail
  generalize w.alloc (.cells #[.slice A l.length c, .bool has, .int .i64 nx.s, .int .i64 nx.g, .int .u64 nx.t] 29) = W at *
  by_cases hE : loadE l has nx = 0
  · have hG := good_load hE
    refine (rload_good A c l has nx W (Kd.C_below HC.out hB0) hc hE).mono ?_
    clear hE
    generalize (if has then nx else Wt.zero) = nz at *
    have HG := Aside0.mk hG
    clear hG
    rintro e w1 ⟨A1, c1, rfl, hc1, hR1, hB1⟩
    have hC1 := below_then hB0 hB1
    have hs1 := hC1.size
    have HR1 : Aside0 (kW.R 27 w1 W.heap.size (fun k => k < w1.heap.size) (.slice A1 l.length c1) l) := ⟨Kd.R_mono (Kd.R_bound hR1) (fun _ h => h.2.2.1)⟩
    have hA1 : Below w1.heap.size w1 (w1.alloc (.cells #[.slice A1 l.length c1, .bool has, .int .i64 nz.s, .int .i64 nz.g, .int .u64 nz.t] 29)) := below_al (Below.refl _ _) _
    have ht1 : (w1.alloc (.cells #[.slice A1 l.length c1, .bool has, .int .i64 nz.s, .int .i64 nz.g, .int .u64 nz.t] 29)).heap[w1.heap.size]? = some (.cells #[.slice A1 l.length c1, .bool has, .int .i64 nz.s, .int .i64 nz.g, .int .u64 nz.t] 29 (0, 0)) := blk_new _ _
    clear hB0 hB1 hR1
    cases l with
    | nil =>
      go_wp2_with fail
      refine (awake_any _).mono ?_
      rintro e w2 ⟨rfl, hB2⟩
      go_wp2
      go_ret
      exact ⟨rfl, below_then (below_then hC1 hA1) hB2⟩
    | cons y l =>
      have hlen := HG.out.len
      simp only [List.length_cons] at hlen hc1
      have hn : (((l.length + 1 : Nat) : Int) == 0) = false := by simp; omega
      have hn2 : (((l.length : Int) + 1) == 0) = false := by simp; omega
      obtain ⟨m, hm⟩ : ∃ m, half (l.length + 1) = m := ⟨_, rfl⟩
      have hm1 : 1 ≤ m := by rw [← hm]; unfold half; omega
      have hmL : m ≤ l.length + 1 := by rw [← hm]; unfold half; omega
      have HM : Aside0 (m = (l.length + 1) - (l.length + 1) / 2) := ⟨hm.symm⟩
      obtain ⟨s1, s2, s3, s4⟩ := steal_new (y := y) (l := l) (has := has) (nz := nz)
      have hht := half_take (y := y) (l := l)
      rw [hm] at s3 s4 hht
      have hXl : (((y :: l).take m).drop 1).length + 1 = m := by rw [List.length_drop, List.length_take]; simp; omega
      have hTl : ((y :: l).take m).length = m := by rw [List.length_take]; simp; omega
      have hDl : ((y :: l).drop m).length + m = l.length + 1 := by rw [List.length_drop]; simp; omega
      have hTD : (y :: l).take m ++ (y :: l).drop m = y :: l := List.take_append_drop _ _
      obtain ⟨X, hX⟩ : ∃ X, X = ((y :: l).take m).drop 1 := ⟨_, rfl⟩
      rw [← hX] at s4 hht hXl
      obtain ⟨TK, hTK⟩ : ∃ TK, TK = (y :: l).take m := ⟨_, rfl⟩
      rw [← hTK] at hht hTl hTD
      obtain ⟨DR, hDR⟩ : ∃ DR, DR = (y :: l).drop m := ⟨_, rfl⟩
      rw [← hDR] at s3 hDl hTD
      have HTL := Aside0.mk hTl
      have HTD := Aside0.mk hTD
      have hX64 : X.length ≤ 64 := by omega
      have hT64 : TK.length ≤ 64 := by omega
      have hD64 : DR.length ≤ 64 := by omega
      have HXL := Aside0.mk hXl
      have HDL := Aside0.mk hDl
      clear hX hTK hDR hTl hTD hXl hDl
      have S1 := Aside0.mk s1
      have S2 := Aside0.mk s2
      have S3 := Aside0.mk s3
      have S4 := Aside0.mk s4
      have HHT := Aside0.mk hht
      clear s1 s2 s3 s4 hht hm
      go_wp2_with fail
      generalize w1.alloc (.cells #[.slice A1 (y :: l).length c1, .bool has, .int .i64 nz.s, .int .i64 nz.g, .int .u64 nz.t] 29) = W1 at *
      have HR1 := Aside0.mk (Kd.R_below HR1.out hA1)
      refine (load_good A1 c1 (y :: l) has nz W1 (Kd.R_reads' HR1.out).2.2 hc1 HG.out).mono ?_
      rintro e w2 ⟨bf, rfl, hbf, hIf, hB2⟩
      have ht2 := blk_below ht1 hB2
      have hC2 := below_then (below_then hC1 hA1) hB2
      have HR2 := Aside0.mk (Kd.R_below HR1.out hB2)
      have HIf := Aside0.mk hIf
      have htf : w1.heap.size < bf := by have := lt_blk ht1; omega
      have hs12 : w1.heap.size < w2.heap.size := lt_blk ht2
      clear hC1 HR1 hA1 ht1 hB2 hIf hbf
      go_wp2_with fail
      refine (new_any _).mono ?_
      rintro e w3 ⟨bt, rfl, hbt, hIt, hB3⟩
      have ht3 := blk_below ht2 hB3
      have hC3 := below_then hC2 hB3
      have HR3 := Aside0.mk (Kd.R_below HR2.out hB3)
      have hft : bf ≠ bt := by have := HIf.out.lt; omega
      have htt : w1.heap.size < bt := by have := lt_blk ht2; omega
      have HI3 := Aside0.mk (HIf.out.below hB3)
      clear hC2 HR2 HIf ht2 hB3 hbt
      go_wp2_with fail
      refine (steal_any bf bt _ _ w3 HI3.out hIt hft).mono ?_
      rw [S1.out, S2.out, S3.out, S4.out]
      rintro e w4 ⟨rfl, hIf4, hIt4, hK4⟩
      have ht4 := blk_keep ht3 hK4 (show ¬ (w1.heap.size = bf ∨ w1.heap.size = bt) by omega)
      have hC4 := below_then_keep hC3 hC3.size hK4 (fun i hi => by omega)
      have HR4 := Aside0.mk (R_keepR2 HR3.out HI3.out hIt hK4)
      have hIf5 : IsRing ((w4.alloc (.cells #[.int .i64 y.s, .int .i64 y.g, .int .u64 y.t] 27)).alloc (.cells #[.int .i64 y.s, .int .i64 y.g, .int .u64 y.t] 27)) bf ⟨DR, has, nz⟩ := hIf4.below (by repeat (first | (with_reducible exact Below.refl _ _) | (with_reducible refine Below.drew ?_) | (with_reducible refine below_drewN ?_ _) | (with_reducible refine below_al ?_ _) | (with_reducible refine Below.alloc ?_ (by first | exact Nat.le_refl _ | omega | (simp; done) | (simp; omega)) _) | (with_reducible refine Below.setCell ?_ (by first | (simp only []; omega) | (simp; done) | (simp; omega)) _)))
      have hIt5 : IsRing ((w4.alloc (.cells #[.int .i64 y.s, .int .i64 y.g, .int .u64 y.t] 27)).alloc (.cells #[.int .i64 y.s, .int .i64 y.g, .int .u64 y.t] 27)) bt ⟨X, false, Wt.zero⟩ := hIt4.below (by repeat (first | (with_reducible exact Below.refl _ _) | (with_reducible refine Below.drew ?_) | (with_reducible refine below_drewN ?_ _) | (with_reducible refine below_al ?_ _) | (with_reducible refine Below.alloc ?_ (by first | exact Nat.le_refl _ | omega | (simp; done) | (simp; omega)) _) | (with_reducible refine Below.setCell ?_ (by first | (simp only []; omega) | (simp; done) | (simp; omega)) _)))
      have hA4 : Below w4.heap.size w4 ((w4.alloc (.cells #[.int .i64 y.s, .int .i64 y.g, .int .u64 y.t] 27)).alloc (.cells #[.int .i64 y.s, .int .i64 y.g, .int .u64 y.t] 27)) := (by repeat (first | (with_reducible exact Below.refl _ _) | (with_reducible refine Below.drew ?_) | (with_reducible refine below_drewN ?_ _) | (with_reducible refine below_al ?_ _) | (with_reducible refine Below.alloc ?_ (by first | exact Nat.le_refl _ | omega | (simp; done) | (simp; omega)) _) | (with_reducible refine Below.setCell ?_ (by first | (simp only []; omega) | (simp; done) | (simp; omega)) _)))
      have hs4 := hC4.size
      have hs14 : w1.heap.size < w4.heap.size := lt_blk ht4
      have hgot : kW.R 27 ((w4.alloc (.cells #[.int .i64 y.s, .int .i64 y.g, .int .u64 y.t] 27)).alloc (.cells #[.int .i64 y.s, .int .i64 y.g, .int .u64 y.t] 27)) w.heap.size (fun _ => True) (.slice (some ⟨w4.heap.size + 1, 0, none⟩) 1 1) [y] := by
        have h := R_one (w4.alloc (.cells #[.int .i64 y.s, .int .i64 y.g, .int .u64 y.t] 27)) y (base := w.heap.size) (by simp; omega)
        simpa using h
      have ht5 := blk_below ht4 hA4
      have hC5 := below_then hC4 hA4
      have HR5 := Aside0.mk (Kd.R_below HR4.out hA4)
      have HGT := Aside0.mk hgot
      have hwb4 := hIf4.lt
      clear hK4 hC3 HR3 HI3 hIt ht3 hIf4 hIt4 HR4 hC4 ht4 hgot
      go_wp2_with fail
      generalize (w4.alloc (.cells #[.int .i64 y.s, .int .i64 y.g, .int .u64 y.t] 27)).alloc (.cells #[.int .i64 y.s, .int .i64 y.g, .int .u64 y.t] 27) = w5 at *
      refine (drain_any bt _ w5 hIt5).mono ?_
      have e1 : drainOut ⟨X, false, Wt.zero⟩ = X := rfl
      rw [e1]
      rintro e w6 ⟨v6, rfl, hv6, hIt6, hK6⟩
      obtain ⟨A6, c6, rfl, hc6, hC6'⟩ := Kd.R_reads hv6
      have ht6 := blk_keep ht5 hK6 (show ¬ w1.heap.size = bt by omega)
      have hC6 := below_then_keep hC5 hC5.size hK6 (fun i hi => by subst hi; omega)
      have HR6 := Aside0.mk (R_keepR HR5.out hIt5 hK6)
      have HG6 := Aside0.mk (R_keepR HGT.out hIt5 hK6)
      have HI6 := Aside0.mk (hIf5.keep hK6 hft)
      have HD6 := Aside0.mk hC6'
      have hs6 := hC6.size
      have hs16 : w1.heap.size < w6.heap.size := lt_blk ht6
      clear ht5 hC5 HR5 HGT hIf5 hIt5 hK6 hv6 hIt6 hC6' e1
      go_wp2_with (first | ((with_reducible refine gate_builtin (b := .append) (xs := #[.tmp 43, .tmp 45]) rfl ?_); at_builtin; refine Kd.R_append_rows kW (Rr := kW.K w6) (w0 := w6) w.heap.size rfl (.tmp 43) (.tmp 45) 22 27 (.agg #[.int .i64 0, .int .i64 0, .int .u64 0]) 24 rfl Try.underlying22 infoW rfl (by decide) (by omega) (.slice (some ⟨w4.heap.size + 1, 0, none⟩) 1 1) [y] X A6 _ c6 (fun _ => True) (fun _ => False) rfl rfl ?aO ?aR (fun x cs h => kW_KM x cs h) (fun _ h => h.elim) ?aF ?aB ?aS ?aL ?_; (case aO => exact HG6.out); (case aR => exact HD6.out); (case aF => exact fun _ _ => trivial); (case aB => exact Below.refl _ _); (case aS => first | assumption | omega); (case aL => first | omega | (simp; omega)); intro v1 w5 ho5 hb5 hg hat; rw [HHT.out] at ho5; have HG7 := Aside0.mk ho5; obtain ⟨Ag, cg, heg⟩ := Kd.R_slice ho5; rw [HTL.out] at heg; subst heg; have HAT := Aside0.mk (row_ge hat (row_lit (show w1.heap.size ≤ w4.heap.size + 1 by omega)) (show w1.heap.size ≤ w6.heap.size by omega)); have ht7 := blk_grown ht6 hg (Kd.R_ne HG6.out ht6 (by decide)); have HR7 := Aside0.mk (Kd.R_grown HR6.out hg (fun k hk => by simp [Value.ownBlock]; omega)); have HI7 := Aside0.mk (HI6.out.grown hg HG6.out); have hC7 := hC6.trans hb5; have hgs := hg.size; clear ho5 hg hat))
      have hq2 : Aside0 (((l.length : Int) + 1) / 2 = (DR.length : Int)) := ⟨by have := HM.out; have := HDL.out; omega⟩
      have hq3 : Aside0 ((l.length : Int) + 1 - (DR.length : Int) = (m : Int)) := ⟨by have := HM.out; have := HDL.out; omega⟩
      clear HR6 HG6 HI6 HD6 hC6 ht6 hb5
      refine (state_any bf _ w5 HI7.out).mono ?_
      rintro e w8 ⟨v8, rfl, hv8, hB8⟩
      obtain ⟨A8, c8, rfl, hc8, hC8'⟩ := Kd.R_reads hv8
      have hC8 := below_then hC7 hB8
      have ht8 := blk_below ht7 hB8
      have HR8 := Aside0.mk (Kd.R_below HR7.out hB8)
      have HG8 := Aside0.mk (Kd.R_below HG7.out hB8)
      have hA8 : Below w8.heap.size w8 (w8.alloc (.cells #[.slice A8 DR.length c8, .bool has, .int .i64 nz.s, .int .i64 nz.g, .int .u64 nz.t] 29)) := below_al (Below.refl _ _) _
      have hu8 : (w8.alloc (.cells #[.slice A8 DR.length c8, .bool has, .int .i64 nz.s, .int .i64 nz.g, .int .u64 nz.t] 29)).heap[w8.heap.size]? = some (.cells #[.slice A8 DR.length c8, .bool has, .int .i64 nz.s, .int .i64 nz.g, .int .u64 nz.t] 29 (0, 0)) := blk_new _ _
      have ht9 := blk_below ht8 hA8
      have hC9 := below_then hC8 hA8
      have HR9 := Aside0.mk (Kd.R_below HR8.out hA8)
      have HG9 := Aside0.mk (Kd.R_below HG8.out hA8)
      have HD9 := Aside0.mk (Kd.C_below hC8' hA8)
      obtain ⟨t0, t1, t2, t3, t4, -, -, -, -, -⟩ := blk5 ht8
      have htl8 := lt_blk ht8
      have hs9 := hC9.size
      clear HR7 HG7 HI7 ht7 hC7 hB8 hv8 hC8' HR8 HG8 hC8
      have HQ2 := hq2
      have hq2 := hq2.out
      have hq3 := hq3.out
      simp only []
      go_wp2_with (first | ((with_reducible refine gate_builtin (b := .append) (xs := #[.tmp 81, .tmp 83]) rfl ?_); at_builtin; refine Kd.R_append_rows kW (Rr := kW.K (w8.alloc (.cells #[.slice A8 DR.length c8, .bool has, .int .i64 nz.s, .int .i64 nz.g, .int .u64 nz.t] 29))) (w0 := (w8.alloc (.cells #[.slice A8 DR.length c8, .bool has, .int .i64 nz.s, .int .i64 nz.g, .int .u64 nz.t] 29))) w.heap.size rfl (.tmp 81) (.tmp 83) 22 27 (.agg #[.int .i64 0, .int .i64 0, .int .u64 0]) 24 rfl Try.underlying22 infoW rfl (by decide) (by omega) (.slice Ag m cg) TK DR A8 _ c8 (fun _ => True) (fun _ => False) rfl rfl ?aO ?aR (fun x cs h => kW_KM x cs h) (fun _ h => h.elim) ?aF ?aB ?aS ?aL ?_; (case aO => exact HG9.out); (case aR => exact HD9.out); (case aF => exact fun _ _ => trivial); (case aB => exact Below.refl _ _); (case aS => first | assumption | omega); (case aL => first | omega | (simp; omega)); intro v1 w5 ho5 hb5 hg hat; rw [HTD.out] at ho5; have HG10 := Aside0.mk ho5; obtain ⟨Ah, ch, heh⟩ := Kd.R_slice ho5; subst heh; have ht10 := blk_grown ht9 hg (Kd.R_ne HG9.out ht9 (by decide)); have HR10 := Aside0.mk (R_apart HR9.out hg HAT.out); have hC10 := hC9.trans hb5; have hv0 := cell_blk ht10 0; have htl10 := lt_blk ht10; clear t0 t1 t2 t3 t4 ho5 hg hat hb5))
      obtain ⟨_, hcg, hCg⟩ := Kd.R_reads' HG10.out
      obtain ⟨_, hct, hCt⟩ := Kd.R_reads' HR10.out
      refine (sameList_ok _ _ _ _ (y :: l) _ hCg hcg hCt hct (by simp; omega)).mono ?_
      rintro e w11 ⟨rfl, hB11⟩
      go_wp2
      go_ret
      exact ⟨rfl, below_then hC10 hB11⟩
  · refine (rload_any A c l has nx W (Kd.C_below HC.out hB0) hc).mono ?_
    have hL : loadL l has nx = Rg.new := by rw [loadL, if_neg hE]
    have hd : (loadE l has nx != 0) = true := by simpa using hE
    rw [hL]
    rintro e w1 ⟨v, rfl, hR1, hB1⟩
    obtain ⟨A1, c1, rfl, -, -⟩ := Kd.R_reads hR1
    have hC1 := below_then hB0 hB1
    simp only [Rg.new, Wt.zero]
    clear hB0 hB1 hR1 hL hE
    go_wp2_with fail
    refine (awake_any _).mono ?_
    rintro e w2 ⟨rfl, hB2⟩
    go_wp2
    go_ret
    exact ⟨rfl, below_then (below_al hC1 _) hB2⟩
theorem ringHalves.walk (w : World) (cs : Array Value) (s : List Wt × Bool × Wt) (hK : kS.K w s cs.toList) (hG : s.1.length * 24 ≤ reachBytes) : Calls Try.prog 8 #[.agg cs] w fun e w' => e = .returned (.bool true) ∧ Below w.heap.size w w' := by
  obtain ⟨A, c, hcs, hc, hC⟩ := kS_open hK
  obtain rfl := Array.toList_inj.1 hcs
  exact RingHalves0.walk w A c s.1 s.2.1 s.2.2 hC hc (by unfold reachBytes at hG; omega)
theorem ringHalves.own : ownKnob Try.prog.godebug = none := by kernel_rfl
theorem ringHalves.laidOut : laidOutB Try.prog = true := by kernel_rfl
set_option maxRecDepth 100000 in
set_option maxHeartbeats 1000000 in
theorem ringHalves.lifted (os : Os) (started : os.Started) (H : Type) (enc : TypeId × Value → H)
    : ReturnsInHanded {} Try.checked os 8 .any (Rows.ringHalvesSpec.pre6 enc Try.prog Try.f8 Rows.ringHalvesRow.domain false) (Rows.ringHalvesSpec.post enc Try.prog Try.f8 false true false false) := by
  refine returnsInHanded_of_change_sized (C := Try.checked) ringHalves.own started (by kernel_rfl) Try.func8
    (ChangeSpec.witness6 (enc := enc) (C := Try.checked) false ⟨#[], #[.agg #[.slice none 0 0, .bool false, .int .i64 0, .int .i64 0, .int .u64 0]], []⟩ 8 (by kernel_rfl) (by kernel_rfl) (by kernel_rfl) (by kernel_rfl)) ?_
  intro W base args ds gs before hval0 hW hcnd hsz0 _
  have hsz : (DataW.weightsEach Try.prog (Try.f8.params.toList ++ Rows.ringHalvesSpec.plain.varTypes Try.prog) (ds ++ gs)).all (· ≤ reachBytes) = true := hsz0
  have hval : ∀ (j : Nat) t v, Try.f8.params[j]? = some t → args[j]? = some v → Value.okWide Try.prog W .any base t v := hval0
  have hW' := hW
  obtain ⟨p, q, hA0, hV, rfl, hfz, hnd⟩ := hW
  have hA : DataW.TrodAll enc Try.prog W 0 (fun _ => true) true Try.f8.params.toList args.toList ds p := hA0
  rw [Try.params8] at hA hval hsz
  obtain ⟨v0, vs0, d0, ds0, p0, q0, hargs, rfl, rfl, h0, r0⟩ := trodAll_cons hA
  obtain ⟨rfl, rfl, rfl⟩ := trodAll_nil r0
  obtain rfl : args = #[v0] := by cases args; simp_all
  obtain ⟨rfl, rfl⟩ := trodVars_none hV
  have k0 := h0
  have lt0 : ∀ x ∈ p0, x.block < W.heap.size := by obtain ⟨m, hm⟩ := k0; exact DataW.trod_lt m _ _ _ hm
  have W0 := Op.weights_of hsz (j := 0) (t := 29) (d := d0) rfl rfl
  obtain ⟨cs0, rfl, sz0⟩ := okWide_struct Try.underlying29 (hval 0 29 v0 rfl rfl)
  obtain ⟨f0, hf0⟩ := h0
  obtain ⟨a0, hK0, hG0, hM0⟩ := opensS H enc W _ true f0 _ (d0, p0) hf0 W0
  clear hA0 hval0 hsz0 hsz
  refine (ringHalves.walk W cs0 a0 hK0 hG0).mono fun e W' ⟨he, bel⟩ => ?_
  subst he
  exact ⟨_, rfl, _, _, _, [], _, [], hW', trodAll_mk1 (shut_bool Try.underlying4 _), (trodAll_cons_mk (Below.trod ringHalves.laidOut (by kernel_rfl) (of_decide_eq_true (by kernel_rfl)) k0 bel lt0) trodAll_mk0), rfl, bel.frame _, fun h => by cases h⟩
theorem ringHalves_holds : Rows.RingHalvesSaid :=
  OpenClaim.holds_of_wide 8 Try.f8 rfl rfl rfl rfl rfl rfl rfl ⟨rfl, rfl, rfl, rfl, rfl⟩ rfl rfl rfl rfl rfl (by kernel_rfl) Try.func8 (by kernel_rfl)
    (of_decide_eq_true (by kernel_rfl)) (by unfold Func.isWrapper; first | (rw [if_pos (by decide +kernel)]; kernel_rfl) | (rw [if_neg (by decide +kernel)]; exact ⟨rfl, rfl⟩))
    (fun os started H enc _ => ringHalves.lifted os started H enc)
#print axioms ringHalves_holds

end Go.Proofs.Ytjjdojnnomokaaa
