/- RingLeaves: what Put sends back, and what it leaves. No condition. -/
import Derived.Test.YtjjdojnnomokaaaRCount
import Derived.Deep.RegionLaw
import Derived.Deep.DrawnRows
namespace Go.Proofs.Ytjjdojnnomokaaa
open Go.RowKit Go.ChangeShapes Go.WideShapes Go.ChangeAt Go.Proofs.YtjjdojnnomokaaaW.PrintWords Go.Proofs.YtjjdojnnomokaaaW.PrintMore Go.Proofs.YtjjdojnnomokaaaW.PrintLast
attribute [local go_sem high] PRingLoads.eqA27
attribute [local go_sem ↓] Go.wp_at_zero Go.wp_at_succ
theorem same_len (n : Nat) {l : List Wt} (hn : l.length = n) (A1 A2 : Option Addr) (c1 c2 : Nat) (has : Bool) (nx : Wt) (w : World) (h1 : kW.C w A1 l.length l) (hc1 : l.length ≤ c1) (h2 : kW.C w A2 l.length l) (hc2 : l.length ≤ c2) (hl : l.length ≤ 4611686018427387) :
    Calls Try.prog 19 #[.agg #[.slice A1 n c1, .bool has, .int .i64 nx.s, .int .i64 nx.g, .int .u64 nx.t], .agg #[.slice A2 n c2, .bool has, .int .i64 nx.s, .int .i64 nx.g, .int .u64 nx.t]] w fun e w' => e = .returned (.bool true) ∧ Below w.heap.size w w' := by
  subst hn
  exact same_ok A1 A2 c1 c2 l has nx w h1 hc1 h2 hc2 hl
theorem sameList_len (n : Nat) {l : List Wt} (hn : l.length = n) (A1 A2 : Option Addr) (c1 c2 : Nat) (w : World) (h1 : kW.C w A1 l.length l) (hc1 : n ≤ c1) (h2 : kW.C w A2 l.length l) (hc2 : n ≤ c2) (hl : l.length ≤ 4611686018427387) :
    Calls Try.prog 23 #[.slice A1 n c1, .slice A2 n c2] w fun e w' => e = .returned (.bool true) ∧ Below w.heap.size w w' := by
  subst hn
  exact sameList_ok A1 A2 c1 c2 l w h1 hc1 h2 hc2 hl
theorem put_less {l : List Wt} {has : Bool} {nx x : Wt} (hb : putBad ⟨l, has, nx⟩ x = false) (h : l.length < 64) : putE ⟨l, has, nx⟩ x = 0 ∧ putOut ⟨l, has, nx⟩ x = [] ∧ lenR (putR ⟨l, has, nx⟩ x) = lenR ⟨l, has, nx⟩ + 1 := by
  refine ⟨by rw [putE, hb]; rfl, by rw [putOut, hb]; simp [pushOut, h], ?_⟩
  rw [putR, hb]
  simp only [Bool.false_eq_true, if_false, pushL, if_pos h, lenR]
  split <;> simp <;> omega
theorem put_full {l : List Wt} {has : Bool} {nx x : Wt} (hb : putBad ⟨l, has, nx⟩ x = false) (h : l.length = 64) : putE ⟨l, has, nx⟩ x = 0 ∧ putOut ⟨l, has, nx⟩ x = l.take 32 ++ [x] ∧ putR ⟨l, has, nx⟩ x = ⟨l.drop 32, has, nx⟩ := by
  refine ⟨by rw [putE, hb]; rfl, by rw [putOut, hb]; simp [pushOut, h], ?_⟩
  rw [putR, hb]
  simp [pushL, h]
theorem lenR_le {l : List Wt} {has : Bool} {nx : Wt} (h : l.length ≤ 64) : 0 ≤ lenR ⟨l, has, nx⟩ ∧ lenR ⟨l, has, nx⟩ ≤ 65 := by
  unfold lenR
  split <;> simp <;> omega
theorem field29_p : ∀ (A : Option Addr) (n c : Nat) (h : Bool) (a b d : Int) (w : World), (Instr.field 29 (.agg #[.slice A n c, .bool h, .int .i64 a, .int .i64 b, .int .u64 d]) 0).run Try.prog w = .ok (.slice A n c) w := fun _ _ _ _ _ _ _ _ => by kernel_rfl
theorem cutW_to (A : Option Addr) (n c : Nat) (h : 32 ≤ n) (hc : n ≤ c) : ∀ W : World, (Instr.slice 22 (.slice A n c) none (some (.int .i64 32)) none).run Try.prog W = .ok (.slice A 32 c) W := by
  obtain ⟨i, hi, -⟩ := Option.map_eq_some_iff.1 infoW
  exact cut_to (P := Try.prog) 22 27 .i64 Try.underlying22 hi A n c 32 (by omega) (by omega) hc
theorem cutW_from (g o n c : Nat) (h : 32 ≤ n) (hc : c ≠ 32) : ∀ W : World, (Instr.slice 22 (.slice (some ⟨g, o, none⟩) n c) (some (.int .i64 32)) none none).run Try.prog W = .ok (.slice (some ⟨g, o + 96, none⟩) (n - 32) (c - 32)) W := by
  obtain ⟨i, hi, hz⟩ := Option.map_eq_some_iff.1 infoW
  have hsz : i.size = 3 := by injection hz with h1 h2; injection h2
  have h := cut_from (P := Try.prog) 22 27 .i64 Try.underlying22 hi 3 hsz (some ⟨g, o, none⟩) n c 32 (by omega) (by omega)
  intro W
  rw [h W]
  have hc' : ¬ c = (32 : Int).toNat := hc
  rw [if_neg hc']
  rfl
theorem state_mk (n : Nat) (b : Nat) (l : List Wt) (has : Bool) (nx : Wt) (w : World) (hI : IsRing w b ⟨l, has, nx⟩) (hn : l.length = n) :
    Calls Try.prog 20 #[.pointer (some ⟨b, 0, none⟩)] w fun e w' => ∃ A c, e = .returned (.agg #[.slice A n c, .bool has, .int .i64 nx.s, .int .i64 nx.g, .int .u64 nx.t]) ∧ n ≤ c ∧ kW.C w' A l.length l ∧ Below w.heap.size w w' := by
  subst hn
  refine (state_any b ⟨l, has, nx⟩ w hI).mono fun e w' ⟨v, he, hv, hB⟩ => ?_
  obtain ⟨A, c, rfl, hc, hC⟩ := Kd.R_reads hv
  exact ⟨A, c, he, hc, hC, hB⟩
set_option maxRecDepth 100000 in
set_option maxHeartbeats 16000000 in
theorem RingLeaves0.walk (w : World) (A : Option Addr) (c : Nat) (l : List Wt) (has : Bool) (nx x : Wt) (hC : kW.C w A l.length l) (hc : l.length ≤ c) (hl : l.length ≤ 9223372036854775807) :
    Calls Try.prog 4 #[.agg #[.slice A l.length c, .bool has, .int .i64 nx.s, .int .i64 nx.g, .int .u64 nx.t], (.agg #[.int .i64 x.s, .int .i64 x.g, .int .u64 x.t])] w fun e w' => e = .returned (.bool true) ∧ Below w.heap.size w w' := by
  have HC := Aside0.mk hC
  clear hC
  have hB0 : Below w.heap.size w ((w.alloc (.cells #[.slice A l.length c, .bool has, .int .i64 nx.s, .int .i64 nx.g, .int .u64 nx.t] 29)).alloc (.cells #[.int .i64 x.s, .int .i64 x.g, .int .u64 x.t] 27)) := (by repeat (first | (with_reducible exact Below.refl _ _) | (with_reducible refine Below.drew ?_) | (with_reducible refine below_drewN ?_ _) | (with_reducible refine below_al ?_ _) | (with_reducible refine Below.alloc ?_ (by first | exact Nat.le_refl _ | omega | (simp; done) | (simp; omega)) _) | (with_reducible refine Below.setCell ?_ (by first | (simp only []; omega) | (simp; done) | (simp; omega)) _)))
  have hx : ((w.alloc (.cells #[.slice A l.length c, .bool has, .int .i64 nx.s, .int .i64 nx.g, .int .u64 nx.t] 29)).alloc (.cells #[.int .i64 x.s, .int .i64 x.g, .int .u64 x.t] 27)).heap[w.heap.size + 1]? = some (.cells #[.int .i64 x.s, .int .i64 x.g, .int .u64 x.t] 27 (0, 0)) := blk_new1 _ _ _
  go_enter Try.func4, Try.ntmps4
  go_wp2_with fail
  generalize (w.alloc (.cells #[.slice A l.length c, .bool has, .int .i64 nx.s, .int .i64 nx.g, .int .u64 nx.t] 29)).alloc (.cells #[.int .i64 x.s, .int .i64 x.g, .int .u64 x.t] 27) = W at *
  by_cases hE : loadE l has nx = 0
  · have hG := good_load hE
    refine (rload_good A c l has nx W (Kd.C_below HC.out hB0) hc hE).mono ?_
    clear hE
    generalize (if has then nx else Wt.zero) = nz at *
    have HG := Aside0.mk hG
    have hl64 := hG.len
    clear hG
    rintro e w1 ⟨A1, c1, rfl, hc1, hR1, hB1⟩
    have hC1 := below_then hB0 hB1
    have hx1 := blk_below hx hB1
    have HR1 : Aside0 (kW.R 27 w1 W.heap.size (fun k => k < w1.heap.size) (.slice A1 l.length c1) l) := ⟨Kd.R_mono (Kd.R_bound hR1) (fun _ h => h.2.2.1)⟩
    have hA1 : Below w1.heap.size w1 (w1.alloc (.cells #[.slice A1 l.length c1, .bool has, .int .i64 nz.s, .int .i64 nz.g, .int .u64 nz.t] 29)) := below_al (Below.refl _ _) _
    have ht1 : (w1.alloc (.cells #[.slice A1 l.length c1, .bool has, .int .i64 nz.s, .int .i64 nz.g, .int .u64 nz.t] 29)).heap[w1.heap.size]? = some (.cells #[.slice A1 l.length c1, .bool has, .int .i64 nz.s, .int .i64 nz.g, .int .u64 nz.t] 29 (0, 0)) := blk_new _ _
    have hxl := lt_blk hx1
    clear hB0 hB1 hR1 hx
    go_wp2_with fail
    generalize w1.alloc (.cells #[.slice A1 l.length c1, .bool has, .int .i64 nz.s, .int .i64 nz.g, .int .u64 nz.t] 29) = W1 at *
    have HR2 := Aside0.mk (Kd.R_below HR1.out hA1)
    refine (load_good A1 c1 l has nz W1 (Kd.R_reads' HR2.out).2.2 hc1 HG.out).mono ?_
    rintro e w2 ⟨b, rfl, hb, hI, hB2⟩
    have hx2 := blk_below (blk_below hx1 hA1) hB2
    have ht2 := blk_below ht1 hB2
    have hC2 := below_then (below_then hC1 hA1) hB2
    have HR3 := Aside0.mk (Kd.R_below HR2.out hB2)
    have htb : w1.heap.size < b := by have := lt_blk ht1; omega
    obtain ⟨x0, x1, x2, -, -, -⟩ := blk3 hx2
    have hxl2 := lt_blk hx2
    clear hx1 ht1 hC1 hA1 HR1 HR2 hB2 hb
    go_wp2_with fail
    refine (put_any b ⟨l, has, nz⟩ x w2 hI).mono ?_
    rintro e w3 ⟨v, rfl, hv, hI3, hK3⟩
    have hx3 := blk_keep hx2 hK3 (show ¬ w.heap.size + 1 = b by omega)
    have ht3 := blk_keep ht2 hK3 (show ¬ w1.heap.size = b by omega)
    have HR4 := Aside0.mk (R_keepR HR3.out hI hK3)
    have hC3 := below_then_keep hC2 hC2.size hK3 (fun i hi => by subst hi; have := hC2.size; omega)
    clear x0 x1 x2 hxl2 hx2 ht2 hC2 HR3 hK3 hI
    obtain ⟨x0, x1, x2, -, -, -⟩ := blk3 hx3
    obtain ⟨t0, t1, t2, t3, t4, -, -, -, -, -⟩ := blk5 ht3
    have hxl3 := lt_blk hx3
    have htl3 := lt_blk ht3
    have HI3 := Aside0.mk hI3
    cases hbad : putBad ⟨l, has, nz⟩ x with
    | true =>
      have e1 : putE ⟨l, has, nz⟩ x = 20 := by rw [putE, hbad]; rfl
      have e2 : putOut ⟨l, has, nz⟩ x = [] := by rw [putOut, hbad]; rfl
      have e3 : putR ⟨l, has, nz⟩ x = ⟨l, has, nz⟩ := by rw [putR, hbad]; rfl
      rw [e1]
      rw [e2] at hv
      rw [e3] at HI3
      obtain ⟨A3, c3, rfl, -, -⟩ := Kd.R_reads hv
      clear hv hI3 e1 e2 e3 hbad
      go_wp2_with fail
      have hBd : Below w3.heap.size w3 w3.drew := (Below.refl _ _).drew
      refine start_ (n := 14) (S := fun w' => w'.cell? ⟨w1.heap.size, 0, none⟩ = some (.slice A1 l.length c1) ∧ w'.cell? ⟨w1.heap.size, 1, none⟩ = some (.bool has) ∧ w'.cell? ⟨w1.heap.size, 2, none⟩ = some (.int .i64 nz.s) ∧ w'.cell? ⟨w1.heap.size, 3, none⟩ = some (.int .i64 nz.g) ∧ w'.cell? ⟨w1.heap.size, 4, none⟩ = some (.int .u64 nz.t)) (ds := []) #[false, false, false, false, false, false, false, false, false, false, false, false, false, false] (by kernel_rfl) rfl rfl ⟨t0, t1, t2, t3, t4⟩ (fun hHeld => ?_)
      refine pure_ (i := 0) (N := some 36) (v := ?_) (a' := ?_) #[true, false, false, false, false, false, false, false, false, false, false, false, false, false] rfl rfl (by kernel_rfl) (fun _ _ _ h => h) (Or.inl ⟨by rfl, ?_⟩) ?_ ?_
      rotate_left
      · intro w'
        go_simp
        with_reducible rfl
      rotate_left
      · simp only [Act.put, List.setIfInBounds_toArray, List.set_cons_zero, List.set_cons_succ, i64_w, i32_w]
        rfl
      refine pure_ (i := 1) (N := some 37) (v := ?_) (a' := ?_) #[true, true, false, false, false, false, false, false, false, false, false, false, false, false] rfl rfl (by kernel_rfl) (fun _ _ _ h => h) (Or.inl ⟨by rfl, ?_⟩) ?_ ?_
      rotate_left
      · intro w'
        go_simp
        with_reducible rfl
      rotate_left
      · simp only [Act.put, List.setIfInBounds_toArray, List.set_cons_zero, List.set_cons_succ, i64_w, i32_w]
        rfl
      refine pure_ (i := 2) (N := some 38) (v := ?_) (a' := ?_) #[true, true, true, false, false, false, false, false, false, false, false, false, false, false] rfl rfl (by kernel_rfl) (fun _ _ _ h => h) (Or.inl ⟨by rfl, ?_⟩) ?_ ?_
      rotate_left
      · intro w'
        go_simp
        with_reducible rfl
      rotate_left
      · simp only [Act.put, List.setIfInBounds_toArray, List.set_cons_zero, List.set_cons_succ, i64_w, i32_w]
        rfl
      refine pure_ (i := 3) (N := some 39) (v := ?_) (a' := ?_) #[true, true, true, true, false, false, false, false, false, false, false, false, false, false] rfl rfl (by kernel_rfl) (fun _ _ _ h => h) (Or.inl ⟨by rfl, ?_⟩) ?_ ?_
      rotate_left
      · intro w'
        go_simp
        with_reducible rfl
      rotate_left
      · simp only [Act.put, List.setIfInBounds_toArray, List.set_cons_zero, List.set_cons_succ, i64_w, i32_w]
        rfl
      refine pure_ (i := 4) (N := some 40) (v := ?_) (a' := ?_) #[true, true, true, true, true, false, false, false, false, false, false, false, false, false] rfl rfl (by kernel_rfl) (fun _ _ _ h => h) (Or.inl ⟨by rfl, ?_⟩) ?_ ?_
      rotate_left
      · intro w'
        go_simp
        with_reducible rfl
      rotate_left
      · simp only [Act.put, List.setIfInBounds_toArray, List.set_cons_zero, List.set_cons_succ, i64_w, i32_w]
        rfl
      refine pure_ (i := 5) (N := some 41) (v := ?_) (a' := ?_) #[true, true, true, true, true, true, false, false, false, false, false, false, false, false] rfl rfl (by kernel_rfl) (fun _ _ _ h => h) (Or.inl ⟨by rfl, ?_⟩) ?_ ?_
      rotate_left
      · intro w'
        go_simp
        with_reducible rfl
      rotate_left
      · simp only [Act.put, List.setIfInBounds_toArray, List.set_cons_zero, List.set_cons_succ, i64_w, i32_w]
        rfl
      refine pure_ (i := 6) (N := some 42) (v := ?_) (a' := ?_) #[true, true, true, true, true, true, true, false, false, false, false, false, false, false] rfl rfl (by kernel_rfl) (fun _ _ _ h => h) (Or.inl ⟨by rfl, ?_⟩) ?_ ?_
      rotate_left
      · intro w'
        go_simp
        with_reducible rfl
      rotate_left
      · simp only [Act.put, List.setIfInBounds_toArray, List.set_cons_zero, List.set_cons_succ, i64_w, i32_w]
        rfl
      refine pure_ (i := 7) (N := some 43) (v := ?_) (a' := ?_) #[true, true, true, true, true, true, true, true, false, false, false, false, false, false] rfl rfl (by kernel_rfl) (fun _ _ _ h => h) (Or.inl ⟨by rfl, ?_⟩) ?_ ?_
      rotate_left
      · intro w'
        go_simp
        with_reducible rfl
      rotate_left
      · simp only [Act.put, List.setIfInBounds_toArray, List.set_cons_zero, List.set_cons_succ, i64_w, i32_w]
        rfl
      refine pure_ (i := 8) (N := some 44) (v := ?_) (a' := ?_) #[true, true, true, true, true, true, true, true, true, false, false, false, false, false] rfl rfl (by kernel_rfl) (fun _ _ _ h => h) (Or.inl ⟨by rfl, ?_⟩) ?_ ?_
      rotate_left
      · intro w'
        go_simp
        with_reducible rfl
      rotate_left
      · simp only [Act.put, List.setIfInBounds_toArray, List.set_cons_zero, List.set_cons_succ, i64_w, i32_w]
        rfl
      refine take_ (i := 10) (N := some 46) (v := ?_) (a' := ?_) #[true, true, true, true, true, true, true, true, true, false, true, false, false, false] rfl rfl (by kernel_rfl) (fun _ _ _ h => h) (Or.inl ⟨by rfl, ?_⟩) hHeld ?_ ?_
      rotate_left
      · rintro w' ⟨s0, s1, s2, s3, s4⟩
        go_simp
        with_reducible rfl
      rotate_left
      · simp only [Act.put, List.setIfInBounds_toArray, List.set_cons_zero, List.set_cons_succ, i64_w, i32_w]
        rfl
      refine one_ (i := 9) (N := some 45) #[true, true, true, true, true, true, true, true, true, true, true, false, false, false] rfl rfl (by kernel_rfl) (by decide) (fun K hK => ?_)
      refine goes_ Try.func20 (by kernel_rfl) rfl #[.pointer (some ⟨b, 0, none⟩)] (by rfl) rfl rfl (by simp only [List.map_toArray, List.map_cons, List.map_nil]; rfl) ?_
      with_reducible refine (state_mk l.length b l has nz _ (HI3.out.below hBd) rfl).mono ?_
      rintro e w4 ⟨A4, c4, rfl, hc4, hC4, hBx⟩
      refine ⟨_, rfl, ?_⟩
      have HC4 := Aside0.mk hC4
      have hB4 : Below w3.heap.size w3 w4 := below_then hBd hBx
      have ht4 := blk_below ht3 hB4
      obtain ⟨z0, z1, z2, z3, z4, -, -, -, -, -⟩ := blk5 ht4
      clear hBx hC4
      refine hK.out _ _ ⟨z0, z1, z2, z3, z4⟩ (fun hHeld => ?_)
      clear hK K
      refine norm_ (a' := ?_) ?_ ?_
      rotate_left
      · show Act.put _ (some 45) _ = _
        simp only [Act.put, List.setIfInBounds_toArray, List.set_cons_zero, List.set_cons_succ, i64_w, i32_w]
        rfl
      refine one_ (i := 11) (N := some 47) #[true, true, true, true, true, true, true, true, true, true, true, true, false, false] rfl rfl (by kernel_rfl) (by decide) (fun K hK => ?_)
      refine goes_ Try.func19 (by kernel_rfl) rfl #[.agg #[.slice A4 l.length c4, .bool has, .int .i64 nz.s, .int .i64 nz.g, .int .u64 nz.t], .agg #[.slice A1 l.length c1, .bool has, .int .i64 nz.s, .int .i64 nz.g, .int .u64 nz.t]] (by rfl) rfl rfl (by simp only [List.map_toArray, List.map_cons, List.map_nil]; rfl) ?_
      with_reducible refine (same_len l.length rfl A4 A1 c4 c1 has nz _ HC4.out hc4 (Kd.R_reads' (Kd.R_below HR4.out hB4)).2.2 hc1 (by omega)).mono ?_
      rintro e w5 ⟨rfl, hBy⟩
      refine ⟨_, rfl, ?_⟩
      have hBf := below_then (below_then hC3 hB4) hBy
      have ht5 := blk_below ht4 hBy
      obtain ⟨y0, y1, y2, y3, y4, -, -, -, -, -⟩ := blk5 ht5
      refine hK.out _ _ ⟨y0, y1, y2, y3, y4⟩ (fun hHeld => ?_)
      clear hK K
      refine norm_ (a' := ?_) ?_ ?_
      rotate_left
      · show Act.put _ (some 47) _ = _
        simp only [Act.put, List.setIfInBounds_toArray, List.set_cons_zero, List.set_cons_succ, i64_w, i32_w]
        rfl
      refine pure_ (i := 12) (N := some 48) (v := ?_) (a' := ?_) #[true, true, true, true, true, true, true, true, true, true, true, true, true, false] rfl rfl (by kernel_rfl) (fun _ _ _ h => h) (Or.inl ⟨by rfl, ?_⟩) ?_ ?_
      rotate_left
      · intro w'
        go_simp
        with_reducible rfl
      rotate_left
      · simp only [Act.put, List.setIfInBounds_toArray, List.set_cons_zero, List.set_cons_succ, i64_w, i32_w]
        rfl
      refine pure_ (i := 13) (N := some 4) (v := ?_) (a' := ?_) #[true, true, true, true, true, true, true, true, true, true, true, true, true, true] rfl rfl (by kernel_rfl) (fun _ _ _ h => h) (Or.inl ⟨by rfl, ?_⟩) ?_ ?_
      rotate_left
      · intro w'
        go_simp
        with_reducible rfl
      rotate_left
      · simp only [Act.put, List.setIfInBounds_toArray, List.set_cons_zero, List.set_cons_succ, i64_w, i32_w]
        rfl
      refine done_ (by kernel_rfl) ?_
      go_wp2
      go_ret
      exact ⟨rfl, hBf⟩
    | false =>
      by_cases h64 : l.length < 64
      · obtain ⟨e1, e2, e3⟩ := put_less hbad h64
        obtain ⟨m0, m1⟩ := lenR_le (has := has) (nx := nz) hl64
        rw [e1]
        rw [e2] at hv
        have HRL : Aside0 (∀ w4, Below w3.heap.size w3 w4 → Calls Try.prog 22 #[.agg #[.slice A1 l.length c1, .bool has, .int .i64 nz.s, .int .i64 nz.g, .int .u64 nz.t]] w4 fun e w' => e = .returned (.int .i64 (lenR ⟨l, has, nz⟩)) ∧ Below w4.heap.size w4 w') :=
          ⟨fun w4 hB4 => rlen_any A1 c1 ⟨l, has, nz⟩ w4 (Kd.R_reads' (Kd.R_below HR4.out hB4)).2.2 hc1 (by simp only; omega)⟩
        have HL := Aside0.mk (len_any b _ w3.drew (HI3.out.below (Below.refl _ _).drew))
        rw [e3] at HL
        obtain ⟨A3, c3, rfl, -, -⟩ := Kd.R_reads hv
        generalize lenR ⟨l, has, nz⟩ = m at *
        have hmw : IntKind.i64.wrap (m + 1) = m + 1 := IntWalk.i64_in _ (by omega)
        clear hv hI3 e1 e2 e3 hbad
        go_wp2_with fail
        go_region_law (first | (refine goes_ (f := 21) Try.func21 (by kernel_rfl) rfl #[.pointer (some ⟨b, 0, none⟩)] (by rfl) rfl rfl (by simp only [List.map_toArray, List.map_cons, List.map_nil]; rfl) ?_; refine HL.out.mono ?_; rintro e w4 ⟨rfl, rfl⟩; refine ⟨_, rfl, ?_⟩) | (refine goes_ (f := 22) Try.func22 (by kernel_rfl) rfl #[.agg #[.slice A1 l.length c1, .bool has, .int .i64 nz.s, .int .i64 nz.g, .int .u64 nz.t]] (by rfl) rfl rfl (by simp only [List.map_toArray, List.map_cons, List.map_nil]; rfl) ?_; refine (HRL.out _ (Below.refl _ _).drew).mono ?_; rintro e w5 ⟨rfl, hBy⟩; refine ⟨_, rfl, ?_⟩; have hBf := below_then hC3 (below_then (Below.refl _ _).drew hBy)))
        all_goals
          go_wp2
          go_ret
          exact ⟨rfl, hBf⟩
      · have hl' : l.length = 64 := by omega
        obtain ⟨e1, e2, e3⟩ := put_full hbad hl'
        rw [e1]
        rw [e2] at hv
        rw [e3] at HI3
        clear hI3 e1 e2 e3 hbad h64
        have ht32 : (l.take 32).length = 32 := by rw [List.length_take]; omega
        have hd32 : (l.drop 32).length = 32 := by rw [List.length_drop]; omega
        have h33 : (l.take 32 ++ [x]).length = 33 := by rw [List.length_append, ht32]; rfl
        obtain ⟨A3, c3, rfl, hc3, hC3'⟩ := Kd.R_reads hv
        obtain ⟨ab, off, rfl, hab⟩ := C_form hC3' (by omega) (by decide)
        obtain ⟨y, hy, q0, q1, q2⟩ := wt_at hC3' 32 (by omega)
        have hy' : (l.take 32 ++ [x])[32]? = some x := by rw [List.getElem?_append_right (by omega), ht32]; rfl
        obtain rfl : x = y := by rw [hy'] at hy; exact Option.some.inj hy
        have hT1 : kW.C w3 (some ⟨ab, off, none⟩) (l.take 32).length (l.take 32) := by
          have h := Kd.C_take (m := 32) hC3' (by omega)
          rwa [List.take_append_of_le_length (by omega), List.take_of_length_le (by omega)] at h
        have hC1' := (Kd.R_reads' HR4.out).2.2
        obtain ⟨tb, ot, rfl, htb'⟩ := C_form hC1' (by omega) (by decide)
        have HT1 := Aside0.mk hT1
        have HT2 := Aside0.mk (Kd.C_take (m := 32) hC1' (by omega))
        have HT3 : Aside0 (kW.C w3 (some ⟨tb, ot + 96, none⟩) (l.drop 32).length (l.drop 32)) := ⟨by
          have h := Kd.C_drop (c := 64) (m := 32) hC1' (by omega) (by omega)
          rw [if_neg (by omega)] at h
          exact h⟩
        rw [h33] at hc3 ⊢
        rw [hl'] at hc1 t0 ht3 ⊢
        have hk1 := cutW_to (some ⟨ab, off, none⟩) 33 c3 (by omega) hc3
        have hk2 := cutW_to (some ⟨tb, ot, none⟩) 64 c1 (by omega) hc1
        have hk3 := cutW_from tb ot 64 c1 (by omega) (by omega)
        have hf := field29_p
        clear hv hy hy' hC3' hT1 hC1'
        go_wp2_with fail
        have hBd : Below w3.heap.size w3 w3.drew := (Below.refl _ _).drew
        have hw32 : wrap64 32 = 32 := by unfold wrap64; omega
        refine start_ (n := 34) (S := fun w' => w'.cell? ⟨w.heap.size + 1, 0, none⟩ = some (.int .i64 x.s) ∧ w'.cell? ⟨w.heap.size + 1, 1, none⟩ = some (.int .i64 x.g) ∧ w'.cell? ⟨w.heap.size + 1, 2, none⟩ = some (.int .u64 x.t) ∧ w'.cell? ⟨w1.heap.size, 0, none⟩ = some (.slice (some ⟨tb, ot, none⟩) 64 c1) ∧ w'.cell? ⟨ab, off + 96, none⟩ = some (.int .i64 x.s) ∧ w'.cell? ⟨ab, off + 97, none⟩ = some (.int .i64 x.g) ∧ w'.cell? ⟨ab, off + 98, none⟩ = some (.int .u64 x.t)) (ds := []) #[false, false, false, false, false, false, false, false, false, false, false, false, false, false, false, false, false, false, false, false, false, false, false, false, false, false, false, false, false, false, false, false, false, false] (by kernel_rfl) rfl rfl ⟨x0, x1, x2, t0, q0, q1, q2⟩ (fun hHeld => ?_)
        refine pure_ (i := 0) (N := some 62) (v := ?_) (a' := ?_) #[true, false, false, false, false, false, false, false, false, false, false, false, false, false, false, false, false, false, false, false, false, false, false, false, false, false, false, false, false, false, false, false, false, false] rfl rfl (by kernel_rfl) (fun _ _ _ h => h) (Or.inl ⟨by rfl, ?_⟩) ?_ ?_
        rotate_left
        · intro w'
          go_simp
          with_reducible rfl
        rotate_left
        · simp only [Act.put, List.setIfInBounds_toArray, List.set_cons_zero, List.set_cons_succ, i64_w, i32_w]
          rfl
        refine pure_ (i := 1) (N := some 63) (v := ?_) (a' := ?_) #[true, true, false, false, false, false, false, false, false, false, false, false, false, false, false, false, false, false, false, false, false, false, false, false, false, false, false, false, false, false, false, false, false, false] rfl rfl (by kernel_rfl) (fun _ _ _ h => h) (Or.inl ⟨by rfl, ?_⟩) ?_ ?_
        rotate_left
        · intro w'
          go_simp
          with_reducible rfl
        rotate_left
        · simp only [Act.put, List.setIfInBounds_toArray, List.set_cons_zero, List.set_cons_succ, i64_w, i32_w]
          rfl
        refine pure_ (i := 2) (N := some 64) (v := ?_) (a' := ?_) #[true, true, true, false, false, false, false, false, false, false, false, false, false, false, false, false, false, false, false, false, false, false, false, false, false, false, false, false, false, false, false, false, false, false] rfl rfl (by kernel_rfl) (fun _ _ _ h => h) (Or.inl ⟨by rfl, ?_⟩) ?_ ?_
        rotate_left
        · intro w'
          go_simp
          with_reducible rfl
        rotate_left
        · simp only [Act.put, List.setIfInBounds_toArray, List.set_cons_zero, List.set_cons_succ, i64_w, i32_w]
          rfl
        refine pure_ (i := 3) (N := some 65) (v := ?_) (a' := ?_) #[true, true, true, true, false, false, false, false, false, false, false, false, false, false, false, false, false, false, false, false, false, false, false, false, false, false, false, false, false, false, false, false, false, false] rfl rfl (by kernel_rfl) (fun _ _ _ h => h) (Or.inl ⟨by rfl, ?_⟩) ?_ ?_
        rotate_left
        · intro w'
          go_simp
          with_reducible rfl
        rotate_left
        · simp only [Act.put, List.setIfInBounds_toArray, List.set_cons_zero, List.set_cons_succ, i64_w, i32_w]
          rfl
        refine pure_ (i := 4) (N := some 66) (v := ?_) (a' := ?_) #[true, true, true, true, true, false, false, false, false, false, false, false, false, false, false, false, false, false, false, false, false, false, false, false, false, false, false, false, false, false, false, false, false, false] rfl rfl (by kernel_rfl) (fun _ _ _ h => h) (Or.inl ⟨by rfl, ?_⟩) ?_ ?_
        rotate_left
        · intro w'
          go_simp
          with_reducible rfl
        rotate_left
        · simp only [Act.put, List.setIfInBounds_toArray, List.set_cons_zero, List.set_cons_succ, i64_w, i32_w]
          rfl
        refine pure_ (i := 5) (N := some 67) (v := ?_) (a' := ?_) #[true, true, true, true, true, true, false, false, false, false, false, false, false, false, false, false, false, false, false, false, false, false, false, false, false, false, false, false, false, false, false, false, false, false] rfl rfl (by kernel_rfl) (fun _ _ _ h => h) (Or.inl ⟨by rfl, ?_⟩) ?_ ?_
        rotate_left
        · intro w'
          go_simp
          with_reducible rfl
        rotate_left
        · simp only [Act.put, List.setIfInBounds_toArray, List.set_cons_zero, List.set_cons_succ, i64_w, i32_w]
          rfl
        refine pure_ (i := 6) (N := some 68) (v := ?_) (a' := ?_) #[true, true, true, true, true, true, true, false, false, false, false, false, false, false, false, false, false, false, false, false, false, false, false, false, false, false, false, false, false, false, false, false, false, false] rfl rfl (by kernel_rfl) (fun _ _ _ h => h) (Or.inl ⟨by rfl, ?_⟩) ?_ ?_
        rotate_left
        · intro w'
          go_simp
          with_reducible rfl
        rotate_left
        · simp only [Act.put, List.setIfInBounds_toArray, List.set_cons_zero, List.set_cons_succ, i64_w, i32_w]
          rfl
        refine pure_ (i := 7) (N := some 69) (v := ?_) (a' := ?_) #[true, true, true, true, true, true, true, true, false, false, false, false, false, false, false, false, false, false, false, false, false, false, false, false, false, false, false, false, false, false, false, false, false, false] rfl rfl (by kernel_rfl) (fun _ _ _ h => h) (Or.inl ⟨by rfl, ?_⟩) ?_ ?_
        rotate_left
        · intro w'
          go_simp
          with_reducible rfl
        rotate_left
        · simp only [Act.put, List.setIfInBounds_toArray, List.set_cons_zero, List.set_cons_succ, i64_w, i32_w]
          rfl
        refine pure_ (i := 8) (N := some 70) (v := ?_) (a' := ?_) #[true, true, true, true, true, true, true, true, true, false, false, false, false, false, false, false, false, false, false, false, false, false, false, false, false, false, false, false, false, false, false, false, false, false] rfl rfl (by kernel_rfl) (fun _ _ _ h => h) (Or.inl ⟨by rfl, ?_⟩) ?_ ?_
        rotate_left
        · intro w'
          go_simp
          with_reducible rfl
        rotate_left
        · simp only [Act.put, List.setIfInBounds_toArray, List.set_cons_zero, List.set_cons_succ, i64_w, i32_w]
          rfl
        refine take_ (i := 9) (N := some 71) (v := ?_) (a' := ?_) #[true, true, true, true, true, true, true, true, true, true, false, false, false, false, false, false, false, false, false, false, false, false, false, false, false, false, false, false, false, false, false, false, false, false] rfl rfl (by kernel_rfl) (fun _ _ _ h => h) (Or.inl ⟨by rfl, ?_⟩) hHeld ?_ ?_
        rotate_left
        · rintro w' ⟨s0, s1, s2, s3, s4, s5, s6⟩
          go_simp
          with_reducible rfl
        rotate_left
        · simp only [Act.put, List.setIfInBounds_toArray, List.set_cons_zero, List.set_cons_succ, i64_w, i32_w]
          rfl
        refine take_ (i := 10) (N := some 72) (v := ?_) (a' := ?_) #[true, true, true, true, true, true, true, true, true, true, true, false, false, false, false, false, false, false, false, false, false, false, false, false, false, false, false, false, false, false, false, false, false, false] rfl rfl (by kernel_rfl) (fun _ _ _ h => h) (Or.inl ⟨by rfl, ?_⟩) hHeld ?_ ?_
        rotate_left
        · rintro w' ⟨s0, s1, s2, s3, s4, s5, s6⟩
          go_simp
          with_reducible rfl
        rotate_left
        · simp only [Act.put, List.setIfInBounds_toArray, List.set_cons_zero, List.set_cons_succ, i64_w, i32_w]
          rfl
        refine pure_ (i := 11) (N := some 73) (v := ?_) (a' := ?_) #[true, true, true, true, true, true, true, true, true, true, true, true, false, false, false, false, false, false, false, false, false, false, false, false, false, false, false, false, false, false, false, false, false, false] rfl rfl (by kernel_rfl) (fun _ _ _ h => h) (Or.inl ⟨by rfl, ?_⟩) ?_ ?_
        rotate_left
        · intro w'
          go_simp
          with_reducible rfl
        rotate_left
        · simp only [Act.put, List.setIfInBounds_toArray, List.set_cons_zero, List.set_cons_succ, i64_w, i32_w]
          rfl
        refine pure_ (i := 12) (N := some 74) (v := ?_) (a' := ?_) #[true, true, true, true, true, true, true, true, true, true, true, true, true, false, false, false, false, false, false, false, false, false, false, false, false, false, false, false, false, false, false, false, false, false] rfl rfl (by kernel_rfl) (fun _ _ _ h => h) (Or.inl ⟨by rfl, ?_⟩) ?_ ?_
        rotate_left
        · intro w'
          go_simp
          with_reducible rfl
        rotate_left
        · simp only [Act.put, List.setIfInBounds_toArray, List.set_cons_zero, List.set_cons_succ, i64_w, i32_w]
          rfl
        refine pure_ (i := 13) (N := some 75) (v := ?_) (a' := ?_) #[true, true, true, true, true, true, true, true, true, true, true, true, true, true, false, false, false, false, false, false, false, false, false, false, false, false, false, false, false, false, false, false, false, false] rfl rfl (by kernel_rfl) (fun _ _ _ h => h) (Or.inl ⟨by rfl, ?_⟩) ?_ ?_
        rotate_left
        · intro w'
          go_simp
          with_reducible rfl
        rotate_left
        · simp only [Act.put, List.setIfInBounds_toArray, List.set_cons_zero, List.set_cons_succ, i64_w, i32_w]
          rfl
        refine pure_ (i := 14) (N := some 76) (v := ?_) (a' := ?_) #[true, true, true, true, true, true, true, true, true, true, true, true, true, true, true, false, false, false, false, false, false, false, false, false, false, false, false, false, false, false, false, false, false, false] rfl rfl (by kernel_rfl) (fun _ _ _ h => h) (Or.inl ⟨by rfl, ?_⟩) ?_ ?_
        rotate_left
        · intro w'
          go_simp
          with_reducible rfl
        rotate_left
        · simp only [Act.put, List.setIfInBounds_toArray, List.set_cons_zero, List.set_cons_succ, i64_w, i32_w]
          rfl
        refine pure_ (i := 15) (N := some 77) (v := ?_) (a' := ?_) #[true, true, true, true, true, true, true, true, true, true, true, true, true, true, true, true, false, false, false, false, false, false, false, false, false, false, false, false, false, false, false, false, false, false] rfl rfl (by kernel_rfl) (fun _ _ _ h => h) (Or.inl ⟨by rfl, ?_⟩) ?_ ?_
        rotate_left
        · intro w'
          go_simp
          with_reducible rfl
        rotate_left
        · simp only [Act.put, List.setIfInBounds_toArray, List.set_cons_zero, List.set_cons_succ, i64_w, i32_w]
          rfl
        refine pure_ (i := 16) (N := some 78) (v := ?_) (a' := ?_) #[true, true, true, true, true, true, true, true, true, true, true, true, true, true, true, true, true, false, false, false, false, false, false, false, false, false, false, false, false, false, false, false, false, false] rfl rfl (by kernel_rfl) (fun _ _ _ h => h) (Or.inl ⟨by rfl, ?_⟩) ?_ ?_
        rotate_left
        · intro w'
          go_simp
          with_reducible rfl
        rotate_left
        · simp only [Act.put, List.setIfInBounds_toArray, List.set_cons_zero, List.set_cons_succ, i64_w, i32_w]
          rfl
        refine pure_ (i := 17) (N := some 79) (v := ?_) (a' := ?_) #[true, true, true, true, true, true, true, true, true, true, true, true, true, true, true, true, true, true, false, false, false, false, false, false, false, false, false, false, false, false, false, false, false, false] rfl rfl (by kernel_rfl) (fun _ _ _ h => h) (Or.inl ⟨by rfl, ?_⟩) ?_ ?_
        rotate_left
        · intro w'
          go_simp
          with_reducible rfl
        rotate_left
        · simp only [Act.put, List.setIfInBounds_toArray, List.set_cons_zero, List.set_cons_succ, i64_w, i32_w]
          rfl
        refine pure_ (i := 18) (N := some 80) (v := ?_) (a' := ?_) #[true, true, true, true, true, true, true, true, true, true, true, true, true, true, true, true, true, true, true, false, false, false, false, false, false, false, false, false, false, false, false, false, false, false] rfl rfl (by kernel_rfl) (fun _ _ _ h => h) (Or.inl ⟨by rfl, ?_⟩) ?_ ?_
        rotate_left
        · intro w'
          go_simp
          with_reducible rfl
        rotate_left
        · simp only [Act.put, List.setIfInBounds_toArray, List.set_cons_zero, List.set_cons_succ, i64_w, i32_w]
          rfl
        refine pure_ (i := 19) (N := some 81) (v := ?_) (a' := ?_) #[true, true, true, true, true, true, true, true, true, true, true, true, true, true, true, true, true, true, true, true, false, false, false, false, false, false, false, false, false, false, false, false, false, false] rfl rfl (by kernel_rfl) (fun _ _ _ h => h) (Or.inl ⟨by rfl, ?_⟩) ?_ ?_
        rotate_left
        · intro w'
          go_simp
          with_reducible rfl
        rotate_left
        · simp only [Act.put, List.setIfInBounds_toArray, List.set_cons_zero, List.set_cons_succ, i64_w, i32_w]
          rfl
        refine take_ (i := 20) (N := some 82) (v := ?_) (a' := ?_) #[true, true, true, true, true, true, true, true, true, true, true, true, true, true, true, true, true, true, true, true, true, false, false, false, false, false, false, false, false, false, false, false, false, false] rfl rfl (by kernel_rfl) (fun _ _ _ h => h) (Or.inl ⟨by rfl, ?_⟩) hHeld ?_ ?_
        rotate_left
        · rintro w' ⟨s0, s1, s2, s3, s4, s5, s6⟩
          go_simp
          with_reducible rfl
        rotate_left
        · simp only [Act.put, List.setIfInBounds_toArray, List.set_cons_zero, List.set_cons_succ, i64_w, i32_w]
          rfl
        refine pure_ (i := 21) (N := some 83) (v := ?_) (a' := ?_) #[true, true, true, true, true, true, true, true, true, true, true, true, true, true, true, true, true, true, true, true, true, true, false, false, false, false, false, false, false, false, false, false, false, false] rfl rfl (by kernel_rfl) (fun _ _ _ h => h) (Or.inl ⟨by rfl, ?_⟩) ?_ ?_
        rotate_left
        · intro w'
          go_simp
          with_reducible rfl
        rotate_left
        · simp only [Act.put, List.setIfInBounds_toArray, List.set_cons_zero, List.set_cons_succ, i64_w, i32_w]
          rfl
        refine one_ (i := 22) (N := some 84) #[true, true, true, true, true, true, true, true, true, true, true, true, true, true, true, true, true, true, true, true, true, true, true, false, false, false, false, false, false, false, false, false, false, false] rfl rfl (by kernel_rfl) (by decide) (fun K hK => ?_)
        refine goes_ Try.func23 (by kernel_rfl) rfl #[.slice (some ⟨ab, off, none⟩) 32 c3, .slice (some ⟨tb, ot, none⟩) 32 c1] (by rfl) rfl rfl (by simp only [List.map_toArray, List.map_cons, List.map_nil]; rfl) ?_
        with_reducible refine (sameList_len 32 ht32 _ _ c3 c1 _ (Kd.C_below HT1.out hBd) (by omega) (Kd.C_below HT2.out hBd) (by omega) (by omega)).mono ?_
        rintro e w4 ⟨rfl, hBx⟩
        refine ⟨_, rfl, ?_⟩
        have hB4 : Below w3.heap.size w3 w4 := below_then hBd hBx
        clear hBx
        have hxa := blk_below hx3 hB4
        obtain ⟨x0a, x1a, x2a, -, -, -⟩ := blk3 hxa
        have hta := blk_below ht3 hB4
        obtain ⟨z0a, -, -, -, -, -, -, -, -, -⟩ := blk5 hta
        have q0a := (hB4.cell (p := ⟨ab, off + 96, none⟩) hab).trans q0
        have q1a := (hB4.cell (p := ⟨ab, off + 97, none⟩) hab).trans q1
        have q2a := (hB4.cell (p := ⟨ab, off + 98, none⟩) hab).trans q2
        refine hK.out _ _ ⟨x0a, x1a, x2a, z0a, q0a, q1a, q2a⟩ (fun hHeld => ?_)
        clear hK K
        refine norm_ (a' := ?_) ?_ ?_
        rotate_left
        · show Act.put _ (some 84) _ = _
          simp only [Act.put, List.setIfInBounds_toArray, List.set_cons_zero, List.set_cons_succ, i64_w, i32_w]
          rfl
        refine pure_ (i := 23) (N := some 85) (v := ?_) (a' := ?_) #[true, true, true, true, true, true, true, true, true, true, true, true, true, true, true, true, true, true, true, true, true, true, true, true, false, false, false, false, false, false, false, false, false, false] rfl rfl (by kernel_rfl) (fun _ _ _ h => h) (Or.inl ⟨by rfl, ?_⟩) ?_ ?_
        rotate_left
        · intro w'
          go_simp
          with_reducible rfl
        rotate_left
        · simp only [Act.put, List.setIfInBounds_toArray, List.set_cons_zero, List.set_cons_succ, i64_w, i32_w]
          rfl
        refine pure_ (i := 24) (N := some 86) (v := ?_) (a' := ?_) #[true, true, true, true, true, true, true, true, true, true, true, true, true, true, true, true, true, true, true, true, true, true, true, true, true, false, false, false, false, false, false, false, false, false] rfl rfl (by kernel_rfl) (fun _ _ _ h => h) (Or.inl ⟨by rfl, ?_⟩) ?_ ?_
        rotate_left
        · intro w'
          go_simp
          with_reducible rfl
        rotate_left
        · simp only [Act.put, List.setIfInBounds_toArray, List.set_cons_zero, List.set_cons_succ, i64_w, i32_w]
          rfl
        refine pure_ (i := 25) (N := some 87) (v := ?_) (a' := ?_) #[true, true, true, true, true, true, true, true, true, true, true, true, true, true, true, true, true, true, true, true, true, true, true, true, true, true, false, false, false, false, false, false, false, false] rfl rfl (by kernel_rfl) (fun _ _ _ h => h) (Or.inl ⟨by rfl, ?_⟩) ?_ ?_
        rotate_left
        · intro w'
          go_simp
          with_reducible rfl
        rotate_left
        · simp only [Act.put, List.setIfInBounds_toArray, List.set_cons_zero, List.set_cons_succ, i64_w, i32_w]
          rfl
        refine pure_ (i := 28) (N := some 90) (v := ?_) (a' := ?_) #[true, true, true, true, true, true, true, true, true, true, true, true, true, true, true, true, true, true, true, true, true, true, true, true, true, true, false, false, true, false, false, false, false, false] rfl rfl (by kernel_rfl) (fun _ _ _ h => h) (Or.inl ⟨by rfl, ?_⟩) ?_ ?_
        rotate_left
        · intro w'
          go_simp
          with_reducible rfl
        rotate_left
        · simp only [Act.put, List.setIfInBounds_toArray, List.set_cons_zero, List.set_cons_succ, i64_w, i32_w]
          rfl
        refine take_ (i := 29) (N := some 91) (v := ?_) (a' := ?_) #[true, true, true, true, true, true, true, true, true, true, true, true, true, true, true, true, true, true, true, true, true, true, true, true, true, true, false, false, true, true, false, false, false, false] rfl rfl (by kernel_rfl) (fun _ _ _ h => h) (Or.inl ⟨by rfl, ?_⟩) hHeld ?_ ?_
        rotate_left
        · rintro w' ⟨s0, s1, s2, s3, s4, s5, s6⟩
          go_simp
          with_reducible rfl
        rotate_left
        · simp only [Act.put, List.setIfInBounds_toArray, List.set_cons_zero, List.set_cons_succ, i64_w, i32_w]
          rfl
        refine pure_ (i := 30) (N := some 92) (v := ?_) (a' := ?_) #[true, true, true, true, true, true, true, true, true, true, true, true, true, true, true, true, true, true, true, true, true, true, true, true, true, true, false, false, true, true, true, false, false, false] rfl rfl (by kernel_rfl) (fun _ _ _ h => h) (Or.inl ⟨by rfl, ?_⟩) ?_ ?_
        rotate_left
        · intro w'
          go_simp
          with_reducible rfl
        rotate_left
        · simp only [Act.put, List.setIfInBounds_toArray, List.set_cons_zero, List.set_cons_succ, i64_w, i32_w]
          rfl
        refine one_ (i := 26) (N := some 88) #[true, true, true, true, true, true, true, true, true, true, true, true, true, true, true, true, true, true, true, true, true, true, true, true, true, true, true, false, true, true, true, false, false, false] rfl rfl (by kernel_rfl) (by decide) (fun K hK => ?_)
        refine goes_ Try.func20 (by kernel_rfl) rfl #[.pointer (some ⟨b, 0, none⟩)] (by rfl) rfl rfl (by simp only [List.map_toArray, List.map_cons, List.map_nil]; rfl) ?_
        with_reducible refine (state_mk 32 b (l.drop 32) has nz _ (HI3.out.below hB4) hd32).mono ?_
        rintro e w5 ⟨A5, c5, rfl, hc5, hC5, hBx⟩
        refine ⟨_, rfl, ?_⟩
        have HC5 := Aside0.mk hC5
        have hB5 : Below w3.heap.size w3 w5 := below_then hB4 hBx
        clear hBx hC5
        have hxb := blk_below hx3 hB5
        obtain ⟨x0b, x1b, x2b, -, -, -⟩ := blk3 hxb
        have htb := blk_below ht3 hB5
        obtain ⟨z0b, -, -, -, -, -, -, -, -, -⟩ := blk5 htb
        have q0b := (hB5.cell (p := ⟨ab, off + 96, none⟩) hab).trans q0
        have q1b := (hB5.cell (p := ⟨ab, off + 97, none⟩) hab).trans q1
        have q2b := (hB5.cell (p := ⟨ab, off + 98, none⟩) hab).trans q2
        refine hK.out _ _ ⟨x0b, x1b, x2b, z0b, q0b, q1b, q2b⟩ (fun hHeld => ?_)
        clear hK K
        refine norm_ (a' := ?_) ?_ ?_
        rotate_left
        · show Act.put _ (some 88) _ = _
          simp only [Act.put, List.setIfInBounds_toArray, List.set_cons_zero, List.set_cons_succ, i64_w, i32_w]
          rfl
        refine pure_ (i := 27) (N := some 89) (v := ?_) (a' := ?_) #[true, true, true, true, true, true, true, true, true, true, true, true, true, true, true, true, true, true, true, true, true, true, true, true, true, true, true, true, true, true, true, false, false, false] rfl rfl (by kernel_rfl) (fun _ _ _ h => h) (Or.inl ⟨by rfl, ?_⟩) ?_ ?_
        rotate_left
        · intro w'
          go_simp
          with_reducible rfl
        rotate_left
        · simp only [Act.put, List.setIfInBounds_toArray, List.set_cons_zero, List.set_cons_succ, i64_w, i32_w]
          rfl
        refine one_ (i := 31) (N := some 93) #[true, true, true, true, true, true, true, true, true, true, true, true, true, true, true, true, true, true, true, true, true, true, true, true, true, true, true, true, true, true, true, true, false, false] rfl rfl (by kernel_rfl) (by decide) (fun K hK => ?_)
        refine goes_ Try.func23 (by kernel_rfl) rfl #[.slice A5 32 c5, .slice (some ⟨tb, ot + 96, none⟩) (64 - 32) (c1 - 32)] (by rfl) rfl rfl (by simp only [List.map_toArray, List.map_cons, List.map_nil]; rfl) ?_
        with_reducible refine (sameList_len 32 hd32 _ _ c5 (c1 - 32) _ HC5.out (by omega) (Kd.C_below HT3.out hB5) (by omega) (by omega)).mono ?_
        rintro e w6 ⟨rfl, hBy⟩
        refine ⟨_, rfl, ?_⟩
        have hB6 : Below w3.heap.size w3 w6 := below_then hB5 hBy
        have hBf := below_then hC3 hB6
        clear hBy
        have hxc := blk_below hx3 hB6
        obtain ⟨x0c, x1c, x2c, -, -, -⟩ := blk3 hxc
        have htc := blk_below ht3 hB6
        obtain ⟨z0c, -, -, -, -, -, -, -, -, -⟩ := blk5 htc
        have q0c := (hB6.cell (p := ⟨ab, off + 96, none⟩) hab).trans q0
        have q1c := (hB6.cell (p := ⟨ab, off + 97, none⟩) hab).trans q1
        have q2c := (hB6.cell (p := ⟨ab, off + 98, none⟩) hab).trans q2
        refine hK.out _ _ ⟨x0c, x1c, x2c, z0c, q0c, q1c, q2c⟩ (fun hHeld => ?_)
        clear hK K
        refine norm_ (a' := ?_) ?_ ?_
        rotate_left
        · show Act.put _ (some 93) _ = _
          simp only [Act.put, List.setIfInBounds_toArray, List.set_cons_zero, List.set_cons_succ, i64_w, i32_w]
          rfl
        refine pure_ (i := 32) (N := some 94) (v := ?_) (a' := ?_) #[true, true, true, true, true, true, true, true, true, true, true, true, true, true, true, true, true, true, true, true, true, true, true, true, true, true, true, true, true, true, true, true, true, false] rfl rfl (by kernel_rfl) (fun _ _ _ h => h) (Or.inl ⟨by rfl, ?_⟩) ?_ ?_
        rotate_left
        · intro w'
          go_simp
          with_reducible rfl
        rotate_left
        · simp only [Act.put, List.setIfInBounds_toArray, List.set_cons_zero, List.set_cons_succ, i64_w, i32_w]
          rfl
        refine pure_ (i := 33) (N := some 4) (v := ?_) (a' := ?_) #[true, true, true, true, true, true, true, true, true, true, true, true, true, true, true, true, true, true, true, true, true, true, true, true, true, true, true, true, true, true, true, true, true, true] rfl rfl (by kernel_rfl) (fun _ _ _ h => h) (Or.inl ⟨by rfl, ?_⟩) ?_ ?_
        rotate_left
        · intro w'
          go_simp
          with_reducible rfl
        rotate_left
        · simp only [Act.put, List.setIfInBounds_toArray, List.set_cons_zero, List.set_cons_succ, i64_w, i32_w]
          rfl
        refine done_ (by kernel_rfl) ?_
        go_wp2
        go_ret
        exact ⟨rfl, hBf⟩
  · refine (rload_any A c l has nx W (Kd.C_below HC.out hB0) hc).mono ?_
    have hL : loadL l has nx = Rg.new := by rw [loadL, if_neg hE]
    have hd : (loadE l has nx != 0) = true := by simpa using hE
    rw [hL]
    rintro e w1 ⟨v, rfl, hR1, hB1⟩
    obtain ⟨A1, c1, rfl, -, -⟩ := Kd.R_reads hR1
    have hC1 := below_then hB0 hB1
    simp only [Rg.new, Wt.zero]
    clear hB0 hB1 hR1 hL hE
    go_wp2_with fail
    refine (awake_any _).mono ?_
    rintro e w2 ⟨rfl, hB2⟩
    go_wp2
    go_ret
    exact ⟨rfl, below_then (below_al hC1 _) hB2⟩
theorem ringLeaves.walk (w : World) (cs : Array Value) (s : List Wt × Bool × Wt) (hK : kS.K w s cs.toList) (hG : s.1.length * 24 ≤ reachBytes) (cx : Array Value) (x : Wt) (hX : kW.K w x cx.toList) (_ : True) : Calls Try.prog 4 #[.agg cs, .agg cx] w fun e w' => e = .returned (.bool true) ∧ Below w.heap.size w w' := by
  obtain ⟨A, c, hcs, hc, hC⟩ := kS_open hK
  obtain rfl := Array.toList_inj.1 hcs
  obtain rfl : cx = #[.int .i64 x.s, .int .i64 x.g, .int .u64 x.t] := Array.toList_inj.1 (kW_open hX)
  exact RingLeaves0.walk w A c s.1 s.2.1 s.2.2 x hC hc (by unfold reachBytes at hG; omega)
theorem ringLeaves.own : ownKnob Try.prog.godebug = none := by kernel_rfl
theorem ringLeaves.laidOut : laidOutB Try.prog = true := by kernel_rfl
set_option maxRecDepth 100000 in
set_option maxHeartbeats 1000000 in
theorem ringLeaves.lifted (os : Os) (started : os.Started) (H : Type) (enc : TypeId × Value → H)
    : ReturnsInHanded {} Try.checked os 4 .any (Rows.ringLeavesSpec.pre6 enc Try.prog Try.f4 Rows.ringLeavesRow.domain false) (Rows.ringLeavesSpec.post enc Try.prog Try.f4 false true false false) := by
  refine returnsInHanded_of_change_sized (C := Try.checked) ringLeaves.own started (by kernel_rfl) Try.func4
    (ChangeSpec.witness6 (enc := enc) (C := Try.checked) false ⟨#[], #[.agg #[.slice none 0 0, .bool false, .int .i64 0, .int .i64 0, .int .u64 0], .agg #[.int .i64 0, .int .i64 0, .int .u64 0]], []⟩ 8 (by kernel_rfl) (by kernel_rfl) (by kernel_rfl) (by kernel_rfl)) ?_
  intro W base args ds gs before hval0 hW hcnd hsz0 _
  have hsz : (DataW.weightsEach Try.prog (Try.f4.params.toList ++ Rows.ringLeavesSpec.plain.varTypes Try.prog) (ds ++ gs)).all (· ≤ reachBytes) = true := hsz0
  have hval : ∀ (j : Nat) t v, Try.f4.params[j]? = some t → args[j]? = some v → Value.okWide Try.prog W .any base t v := hval0
  have hW' := hW
  obtain ⟨p, q, hA0, hV, rfl, hfz, hnd⟩ := hW
  have hA : DataW.TrodAll enc Try.prog W 0 (fun _ => true) true Try.f4.params.toList args.toList ds p := hA0
  rw [Try.params4] at hA hval hsz
  obtain ⟨v0, vs0, d0, ds0, p0, q0, hargs, rfl, rfl, h0, r0⟩ := trodAll_cons hA
  obtain ⟨v1, vs1, d1, ds1, p1, q1, rfl, rfl, rfl, h1, r1⟩ := trodAll_cons r0
  obtain ⟨rfl, rfl, rfl⟩ := trodAll_nil r1
  obtain rfl : args = #[v0, v1] := by cases args; simp_all
  obtain ⟨rfl, rfl⟩ := trodVars_none hV
  have k0 := h0
  have lt0 : ∀ x ∈ p0, x.block < W.heap.size := by obtain ⟨m, hm⟩ := k0; exact DataW.trod_lt m _ _ _ hm
  have W0 := Op.weights_of hsz (j := 0) (t := 29) (d := d0) rfl rfl
  obtain ⟨cs0, rfl, sz0⟩ := okWide_struct Try.underlying29 (hval 0 29 v0 rfl rfl)
  obtain ⟨f0, hf0⟩ := h0
  obtain ⟨a0, hK0, hG0, hM0⟩ := opensS H enc W _ true f0 _ (d0, p0) hf0 W0
  have k1 := h1
  have lt1 : ∀ x ∈ p1, x.block < W.heap.size := by obtain ⟨m, hm⟩ := k1; exact DataW.trod_lt m _ _ _ hm
  have W1 := Op.weights_of hsz (j := 1) (t := 27) (d := d1) rfl rfl
  obtain ⟨cs1, rfl, sz1⟩ := okWide_struct Try.underlying27 (hval 1 27 v1 rfl rfl)
  obtain ⟨f1, hf1⟩ := h1
  obtain ⟨a1, hK1, hG1, hM1⟩ := opensW H enc W _ true f1 _ (d1, p1) hf1 W1
  clear hA0 hval0 hsz0 hsz
  refine (ringLeaves.walk W cs0 a0 hK0 hG0 cs1 a1 hK1 hG1).mono fun e W' ⟨he, bel⟩ => ?_
  subst he
  exact ⟨_, rfl, _, _, _, [], _, [], hW', trodAll_mk1 (shut_bool Try.underlying4 _), (trodAll_cons_mk (Below.trod ringLeaves.laidOut (by kernel_rfl) (of_decide_eq_true (by kernel_rfl)) k0 bel lt0) (trodAll_cons_mk (Below.trod ringLeaves.laidOut (by kernel_rfl) (of_decide_eq_true (by kernel_rfl)) k1 bel lt1) trodAll_mk0)), rfl, bel.frame _, fun h => by cases h⟩
theorem ringLeaves_holds : Rows.RingLeavesSaid :=
  OpenClaim.holds_of_wide 4 Try.f4 rfl rfl rfl rfl rfl rfl rfl ⟨rfl, rfl, rfl, rfl, rfl⟩ rfl rfl rfl rfl rfl (by kernel_rfl) Try.func4 (by kernel_rfl)
    (of_decide_eq_true (by kernel_rfl)) (by unfold Func.isWrapper; first | (rw [if_pos (by decide +kernel)]; kernel_rfl) | (rw [if_neg (by decide +kernel)]; exact ⟨rfl, rfl⟩))
    (fun os started H enc _ => ringLeaves.lifted os started H enc)
#print axioms ringLeaves_holds

end Go.Proofs.Ytjjdojnnomokaaa
