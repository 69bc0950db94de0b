import Derived.Test.YtnglgjegkjfnaaaSlO
set_option linter.unusedSimpArgs false
set_option linter.unusedVariables false
namespace Go.Proofs.Ytnglgjegkjfnaaa
open Go.RowKit Go.Proofs.YtnglgjegkjfnaaaW.PrintWords Go.Proofs.YtnglgjegkjfnaaaW.PrintMore Go.Proofs.YtnglgjegkjfnaaaW.PrintLast
/-! Give where the cache runs over: printed by gen04e.py. -/
set_option maxRecDepth 100000 in
set_option maxHeartbeats 8000000 in
theorem give_full {b n i : Nat} {g : Int} {s : Sl} {base : Nat} {col : Nat → Nat} (w : World) (hb : base ≤ w.heap.size) (h : IsSlab TS w base b col s) (hO : Ok s) (hpn : n < s.caches.length) (hal : aliveS s i g = true) (hil : i < s.gens.length) (hg : g ≠ 2147483647) (y : List Int) (hy : s.caches[n]? = some y) (hy63 : y.length = 63) : Calls Try.prog 24 #[.pointer (some ⟨b, 0, none⟩), .int .i64 n, .agg #[.int .i64 i, .int .i64 g]] w (FlushP base b col (giveS s n i g) w) := by
  have hpr : procS s n = true := procS_iff.2 ⟨by omega, by omega⟩
  have HT : Aside0 (giveS s n i g = ({ s with alive := s.alive.set i false, caches := s.caches.set n ((y ++ [(i : Int)]).drop 32), free := s.free ++ (y ++ [(i : Int)]).take 32 }, 0)) := ⟨by
    rw [giveS, if_pos hpr, if_pos hal, if_neg hg, Int.toNat_natCast, Int.toNat_natCast, giveBack]
    simp only [getD_some hy]
    rw [if_pos (by rw [List.length_append, List.length_singleton]; omega)]⟩
  have hy63a : 63 ≤ y.length := by omega
  have hy63b : y.length ≤ 63 := by omega
  clear hy63
  have hyl := hO.cl y (List.mem_of_getElem? hy)
  have hfl := hO.fl
  have hc64 := hO.c1
  have hgd : (g == 2147483647) = false := by simpa using hg
  clear hg
  have hB : Below w.heap.size w (w.alloc (.cells #[.int .i64 i, .int .i64 g] 48)) := below_al (Below.refl _ _) _
  have hX : (w.alloc (.cells #[.int .i64 i, .int .i64 g] 48)).heap[w.heap.size]? = some (.cells #[.int .i64 i, .int .i64 g] 48 (0, 0)) := blk_new _ _
  have H := Aside0.mk (h.below hB)
  have hHz : col w.heap.size = 0 := h.z _ (Nat.le_refl _)
  have hia : i < s.alive.length := by have := hO.a; omega
  have x0 := cell_blk hX 0
  have x1 := cell_blk hX 1
  have hXl := lt_blk hX
  clear h
  go_enter Try.func24, Try.ntmps24
  go_wp2_with fail
  refine (proc_slab n _ H.out hO.l0).mono ?_
  rw [hpr]
  rintro e w1 ⟨rfl, rfl⟩
  go_wp2_with fail
  refine (alive_slab i g _ H.out hO.l0 hO.a).mono ?_
  rw [hal]
  rintro e w2 ⟨rfl, hB2⟩
  have hX2 := blk_below hX hB2
  have hB02 := below_then hB hB2
  obtain ⟨vG, vA, vC, vF, vs, h2⟩ := H.out.below hB2
  obtain ⟨ga, oa, ca, he, hga, hga3, hata⟩ := h2.r.a.form (by rw [bools_len]; omega)
  subst he
  have hya := (hata i).1 _ (bools_get (List.getElem?_eq_getElem hia))
  have hfa := (hata i).2
  obtain ⟨-, -, k2, -, -⟩ := h2.cells
  rw [bools_len] at k2
  have hone := h2.one
  have hlt2 := lt_blk h2.blk
  have x0 := cell_blk hX2 0
  have x1 := cell_blk hX2 1
  simp at x0 x1
  have hXl := lt_blk hX2
  have hii : (i : Int) < (s.alive.length : Int) := by omega
  have hxa : w.heap.size ≠ ga := fun e => by rw [← e] at hga3; omega
  have HH2 := Aside0.mk h2
  have HX2 := Aside0.mk hX2
  have hs02 := hB02.size
  clear hata h2 hX2 hX hB2 H
  go_wp2_with fail
  have hd2 : Below w2.heap.size w2 w2.drew := (Below.refl _ _).drew
  obtain ⟨col4, hQ4, hN4⟩ := (HH2.out.below hd2).mark (by have := hd2.size; omega) hia false
  rw [show w2.drew.setCell ⟨ga, oa + i, none⟩ (.bool false) = (w2.setCell ⟨ga, oa + i, none⟩ (.bool false)).drew from rfl] at hQ4 hN4
  have HN4 := Aside0.mk ((Nx.of_below (c := col) (below_then hB02 hd2)).trans hN4)
  have hX4 := blk_keep (blk_below HX2.out hd2) hN4.keep (fun h => h hHz)
  have hs4 := HN4.out.keep.size
  go_region
  generalize (w2.setCell ⟨ga, oa + i, none⟩ (.bool false)).drew = W4 at *
  clear x0 x1 hya hfa k2 hXl hlt2 HH2 HX2 hN4 hii hd2
  have x0 := cell_blk hX4 0
  have x1 := cell_blk hX4 1
  simp at x0 x1
  have hXl := lt_blk hX4
  obtain ⟨gC, oC, cC, he, hgC, hg4, hat⟩ := hQ4.r.c.form (by rw [hQ4.r.l]; show 0 < s.caches.length; omega)
  obtain ⟨v, hv, hvrow⟩ := hQ4.r.v _ _ hy
  have hcell := (hat _).1 _ hv
  have hfz := (hat n).2
  obtain ⟨Av, cv, rfl, -⟩ := hvrow.slice
  subst he
  obtain ⟨AF, cF, rfl, -⟩ := hQ4.r.f.slice
  obtain ⟨-, -, -, c3, c4⟩ := hQ4.cells
  have hvl := hQ4.r.l
  simp only at hvl
  rw [hvl] at c3
  rw [ints_len] at hcell c4
  have hfb4 := (froz5 hQ4.blk).2.2.2.2
  have hb1 := hQ4.one
  have HVR4 := Aside0.mk hvrow
  have HQ4 := Aside0.mk hQ4
  have hlt4 := lt_blk hQ4.blk
  clear hvrow hat hv hQ4 hX4
  go_wp2_with fail
  have hx0 : Below W4.heap.size W4 W4.drew := (Below.refl _ _).drew
  have HU0 := Aside0.mk (HQ4.out.below hx0)
  have HVR := Aside0.mk (HVR4.out.below hx0)
  have k3 : W4.drew.cell? ⟨b, 3, none⟩ = some (.slice (some ⟨gC, oC, none⟩) s.caches.length cC) := c3
  have kc : W4.drew.cell? ⟨gC, oC + n, none⟩ = some (.slice Av y.length cv) := hcell
  have kx : W4.drew.cell? ⟨w.heap.size, 0, none⟩ = some (.int .i64 i) := x0
  have hfc : W4.drew.frozen? ⟨gC, oC + n, none⟩ = false := hfz
  have hfb4 : W4.drew.frozen? ⟨b, 4, none⟩ = false := hfb4
  have kf0 : W4.drew.cell? ⟨b, 4, none⟩ = some (.slice AF s.free.length cF) := c4
  have hgCx : gC < W4.drew.heap.size := hgC
  have hbx : b < W4.drew.heap.size := hlt4
  have hsx : W4.heap.size ≤ W4.drew.heap.size := hx0.size
  clear c3 hcell x0 x1 hfz c4 hgC hlt4 HQ4 HVR4
  refine start_ (n := 12) (S := fun w' => w'.cell? ⟨b, 3, none⟩ = some (.slice (some ⟨gC, oC, none⟩) s.caches.length cC) ∧ w'.cell? ⟨gC, oC + n, none⟩ = some (.slice Av y.length cv) ∧ w'.cell? ⟨w.heap.size, 0, none⟩ = some (.int .i64 i)) (ds := [10]) #[false, false, false, false, false, false, false, false, false, false, false, false] (by kernel_rfl) rfl rfl ⟨k3, kc, kx⟩ (fun hHeld => ?_)
  generalize W4.drew = u0 at *
  refine pure_ (i := 0) (N := some 28) (v := ?_) (a' := ?_) #[true, false, false, false, false, false, false, false, false, false, false, false] rfl rfl (by kernel_rfl) (fun _ _ _ h => h) (Or.inl ⟨by rfl, ?_⟩) ?_ ?_
  rotate_left
  · intro w'
    go_simp
    with_reducible rfl
  rotate_left
  · simp only [Act.put, List.setIfInBounds_toArray, List.set_cons_zero, List.set_cons_succ]
    rfl
  refine pure_ (i := 1) (N := some 29) (v := ?_) (a' := ?_) #[true, true, false, false, false, false, false, false, false, false, false, false] rfl rfl (by kernel_rfl) (fun _ _ _ h => h) (Or.inl ⟨by rfl, ?_⟩) ?_ ?_
  rotate_left
  · intro w'
    go_simp
    with_reducible rfl
  rotate_left
  · simp only [Act.put, List.setIfInBounds_toArray, List.set_cons_zero, List.set_cons_succ]
    rfl
  refine pure_ (i := 2) (N := some 30) (v := ?_) (a' := ?_) #[true, true, true, false, false, false, false, false, false, false, false, false] rfl rfl (by kernel_rfl) (fun _ _ _ h => h) (Or.inl ⟨by rfl, ?_⟩) ?_ ?_
  rotate_left
  · intro w'
    go_simp
    with_reducible rfl
  rotate_left
  · simp only [Act.put, List.setIfInBounds_toArray, List.set_cons_zero, List.set_cons_succ]
    rfl
  refine pure_ (i := 4) (N := some 32) (v := ?_) (a' := ?_) #[true, true, true, false, true, false, false, false, false, false, false, false] rfl rfl (by kernel_rfl) (fun _ _ _ h => h) (Or.inl ⟨by rfl, ?_⟩) ?_ ?_
  rotate_left
  · intro w'
    go_simp
    with_reducible rfl
  rotate_left
  · simp only [Act.put, List.setIfInBounds_toArray, List.set_cons_zero, List.set_cons_succ]
    rfl
  refine pure_ (i := 7) (N := some 35) (v := ?_) (a' := ?_) #[true, true, true, false, true, false, false, true, false, false, false, false] rfl rfl (by kernel_rfl) (fun _ _ _ h => h) (Or.inl ⟨by rfl, ?_⟩) ?_ ?_
  rotate_left
  · intro w'
    go_simp
    with_reducible rfl
  rotate_left
  · simp only [Act.put, List.setIfInBounds_toArray, List.set_cons_zero, List.set_cons_succ]
    rfl
  refine take_ (i := 3) (N := some 31) (v := ?_) (a' := ?_) #[true, true, true, true, true, false, false, true, false, false, false, false] rfl rfl (by kernel_rfl) (fun _ _ _ h => h) (Or.inl ⟨by rfl, ?_⟩) hHeld ?_ ?_
  rotate_left
  · rintro w' ⟨s0, s1, s2⟩
    go_simp
    with_reducible rfl
  rotate_left
  · simp only [Act.put, List.setIfInBounds_toArray, List.set_cons_zero, List.set_cons_succ]
    rfl
  refine pure_ (i := 5) (N := some 33) (v := ?_) (a' := ?_) #[true, true, true, true, true, true, false, true, false, false, false, false] rfl rfl (by kernel_rfl) (fun _ _ _ h => h) (Or.inl ⟨by rfl, ?_⟩) ?_ ?_
  rotate_left
  · intro w'
    go_simp
    with_reducible rfl
  rotate_left
  · simp only [Act.put, List.setIfInBounds_toArray, List.set_cons_zero, List.set_cons_succ]
    rfl
  refine take_ (i := 6) (N := some 34) (v := ?_) (a' := ?_) #[true, true, true, true, true, true, true, true, false, false, false, false] rfl rfl (by kernel_rfl) (fun _ _ _ h => h) (Or.inl ⟨by rfl, ?_⟩) hHeld ?_ ?_
  rotate_left
  · rintro w' ⟨s0, s1, s2⟩
    go_simp
    with_reducible rfl
  rotate_left
  · simp only [Act.put, List.setIfInBounds_toArray, List.set_cons_zero, List.set_cons_succ]
    rfl
  refine take_ (i := 8) (N := some 36) (v := ?_) (a' := ?_) #[true, true, true, true, true, true, true, true, true, false, false, false] rfl rfl (by kernel_rfl) (fun _ _ _ h => h) (Or.inl ⟨by rfl, ?_⟩) hHeld ?_ ?_
  rotate_left
  · rintro w' ⟨s0, s1, s2⟩
    go_simp
    with_reducible rfl
  rotate_left
  · simp only [Act.put, List.setIfInBounds_toArray, List.set_cons_zero, List.set_cons_succ]
    rfl
  refine one_ (i := 9) (N := some 37) #[true, true, true, true, true, true, true, true, true, true, false, false] rfl rfl (by kernel_rfl) (by decide) (fun K hK => ?_)
  refine value_ (w1 := ?_) (v := ?_) (by rfl) rfl ?_ ?_
  rotate_left 2
  · go_simp
    constructor
    · rfl
    · rfl
  have hS1 : Below u0.heap.size u0 (u0.alloc (.cells #[.int .i64 i] 3)) := below_al (Below.refl _ _) _
  have hI : (u0.alloc (.cells #[.int .i64 i] 3)).heap[u0.heap.size]? = some (.cells #[.int .i64 i] 3 (0, 0)) := blk_new _ _
  generalize u0.alloc (.cells #[.int .i64 i] 3) = u1 at *
  have hz1 := hS1.size
  refine hK.out _ _ ⟨pw_cell_below hS1 k3, pw_cell_below hS1 kc, pw_cell_below hS1 kx⟩ (fun hHeld => ?_)
  clear hK K
  refine norm_ (a' := ?_) ?_ ?_
  rotate_left
  · show Act.put _ (some 37) _ = _
    simp only [Act.put, List.setIfInBounds_toArray, List.set_cons_zero, List.set_cons_succ]
    rfl
  refine last_ (i := 10) (N := some 38) #[true, true, true, true, true, true, true, true, true, true, true, false] rfl rfl (by kernel_rfl) (by decide) (fun K hK => ?_)
  obtain ⟨v5, w5, hr5, hrow5, hg5⟩ := row_append (P := Try.prog) (t := 26) Try.underlying26 infoIn rfl (by omega) (HVR.out.below hS1) (some ⟨u0.heap.size, 0, none⟩) 1 1 [.int .i64 i] rfl (fun _ => ⟨_, rfl, fun j u hj => by match j, hj with | 0, hj => (obtain rfl : Value.int .i64 i = u := by simpa using hj); rw [adds]; exact cell_blk hI 0⟩) (fun u hu => by rw [List.mem_singleton.1 hu]; rfl) (by rw [ints_len]; omega) (by omega)
  rw [ints_len] at hr5
  refine app_ (.tmp 34) (.tmp 37) 26 (by rfl) rfl rfl rfl rfl hr5 ?_
  have hK5 := grown_keep hg5 HVR.out.own
  obtain ⟨A5, c5, he5, -⟩ := hrow5.slice
  rw [List.length_append, ints_len, List.length_singleton] at he5
  subst he5
  have hrow5 : Row w5 base (fun k => col4 k = 6 + n ∨ u0.heap.size ≤ k) 3 (.slice A5 (y.length + 1) c5) (ints (y ++ [(i : Int)])) := by rw [ints_append]; exact hrow5.mono (fun k _ h => h.imp id (fun h => by omega))
  have hK05 : Keep (fun k => col4 k = 6 + n) u0 w5 := (Keep.of_below hS1).trans hK5
  have hz5 := hK05.size
  refine hK.out _ _ ?_
  clear hK K
  refine norm_ (a' := ?_) ?_ ?_
  rotate_left
  · show Act.put _ (some 38) _ = _
    simp only [Act.put, List.setIfInBounds_toArray, List.set_cons_zero, List.set_cons_succ]
    rfl
  refine pure_ (i := 11) (N := some 7) (v := ?_) (a' := ?_) #[true, true, true, true, true, true, true, true, true, true, true, true] rfl rfl (by kernel_rfl) (fun _ _ _ h => h) (Or.inl ⟨by rfl, ?_⟩) ?_ ?_
  rotate_left
  · intro w'
    go_simp
    with_reducible rfl
  rotate_left
  · simp only [Act.put, List.setIfInBounds_toArray, List.set_cons_zero, List.set_cons_succ]
    rfl
  refine done_ (by kernel_rfl) ?_
  have hne : (((y.length + 1 : Nat) : Int) == 64) = true := by rw [show y.length + 1 = 64 by omega]; rfl
  obtain ⟨g5, o5, c5', he5, hg5l, hg5o, hat5⟩ := hrow5.form (by rw [ints_len]; simp)
  rw [ints_len, List.length_append, List.length_singleton] at he5
  injection he5 with h51 h52 h53
  subst h51; subst h53; clear h52
  have hc5l := hrow5.lens.2
  have hd5 : Below w5.heap.size w5 w5.drew := (Below.refl _ _).drew
  have hFr : Row w5.drew base (fun k => col4 k = 5) 3 (.slice AF (ints s.free).length cF) (ints s.free) := (HU0.out.r.f.keep hK05 (fun j hj h => by omega)).below hd5
  have h5d := hrow5.below hd5
  have kf : w5.drew.cell? ⟨b, 4, none⟩ = some (.slice AF s.free.length cF) := (keep_cell hK05 hbx (by omega) 4).1.trans kf0
  have hf4 : w5.drew.frozen? ⟨b, 4, none⟩ = false := (keep_cell hK05 hbx (by omega) 4).2.trans hfb4
  have hbx6 : b < w5.drew.heap.size := Nat.lt_of_lt_of_le hbx hK05.size
  have hd5s : w5.heap.size ≤ w5.drew.heap.size := hd5.size
  have hat5' : ∀ j u, (ints (y ++ [(i : Int)]))[j]? = some u → w5.drew.cell? ⟨g5, o5 + j, none⟩ = some u := fun j u hj => (hat5 j).1 u hj
  have hc5b : y.length + 1 ≤ c5 := hc5l
  clear hc5l
  have h32 : (32 : Int) ≤ (c5 : Int) := by omega
  have h32b : (32 : Int) ≤ (y.length : Int) + 1 := by omega
  have h32c : ¬ c5 = 32 := by omega
  have hb4' : w5.cell? ⟨b, 4, none⟩ = some (.slice AF s.free.length cF) := kf
  go_wp2_with fail
  refine start_ (n := 11) (S := fun w' => w'.cell? ⟨b, 4, none⟩ = some (.slice AF s.free.length cF)) (ds := [7, 10]) #[false, false, false, false, false, false, false, false, false, false, false] (by kernel_rfl) rfl rfl (kf) (fun hHeld => ?_)
  generalize w5.drew = u6 at *
  refine pure_ (i := 0) (N := some 42) (v := ?_) (a' := ?_) #[true, false, false, false, false, false, false, false, false, false, false] rfl rfl (by kernel_rfl) (fun _ _ _ h => h) (Or.inl ⟨by rfl, ?_⟩) ?_ ?_
  rotate_left
  · intro w'
    go_simp
    with_reducible rfl
  rotate_left
  · simp only [Act.put, List.setIfInBounds_toArray, List.set_cons_zero, List.set_cons_succ]
    rfl
  refine pure_ (i := 1) (N := some 43) (v := ?_) (a' := ?_) #[true, true, false, false, false, false, false, false, false, false, false] rfl rfl (by kernel_rfl) (fun _ _ _ h => h) (Or.inl ⟨by rfl, ?_⟩) ?_ ?_
  rotate_left
  · intro w'
    go_simp
    with_reducible rfl
  rotate_left
  · simp only [Act.put, List.setIfInBounds_toArray, List.set_cons_zero, List.set_cons_succ]
    rfl
  refine pure_ (i := 2) (N := some 44) (v := ?_) (a' := ?_) #[true, true, true, false, false, false, false, false, false, false, false] rfl rfl (by kernel_rfl) (fun _ _ _ h => h) (Or.inl ⟨by rfl, ?_⟩) ?_ ?_
  rotate_left
  · intro w'
    go_simp
    with_reducible rfl
  rotate_left
  · simp only [Act.put, List.setIfInBounds_toArray, List.set_cons_zero, List.set_cons_succ]
    rfl
  refine pure_ (i := 3) (N := some 45) (v := ?_) (a' := ?_) #[true, true, true, true, false, false, false, false, false, false, false] rfl rfl (by kernel_rfl) (fun _ _ _ h => h) (Or.inl ⟨by rfl, ?_⟩) ?_ ?_
  rotate_left
  · intro w'
    go_simp
    with_reducible rfl
  rotate_left
  · simp only [Act.put, List.setIfInBounds_toArray, List.set_cons_zero, List.set_cons_succ]
    rfl
  refine pure_ (i := 5) (N := some 47) (v := ?_) (a' := ?_) #[true, true, true, true, false, true, false, false, false, false, false] rfl rfl (by kernel_rfl) (fun _ _ _ h => h) (Or.inl ⟨by rfl, ?_⟩) ?_ ?_
  rotate_left
  · intro w'
    go_simp
    with_reducible rfl
  rotate_left
  · simp only [Act.put, List.setIfInBounds_toArray, List.set_cons_zero, List.set_cons_succ]
    rfl
  refine pure_ (i := 6) (N := some 48) (v := ?_) (a' := ?_) #[true, true, true, true, false, true, true, false, false, false, false] rfl rfl (by kernel_rfl) (fun _ _ _ h => h) (Or.inl ⟨by rfl, ?_⟩) ?_ ?_
  rotate_left
  · intro w'
    go_simp
    with_reducible rfl
  rotate_left
  · simp only [Act.put, List.setIfInBounds_toArray, List.set_cons_zero, List.set_cons_succ]
    rfl
  refine take_ (i := 4) (N := some 46) (v := ?_) (a' := ?_) #[true, true, true, true, true, true, true, false, false, false, false] rfl rfl (by kernel_rfl) (fun _ _ _ h => h) (Or.inl ⟨by rfl, ?_⟩) hHeld ?_ ?_
  rotate_left
  · intro w' s0
    go_simp
    with_reducible rfl
  rotate_left
  · simp only [Act.put, List.setIfInBounds_toArray, List.set_cons_zero, List.set_cons_succ]
    rfl
  refine last_ (i := 7) (N := some 49) #[true, true, true, true, true, true, true, true, false, false, false] rfl rfl (by kernel_rfl) (by decide) (fun K hK => ?_)
  obtain ⟨v6, w6, hr6, hrow6, hg6⟩ := row_append (P := Try.prog) (t := 26) Try.underlying26 infoIn rfl (by omega) hFr (some ⟨g5, o5, none⟩) 32 c5 (ints ((y ++ [(i : Int)]).take 32)) (by rw [ints_len, List.length_take, List.length_append, List.length_singleton]; omega) (fun _ => ⟨_, rfl, fun j u hj => by rw [ints_take, List.getElem?_take] at hj; split at hj; (rw [adds]; exact hat5' j u hj); cases hj⟩) ints_one (by rw [ints_len]; show (s.free.length + 32) * 8 ≤ _; omega) (by omega)
  rw [ints_len] at hr6
  refine app_ (.tmp 46) (.tmp 48) 26 (by rfl) rfl rfl rfl rfl hr6 ?_
  have hK6 := grown_keep hg6 hFr.own
  obtain ⟨A6, c6, he6, -⟩ := hrow6.slice
  rw [← ints_append] at hrow6
  rw [← ints_append, ints_len, List.length_append, show ((y ++ [(i : Int)]).take 32).length = 32 by rw [List.length_take, List.length_append, List.length_singleton]; omega] at he6
  subst he6
  have hc64' := (keep_cell hK6 hbx6 (by omega) 4).1.trans kf
  have hf64 := (keep_cell hK6 hbx6 (by omega) 4).2.trans hf4
  have hz6 := hK6.size
  refine hK.out _ _ ?_
  clear hK K
  refine norm_ (a' := ?_) ?_ ?_
  rotate_left
  · show Act.put _ (some 49) _ = _
    simp only [Act.put, List.setIfInBounds_toArray, List.set_cons_zero, List.set_cons_succ]
    rfl
  refine pure_ (i := 8) (N := some 50) (v := ?_) (a' := ?_) #[true, true, true, true, true, true, true, true, true, false, false] rfl rfl (by kernel_rfl) (fun _ _ _ h => h) (Or.inl ⟨by rfl, ?_⟩) ?_ ?_
  rotate_left
  · intro w'
    go_simp
    with_reducible rfl
  rotate_left
  · simp only [Act.put, List.setIfInBounds_toArray, List.set_cons_zero, List.set_cons_succ]
    rfl
  refine pure_ (i := 9) (N := some 51) (v := ?_) (a' := ?_) #[true, true, true, true, true, true, true, true, true, true, false] rfl rfl (by kernel_rfl) (fun _ _ _ h => h) (Or.inl ⟨by rfl, ?_⟩) ?_ ?_
  rotate_left
  · intro w'
    go_simp
    with_reducible rfl
  rotate_left
  · simp only [Act.put, List.setIfInBounds_toArray, List.set_cons_zero, List.set_cons_succ]
    rfl
  refine last_ (i := 10) (N := none) #[true, true, true, true, true, true, true, true, true, true, true] rfl rfl (by kernel_rfl) (by decide) (fun K hK => ?_)
  refine skip_ (w1 := ?_) (by rfl) rfl ?_ ?_
  rotate_left
  · go_simp
    first | with_reducible rfl | rfl
  refine hK.out _ _ ?_
  clear hK K
  refine done_ (by kernel_rfl) ?_
  have hst : Keep (fun k => k = b) w6 (w6.setCell ⟨b, 4, none⟩ (.slice A6 (s.free.length + 32) c6)) := (by repeat (first | (with_reducible exact Keep.refl _ _) | (with_reducible refine Keep.drewN ?_ _) | (with_reducible refine Keep.drew ?_) | (with_reducible refine Keep.setCell ?_ _ _ (by first | (right; with_reducible rfl) | (left; simp; done) | (left; simp; omega) | (right; simp; done) | (right; assumption))) | (with_reducible refine Keep.alloc ?_ _)))
  have hsz67 : (w6.setCell ⟨b, 4, none⟩ (.slice A6 (s.free.length + 32) c6)).heap.size = w6.heap.size := by simp [World.setCell]
  have hb6 := blk_keep (blk_keep (blk_keep HU0.out.blk hK05 (by omega)) (F := fun _ => False) (Keep.of_below hd5) (fun h => h)) hK6 (by omega)
  have hbk := blk_set (i := 4) (u := .slice A6 (s.free.length + 32) c6) hb6
  simp only [List.setIfInBounds_toArray, List.set_cons_zero, List.set_cons_succ] at hbk
  have hF6 := (hrow6.mono (ok' := fun k => col4 k = 5 ∨ u0.heap.size ≤ k ∧ k < w6.heap.size) (fun k hl h => h.imp id (fun h => ⟨by omega, hl⟩))).keep hst (fun j hj h => by subst hj; rcases h with h | h <;> omega)
  have hc6 := (h5d.keep hK6 (fun j hj h => by have hz := HU0.out.r.z j; rcases h with h | h <;> omega)).keep hst (fun j hj h => by subst hj; rcases h with h | h <;> omega)
  have hdr := hc6.drop (k := 32) (by rw [ints_len, List.length_append, List.length_singleton]; omega)
  rw [← ints_drop, if_neg (by omega), Option.map_some, adds, Nat.mul_one, show y.length + 1 - 32 = 32 by omega] at hdr
  have hKK : Keep (fun k => col4 k = 1 ∨ col4 k = 5 ∨ col4 k = 6 + n) u0 (w6.setCell ⟨b, 4, none⟩ (.slice A6 (s.free.length + 32) c6)) := (((hK05.mono (fun _ _ h => .inr (.inr h))).trans (Keep.of_below hd5)).trans (hK6.mono (fun _ _ h => .inr (.inl h)))).trans (hst.mono (fun _ _ h => by subst h; exact .inl hb1))
  have h3w : (w6.setCell ⟨b, 4, none⟩ (.slice A6 (s.free.length + 32) c6)).cell? ⟨b, 3, none⟩ = some (.slice (some ⟨gC, oC, none⟩) s.caches.length cC) := by
    have := cell_blk hbk 3
    rw [hvl] at this
    simpa using this
  have hcc := (keep_cell hKK hgCx (by omega) (oC + n)).1.trans kc
  have hcf := (keep_cell hKK hgCx (by omega) (oC + n)).2.trans hfc
  have hbl7 := lt_blk hbk
  have hs7 := hKK.size
  have hdl : ((y ++ [(i : Int)]).drop 32).length = 32 := by rw [List.length_drop, List.length_append, List.length_singleton]; omega
  have HF6 := Aside0.mk hF6
  have HBK := Aside0.mk hbk
  have HKK := Aside0.mk hKK
  have HDR := Aside0.mk hdr
  have hw32 : y.length + 1 - 32 = 32 := by omega
  clear hF6 hbk hKK hdr hc6 hst hb6 hc64' hf64 kf hf4 h5d hFr hrow6 hrow5
  go_wp2_with fail
  generalize w6.setCell ⟨b, 4, none⟩ (.slice A6 (s.free.length + 32) c6) = w7 at *
  refine (cloneI (.slice (some ⟨g5, o5 + 32, none⟩) 32 (c5 - 32)) (ints ((y ++ [(i : Int)]).drop 32)) w7 HDR.out.reads (by rw [ints_len, hdl]; omega)).mono ?_
  rintro e w8 ⟨v8, rfl, hR8, hS8⟩
  obtain ⟨A8, c8, rfl, -⟩ := hR8.slice
  rw [ints_len, hdl] at hR8 ⊢
  have h38 := pw_cell_below hS8 h3w
  have hc8 := pw_cell_below hS8 hcc
  have hf8 := (keep_cell (Keep.of_below (F := fun _ => False) hS8) (show gC < w7.heap.size by omega) (fun h => h) (oC + n)).2.trans hcf
  have hs8 := hS8.size
  obtain ⟨col9, hQ9, hN9⟩ := HU0.out.both (new := fun k => if k < w7.heap.size then 5 else 6 + n) (by omega) rfl hpn (HKK.out.trans (Keep.of_below hS8)) (blk_below HBK.out hS8)
    ((HF6.out.below hS8).mono (fun k _ h => h.imp id (fun h => ⟨h.1, if_pos (by omega)⟩))) (Row.mono (ok := fun k => w7.heap.size ≤ k) ⟨fun k hk => hR8.base_le k hk, (hR8.lower (by omega)).row, hR8.one⟩ (fun k _ h => .inr ⟨by omega, if_neg (by omega)⟩))
  have HQ9 := Aside0.mk hQ9
  have HN9 := Aside0.mk ((HN4.out.trans (Nx.of_below hx0)).trans hN9)
  clear hQ9 hN9 hR8 hcc hcf h3w
  go_wp2
  go_ret
  unfold FlushP
  rw [HT.out]
  exact ⟨col9, rfl, ⟨_, _, _, _, _, HQ9.out⟩, HN9.out⟩
end Go.Proofs.Ytnglgjegkjfnaaa
set_option linter.unusedSimpArgs false
set_option linter.unusedVariables false
namespace Go.Proofs.Ytnglgjegkjfnaaa
open Go.RowKit Go.Proofs.YtnglgjegkjfnaaaW.PrintWords Go.Proofs.YtnglgjegkjfnaaaW.PrintMore Go.Proofs.YtnglgjegkjfnaaaW.PrintLast
/-! Flush, Give, whichever way. -/
theorem flush_slab {b : Nat} {s : Sl} {base : Nat} {col : Nat → Nat} (p : Int) (w : World) (hb : base ≤ w.heap.size) (h : IsSlab TS w base b col s) (hO : Ok s) : Calls Try.prog 25 #[.pointer (some ⟨b, 0, none⟩), .int .i64 p] w (FlushP base b col (flushS s p) w) := by
  cases hpr : procS s p with
  | false => exact flush_out p w h hO hpr
  | true =>
    obtain ⟨h0, h1⟩ := procS_iff.1 hpr
    obtain ⟨n, rfl⟩ := Int.eq_ofNat_of_zero_le h0
    exact flush_in w hb h hO (by omega)
theorem give_slab {b : Nat} {s : Sl} {base : Nat} {col : Nat → Nat} (p x g : Int) (w : World) (hb : base ≤ w.heap.size) (h : IsSlab TS w base b col s) (hO : Ok s) (hc : ∀ c ∈ s.caches, c.length < 64) : Calls Try.prog 24 #[.pointer (some ⟨b, 0, none⟩), .int .i64 p, .agg #[.int .i64 x, .int .i64 g]] w (FlushP base b col (giveS s p x g) w) := by
  cases hpr : procS s p with
  | false => exact give_out p x g w h hO (.inl hpr)
  | true =>
    cases hal : aliveS s x g with
    | false => exact give_out p x g w h hO (.inr hal)
    | true =>
      obtain ⟨h0, h1⟩ := procS_iff.1 hpr
      obtain ⟨n, rfl⟩ := Int.eq_ofNat_of_zero_le h0
      obtain ⟨i, rfl, hi, -, -⟩ := alive_true hal
      have hpn : n < s.caches.length := by omega
      by_cases hg : g = 2147483647
      · exact give_last w hb h hO hpn hal hi hg
      · obtain ⟨y, hy⟩ : ∃ y, s.caches[n]? = some y := ⟨_, List.getElem?_eq_getElem hpn⟩
        have hl := hc y (List.mem_of_getElem? hy)
        by_cases h63 : y.length < 63
        · exact give_less w hb h hO hpn hal hi hg y hy h63
        · exact give_full w hb h hO hpn hal hi hg y hy (by omega)
end Go.Proofs.Ytnglgjegkjfnaaa
