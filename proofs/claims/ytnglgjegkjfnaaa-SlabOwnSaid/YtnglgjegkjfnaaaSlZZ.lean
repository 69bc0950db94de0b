import Derived.Test.YtnglgjegkjfnaaaSlYY
import Derived.Test.YtnglgjegkjfnaaaSlQ
import Derived.Deep.DrawnRows
set_option linter.unusedSimpArgs false
set_option linter.unusedVariables false
namespace Go.Proofs.Ytnglgjegkjfnaaa
open Go.RowKit Go.ChangeShapes Go.WideShapes Go.ChangeAt Go.Proofs.YtnglgjegkjfnaaaW.PrintWords Go.Proofs.YtnglgjegkjfnaaaW.PrintMore Go.Proofs.YtnglgjegkjfnaaaW.PrintLast
/-! rotaref04.Take, a slot out of the cache: printed by gen04x.py. -/
set_option maxRecDepth 100000 in
set_option maxHeartbeats 8000000 in
theorem take_pop {I : Nat → Prop} {s : Sl} {vG vA vC vF : Value} {vs : List Value} (n : Nat) (y : List Int) (x : Nat) (z : Int) (w : World) (h : SlR w s vG vA vC vF vs) (hO : Ok s) (hpr : procS s n = true) (hy : s.caches[n]? = some (y ++ [(x : Int)])) (hz : s.gens[x]? = some z) : Calls Try.prog 39 #[.agg #[.int .i64 s.limit, vG, vA, vC, vF], .int .i64 n] w (TakeRP I w (takeS s n)) := by
  have hpn : n < s.caches.length := (List.getElem?_eq_some_iff.1 hy).1
  have hyl : (y ++ [(x : Int)]).length ≤ 64 := hO.cl _ (List.mem_of_getElem? hy)
  rw [List.length_append, List.length_singleton] at hyl
  have hgd : s.caches.getD n [] = y ++ [(x : Int)] := getD_some hy
  have hS : slotS s n = ({ s with caches := s.caches.set n y }, some (x : Int)) := by
    have h1 : fillS s n = s := by rw [fillS, if_neg (by rw [hgd]; simp)]
    rw [slotS, h1, slotT, hgd, List.getLast?_concat]
    show (popS s n, some (x : Int)) = _
    rw [popS, hgd, List.dropLast_concat]
  have HT : Aside0 (takeS s n = ({ s with gens := s.gens.set x (z + 1), alive := s.alive.set x true, caches := s.caches.set n y }, (x : Int), z + 1, 0)) := ⟨by
    rw [takeS, if_pos hpr, Int.toNat_natCast, hS]
    show (givenS _ _, (x : Int), s.gens.getD (x : Int).toNat 0 + 1, (0 : Int)) = _
    rw [Int.toNat_natCast, givenS]
    show (_, (x : Int), s.gens.getD x 0 + 1, (0 : Int)) = _
    have hzd : s.gens.getD x 0 = z := by rw [List.getD_eq_getElem?_getD, hz]; rfl
    simp only [hzd]⟩
  have HY := Aside0.mk hy
  have HZ := Aside0.mk hz
  have hxg : x < s.gens.length := (List.getElem?_eq_some_iff.1 hz).1
  have hc64 := hO.c1
  clear hy hz hgd hS
  have hBd := hO.bd
  obtain ⟨AG0, cG0, rfl, -⟩ := h.g.slice
  obtain ⟨AA0, cA0, rfl, -⟩ := h.a.slice
  obtain ⟨AC0, cC0, rfl, -⟩ := h.c.slice
  obtain ⟨AF0, cF0, rfl, -⟩ := h.f.slice
  have hW : Below w.heap.size w (((w.alloc (.cells #[.int .i64 s.limit, (.slice AG0 (ints s.gens).length cG0), (.slice AA0 (bools s.alive).length cA0), (.slice AC0 vs.length cC0), (.slice AF0 (ints s.free).length cF0)] TT)).alloc (.cells #[.int .i64 0, .slice none 0 0, .slice none 0 0, .slice none 0 0, .slice none 0 0] 30)).alloc (.cells #[.int .i64 0, .int .i64 0] 48)) := (by repeat (first | (with_reducible exact Below.refl _ _) | (with_reducible refine Below.drew ?_) | (with_reducible refine below_drewN ?_ _) | (with_reducible refine below_al ?_ _) | (with_reducible refine Below.alloc ?_ (by first | exact Nat.le_refl _ | omega | (simp; done) | (simp; omega)) _) | (with_reducible refine Below.setCell ?_ (by first | (simp only []; omega) | (simp; done) | (simp; omega)) _)))
  have HX : Aside0 (SlX w (((w.alloc (.cells #[.int .i64 s.limit, (.slice AG0 (ints s.gens).length cG0), (.slice AA0 (bools s.alive).length cA0), (.slice AC0 vs.length cC0), (.slice AF0 (ints s.free).length cF0)] TT)).alloc (.cells #[.int .i64 0, .slice none 0 0, .slice none 0 0, .slice none 0 0, .slice none 0 0] 30)).alloc (.cells #[.int .i64 0, .int .i64 0] 48)) w.heap.size s (.slice AG0 (ints s.gens).length cG0) (.slice AA0 (bools s.alive).length cA0) (.slice AC0 vs.length cC0) (.slice AF0 (ints s.free).length cF0) vs) := ⟨⟨h, hW, blk_alloc (blk_alloc (blk_new _ _))⟩⟩
  have HRb : Aside0 ((((w.alloc (.cells #[.int .i64 s.limit, (.slice AG0 (ints s.gens).length cG0), (.slice AA0 (bools s.alive).length cA0), (.slice AC0 vs.length cC0), (.slice AF0 (ints s.free).length cF0)] TT)).alloc (.cells #[.int .i64 0, .slice none 0 0, .slice none 0 0, .slice none 0 0, .slice none 0 0] 30)).alloc (.cells #[.int .i64 0, .int .i64 0] 48)).heap[w.heap.size + 1]? = some (.cells #[.int .i64 0, .slice none 0 0, .slice none 0 0, .slice none 0 0, .slice none 0 0] 30 (0, 0))) := ⟨blk_alloc (blk_new1 _ _ _)⟩
  have HGb : Aside0 ((((w.alloc (.cells #[.int .i64 s.limit, (.slice AG0 (ints s.gens).length cG0), (.slice AA0 (bools s.alive).length cA0), (.slice AC0 vs.length cC0), (.slice AF0 (ints s.free).length cF0)] TT)).alloc (.cells #[.int .i64 0, .slice none 0 0, .slice none 0 0, .slice none 0 0, .slice none 0 0] 30)).alloc (.cells #[.int .i64 0, .int .i64 0] 48)).heap[w.heap.size + 2]? = some (.cells #[.int .i64 0, .int .i64 0] 48 (0, 0))) := ⟨blk_new2 _ _ _ _⟩
  clear h hW
  unfold TakeRP
  go_enter Try.func39, Try.ntmps39
  go_wp2_with fail
  generalize (((w.alloc (.cells #[.int .i64 s.limit, (.slice AG0 (ints s.gens).length cG0), (.slice AA0 (bools s.alive).length cA0), (.slice AC0 vs.length cC0), (.slice AF0 (ints s.free).length cF0)] TT)).alloc (.cells #[.int .i64 0, .slice none 0 0, .slice none 0 0, .slice none 0 0, .slice none 0 0] 30)).alloc (.cells #[.int .i64 0, .int .i64 0] 48)) = W at *
  refine (proc_rd (n : Int) W HX.out.r).mono ?_
  rw [hpr]
  rintro e w1 ⟨rfl, hB1⟩
  have HX1 := Aside0.mk (HX.out.below hB1)
  have HR1 := Aside0.mk (blk_below HRb.out hB1)
  have HG1 := Aside0.mk (blk_below HGb.out hB1)
  obtain ⟨x0, x1, x2, x3, x4⟩ := cells5 HX1.out.blk
  have hPl := lt_blk HX1.out.blk
  have hcp := copy_rd w1 HX1.out.r hBd
  clear hB1 hpr
  go_wp2_with fail
  refine hcp.mono ?_
  clear hcp x0 x1 x2 x3 x4 hPl
  rintro e w2 ⟨vG2, vA2, vC2, vF2, vs2, col2, rfl, hS2, hz2, hB2⟩
  obtain ⟨AG2, cG2, rfl, -⟩ := hS2.g.slice
  obtain ⟨AA2, cA2, rfl, -⟩ := hS2.a.slice
  obtain ⟨AC2, cC2, rfl, -⟩ := hS2.c.slice
  obtain ⟨AF2, cF2, rfl, -⟩ := hS2.f.slice
  have HX2 := Aside0.mk (HX1.out.below hB2)
  have hR2 := blk_below HR1.out hB2
  have hG2 := blk_below HG1.out hB2
  obtain ⟨x0, x1, x2, x3, x4⟩ := cells5 HX2.out.blk
  obtain ⟨f0, f1, f2, f3, f4⟩ := froz5 HX2.out.blk
  have hPl := lt_blk HX2.out.blk
  have hw1 : w.heap.size ≤ w1.heap.size := HX1.out.b.size
  have hP1 := lt_blk HX1.out.blk
  have hR1l := lt_blk HR1.out
  have hG1l := lt_blk HG1.out
  obtain ⟨col, hQ3, hcol⟩ := (hS2.lower hw1).into HX2.out.blk (Nat.le_refl _) (hz2 _ hP1)
  have hk3 : Keep (fun k => k = w.heap.size) w2 ((((((w2.setCell ⟨w.heap.size, 0, none⟩ (.int .i64 s.limit)).setCell ⟨w.heap.size, 1, none⟩ ((.slice AG2 (ints s.gens).length cG2))).setCell ⟨w.heap.size, 2, none⟩ ((.slice AA2 (bools s.alive).length cA2))).setCell ⟨w.heap.size, 3, none⟩ ((.slice AC2 vs2.length cC2))).setCell ⟨w.heap.size, 4, none⟩ ((.slice AF2 (ints s.free).length cF2)))) := set5_keep _ _ _ _ _ _ _
  have HW3 : Aside0 (TkW w ((((((w2.setCell ⟨w.heap.size, 0, none⟩ (.int .i64 s.limit)).setCell ⟨w.heap.size, 1, none⟩ ((.slice AG2 (ints s.gens).length cG2))).setCell ⟨w.heap.size, 2, none⟩ ((.slice AA2 (bools s.alive).length cA2))).setCell ⟨w.heap.size, 3, none⟩ ((.slice AC2 vs2.length cC2))).setCell ⟨w.heap.size, 4, none⟩ ((.slice AF2 (ints s.free).length cF2)))) s (.slice AG2 (ints s.gens).length cG2) (.slice AA2 (bools s.alive).length cA2) (.slice AC2 vs2.length cC2) (.slice AF2 (ints s.free).length cF2) vs2 col) := ⟨⟨hQ3, blk_keep hR2 hk3 (by omega), (hcol _ (by omega)).trans (hz2 _ hR1l), blk_keep hG2 hk3 (by omega), (hcol _ (by omega)).trans (hz2 _ hG1l), below_then_keep HX2.out.b HX2.out.b.size hk3 (fun k hk => by omega)⟩⟩
  clear hQ3 hcol hk3 hR2 hG2 hS2 hz2 hB2
  go_upto_region 4 with fail
  generalize ((((((w2.setCell ⟨w.heap.size, 0, none⟩ (.int .i64 s.limit)).setCell ⟨w.heap.size, 1, none⟩ ((.slice AG2 (ints s.gens).length cG2))).setCell ⟨w.heap.size, 2, none⟩ ((.slice AA2 (bools s.alive).length cA2))).setCell ⟨w.heap.size, 3, none⟩ ((.slice AC2 vs2.length cC2))).setCell ⟨w.heap.size, 4, none⟩ ((.slice AF2 (ints s.free).length cF2)))) = W3 at *
  clear x0 x1 x2 x3 x4 f0 f1 f2 f3 f4 hPl
  have hx0 : Below W3.heap.size W3 W3.drew := (Below.refl _ _).drew
  obtain ⟨gC, oC, cC, heC, hgC, hg4, hatC⟩ := HW3.out.q.r.c.form (by rw [HW3.out.q.r.l]; omega)
  obtain ⟨v, hv, hvrow⟩ := HW3.out.q.r.v n _ HY.out
  have hcell := (hatC _).1 _ hv
  have hfz := (hatC n).2
  obtain ⟨g5, o5, cv, hv5, hg5l, hg56, hat5⟩ := hvrow.form (by rw [ints_len, List.length_append, List.length_singleton]; omega)
  rw [ints_len, List.length_append, List.length_singleton] at hv5
  subst hv5
  injection heC with he1 he2 he3
  subst he1 he3
  have hvl : vs2.length = s.caches.length := HW3.out.q.r.l
  have hel : W3.cell? ⟨g5, o5 + y.length, none⟩ = some (.int .i64 x) := (hat5 y.length).1 _ (ints_get (by rw [List.getElem?_append_right (Nat.le_refl _), Nat.sub_self]; rfl))
  have hlen := hvrow.lens.2
  have hrowp := (hvrow.below hx0).take (m := y.length) (by rw [ints_len, List.length_append, List.length_singleton]; omega)
  rw [← ints_take, List.take_left] at hrowp
  have hrowp := hrowp.mono (ok' := fun k => col k = 6 + n ∨ W3.drew.heap.size ≤ k) (fun _ _ h => .inl h)
  have hc0 := (cells5 HW3.out.q.blk).2.2.2.1
  rw [hvl] at hc0
  have hPl := lt_blk HW3.out.q.blk
  have hki : (0 : Int) ≤ (n : Int) := by omega
  have hkl : (n : Int) < (s.caches.length : Int) := by omega
  have hm0 : (((y.length : Int) + 1) == 0) = false := by simp; omega
  have hm1 : (0 : Int) < (y.length : Int) + 1 := by omega
  have hlc : (y.length : Int) + 1 ≤ (cv : Int) := by omega
  have hlc2 : (y.length : Int) ≤ (cv : Int) := by omega
  have hwr : IntKind.i64.wrap (y.length : Int) = (y.length : Int) := IntWalk.i64_in _ (by omega)
  have hin : (0 : Int) ≤ (y.length : Int) ∧ (y.length : Int) ≤ (cv : Int) := by omega
  have HP0 := Aside0.mk (HW3.out.then hx0)
  have hwx : w.heap.size ≤ W3.drew.heap.size := HP0.out.b.size
  have kc0 : W3.drew.cell? ⟨w.heap.size, 3, none⟩ = some (.slice (some ⟨gC, oC, none⟩) s.caches.length cC2) := hc0
  have kc1 : W3.drew.cell? ⟨gC, oC + n, none⟩ = some (.slice (some ⟨g5, o5, none⟩) (y.length + 1) cv) := hcell
  have kf : W3.drew.frozen? ⟨gC, oC + n, none⟩ = false := hfz
  have hgCx : gC < W3.drew.heap.size := hgC
  clear he2 hatC hv hvrow hat5 hfz
  go_wp2_with fail
  refine start_ (n := 13) (S := fun w' => w'.cell? ⟨w.heap.size, 3, none⟩ = some (.slice (some ⟨gC, oC, none⟩) s.caches.length cC2) ∧ w'.cell? ⟨gC, oC + n, none⟩ = some (.slice (some ⟨g5, o5, none⟩) (y.length + 1) cv)) (ds := [12]) #[false, false, false, false, false, false, false, false, false, false, false, false, false] (by kernel_rfl) rfl rfl ⟨kc0, kc1⟩ (fun hHeld => ?_)
  generalize W3.drew = x5 at *
  refine pure_ (i := 0) (N := some 65) (v := ?_) (a' := ?_) #[true, false, false, false, false, false, false, false, false, false, false, false, false] rfl rfl (by kernel_rfl) (fun _ _ _ h => h) (Or.inl ⟨by rfl, ?_⟩) ?_ ?_
  rotate_left
  · intro w'
    go_simp
    with_reducible rfl
  rotate_left
  · simp only [Act.put, List.setIfInBounds_toArray, List.set_cons_zero, List.set_cons_succ, i64_w, i32_w]
    rfl
  refine pure_ (i := 2) (N := some 67) (v := ?_) (a' := ?_) #[true, false, true, false, false, false, false, false, false, false, false, false, false] rfl rfl (by kernel_rfl) (fun _ _ _ h => h) (Or.inl ⟨by rfl, ?_⟩) ?_ ?_
  rotate_left
  · intro w'
    go_simp
    with_reducible rfl
  rotate_left
  · simp only [Act.put, List.setIfInBounds_toArray, List.set_cons_zero, List.set_cons_succ, i64_w, i32_w]
    rfl
  refine pure_ (i := 3) (N := some 68) (v := ?_) (a' := ?_) #[true, false, true, true, false, false, false, false, false, false, false, false, false] rfl rfl (by kernel_rfl) (fun _ _ _ h => h) (Or.inl ⟨by rfl, ?_⟩) ?_ ?_
  rotate_left
  · intro w'
    go_simp
    with_reducible rfl
  rotate_left
  · simp only [Act.put, List.setIfInBounds_toArray, List.set_cons_zero, List.set_cons_succ, i64_w, i32_w]
    rfl
  refine pure_ (i := 5) (N := some 70) (v := ?_) (a' := ?_) #[true, false, true, true, false, true, false, false, false, false, false, false, false] rfl rfl (by kernel_rfl) (fun _ _ _ h => h) (Or.inl ⟨by rfl, ?_⟩) ?_ ?_
  rotate_left
  · intro w'
    go_simp
    with_reducible rfl
  rotate_left
  · simp only [Act.put, List.setIfInBounds_toArray, List.set_cons_zero, List.set_cons_succ, i64_w, i32_w]
    rfl
  refine pure_ (i := 8) (N := some 73) (v := ?_) (a' := ?_) #[true, false, true, true, false, true, false, false, true, false, false, false, false] rfl rfl (by kernel_rfl) (fun _ _ _ h => h) (Or.inl ⟨by rfl, ?_⟩) ?_ ?_
  rotate_left
  · intro w'
    go_simp
    with_reducible rfl
  rotate_left
  · simp only [Act.put, List.setIfInBounds_toArray, List.set_cons_zero, List.set_cons_succ, i64_w, i32_w]
    rfl
  refine pure_ (i := 9) (N := some 74) (v := ?_) (a' := ?_) #[true, false, true, true, false, true, false, false, true, true, false, false, false] rfl rfl (by kernel_rfl) (fun _ _ _ h => h) (Or.inl ⟨by rfl, ?_⟩) ?_ ?_
  rotate_left
  · intro w'
    go_simp
    with_reducible rfl
  rotate_left
  · simp only [Act.put, List.setIfInBounds_toArray, List.set_cons_zero, List.set_cons_succ, i64_w, i32_w]
    rfl
  refine take_ (i := 1) (N := some 66) (v := ?_) (a' := ?_) #[true, true, true, true, false, true, false, false, true, true, false, false, false] rfl rfl (by kernel_rfl) (fun _ _ _ h => h) (Or.inl ⟨by rfl, ?_⟩) hHeld ?_ ?_
  rotate_left
  · rintro w' ⟨s0, s1⟩
    go_simp
    with_reducible rfl
  rotate_left
  · simp only [Act.put, List.setIfInBounds_toArray, List.set_cons_zero, List.set_cons_succ, i64_w, i32_w]
    rfl
  refine take_ (i := 4) (N := some 69) (v := ?_) (a' := ?_) #[true, true, true, true, true, true, false, false, true, true, false, false, false] rfl rfl (by kernel_rfl) (fun _ _ _ h => h) (Or.inl ⟨by rfl, ?_⟩) hHeld ?_ ?_
  rotate_left
  · rintro w' ⟨s0, s1⟩
    go_simp
    with_reducible rfl
  rotate_left
  · simp only [Act.put, List.setIfInBounds_toArray, List.set_cons_zero, List.set_cons_succ, i64_w, i32_w]
    rfl
  refine pure_ (i := 6) (N := some 71) (v := ?_) (a' := ?_) #[true, true, true, true, true, true, true, false, true, true, false, false, false] rfl rfl (by kernel_rfl) (fun _ _ _ h => h) (Or.inl ⟨by rfl, ?_⟩) ?_ ?_
  rotate_left
  · intro w'
    go_simp
    with_reducible rfl
  rotate_left
  · simp only [Act.put, List.setIfInBounds_toArray, List.set_cons_zero, List.set_cons_succ, i64_w, i32_w]
    rfl
  refine take_ (i := 7) (N := some 72) (v := ?_) (a' := ?_) #[true, true, true, true, true, true, true, true, true, true, false, false, false] rfl rfl (by kernel_rfl) (fun _ _ _ h => h) (Or.inl ⟨by rfl, ?_⟩) hHeld ?_ ?_
  rotate_left
  · rintro w' ⟨s0, s1⟩
    go_simp
    with_reducible rfl
  rotate_left
  · simp only [Act.put, List.setIfInBounds_toArray, List.set_cons_zero, List.set_cons_succ, i64_w, i32_w]
    rfl
  refine pure_ (i := 10) (N := some 75) (v := ?_) (a' := ?_) #[true, true, true, true, true, true, true, true, true, true, true, false, false] rfl rfl (by kernel_rfl) (fun _ _ _ h => h) (Or.inl ⟨by rfl, ?_⟩) ?_ ?_
  rotate_left
  · intro w'
    go_simp
    with_reducible rfl
  rotate_left
  · simp only [Act.put, List.setIfInBounds_toArray, List.set_cons_zero, List.set_cons_succ, i64_w, i32_w]
    rfl
  refine pure_ (i := 11) (N := some 76) (v := ?_) (a' := ?_) #[true, true, true, true, true, true, true, true, true, true, true, true, false] rfl rfl (by kernel_rfl) (fun _ _ _ h => h) (Or.inl ⟨by rfl, ?_⟩) ?_ ?_
  rotate_left
  · intro w'
    go_simp
    with_reducible rfl
  rotate_left
  · simp only [Act.put, List.setIfInBounds_toArray, List.set_cons_zero, List.set_cons_succ, i64_w, i32_w]
    rfl
  refine last_ (i := 12) (N := none) #[true, true, true, true, true, true, true, true, true, true, true, true, true] rfl rfl (by kernel_rfl) (by decide) (fun K hK => ?_)
  refine skip_ (w1 := ?_) (by rfl) rfl ?_ ?_
  rotate_left
  · go_simp
    first | with_reducible rfl | rfl
  refine hK.out _ _ ?_
  clear hK K
  refine done_ (by kernel_rfl) ?_
  obtain ⟨col5, hQ5, hN5⟩ := HP0.out.q.cache (w1 := x5) (v1 := .slice (some ⟨g5, o5, none⟩) y.length cv) (ys := y) hwx (p := n) rfl hpn (Keep.refl _ _) hrowp
  have HW5 := Aside0.mk (HP0.out.step hQ5 hN5)
  clear hQ5 hN5 hHeld hrowp kc0 kc1 kf
  generalize (x5.setCell ⟨gC, oC + n, none⟩ (.slice (some ⟨g5, o5, none⟩) y.length cv)) = W5 at *
  have hV := HW5.out.q.r
  obtain ⟨gg, og, cg9, heg, -, -, -⟩ := hV.g.form (by rw [ints_len]; exact Nat.lt_of_le_of_lt (Nat.zero_le _) hxg)
  injection heg with e1 e2 e3
  subst e1 e3
  obtain ⟨ga, oa, ca9, hea, -, -, -⟩ := hV.a.form (by rw [bools_len]; show 0 < s.alive.length; have := hO.a; omega)
  injection hea with e4 e5 e6
  subst e4 e6
  rw [ints_len s.gens, bools_len s.alive] at hV
  have e : vs2.length = (vs2.set n (.slice (some ⟨g5, o5, none⟩) y.length cv)).length := by rw [List.length_set]
  rw [e] at hV
  have hzb := hO.gb z (List.mem_of_getElem? HZ.out)
  have hgo := given_own (x := x) (z := z) HW5.out.b.size hV hO.a HZ.out hzb.1 hzb.2
  rw [← e, hvl] at hgo
  obtain ⟨x0, x1, x2, x3, x4⟩ := cells5 HW5.out.q.blk
  rw [ints_len s.gens] at x1
  rw [bools_len s.alive] at x2
  rw [hvl] at x3
  have hPl5 := lt_blk HW5.out.q.blk
  clear e2 e5 hV e hPl
  go_wp2_with fail
  refine hgo.mono ?_
  clear hgo x0 x1 x2 x3 x4 hPl5
  rintro e w9 ⟨rfl, hV9, hK9⟩
  have HR9 := Aside0.mk (blk_keep HW5.out.r hK9 (fun f => f HW5.out.cr))
  have HG9 := Aside0.mk (blk_keep HW5.out.g hK9 (fun f => f HW5.out.cg))
  have HV9 := Aside0.mk hV9
  have HB9 := Aside0.mk (below_then_keep HW5.out.b HW5.out.b.size hK9 (fun i hi => HW5.out.q.r.b i hi))
  obtain ⟨r0, r1, r2, r3, r4⟩ := cells5 HR9.out
  obtain ⟨r5, r6, r7, r8, r9⟩ := froz5 HR9.out
  have y0 := cell_blk HG9.out 0
  have y1 := cell_blk HG9.out 1
  have y2 := frozen_blk HG9.out 0
  have y3 := frozen_blk HG9.out 1
  simp only [List.getElem?_toArray, List.getElem?_cons_zero, List.getElem?_cons_succ] at y0 y1
  have hRl := lt_blk HR9.out
  have hGl := lt_blk HG9.out
  clear hV9 hK9
  go_wp2
  have hkA : Keep (fun i => i = w.heap.size + 1) w9 ((((((w9.setCell ⟨(w.heap.size + 1), 0, none⟩ (.int .i64 s.limit)).setCell ⟨(w.heap.size + 1), 1, none⟩ ((.slice (some ⟨gg, og, none⟩) s.gens.length cG2))).setCell ⟨(w.heap.size + 1), 2, none⟩ ((.slice (some ⟨ga, oa, none⟩) s.alive.length cA2))).setCell ⟨(w.heap.size + 1), 3, none⟩ ((.slice (some ⟨gC, oC, none⟩) s.caches.length cC2))).setCell ⟨(w.heap.size + 1), 4, none⟩ ((.slice AF2 (ints s.free).length cF2)))) := set5_keep _ _ _ _ _ _ _
  have hkB : Keep (fun i => i = w.heap.size + 2) ((((((w9.setCell ⟨(w.heap.size + 1), 0, none⟩ (.int .i64 s.limit)).setCell ⟨(w.heap.size + 1), 1, none⟩ ((.slice (some ⟨gg, og, none⟩) s.gens.length cG2))).setCell ⟨(w.heap.size + 1), 2, none⟩ ((.slice (some ⟨ga, oa, none⟩) s.alive.length cA2))).setCell ⟨(w.heap.size + 1), 3, none⟩ ((.slice (some ⟨gC, oC, none⟩) s.caches.length cC2))).setCell ⟨(w.heap.size + 1), 4, none⟩ ((.slice AF2 (ints s.free).length cF2)))) (((((((w9.setCell ⟨(w.heap.size + 1), 0, none⟩ (.int .i64 s.limit)).setCell ⟨(w.heap.size + 1), 1, none⟩ ((.slice (some ⟨gg, og, none⟩) s.gens.length cG2))).setCell ⟨(w.heap.size + 1), 2, none⟩ ((.slice (some ⟨ga, oa, none⟩) s.alive.length cA2))).setCell ⟨(w.heap.size + 1), 3, none⟩ ((.slice (some ⟨gC, oC, none⟩) s.caches.length cC2))).setCell ⟨(w.heap.size + 1), 4, none⟩ ((.slice AF2 (ints s.free).length cF2))).setCell ⟨w.heap.size + 2, 0, none⟩ (.int .i64 x)).setCell ⟨w.heap.size + 2, 1, none⟩ (.int .i64 (z + 1))) := (by repeat (first | (with_reducible exact Keep.refl _ _) | (with_reducible refine Keep.drewN ?_ _) | (with_reducible refine Keep.drew ?_) | (with_reducible refine Keep.setCell ?_ _ _ (by first | (right; with_reducible rfl) | (left; simp; done) | (left; simp; omega) | (right; simp; done) | (right; assumption))) | (with_reducible refine Keep.alloc ?_ _)))
  have hkR : Keep (fun i => i = w.heap.size + 1 ∨ i = w.heap.size + 2) w9 (((((((w9.setCell ⟨(w.heap.size + 1), 0, none⟩ (.int .i64 s.limit)).setCell ⟨(w.heap.size + 1), 1, none⟩ ((.slice (some ⟨gg, og, none⟩) s.gens.length cG2))).setCell ⟨(w.heap.size + 1), 2, none⟩ ((.slice (some ⟨ga, oa, none⟩) s.alive.length cA2))).setCell ⟨(w.heap.size + 1), 3, none⟩ ((.slice (some ⟨gC, oC, none⟩) s.caches.length cC2))).setCell ⟨(w.heap.size + 1), 4, none⟩ ((.slice AF2 (ints s.free).length cF2))).setCell ⟨w.heap.size + 2, 0, none⟩ (.int .i64 x)).setCell ⟨w.heap.size + 2, 1, none⟩ (.int .i64 (z + 1))) := (hkA.mono (fun _ _ h => .inl h)).trans (hkB.mono (fun _ _ h => .inr h))
  have hG7 : (((((((w9.setCell ⟨(w.heap.size + 1), 0, none⟩ (.int .i64 s.limit)).setCell ⟨(w.heap.size + 1), 1, none⟩ ((.slice (some ⟨gg, og, none⟩) s.gens.length cG2))).setCell ⟨(w.heap.size + 1), 2, none⟩ ((.slice (some ⟨ga, oa, none⟩) s.alive.length cA2))).setCell ⟨(w.heap.size + 1), 3, none⟩ ((.slice (some ⟨gC, oC, none⟩) s.caches.length cC2))).setCell ⟨(w.heap.size + 1), 4, none⟩ ((.slice AF2 (ints s.free).length cF2))).setCell ⟨w.heap.size + 2, 0, none⟩ (.int .i64 x)).setCell ⟨w.heap.size + 2, 1, none⟩ (.int .i64 (z + 1))).heap[w.heap.size + 2]? = some (.cells #[.int .i64 x, .int .i64 (z + 1)] 48 (0, 0)) := by
    have := blk_set (i := 1) (u := .int .i64 (z + 1)) (blk_set (i := 0) (u := .int .i64 x) (blk_keep HG9.out hkA (by omega)))
    simpa using this
  obtain ⟨z0, z1, z2, z3, z4⟩ := cells5 (blk_keep (blk_set5 (u0 := .int .i64 s.limit) (u1 := (.slice (some ⟨gg, og, none⟩) s.gens.length cG2)) (u2 := (.slice (some ⟨ga, oa, none⟩) s.alive.length cA2)) (u3 := (.slice (some ⟨gC, oC, none⟩) s.caches.length cC2)) (u4 := (.slice AF2 (ints s.free).length cF2)) HR9.out) hkB (by omega))
  have z5 := cell_blk hG7 0
  have z6 := cell_blk hG7 1
  simp only [List.getElem?_toArray, List.getElem?_cons_zero, List.getElem?_cons_succ] at z5 z6
  refine bodyPost_ret (v := .tuple #[.agg #[.int .i64 s.limit, (.slice (some ⟨gg, og, none⟩) s.gens.length cG2), (.slice (some ⟨ga, oa, none⟩) s.alive.length cA2), (.slice (some ⟨gC, oC, none⟩) s.caches.length cC2), (.slice AF2 (ints s.free).length cF2)], .agg #[.int .i64 x, .int .i64 (z + 1)], .int .i64 0]) (by simp [results, Try.results39, go_sem, z0, z1, z2, z3, z4, z5, z6]) rfl ?_
  rw [HT.out]
  refine ⟨_, _, _, _, _, rfl, ((HV9.out.keep hkR (fun i hi => by rcases hi with rfl | rfl; (rw [HW5.out.cr]; omega); (rw [HW5.out.cg]; omega))).rdo), ?_⟩
  exact below_then_keep HB9.out HB9.out.size hkR (fun i hi => by omega)
end Go.Proofs.Ytnglgjegkjfnaaa
