import Derived.Test.YtnglgjegkjfnaaaSlCa
import Derived.Deep.DrawnRows
set_option linter.unusedSimpArgs false
set_option linter.unusedVariables false
namespace Go.Proofs.Ytnglgjegkjfnaaa
open Go.RowKit Go.ChangeShapes Go.WideShapes Go.ChangeAt Go.Proofs.YtnglgjegkjfnaaaW.PrintWords Go.Proofs.YtnglgjegkjfnaaaW.PrintMore Go.Proofs.YtnglgjegkjfnaaaW.PrintLast
/-! rotalaw04.calls: printed by gen04bb.py. -/
attribute [local go_sem high] eqG
theorem callS_take {s s1 : Sl} {had : List (Int × Int)} {p q g1 g2 x g e : Int} (hT : takeS s p = (s1, x, g, e)) : callS s had ⟨0, p, q, (g1, g2)⟩ = (s1, if e = 0 then had ++ [(x, g)] else had) := by
  rw [callS]
  simp only [hT]
  rfl
set_option maxRecDepth 100000 in
set_option maxHeartbeats 16000000 in
theorem calls_take_no {w0 w : World} {b : Nat} {col hc : Nat → Nat} {s : Sl} {vG vA vC vF : Value} {vs : List Value} {vh : Value} {had : List (Int × Int)} (p q g1 g2 : Int) (h : CaW w0 w b col hc s s vG vA vC vF vs vh had) (hO : Ok s) (hhl : (had.length + 1) * 16 ≤ 140737488355328) {s1 : Sl} {x g er : Int} (hT : takeS s p = (s1, x, g, er)) (hE : er ≠ 0) :
    Calls Try.prog 26 #[.pointer (some ⟨b, 0, none⟩), .agg #[.int .i64 s.limit, vG, vA, vC, vF], .agg #[.int .i64 0, .int .i64 p, .int .i64 q, .int .i64 g1, .int .i64 g2], vh] w (CallsP w0 w hc b (s1, had)) := by
  obtain ⟨AG0, cG0, rfl, -⟩ := h.rd.g.slice
  obtain ⟨AA0, cA0, rfl, -⟩ := h.rd.a.slice
  obtain ⟨AC0, cC0, rfl, -⟩ := h.rd.c.slice
  obtain ⟨AF0, cF0, rfl, -⟩ := h.rd.f.slice
  obtain ⟨AH, cH, rfl, hcH, hCH⟩ := gid_rd h.h
  have hW : Below w.heap.size w (((w.alloc (.cells #[.int .i64 s.limit, (.slice AG0 (ints s.gens).length cG0), (.slice AA0 (bools s.alive).length cA0), (.slice AC0 vs.length cC0), (.slice AF0 (ints s.free).length cF0)] TT)).alloc (.cells #[.int .i64 0, .int .i64 p, .int .i64 q, .int .i64 g1, .int .i64 g2] 55)).alloc (.cells #[.int .i64 0, .slice none 0 0, .slice none 0 0, .slice none 0 0, .slice none 0 0] 30)) := (by repeat (first | (with_reducible exact Below.refl _ _) | (with_reducible refine Below.drew ?_) | (with_reducible refine below_drewN ?_ _) | (with_reducible refine below_al ?_ _) | (with_reducible refine Below.alloc ?_ (by first | exact Nat.le_refl _ | omega | (simp; done) | (simp; omega)) _) | (with_reducible refine Below.setCell ?_ (by first | (simp only []; omega) | (simp; done) | (simp; omega)) _)))
  have HK : Aside0 (CkW w0 w (((w.alloc (.cells #[.int .i64 s.limit, (.slice AG0 (ints s.gens).length cG0), (.slice AA0 (bools s.alive).length cA0), (.slice AC0 vs.length cC0), (.slice AF0 (ints s.free).length cF0)] TT)).alloc (.cells #[.int .i64 0, .int .i64 p, .int .i64 q, .int .i64 g1, .int .i64 g2] 55)).alloc (.cells #[.int .i64 0, .slice none 0 0, .slice none 0 0, .slice none 0 0, .slice none 0 0] 30)) b col hc (paint hc 2 w.heap.size (w.heap.size + 3)) s s (.slice AG0 (ints s.gens).length cG0) (.slice AA0 (bools s.alive).length cA0) (.slice AC0 vs.length cC0) (.slice AF0 (ints s.free).length cF0) vs (.slice AH had.length cH) had #[.int .i64 s.limit, (.slice AG0 (ints s.gens).length cG0), (.slice AA0 (bools s.alive).length cA0), (.slice AC0 vs.length cC0), (.slice AF0 (ints s.free).length cF0)] ⟨0, p, q, (g1, g2)⟩) := ⟨h.start hW (by simp) (blk_alloc (blk_alloc (blk_new _ _))) (blk_alloc (blk_new1 _ _ _)) (blk_new2 _ _ _ _)⟩
  have HC := Aside0.mk (Kd.C_below hCH hW)
  have HT := take_slab p _ HK.out.base HK.out.ca.sl hO
  unfold TakeP at HT
  rw [hT] at HT
  clear h hW hCH
  unfold CallsP
  go_enter Try.func26, Try.ntmps26
  go_wp2_with fail
  --MARK0
  generalize (((w.alloc (.cells #[.int .i64 s.limit, (.slice AG0 (ints s.gens).length cG0), (.slice AA0 (bools s.alive).length cA0), (.slice AC0 vs.length cC0), (.slice AF0 (ints s.free).length cF0)] TT)).alloc (.cells #[.int .i64 0, .int .i64 p, .int .i64 q, .int .i64 g1, .int .i64 g2] 55)).alloc (.cells #[.int .i64 0, .slice none 0 0, .slice none 0 0, .slice none 0 0, .slice none 0 0] 30)) = W at *
  refine HT.mono ?_
  clear HT
  rintro e w1 ⟨col1, rfl, hI1, hN1⟩
  have HK1 := Aside0.mk (HK.out.slab hN1 hI1)
  clear hI1 hN1
  obtain ⟨p0, p1, p2, p3, p4⟩ := cells5 HK1.out.p
  obtain ⟨o0, o1, o2, o3, o4⟩ := cells5 HK1.out.o
  have hPl := lt_blk HK1.out.p
  have hOl := lt_blk HK1.out.o
  go_wp2_with fail
  --MARK1
  have hB2 : Below w1.heap.size w1 (w1.alloc (.cells #[.int .i64 x, .int .i64 g] 48)) := (by repeat (first | (with_reducible exact Below.refl _ _) | (with_reducible refine Below.drew ?_) | (with_reducible refine below_drewN ?_ _) | (with_reducible refine below_al ?_ _) | (with_reducible refine Below.alloc ?_ (by first | exact Nat.le_refl _ | omega | (simp; done) | (simp; omega)) _) | (with_reducible refine Below.setCell ?_ (by first | (simp only []; omega) | (simp; done) | (simp; omega)) _)))
  have hG2 : (w1.alloc (.cells #[.int .i64 x, .int .i64 g] 48)).heap[w1.heap.size]? = some (.cells #[.int .i64 x, .int .i64 g] 48 (0, 0)) := blk_new _ _
  have HK2 := Aside0.mk (HK1.out.then hB2)
  have HG2 := Aside0.mk hG2
  have hz2 := HK1.out.ca.hz w1.heap.size (Nat.le_refl _)
  generalize (w1.alloc (.cells #[.int .i64 x, .int .i64 g] 48)) = W2 at *
  clear hB2 hG2 p0 p1 p2 p3 p4 o0 o1 o2 o3 o4 hPl hOl
  have HT := take_rd p W2 HK2.out.ca.rd HK2.out.ca.own hO
  rw [hT] at HT
  refine HT.mono ?_
  clear HT
  rintro e w3 ⟨uG, uA, uC, uF, us, rfl, hS3, hB3⟩
  obtain ⟨AG3, cG3, rfl, -⟩ := hS3.rd.g.slice
  obtain ⟨AA3, cA3, rfl, -⟩ := hS3.rd.a.slice
  obtain ⟨AC3, cC3, rfl, -⟩ := hS3.rd.c.slice
  obtain ⟨AF3, cF3, rfl, -⟩ := hS3.rd.f.slice
  have HK3 := Aside0.mk (HK2.out.model hB3 hS3)
  have HG3 := Aside0.mk (blk_below HG2.out hB3)
  clear hS3 hB3
  go_upto_region 7 with fail
  --MARK2
  have hB4 : Below w3.heap.size w3 ((w3.alloc (.cells #[.int .i64 s1.limit, (.slice AG3 (ints s1.gens).length cG3), (.slice AA3 (bools s1.alive).length cA3), (.slice AC3 us.length cC3), (.slice AF3 (ints s1.free).length cF3)] TT)).alloc (.cells #[.int .i64 x, .int .i64 g] 48)) := (by repeat (first | (with_reducible exact Below.refl _ _) | (with_reducible refine Below.drew ?_) | (with_reducible refine below_drewN ?_ _) | (with_reducible refine below_al ?_ _) | (with_reducible refine Below.alloc ?_ (by first | exact Nat.le_refl _ | omega | (simp; done) | (simp; omega)) _) | (with_reducible refine Below.setCell ?_ (by first | (simp only []; omega) | (simp; done) | (simp; omega)) _)))
  have HK4 := Aside0.mk (HK3.out.then hB4)
  have HG4 := Aside0.mk (blk_below HG3.out hB4)
  have HS4 : Aside0 (((w3.alloc (.cells #[.int .i64 s1.limit, (.slice AG3 (ints s1.gens).length cG3), (.slice AA3 (bools s1.alive).length cA3), (.slice AC3 us.length cC3), (.slice AF3 (ints s1.free).length cF3)] TT)).alloc (.cells #[.int .i64 x, .int .i64 g] 48)).heap[w3.heap.size]? = some (.cells #[.int .i64 s1.limit, (.slice AG3 (ints s1.gens).length cG3), (.slice AA3 (bools s1.alive).length cA3), (.slice AC3 us.length cC3), (.slice AF3 (ints s1.free).length cF3)] TT (0, 0))) := ⟨blk_alloc (blk_new _ _)⟩
  have HH4 : Aside0 (((w3.alloc (.cells #[.int .i64 s1.limit, (.slice AG3 (ints s1.gens).length cG3), (.slice AA3 (bools s1.alive).length cA3), (.slice AC3 us.length cC3), (.slice AF3 (ints s1.free).length cF3)] TT)).alloc (.cells #[.int .i64 x, .int .i64 g] 48)).heap[w3.heap.size + 1]? = some (.cells #[.int .i64 x, .int .i64 g] 48 (0, 0))) := ⟨blk_new1 _ _ _⟩
  have hz4 := HK3.out.ca.hz w3.heap.size (Nat.le_refl _)
  have hz5 := HK3.out.ca.hz (w3.heap.size + 1) (Nat.le_succ _)
  generalize ((w3.alloc (.cells #[.int .i64 s1.limit, (.slice AG3 (ints s1.gens).length cG3), (.slice AA3 (bools s1.alive).length cA3), (.slice AC3 us.length cC3), (.slice AF3 (ints s1.free).length cF3)] TT)).alloc (.cells #[.int .i64 x, .int .i64 g] 48)) = W4 at *
  clear hB4
  have hBd : Below W4.heap.size W4 W4.drew := (Below.refl _ _).drew
  obtain ⟨q0, q1, q2, q3, q4⟩ := cells5 (blk_below HS4.out hBd)
  have hg2 := blk_below HG4.out hBd
  have hh2 := blk_below HH4.out hBd
  have a0 := cell_blk hg2 0
  have a1 := cell_blk hg2 1
  have c0 := cell_blk hh2 0
  have c1 := cell_blk hh2 1
  simp only [List.getElem?_toArray, List.getElem?_cons_zero, List.getElem?_cons_succ] at a0 a1 c0 c1
  have HK9 := Aside0.mk (HK4.out.then hBd)
  clear hBd hg2 hh2
  --MARK7
  refine start_ (n := 13) (S := fun w' => w'.cell? ⟨w3.heap.size, 0, none⟩ = some (.int .i64 s1.limit) ∧ w'.cell? ⟨w3.heap.size, 1, none⟩ = some ((.slice AG3 (ints s1.gens).length cG3)) ∧ w'.cell? ⟨w3.heap.size, 2, none⟩ = some ((.slice AA3 (bools s1.alive).length cA3)) ∧ w'.cell? ⟨w3.heap.size, 3, none⟩ = some ((.slice AC3 us.length cC3)) ∧ w'.cell? ⟨w3.heap.size, 4, none⟩ = some ((.slice AF3 (ints s1.free).length cF3)) ∧ w'.cell? ⟨w1.heap.size, 0, none⟩ = some (.int .i64 x) ∧ w'.cell? ⟨w1.heap.size, 1, none⟩ = some (.int .i64 g) ∧ w'.cell? ⟨w3.heap.size + 1, 0, none⟩ = some (.int .i64 x) ∧ w'.cell? ⟨w3.heap.size + 1, 1, none⟩ = some (.int .i64 g)) (ds := [10]) #[false, false, false, false, false, false, false, false, false, false, false, false, false] (by kernel_rfl) rfl rfl ⟨q0, q1, q2, q3, q4, a0, a1, c0, c1⟩ (fun hHeld => ?_)
  generalize W4.drew = x9 at *
  refine pure_ (i := 1) (N := some 50) (v := ?_) (a' := ?_) #[false, true, false, false, false, false, false, false, false, false, false, false, false] rfl rfl (by kernel_rfl) (fun _ _ _ h => h) (Or.inl ⟨by rfl, ?_⟩) ?_ ?_
  rotate_left
  · intro w'
    go_simp
    with_reducible rfl
  rotate_left
  · simp only [Act.put, List.setIfInBounds_toArray, List.set_cons_zero, List.set_cons_succ, i64_w, i32_w]
    rfl
  refine take_ (i := 0) (N := some 49) (v := ?_) (a' := ?_) #[true, true, false, false, false, false, false, false, false, false, false, false, false] rfl rfl (by kernel_rfl) (fun _ _ _ h => h) (Or.inl ⟨by rfl, ?_⟩) hHeld ?_ ?_
  rotate_left
  · rintro w' ⟨s0, s1, s2, s3, s4, s5, s6, s7, s8⟩
    go_simp
    with_reducible rfl
  rotate_left
  · simp only [Act.put, List.setIfInBounds_toArray, List.set_cons_zero, List.set_cons_succ, i64_w, i32_w]
    rfl
  refine take_ (i := 2) (N := some 51) (v := ?_) (a' := ?_) #[true, true, true, false, false, false, false, false, false, false, false, false, false] rfl rfl (by kernel_rfl) (fun _ _ _ h => h) (Or.inl ⟨by rfl, ?_⟩) hHeld ?_ ?_
  rotate_left
  · rintro w' ⟨s0, s1, s2, s3, s4, s5, s6, s7, s8⟩
    go_simp
    with_reducible rfl
  rotate_left
  · simp only [Act.put, List.setIfInBounds_toArray, List.set_cons_zero, List.set_cons_succ, i64_w, i32_w]
    rfl
  refine take_ (i := 3) (N := some 52) (v := ?_) (a' := ?_) #[true, true, true, true, false, false, false, false, false, false, false, false, false] rfl rfl (by kernel_rfl) (fun _ _ _ h => h) (Or.inl ⟨by rfl, ?_⟩) hHeld ?_ ?_
  rotate_left
  · rintro w' ⟨s0, s1, s2, s3, s4, s5, s6, s7, s8⟩
    go_simp
    with_reducible rfl
  rotate_left
  · simp only [Act.put, List.setIfInBounds_toArray, List.set_cons_zero, List.set_cons_succ, i64_w, i32_w]
    rfl
  refine pure_ (i := 4) (N := some 53) (v := ?_) (a' := ?_) #[true, true, true, true, true, false, false, false, false, false, false, false, false] rfl rfl (by kernel_rfl) (fun _ _ _ h => h) (Or.inl ⟨by rfl, ?_⟩) ?_ ?_
  rotate_left
  · intro w'
    go_simp
    with_reducible rfl
  rotate_left
  · simp only [Act.put, List.setIfInBounds_toArray, List.set_cons_zero, List.set_cons_succ, i64_w, i32_w]
    rfl
  refine pure_ (i := 5) (N := some 54) (v := ?_) (a' := ?_) #[true, true, true, true, true, true, false, false, false, false, false, false, false] rfl rfl (by kernel_rfl) (fun _ _ _ h => h) (Or.inl ⟨by rfl, ?_⟩) ?_ ?_
  rotate_left
  · intro w'
    go_simp
    with_reducible rfl
  rotate_left
  · simp only [Act.put, List.setIfInBounds_toArray, List.set_cons_zero, List.set_cons_succ, i64_w, i32_w]
    rfl
  refine pure_ (i := 6) (N := some 55) (v := ?_) (a' := ?_) #[true, true, true, true, true, true, true, false, false, false, false, false, false] rfl rfl (by kernel_rfl) (fun _ _ _ h => h) (Or.inl ⟨by rfl, ?_⟩) ?_ ?_
  rotate_left
  · intro w'
    go_simp
    with_reducible rfl
  rotate_left
  · simp only [Act.put, List.setIfInBounds_toArray, List.set_cons_zero, List.set_cons_succ, i64_w, i32_w]
    rfl
  refine pure_ (i := 7) (N := some 56) (v := ?_) (a' := ?_) #[true, true, true, true, true, true, true, true, false, false, false, false, false] rfl rfl (by kernel_rfl) (fun _ _ _ h => h) (Or.inl ⟨by rfl, ?_⟩) ?_ ?_
  rotate_left
  · intro w'
    go_simp
    with_reducible rfl
  rotate_left
  · simp only [Act.put, List.setIfInBounds_toArray, List.set_cons_zero, List.set_cons_succ, i64_w, i32_w]
    rfl
  refine pure_ (i := 8) (N := some 57) (v := ?_) (a' := ?_) #[true, true, true, true, true, true, true, true, true, false, false, false, false] rfl rfl (by kernel_rfl) (fun _ _ _ h => h) (Or.inl ⟨by rfl, ?_⟩) ?_ ?_
  rotate_left
  · intro w'
    go_simp
    with_reducible rfl
  rotate_left
  · simp only [Act.put, List.setIfInBounds_toArray, List.set_cons_zero, List.set_cons_succ, i64_w, i32_w]
    rfl
  refine pure_ (i := 9) (N := some 58) (v := ?_) (a' := ?_) #[true, true, true, true, true, true, true, true, true, true, false, false, false] rfl rfl (by kernel_rfl) (fun _ _ _ h => h) (Or.inl ⟨by rfl, ?_⟩) ?_ ?_
  rotate_left
  · intro w'
    go_simp
    with_reducible rfl
  rotate_left
  · simp only [Act.put, List.setIfInBounds_toArray, List.set_cons_zero, List.set_cons_succ, i64_w, i32_w]
    rfl
  refine last_ (i := 10) (N := none) #[true, true, true, true, true, true, true, true, true, true, true, false, false] rfl rfl (by kernel_rfl) (by decide) (fun K hK => ?_)
  obtain ⟨ra0, ra1, ra2, ra3, ra4⟩ := cells5 HK9.out.r
  obtain ⟨ga0, ga1, ga2, ga3, ga4⟩ := froz5 HK9.out.r
  have hRl := lt_blk HK9.out.r
  refine skip_ (w1 := ?_) (by rfl) rfl ?_ ?_
  rotate_left
  · go_simp
    first | with_reducible rfl | rfl
  refine hK.out _ _ ?_
  clear hK K
  refine pure_ (i := 11) (N := some 9) (v := ?_) (a' := ?_) #[true, true, true, true, true, true, true, true, true, true, true, true, false] rfl rfl (by kernel_rfl) (fun _ _ _ h => h) (Or.inl ⟨by rfl, ?_⟩) ?_ ?_
  rotate_left
  · intro w'
    go_simp
    with_reducible rfl
  rotate_left
  · simp only [Act.put, List.setIfInBounds_toArray, List.set_cons_zero, List.set_cons_succ, i64_w, i32_w]
    rfl
  refine pure_ (i := 12) (N := some 10) (v := ?_) (a' := ?_) #[true, true, true, true, true, true, true, true, true, true, true, true, true] rfl rfl (by kernel_rfl) (fun _ _ _ h => h) (Or.inl ⟨by rfl, ?_⟩) ?_ ?_
  rotate_left
  · intro w'
    go_simp
    with_reducible rfl
  rotate_left
  · simp only [Act.put, List.setIfInBounds_toArray, List.set_cons_zero, List.set_cons_succ, i64_w, i32_w]
    rfl
  refine done_ (by kernel_rfl) ?_
  go_wp2
  --MARKE
  have hkR : Keep (fun i => i = w.heap.size + 2) x9 ((((((x9.setCell ⟨(w.heap.size + 2), 0, none⟩ (.int .i64 s1.limit)).setCell ⟨(w.heap.size + 2), 1, none⟩ ((.slice AG3 (ints s1.gens).length cG3))).setCell ⟨(w.heap.size + 2), 2, none⟩ ((.slice AA3 (bools s1.alive).length cA3))).setCell ⟨(w.heap.size + 2), 3, none⟩ ((.slice AC3 us.length cC3))).setCell ⟨(w.heap.size + 2), 4, none⟩ ((.slice AF3 (ints s1.free).length cF3)))) := set5_keep _ _ _ _ _ _ _
  obtain ⟨z0, z1, z2, z3, z4⟩ := cells5 (blk_set5 (u0 := .int .i64 s1.limit) (u1 := (.slice AG3 (ints s1.gens).length cG3)) (u2 := (.slice AA3 (bools s1.alive).length cA3)) (u3 := (.slice AC3 us.length cC3)) (u4 := (.slice AF3 (ints s1.free).length cF3)) HK9.out.r)
  refine bodyPost_ret (v := .tuple #[.agg #[.int .i64 s1.limit, (.slice AG3 (ints s1.gens).length cG3), (.slice AA3 (bools s1.alive).length cA3), (.slice AC3 us.length cC3), (.slice AF3 (ints s1.free).length cF3)], .slice AH had.length cH, .bool true]) (by simp [results, Try.results26, go_sem, z0, z1, z2, z3, z4]) rfl ?_
  exact ⟨_, _, _, _, us, _, _, _, rfl, HK9.out.done hkR⟩
set_option maxRecDepth 100000 in
set_option maxHeartbeats 16000000 in
theorem calls_take_yes {w0 w : World} {b : Nat} {col hc : Nat → Nat} {s : Sl} {vG vA vC vF : Value} {vs : List Value} {vh : Value} {had : List (Int × Int)} (p q g1 g2 : Int) (h : CaW w0 w b col hc s s vG vA vC vF vs vh had) (hO : Ok s) (hhl : (had.length + 1) * 16 ≤ 140737488355328) {s1 : Sl} {x g er : Int} (hT : takeS s p = (s1, x, g, er)) (hE : er = 0) :
    Calls Try.prog 26 #[.pointer (some ⟨b, 0, none⟩), .agg #[.int .i64 s.limit, vG, vA, vC, vF], .agg #[.int .i64 0, .int .i64 p, .int .i64 q, .int .i64 g1, .int .i64 g2], vh] w (CallsP w0 w hc b (s1, had ++ [(x, g)])) := by
  obtain ⟨AG0, cG0, rfl, -⟩ := h.rd.g.slice
  obtain ⟨AA0, cA0, rfl, -⟩ := h.rd.a.slice
  obtain ⟨AC0, cC0, rfl, -⟩ := h.rd.c.slice
  obtain ⟨AF0, cF0, rfl, -⟩ := h.rd.f.slice
  obtain ⟨AH, cH, rfl, hcH, hCH⟩ := gid_rd h.h
  have hW : Below w.heap.size w (((w.alloc (.cells #[.int .i64 s.limit, (.slice AG0 (ints s.gens).length cG0), (.slice AA0 (bools s.alive).length cA0), (.slice AC0 vs.length cC0), (.slice AF0 (ints s.free).length cF0)] TT)).alloc (.cells #[.int .i64 0, .int .i64 p, .int .i64 q, .int .i64 g1, .int .i64 g2] 55)).alloc (.cells #[.int .i64 0, .slice none 0 0, .slice none 0 0, .slice none 0 0, .slice none 0 0] 30)) := (by repeat (first | (with_reducible exact Below.refl _ _) | (with_reducible refine Below.drew ?_) | (with_reducible refine below_drewN ?_ _) | (with_reducible refine below_al ?_ _) | (with_reducible refine Below.alloc ?_ (by first | exact Nat.le_refl _ | omega | (simp; done) | (simp; omega)) _) | (with_reducible refine Below.setCell ?_ (by first | (simp only []; omega) | (simp; done) | (simp; omega)) _)))
  have HK : Aside0 (CkW w0 w (((w.alloc (.cells #[.int .i64 s.limit, (.slice AG0 (ints s.gens).length cG0), (.slice AA0 (bools s.alive).length cA0), (.slice AC0 vs.length cC0), (.slice AF0 (ints s.free).length cF0)] TT)).alloc (.cells #[.int .i64 0, .int .i64 p, .int .i64 q, .int .i64 g1, .int .i64 g2] 55)).alloc (.cells #[.int .i64 0, .slice none 0 0, .slice none 0 0, .slice none 0 0, .slice none 0 0] 30)) b col hc (paint hc 2 w.heap.size (w.heap.size + 3)) s s (.slice AG0 (ints s.gens).length cG0) (.slice AA0 (bools s.alive).length cA0) (.slice AC0 vs.length cC0) (.slice AF0 (ints s.free).length cF0) vs (.slice AH had.length cH) had #[.int .i64 s.limit, (.slice AG0 (ints s.gens).length cG0), (.slice AA0 (bools s.alive).length cA0), (.slice AC0 vs.length cC0), (.slice AF0 (ints s.free).length cF0)] ⟨0, p, q, (g1, g2)⟩) := ⟨h.start hW (by simp) (blk_alloc (blk_alloc (blk_new _ _))) (blk_alloc (blk_new1 _ _ _)) (blk_new2 _ _ _ _)⟩
  have HC := Aside0.mk (Kd.C_below hCH hW)
  have HT := take_slab p _ HK.out.base HK.out.ca.sl hO
  unfold TakeP at HT
  rw [hT] at HT
  subst hE
  clear h hW hCH
  unfold CallsP
  go_enter Try.func26, Try.ntmps26
  go_wp2_with fail
  --MARK0
  generalize (((w.alloc (.cells #[.int .i64 s.limit, (.slice AG0 (ints s.gens).length cG0), (.slice AA0 (bools s.alive).length cA0), (.slice AC0 vs.length cC0), (.slice AF0 (ints s.free).length cF0)] TT)).alloc (.cells #[.int .i64 0, .int .i64 p, .int .i64 q, .int .i64 g1, .int .i64 g2] 55)).alloc (.cells #[.int .i64 0, .slice none 0 0, .slice none 0 0, .slice none 0 0, .slice none 0 0] 30)) = W at *
  refine HT.mono ?_
  clear HT
  rintro e w1 ⟨col1, rfl, hI1, hN1⟩
  have HK1 := Aside0.mk (HK.out.slab hN1 hI1)
  clear hI1 hN1
  obtain ⟨p0, p1, p2, p3, p4⟩ := cells5 HK1.out.p
  obtain ⟨o0, o1, o2, o3, o4⟩ := cells5 HK1.out.o
  have hPl := lt_blk HK1.out.p
  have hOl := lt_blk HK1.out.o
  go_wp2_with fail
  --MARK1
  have hB2 : Below w1.heap.size w1 (w1.alloc (.cells #[.int .i64 x, .int .i64 g] 48)) := (by repeat (first | (with_reducible exact Below.refl _ _) | (with_reducible refine Below.drew ?_) | (with_reducible refine below_drewN ?_ _) | (with_reducible refine below_al ?_ _) | (with_reducible refine Below.alloc ?_ (by first | exact Nat.le_refl _ | omega | (simp; done) | (simp; omega)) _) | (with_reducible refine Below.setCell ?_ (by first | (simp only []; omega) | (simp; done) | (simp; omega)) _)))
  have hG2 : (w1.alloc (.cells #[.int .i64 x, .int .i64 g] 48)).heap[w1.heap.size]? = some (.cells #[.int .i64 x, .int .i64 g] 48 (0, 0)) := blk_new _ _
  have HK2 := Aside0.mk (HK1.out.then hB2)
  have HG2 := Aside0.mk hG2
  have hz2 := HK1.out.ca.hz w1.heap.size (Nat.le_refl _)
  generalize (w1.alloc (.cells #[.int .i64 x, .int .i64 g] 48)) = W2 at *
  clear hB2 hG2 p0 p1 p2 p3 p4 o0 o1 o2 o3 o4 hPl hOl
  have HT := take_rd p W2 HK2.out.ca.rd HK2.out.ca.own hO
  rw [hT] at HT
  refine HT.mono ?_
  clear HT
  rintro e w3 ⟨uG, uA, uC, uF, us, rfl, hS3, hB3⟩
  obtain ⟨AG3, cG3, rfl, -⟩ := hS3.rd.g.slice
  obtain ⟨AA3, cA3, rfl, -⟩ := hS3.rd.a.slice
  obtain ⟨AC3, cC3, rfl, -⟩ := hS3.rd.c.slice
  obtain ⟨AF3, cF3, rfl, -⟩ := hS3.rd.f.slice
  have HK3 := Aside0.mk (HK2.out.model hB3 hS3)
  have HG3 := Aside0.mk (blk_below HG2.out hB3)
  clear hS3 hB3
  go_upto_region 6 with fail
  --MARK2
  have hB4 : Below w3.heap.size w3 ((w3.alloc (.cells #[.int .i64 s1.limit, (.slice AG3 (ints s1.gens).length cG3), (.slice AA3 (bools s1.alive).length cA3), (.slice AC3 us.length cC3), (.slice AF3 (ints s1.free).length cF3)] TT)).alloc (.cells #[.int .i64 x, .int .i64 g] 48)) := (by repeat (first | (with_reducible exact Below.refl _ _) | (with_reducible refine Below.drew ?_) | (with_reducible refine below_drewN ?_ _) | (with_reducible refine below_al ?_ _) | (with_reducible refine Below.alloc ?_ (by first | exact Nat.le_refl _ | omega | (simp; done) | (simp; omega)) _) | (with_reducible refine Below.setCell ?_ (by first | (simp only []; omega) | (simp; done) | (simp; omega)) _)))
  have HK4 := Aside0.mk (HK3.out.then hB4)
  have HG4 := Aside0.mk (blk_below HG3.out hB4)
  have HS4 : Aside0 (((w3.alloc (.cells #[.int .i64 s1.limit, (.slice AG3 (ints s1.gens).length cG3), (.slice AA3 (bools s1.alive).length cA3), (.slice AC3 us.length cC3), (.slice AF3 (ints s1.free).length cF3)] TT)).alloc (.cells #[.int .i64 x, .int .i64 g] 48)).heap[w3.heap.size]? = some (.cells #[.int .i64 s1.limit, (.slice AG3 (ints s1.gens).length cG3), (.slice AA3 (bools s1.alive).length cA3), (.slice AC3 us.length cC3), (.slice AF3 (ints s1.free).length cF3)] TT (0, 0))) := ⟨blk_alloc (blk_new _ _)⟩
  have HH4 : Aside0 (((w3.alloc (.cells #[.int .i64 s1.limit, (.slice AG3 (ints s1.gens).length cG3), (.slice AA3 (bools s1.alive).length cA3), (.slice AC3 us.length cC3), (.slice AF3 (ints s1.free).length cF3)] TT)).alloc (.cells #[.int .i64 x, .int .i64 g] 48)).heap[w3.heap.size + 1]? = some (.cells #[.int .i64 x, .int .i64 g] 48 (0, 0))) := ⟨blk_new1 _ _ _⟩
  have hz4 := HK3.out.ca.hz w3.heap.size (Nat.le_refl _)
  have hz5 := HK3.out.ca.hz (w3.heap.size + 1) (Nat.le_succ _)
  generalize ((w3.alloc (.cells #[.int .i64 s1.limit, (.slice AG3 (ints s1.gens).length cG3), (.slice AA3 (bools s1.alive).length cA3), (.slice AC3 us.length cC3), (.slice AF3 (ints s1.free).length cF3)] TT)).alloc (.cells #[.int .i64 x, .int .i64 g] 48)) = W4 at *
  clear hB4
  have hb4 := HK4.out.base
  have q0 := cell_blk HH4.out 0
  have q1 := cell_blk HH4.out 1
  simp only [List.getElem?_toArray, List.getElem?_cons_zero, List.getElem?_cons_succ] at q0 q1
  have hHl := lt_blk HH4.out
  go_upto_region 7 with ((with_reducible refine gate_builtin (b := .append) (xs := #[.tmp 45, .tmp 47]) rfl ?_); at_builtin; refine Kd.R_append kG (w0 := W4) w0.heap.size rfl (.tmp 45) (.tmp 47) 39 48 (.agg #[.int .i64 0, .int .i64 0]) 16 rfl Try.underlying39 infoG rfl (by decide) (by omega) (.slice AH had.length cH) had (x, g) [.int .i64 x, .int .i64 g] (fun i => paint hc 2 w.heap.size (w.heap.size + 3) i = 1 ∨ W4.heap.size ≤ i) (fun _ => False) rfl ?aX ?aM (fun _ h => h.elim) ?aF ?aO ?aB ?aS ?aL ?_; (case aX => first | rfl | exact congrArg (fun n => Value.slice (some ⟨n, 0, none⟩) 1 1) (by simp)); (case aM => exact kG_mkM _ _ _ _); (case aF => exact fun _ h => .inr h); (case aO => exact (Kd.R_mono HK4.out.ca.h (fun _ h => .inl h))); (case aB => exact Below.refl _ _); (case aS => omega); (case aL => omega); intro v5 w5 ho5 hb5 hg5 hat5; have hk5 := grown_keep hg5 (fun i hi => HK4.out.ca.h.1 i hi); have HK5 := Aside0.mk (HK4.out.turn hk5 ho5); have HS5 := Aside0.mk (blk_keep HS4.out hk5 (by omega)); have HG5 := Aside0.mk (blk_keep HG4.out hk5 (by omega)); have HH5 := Aside0.mk (blk_keep HH4.out hk5 (by omega)); obtain ⟨A5, c5, he5, -, -⟩ := gid_rd ho5; rw [List.length_append, List.length_singleton] at he5; subst he5; clear hk5 ho5 hg5 hat5 hb5)
  --MARK6
  clear q0 q1 hHl
  have hBd : Below w5.heap.size w5 w5.drew := (Below.refl _ _).drew
  obtain ⟨q0, q1, q2, q3, q4⟩ := cells5 (blk_below HS5.out hBd)
  have hg2 := blk_below HG5.out hBd
  have hh2 := blk_below HH5.out hBd
  have a0 := cell_blk hg2 0
  have a1 := cell_blk hg2 1
  have c0 := cell_blk hh2 0
  have c1 := cell_blk hh2 1
  simp only [List.getElem?_toArray, List.getElem?_cons_zero, List.getElem?_cons_succ] at a0 a1 c0 c1
  have HK9 := Aside0.mk (HK5.out.then hBd)
  clear hBd hg2 hh2
  --MARK7
  refine start_ (n := 13) (S := fun w' => w'.cell? ⟨w3.heap.size, 0, none⟩ = some (.int .i64 s1.limit) ∧ w'.cell? ⟨w3.heap.size, 1, none⟩ = some ((.slice AG3 (ints s1.gens).length cG3)) ∧ w'.cell? ⟨w3.heap.size, 2, none⟩ = some ((.slice AA3 (bools s1.alive).length cA3)) ∧ w'.cell? ⟨w3.heap.size, 3, none⟩ = some ((.slice AC3 us.length cC3)) ∧ w'.cell? ⟨w3.heap.size, 4, none⟩ = some ((.slice AF3 (ints s1.free).length cF3)) ∧ w'.cell? ⟨w1.heap.size, 0, none⟩ = some (.int .i64 x) ∧ w'.cell? ⟨w1.heap.size, 1, none⟩ = some (.int .i64 g) ∧ w'.cell? ⟨w3.heap.size + 1, 0, none⟩ = some (.int .i64 x) ∧ w'.cell? ⟨w3.heap.size + 1, 1, none⟩ = some (.int .i64 g)) (ds := [10]) #[false, false, false, false, false, false, false, false, false, false, false, false, false] (by kernel_rfl) rfl rfl ⟨q0, q1, q2, q3, q4, a0, a1, c0, c1⟩ (fun hHeld => ?_)
  generalize w5.drew = x9 at *
  refine pure_ (i := 1) (N := some 50) (v := ?_) (a' := ?_) #[false, true, false, false, false, false, false, false, false, false, false, false, false] rfl rfl (by kernel_rfl) (fun _ _ _ h => h) (Or.inl ⟨by rfl, ?_⟩) ?_ ?_
  rotate_left
  · intro w'
    go_simp
    with_reducible rfl
  rotate_left
  · simp only [Act.put, List.setIfInBounds_toArray, List.set_cons_zero, List.set_cons_succ, i64_w, i32_w]
    rfl
  refine take_ (i := 0) (N := some 49) (v := ?_) (a' := ?_) #[true, true, false, false, false, false, false, false, false, false, false, false, false] rfl rfl (by kernel_rfl) (fun _ _ _ h => h) (Or.inl ⟨by rfl, ?_⟩) hHeld ?_ ?_
  rotate_left
  · rintro w' ⟨s0, s1, s2, s3, s4, s5, s6, s7, s8⟩
    go_simp
    with_reducible rfl
  rotate_left
  · simp only [Act.put, List.setIfInBounds_toArray, List.set_cons_zero, List.set_cons_succ, i64_w, i32_w]
    rfl
  refine take_ (i := 2) (N := some 51) (v := ?_) (a' := ?_) #[true, true, true, false, false, false, false, false, false, false, false, false, false] rfl rfl (by kernel_rfl) (fun _ _ _ h => h) (Or.inl ⟨by rfl, ?_⟩) hHeld ?_ ?_
  rotate_left
  · rintro w' ⟨s0, s1, s2, s3, s4, s5, s6, s7, s8⟩
    go_simp
    with_reducible rfl
  rotate_left
  · simp only [Act.put, List.setIfInBounds_toArray, List.set_cons_zero, List.set_cons_succ, i64_w, i32_w]
    rfl
  refine take_ (i := 3) (N := some 52) (v := ?_) (a' := ?_) #[true, true, true, true, false, false, false, false, false, false, false, false, false] rfl rfl (by kernel_rfl) (fun _ _ _ h => h) (Or.inl ⟨by rfl, ?_⟩) hHeld ?_ ?_
  rotate_left
  · rintro w' ⟨s0, s1, s2, s3, s4, s5, s6, s7, s8⟩
    go_simp
    with_reducible rfl
  rotate_left
  · simp only [Act.put, List.setIfInBounds_toArray, List.set_cons_zero, List.set_cons_succ, i64_w, i32_w]
    rfl
  refine pure_ (i := 4) (N := some 53) (v := ?_) (a' := ?_) #[true, true, true, true, true, false, false, false, false, false, false, false, false] rfl rfl (by kernel_rfl) (fun _ _ _ h => h) (Or.inl ⟨by rfl, ?_⟩) ?_ ?_
  rotate_left
  · intro w'
    go_simp
    with_reducible rfl
  rotate_left
  · simp only [Act.put, List.setIfInBounds_toArray, List.set_cons_zero, List.set_cons_succ, i64_w, i32_w]
    rfl
  refine pure_ (i := 5) (N := some 54) (v := ?_) (a' := ?_) #[true, true, true, true, true, true, false, false, false, false, false, false, false] rfl rfl (by kernel_rfl) (fun _ _ _ h => h) (Or.inl ⟨by rfl, ?_⟩) ?_ ?_
  rotate_left
  · intro w'
    go_simp
    with_reducible rfl
  rotate_left
  · simp only [Act.put, List.setIfInBounds_toArray, List.set_cons_zero, List.set_cons_succ, i64_w, i32_w]
    rfl
  refine pure_ (i := 6) (N := some 55) (v := ?_) (a' := ?_) #[true, true, true, true, true, true, true, false, false, false, false, false, false] rfl rfl (by kernel_rfl) (fun _ _ _ h => h) (Or.inl ⟨by rfl, ?_⟩) ?_ ?_
  rotate_left
  · intro w'
    go_simp
    with_reducible rfl
  rotate_left
  · simp only [Act.put, List.setIfInBounds_toArray, List.set_cons_zero, List.set_cons_succ, i64_w, i32_w]
    rfl
  refine pure_ (i := 7) (N := some 56) (v := ?_) (a' := ?_) #[true, true, true, true, true, true, true, true, false, false, false, false, false] rfl rfl (by kernel_rfl) (fun _ _ _ h => h) (Or.inl ⟨by rfl, ?_⟩) ?_ ?_
  rotate_left
  · intro w'
    go_simp
    with_reducible rfl
  rotate_left
  · simp only [Act.put, List.setIfInBounds_toArray, List.set_cons_zero, List.set_cons_succ, i64_w, i32_w]
    rfl
  refine pure_ (i := 8) (N := some 57) (v := ?_) (a' := ?_) #[true, true, true, true, true, true, true, true, true, false, false, false, false] rfl rfl (by kernel_rfl) (fun _ _ _ h => h) (Or.inl ⟨by rfl, ?_⟩) ?_ ?_
  rotate_left
  · intro w'
    go_simp
    with_reducible rfl
  rotate_left
  · simp only [Act.put, List.setIfInBounds_toArray, List.set_cons_zero, List.set_cons_succ, i64_w, i32_w]
    rfl
  refine pure_ (i := 9) (N := some 58) (v := ?_) (a' := ?_) #[true, true, true, true, true, true, true, true, true, true, false, false, false] rfl rfl (by kernel_rfl) (fun _ _ _ h => h) (Or.inl ⟨by rfl, ?_⟩) ?_ ?_
  rotate_left
  · intro w'
    go_simp
    with_reducible rfl
  rotate_left
  · simp only [Act.put, List.setIfInBounds_toArray, List.set_cons_zero, List.set_cons_succ, i64_w, i32_w]
    rfl
  refine last_ (i := 10) (N := none) #[true, true, true, true, true, true, true, true, true, true, true, false, false] rfl rfl (by kernel_rfl) (by decide) (fun K hK => ?_)
  obtain ⟨ra0, ra1, ra2, ra3, ra4⟩ := cells5 HK9.out.r
  obtain ⟨ga0, ga1, ga2, ga3, ga4⟩ := froz5 HK9.out.r
  have hRl := lt_blk HK9.out.r
  refine skip_ (w1 := ?_) (by rfl) rfl ?_ ?_
  rotate_left
  · go_simp
    first | with_reducible rfl | rfl
  refine hK.out _ _ ?_
  clear hK K
  refine pure_ (i := 11) (N := some 9) (v := ?_) (a' := ?_) #[true, true, true, true, true, true, true, true, true, true, true, true, false] rfl rfl (by kernel_rfl) (fun _ _ _ h => h) (Or.inl ⟨by rfl, ?_⟩) ?_ ?_
  rotate_left
  · intro w'
    go_simp
    with_reducible rfl
  rotate_left
  · simp only [Act.put, List.setIfInBounds_toArray, List.set_cons_zero, List.set_cons_succ, i64_w, i32_w]
    rfl
  refine pure_ (i := 12) (N := some 10) (v := ?_) (a' := ?_) #[true, true, true, true, true, true, true, true, true, true, true, true, true] rfl rfl (by kernel_rfl) (fun _ _ _ h => h) (Or.inl ⟨by rfl, ?_⟩) ?_ ?_
  rotate_left
  · intro w'
    go_simp
    with_reducible rfl
  rotate_left
  · simp only [Act.put, List.setIfInBounds_toArray, List.set_cons_zero, List.set_cons_succ, i64_w, i32_w]
    rfl
  refine done_ (by kernel_rfl) ?_
  go_wp2
  --MARKE
  have hkR : Keep (fun i => i = w.heap.size + 2) x9 ((((((x9.setCell ⟨(w.heap.size + 2), 0, none⟩ (.int .i64 s1.limit)).setCell ⟨(w.heap.size + 2), 1, none⟩ ((.slice AG3 (ints s1.gens).length cG3))).setCell ⟨(w.heap.size + 2), 2, none⟩ ((.slice AA3 (bools s1.alive).length cA3))).setCell ⟨(w.heap.size + 2), 3, none⟩ ((.slice AC3 us.length cC3))).setCell ⟨(w.heap.size + 2), 4, none⟩ ((.slice AF3 (ints s1.free).length cF3)))) := set5_keep _ _ _ _ _ _ _
  obtain ⟨z0, z1, z2, z3, z4⟩ := cells5 (blk_set5 (u0 := .int .i64 s1.limit) (u1 := (.slice AG3 (ints s1.gens).length cG3)) (u2 := (.slice AA3 (bools s1.alive).length cA3)) (u3 := (.slice AC3 us.length cC3)) (u4 := (.slice AF3 (ints s1.free).length cF3)) HK9.out.r)
  refine bodyPost_ret (v := .tuple #[.agg #[.int .i64 s1.limit, (.slice AG3 (ints s1.gens).length cG3), (.slice AA3 (bools s1.alive).length cA3), (.slice AC3 us.length cC3), (.slice AF3 (ints s1.free).length cF3)], (.slice A5 (had.length + 1) c5), .bool true]) (by simp [results, Try.results26, go_sem, z0, z1, z2, z3, z4]) rfl ?_
  exact ⟨_, _, _, _, us, _, _, _, rfl, HK9.out.done hkR⟩
end Go.Proofs.Ytnglgjegkjfnaaa
set_option linter.unusedSimpArgs false
set_option linter.unusedVariables false
namespace Go.Proofs.Ytnglgjegkjfnaaa
open Go.RowKit Go.ChangeShapes Go.WideShapes Go.ChangeAt Go.Proofs.YtnglgjegkjfnaaaW.PrintWords Go.Proofs.YtnglgjegkjfnaaaW.PrintMore Go.Proofs.YtnglgjegkjfnaaaW.PrintLast
/-! rotalaw04.calls: printed by gen04bb.py. -/
attribute [local go_sem high] eqG
theorem callS_give {s s1 : Sl} {had : List (Int × Int)} {p q g1 g2 x g e : Int} (hN : nameS q (g1, g2) had = (x, g)) (hG : giveS s p x g = (s1, e)) : callS s had ⟨1, p, q, (g1, g2)⟩ = (s1, had) := by
  rw [callS]
  simp only [hN, hG]
  rfl
set_option maxRecDepth 100000 in
set_option maxHeartbeats 16000000 in
theorem calls_give {w0 w : World} {b : Nat} {col hc : Nat → Nat} {s : Sl} {vG vA vC vF : Value} {vs : List Value} {vh : Value} {had : List (Int × Int)} (p q g1 g2 : Int) (h : CaW w0 w b col hc s s vG vA vC vF vs vh had) (hO : Ok s) (hhl : (had.length + 1) * 16 ≤ 140737488355328) {s1 : Sl} {x g er : Int} (hN : nameS q (g1, g2) had = (x, g)) (hG : giveS s p x g = (s1, er)) (hcc : ∀ c ∈ s.caches, c.length < 64) :
    Calls Try.prog 26 #[.pointer (some ⟨b, 0, none⟩), .agg #[.int .i64 s.limit, vG, vA, vC, vF], .agg #[.int .i64 1, .int .i64 p, .int .i64 q, .int .i64 g1, .int .i64 g2], vh] w (CallsP w0 w hc b (s1, had)) := by
  obtain ⟨AG0, cG0, rfl, -⟩ := h.rd.g.slice
  obtain ⟨AA0, cA0, rfl, -⟩ := h.rd.a.slice
  obtain ⟨AC0, cC0, rfl, -⟩ := h.rd.c.slice
  obtain ⟨AF0, cF0, rfl, -⟩ := h.rd.f.slice
  obtain ⟨AH, cH, rfl, hcH, hCH⟩ := gid_rd h.h
  have hW : Below w.heap.size w (((w.alloc (.cells #[.int .i64 s.limit, (.slice AG0 (ints s.gens).length cG0), (.slice AA0 (bools s.alive).length cA0), (.slice AC0 vs.length cC0), (.slice AF0 (ints s.free).length cF0)] TT)).alloc (.cells #[.int .i64 1, .int .i64 p, .int .i64 q, .int .i64 g1, .int .i64 g2] 55)).alloc (.cells #[.int .i64 0, .slice none 0 0, .slice none 0 0, .slice none 0 0, .slice none 0 0] 30)) := (by repeat (first | (with_reducible exact Below.refl _ _) | (with_reducible refine Below.drew ?_) | (with_reducible refine below_drewN ?_ _) | (with_reducible refine below_al ?_ _) | (with_reducible refine Below.alloc ?_ (by first | exact Nat.le_refl _ | omega | (simp; done) | (simp; omega)) _) | (with_reducible refine Below.setCell ?_ (by first | (simp only []; omega) | (simp; done) | (simp; omega)) _)))
  have HK : Aside0 (CkW w0 w (((w.alloc (.cells #[.int .i64 s.limit, (.slice AG0 (ints s.gens).length cG0), (.slice AA0 (bools s.alive).length cA0), (.slice AC0 vs.length cC0), (.slice AF0 (ints s.free).length cF0)] TT)).alloc (.cells #[.int .i64 1, .int .i64 p, .int .i64 q, .int .i64 g1, .int .i64 g2] 55)).alloc (.cells #[.int .i64 0, .slice none 0 0, .slice none 0 0, .slice none 0 0, .slice none 0 0] 30)) b col hc (paint hc 2 w.heap.size (w.heap.size + 3)) s s (.slice AG0 (ints s.gens).length cG0) (.slice AA0 (bools s.alive).length cA0) (.slice AC0 vs.length cC0) (.slice AF0 (ints s.free).length cF0) vs (.slice AH had.length cH) had #[.int .i64 s.limit, (.slice AG0 (ints s.gens).length cG0), (.slice AA0 (bools s.alive).length cA0), (.slice AC0 vs.length cC0), (.slice AF0 (ints s.free).length cF0)] ⟨1, p, q, (g1, g2)⟩) := ⟨h.start hW (by simp) (blk_alloc (blk_alloc (blk_new _ _))) (blk_alloc (blk_new1 _ _ _)) (blk_new2 _ _ _ _)⟩
  have HC := Aside0.mk (Kd.C_below hCH hW)
  have HT := name_any ⟨1, p, q, (g1, g2)⟩ AH cH had _ HC.out hcH
  simp only [hN] at HT
  clear h hW hCH
  unfold CallsP
  go_enter Try.func26, Try.ntmps26
  go_wp2_with fail
  --MARK0
  generalize (((w.alloc (.cells #[.int .i64 s.limit, (.slice AG0 (ints s.gens).length cG0), (.slice AA0 (bools s.alive).length cA0), (.slice AC0 vs.length cC0), (.slice AF0 (ints s.free).length cF0)] TT)).alloc (.cells #[.int .i64 1, .int .i64 p, .int .i64 q, .int .i64 g1, .int .i64 g2] 55)).alloc (.cells #[.int .i64 0, .slice none 0 0, .slice none 0 0, .slice none 0 0, .slice none 0 0] 30)) = W at *
  refine HT.mono ?_
  clear HT HC
  rintro e w1 ⟨rfl, hB1⟩
  have HK1 := Aside0.mk (HK.out.then hB1)
  clear hB1
  obtain ⟨p0, p1, p2, p3, p4⟩ := cells5 HK1.out.p
  obtain ⟨o0, o1, o2, o3, o4⟩ := cells5 HK1.out.o
  have hPl := lt_blk HK1.out.p
  have hOl := lt_blk HK1.out.o
  go_wp2_with fail
  --MARK1
  have hB2 : Below w1.heap.size w1 (w1.alloc (.cells #[.int .i64 x, .int .i64 g] 48)) := (by repeat (first | (with_reducible exact Below.refl _ _) | (with_reducible refine Below.drew ?_) | (with_reducible refine below_drewN ?_ _) | (with_reducible refine below_al ?_ _) | (with_reducible refine Below.alloc ?_ (by first | exact Nat.le_refl _ | omega | (simp; done) | (simp; omega)) _) | (with_reducible refine Below.setCell ?_ (by first | (simp only []; omega) | (simp; done) | (simp; omega)) _)))
  have HK2 := Aside0.mk (HK1.out.then hB2)
  have HG2 : Aside0 ((w1.alloc (.cells #[.int .i64 x, .int .i64 g] 48)).heap[w1.heap.size]? = some (.cells #[.int .i64 x, .int .i64 g] 48 (0, 0))) := ⟨blk_new _ _⟩
  have hz2 := HK1.out.ca.sl.z w1.heap.size (Nat.le_refl _)
  generalize (w1.alloc (.cells #[.int .i64 x, .int .i64 g] 48)) = W2 at *
  clear hB2 p0 p1 p2 p3 p4 o0 o1 o2 o3 o4 hPl hOl
  have a0 := cell_blk HG2.out 0
  have a1 := cell_blk HG2.out 1
  simp only [List.getElem?_toArray, List.getElem?_cons_zero, List.getElem?_cons_succ] at a0 a1
  have hGl := lt_blk HG2.out
  obtain ⟨p0, p1, p2, p3, p4⟩ := cells5 HK2.out.p
  obtain ⟨o0, o1, o2, o3, o4⟩ := cells5 HK2.out.o
  have hPl := lt_blk HK2.out.p
  have hOl := lt_blk HK2.out.o
  have HT := give_slab p x g W2 HK2.out.base HK2.out.ca.sl hO hcc
  unfold FlushP at HT
  rw [hG] at HT
  go_wp2_with fail
  --MARK2
  refine HT.mono ?_
  clear HT p0 p1 p2 p3 p4 o0 o1 o2 o3 o4 hPl hOl a0 a1 hGl
  rintro e w3 ⟨col1, rfl, hI3, hN3⟩
  have HK3 := Aside0.mk (HK2.out.slab hN3 hI3)
  have HG3 := Aside0.mk (blk_keep HG2.out hN3.keep (fun f => f hz2))
  clear hI3 hN3
  have a0 := cell_blk HG3.out 0
  have a1 := cell_blk HG3.out 1
  simp only [List.getElem?_toArray, List.getElem?_cons_zero, List.getElem?_cons_succ] at a0 a1
  have hGl := lt_blk HG3.out
  obtain ⟨p0, p1, p2, p3, p4⟩ := cells5 HK3.out.p
  obtain ⟨o0, o1, o2, o3, o4⟩ := cells5 HK3.out.o
  have hPl := lt_blk HK3.out.p
  have hOl := lt_blk HK3.out.o
  have HT := give_rd p x g w3 HK3.out.ca.rd HK3.out.ca.own hO
  unfold RefP at HT
  rw [hG] at HT
  go_wp2_with fail
  refine HT.mono ?_
  clear HT p0 p1 p2 p3 p4 o0 o1 o2 o3 o4 hPl hOl a0 a1 hGl
  rintro e w4 ⟨uG, uA, uC, uF, us, rfl, hS4, hB4⟩
  obtain ⟨AG3, cG3, rfl, -⟩ := hS4.rd.g.slice
  obtain ⟨AA3, cA3, rfl, -⟩ := hS4.rd.a.slice
  obtain ⟨AC3, cC3, rfl, -⟩ := hS4.rd.c.slice
  obtain ⟨AF3, cF3, rfl, -⟩ := hS4.rd.f.slice
  have HK4 := Aside0.mk (HK3.out.model hB4 hS4)
  clear hS4 hB4
  go_upto_region 12 with fail
  --MARK3
  have HK9 := Aside0.mk (HK4.out.then (below_al (Below.refl _ _) (.cells #[.int .i64 s1.limit, (.slice AG3 (ints s1.gens).length cG3), (.slice AA3 (bools s1.alive).length cA3), (.slice AC3 us.length cC3), (.slice AF3 (ints s1.free).length cF3)] TT)))
  have HS9 : Aside0 ((w4.alloc (.cells #[.int .i64 s1.limit, (.slice AG3 (ints s1.gens).length cG3), (.slice AA3 (bools s1.alive).length cA3), (.slice AC3 us.length cC3), (.slice AF3 (ints s1.free).length cF3)] TT)).heap[w4.heap.size]? = some (.cells #[.int .i64 s1.limit, (.slice AG3 (ints s1.gens).length cG3), (.slice AA3 (bools s1.alive).length cA3), (.slice AC3 us.length cC3), (.slice AF3 (ints s1.free).length cF3)] TT (0, 0))) := ⟨blk_new _ _⟩
  generalize (w4.alloc (.cells #[.int .i64 s1.limit, (.slice AG3 (ints s1.gens).length cG3), (.slice AA3 (bools s1.alive).length cA3), (.slice AC3 us.length cC3), (.slice AF3 (ints s1.free).length cF3)] TT)) = x9 at *
  obtain ⟨q0, q1, q2, q3, q4⟩ := cells5 HS9.out
  obtain ⟨ra0, ra1, ra2, ra3, ra4⟩ := cells5 HK9.out.r
  obtain ⟨ga0, ga1, ga2, ga3, ga4⟩ := froz5 HK9.out.r
  have hRl := lt_blk HK9.out.r
  have hSl := lt_blk HS9.out
  go_wp2
  --MARKE
  have hkR : Keep (fun i => i = w.heap.size + 2) x9 ((((((x9.setCell ⟨(w.heap.size + 2), 0, none⟩ (.int .i64 s1.limit)).setCell ⟨(w.heap.size + 2), 1, none⟩ ((.slice AG3 (ints s1.gens).length cG3))).setCell ⟨(w.heap.size + 2), 2, none⟩ ((.slice AA3 (bools s1.alive).length cA3))).setCell ⟨(w.heap.size + 2), 3, none⟩ ((.slice AC3 us.length cC3))).setCell ⟨(w.heap.size + 2), 4, none⟩ ((.slice AF3 (ints s1.free).length cF3)))) := set5_keep _ _ _ _ _ _ _
  obtain ⟨z0, z1, z2, z3, z4⟩ := cells5 (blk_set5 (u0 := .int .i64 s1.limit) (u1 := (.slice AG3 (ints s1.gens).length cG3)) (u2 := (.slice AA3 (bools s1.alive).length cA3)) (u3 := (.slice AC3 us.length cC3)) (u4 := (.slice AF3 (ints s1.free).length cF3)) HK9.out.r)
  refine bodyPost_ret (v := .tuple #[.agg #[.int .i64 s1.limit, (.slice AG3 (ints s1.gens).length cG3), (.slice AA3 (bools s1.alive).length cA3), (.slice AC3 us.length cC3), (.slice AF3 (ints s1.free).length cF3)], .slice AH had.length cH, .bool true]) (by simp [results, Try.results26, go_sem, z0, z1, z2, z3, z4]) rfl ?_
  exact ⟨_, _, _, _, us, _, _, _, rfl, HK9.out.done hkR⟩
theorem callS_flush {s s1 : Sl} {had : List (Int × Int)} {p q g1 g2 e : Int} (hG : flushS s p = (s1, e)) : callS s had ⟨2, p, q, (g1, g2)⟩ = (s1, had) := by
  rw [callS]
  simp only [hG]
  rfl
set_option maxRecDepth 100000 in
set_option maxHeartbeats 16000000 in
theorem calls_flush {w0 w : World} {b : Nat} {col hc : Nat → Nat} {s : Sl} {vG vA vC vF : Value} {vs : List Value} {vh : Value} {had : List (Int × Int)} (p q g1 g2 : Int) (h : CaW w0 w b col hc s s vG vA vC vF vs vh had) (hO : Ok s) (hhl : (had.length + 1) * 16 ≤ 140737488355328) {s1 : Sl} {er : Int} (hG : flushS s p = (s1, er)) :
    Calls Try.prog 26 #[.pointer (some ⟨b, 0, none⟩), .agg #[.int .i64 s.limit, vG, vA, vC, vF], .agg #[.int .i64 2, .int .i64 p, .int .i64 q, .int .i64 g1, .int .i64 g2], vh] w (CallsP w0 w hc b (s1, had)) := by
  obtain ⟨AG0, cG0, rfl, -⟩ := h.rd.g.slice
  obtain ⟨AA0, cA0, rfl, -⟩ := h.rd.a.slice
  obtain ⟨AC0, cC0, rfl, -⟩ := h.rd.c.slice
  obtain ⟨AF0, cF0, rfl, -⟩ := h.rd.f.slice
  obtain ⟨AH, cH, rfl, hcH, hCH⟩ := gid_rd h.h
  have hW : Below w.heap.size w (((w.alloc (.cells #[.int .i64 s.limit, (.slice AG0 (ints s.gens).length cG0), (.slice AA0 (bools s.alive).length cA0), (.slice AC0 vs.length cC0), (.slice AF0 (ints s.free).length cF0)] TT)).alloc (.cells #[.int .i64 2, .int .i64 p, .int .i64 q, .int .i64 g1, .int .i64 g2] 55)).alloc (.cells #[.int .i64 0, .slice none 0 0, .slice none 0 0, .slice none 0 0, .slice none 0 0] 30)) := (by repeat (first | (with_reducible exact Below.refl _ _) | (with_reducible refine Below.drew ?_) | (with_reducible refine below_drewN ?_ _) | (with_reducible refine below_al ?_ _) | (with_reducible refine Below.alloc ?_ (by first | exact Nat.le_refl _ | omega | (simp; done) | (simp; omega)) _) | (with_reducible refine Below.setCell ?_ (by first | (simp only []; omega) | (simp; done) | (simp; omega)) _)))
  have HK : Aside0 (CkW w0 w (((w.alloc (.cells #[.int .i64 s.limit, (.slice AG0 (ints s.gens).length cG0), (.slice AA0 (bools s.alive).length cA0), (.slice AC0 vs.length cC0), (.slice AF0 (ints s.free).length cF0)] TT)).alloc (.cells #[.int .i64 2, .int .i64 p, .int .i64 q, .int .i64 g1, .int .i64 g2] 55)).alloc (.cells #[.int .i64 0, .slice none 0 0, .slice none 0 0, .slice none 0 0, .slice none 0 0] 30)) b col hc (paint hc 2 w.heap.size (w.heap.size + 3)) s s (.slice AG0 (ints s.gens).length cG0) (.slice AA0 (bools s.alive).length cA0) (.slice AC0 vs.length cC0) (.slice AF0 (ints s.free).length cF0) vs (.slice AH had.length cH) had #[.int .i64 s.limit, (.slice AG0 (ints s.gens).length cG0), (.slice AA0 (bools s.alive).length cA0), (.slice AC0 vs.length cC0), (.slice AF0 (ints s.free).length cF0)] ⟨2, p, q, (g1, g2)⟩) := ⟨h.start hW (by simp) (blk_alloc (blk_alloc (blk_new _ _))) (blk_alloc (blk_new1 _ _ _)) (blk_new2 _ _ _ _)⟩
  have HC := Aside0.mk (Kd.C_below hCH hW)
  have HT := flush_slab p _ HK.out.base HK.out.ca.sl hO
  unfold FlushP at HT
  rw [hG] at HT
  clear h hW hCH
  unfold CallsP
  go_enter Try.func26, Try.ntmps26
  go_wp2_with fail
  --MARK0
  generalize (((w.alloc (.cells #[.int .i64 s.limit, (.slice AG0 (ints s.gens).length cG0), (.slice AA0 (bools s.alive).length cA0), (.slice AC0 vs.length cC0), (.slice AF0 (ints s.free).length cF0)] TT)).alloc (.cells #[.int .i64 2, .int .i64 p, .int .i64 q, .int .i64 g1, .int .i64 g2] 55)).alloc (.cells #[.int .i64 0, .slice none 0 0, .slice none 0 0, .slice none 0 0, .slice none 0 0] 30)) = W at *
  refine HT.mono ?_
  clear HT HC
  rintro e w3 ⟨col1, rfl, hI3, hN3⟩
  have HK3 := Aside0.mk (HK.out.slab hN3 hI3)
  clear hI3 hN3
  obtain ⟨p0, p1, p2, p3, p4⟩ := cells5 HK3.out.p
  obtain ⟨o0, o1, o2, o3, o4⟩ := cells5 HK3.out.o
  have hPl := lt_blk HK3.out.p
  have hOl := lt_blk HK3.out.o
  have HT := flush_rd p w3 HK3.out.ca.rd HK3.out.ca.own hO
  unfold RefP at HT
  rw [hG] at HT
  go_wp2_with fail
  --MARK2
  refine HT.mono ?_
  clear HT p0 p1 p2 p3 p4 o0 o1 o2 o3 o4 hPl hOl
  rintro e w4 ⟨uG, uA, uC, uF, us, rfl, hS4, hB4⟩
  obtain ⟨AG3, cG3, rfl, -⟩ := hS4.rd.g.slice
  obtain ⟨AA3, cA3, rfl, -⟩ := hS4.rd.a.slice
  obtain ⟨AC3, cC3, rfl, -⟩ := hS4.rd.c.slice
  obtain ⟨AF3, cF3, rfl, -⟩ := hS4.rd.f.slice
  have HK4 := Aside0.mk (HK3.out.model hB4 hS4)
  clear hS4 hB4
  go_upto_region 16 with fail
  --MARK3
  have HK9 := Aside0.mk (HK4.out.then (below_al (Below.refl _ _) (.cells #[.int .i64 s1.limit, (.slice AG3 (ints s1.gens).length cG3), (.slice AA3 (bools s1.alive).length cA3), (.slice AC3 us.length cC3), (.slice AF3 (ints s1.free).length cF3)] TT)))
  have HS9 : Aside0 ((w4.alloc (.cells #[.int .i64 s1.limit, (.slice AG3 (ints s1.gens).length cG3), (.slice AA3 (bools s1.alive).length cA3), (.slice AC3 us.length cC3), (.slice AF3 (ints s1.free).length cF3)] TT)).heap[w4.heap.size]? = some (.cells #[.int .i64 s1.limit, (.slice AG3 (ints s1.gens).length cG3), (.slice AA3 (bools s1.alive).length cA3), (.slice AC3 us.length cC3), (.slice AF3 (ints s1.free).length cF3)] TT (0, 0))) := ⟨blk_new _ _⟩
  generalize (w4.alloc (.cells #[.int .i64 s1.limit, (.slice AG3 (ints s1.gens).length cG3), (.slice AA3 (bools s1.alive).length cA3), (.slice AC3 us.length cC3), (.slice AF3 (ints s1.free).length cF3)] TT)) = x9 at *
  obtain ⟨q0, q1, q2, q3, q4⟩ := cells5 HS9.out
  obtain ⟨ra0, ra1, ra2, ra3, ra4⟩ := cells5 HK9.out.r
  obtain ⟨ga0, ga1, ga2, ga3, ga4⟩ := froz5 HK9.out.r
  have hRl := lt_blk HK9.out.r
  have hSl := lt_blk HS9.out
  go_wp2
  --MARKE
  have hkR : Keep (fun i => i = w.heap.size + 2) x9 ((((((x9.setCell ⟨(w.heap.size + 2), 0, none⟩ (.int .i64 s1.limit)).setCell ⟨(w.heap.size + 2), 1, none⟩ ((.slice AG3 (ints s1.gens).length cG3))).setCell ⟨(w.heap.size + 2), 2, none⟩ ((.slice AA3 (bools s1.alive).length cA3))).setCell ⟨(w.heap.size + 2), 3, none⟩ ((.slice AC3 us.length cC3))).setCell ⟨(w.heap.size + 2), 4, none⟩ ((.slice AF3 (ints s1.free).length cF3)))) := set5_keep _ _ _ _ _ _ _
  obtain ⟨z0, z1, z2, z3, z4⟩ := cells5 (blk_set5 (u0 := .int .i64 s1.limit) (u1 := (.slice AG3 (ints s1.gens).length cG3)) (u2 := (.slice AA3 (bools s1.alive).length cA3)) (u3 := (.slice AC3 us.length cC3)) (u4 := (.slice AF3 (ints s1.free).length cF3)) HK9.out.r)
  refine bodyPost_ret (v := .tuple #[.agg #[.int .i64 s1.limit, (.slice AG3 (ints s1.gens).length cG3), (.slice AA3 (bools s1.alive).length cA3), (.slice AC3 us.length cC3), (.slice AF3 (ints s1.free).length cF3)], .slice AH had.length cH, .bool true]) (by simp [results, Try.results26, go_sem, z0, z1, z2, z3, z4]) rfl ?_
  exact ⟨_, _, _, _, us, _, _, _, rfl, HK9.out.done hkR⟩
end Go.Proofs.Ytnglgjegkjfnaaa
set_option linter.unusedSimpArgs false
set_option linter.unusedVariables false
namespace Go.Proofs.Ytnglgjegkjfnaaa
open Go.RowKit Go.ChangeShapes Go.WideShapes Go.ChangeAt Go.Proofs.YtnglgjegkjfnaaaW.PrintWords Go.Proofs.YtnglgjegkjfnaaaW.PrintMore Go.Proofs.YtnglgjegkjfnaaaW.PrintLast
/-! rotalaw04.calls: printed by gen04bb.py. -/
attribute [local go_sem high] eqG
theorem callS_ask {s : Sl} {had : List (Int × Int)} {d p q g1 g2 : Int} (h0 : d ≠ 0) (h1 : d ≠ 1) (h2 : d ≠ 2) : callS s had ⟨d, p, q, (g1, g2)⟩ = (s, had) := by
  rw [callS, if_neg h0, if_neg h1, if_neg h2]
set_option maxRecDepth 100000 in
set_option maxHeartbeats 16000000 in
theorem calls_ask {w0 w : World} {b : Nat} {col hc : Nat → Nat} {s : Sl} {vG vA vC vF : Value} {vs : List Value} {vh : Value} {had : List (Int × Int)} (d p q g1 g2 : Int) (h : CaW w0 w b col hc s s vG vA vC vF vs vh had) (hO : Ok s) (hhl : (had.length + 1) * 16 ≤ 140737488355328) {x g : Int} (hN : nameS q (g1, g2) had = (x, g)) (hd0 : d ≠ 0) (hd1 : d ≠ 1) (hd2 : d ≠ 2) :
    Calls Try.prog 26 #[.pointer (some ⟨b, 0, none⟩), .agg #[.int .i64 s.limit, vG, vA, vC, vF], .agg #[.int .i64 d, .int .i64 p, .int .i64 q, .int .i64 g1, .int .i64 g2], vh] w (CallsP w0 w hc b (s, had)) := by
  obtain ⟨AG0, cG0, rfl, -⟩ := h.rd.g.slice
  obtain ⟨AA0, cA0, rfl, -⟩ := h.rd.a.slice
  obtain ⟨AC0, cC0, rfl, -⟩ := h.rd.c.slice
  obtain ⟨AF0, cF0, rfl, -⟩ := h.rd.f.slice
  obtain ⟨AH, cH, rfl, hcH, hCH⟩ := gid_rd h.h
  have hW : Below w.heap.size w (((w.alloc (.cells #[.int .i64 s.limit, (.slice AG0 (ints s.gens).length cG0), (.slice AA0 (bools s.alive).length cA0), (.slice AC0 vs.length cC0), (.slice AF0 (ints s.free).length cF0)] TT)).alloc (.cells #[.int .i64 d, .int .i64 p, .int .i64 q, .int .i64 g1, .int .i64 g2] 55)).alloc (.cells #[.int .i64 0, .slice none 0 0, .slice none 0 0, .slice none 0 0, .slice none 0 0] 30)) := (by repeat (first | (with_reducible exact Below.refl _ _) | (with_reducible refine Below.drew ?_) | (with_reducible refine below_drewN ?_ _) | (with_reducible refine below_al ?_ _) | (with_reducible refine Below.alloc ?_ (by first | exact Nat.le_refl _ | omega | (simp; done) | (simp; omega)) _) | (with_reducible refine Below.setCell ?_ (by first | (simp only []; omega) | (simp; done) | (simp; omega)) _)))
  have HK : Aside0 (CkW w0 w (((w.alloc (.cells #[.int .i64 s.limit, (.slice AG0 (ints s.gens).length cG0), (.slice AA0 (bools s.alive).length cA0), (.slice AC0 vs.length cC0), (.slice AF0 (ints s.free).length cF0)] TT)).alloc (.cells #[.int .i64 d, .int .i64 p, .int .i64 q, .int .i64 g1, .int .i64 g2] 55)).alloc (.cells #[.int .i64 0, .slice none 0 0, .slice none 0 0, .slice none 0 0, .slice none 0 0] 30)) b col hc (paint hc 2 w.heap.size (w.heap.size + 3)) s s (.slice AG0 (ints s.gens).length cG0) (.slice AA0 (bools s.alive).length cA0) (.slice AC0 vs.length cC0) (.slice AF0 (ints s.free).length cF0) vs (.slice AH had.length cH) had #[.int .i64 s.limit, (.slice AG0 (ints s.gens).length cG0), (.slice AA0 (bools s.alive).length cA0), (.slice AC0 vs.length cC0), (.slice AF0 (ints s.free).length cF0)] ⟨d, p, q, (g1, g2)⟩) := ⟨h.start hW (by simp) (blk_alloc (blk_alloc (blk_new _ _))) (blk_alloc (blk_new1 _ _ _)) (blk_new2 _ _ _ _)⟩
  have HC := Aside0.mk (Kd.C_below hCH hW)
  have HT := name_any ⟨d, p, q, (g1, g2)⟩ AH cH had _ HC.out hcH
  simp only [hN] at HT
  clear h hW hCH
  unfold CallsP
  go_enter Try.func26, Try.ntmps26
  go_wp2_with fail
  --MARK0
  generalize (((w.alloc (.cells #[.int .i64 s.limit, (.slice AG0 (ints s.gens).length cG0), (.slice AA0 (bools s.alive).length cA0), (.slice AC0 vs.length cC0), (.slice AF0 (ints s.free).length cF0)] TT)).alloc (.cells #[.int .i64 d, .int .i64 p, .int .i64 q, .int .i64 g1, .int .i64 g2] 55)).alloc (.cells #[.int .i64 0, .slice none 0 0, .slice none 0 0, .slice none 0 0, .slice none 0 0] 30)) = W at *
  refine HT.mono ?_
  clear HT HC
  rintro e w1 ⟨rfl, hB1⟩
  have HK1 := Aside0.mk (HK.out.then hB1)
  clear hB1
  obtain ⟨p0, p1, p2, p3, p4⟩ := cells5 HK1.out.p
  obtain ⟨o0, o1, o2, o3, o4⟩ := cells5 HK1.out.o
  have hPl := lt_blk HK1.out.p
  have hOl := lt_blk HK1.out.o
  go_wp2_with fail
  --MARK1
  have hB2 : Below w1.heap.size w1 (w1.alloc (.cells #[.int .i64 x, .int .i64 g] 48)) := (by repeat (first | (with_reducible exact Below.refl _ _) | (with_reducible refine Below.drew ?_) | (with_reducible refine below_drewN ?_ _) | (with_reducible refine below_al ?_ _) | (with_reducible refine Below.alloc ?_ (by first | exact Nat.le_refl _ | omega | (simp; done) | (simp; omega)) _) | (with_reducible refine Below.setCell ?_ (by first | (simp only []; omega) | (simp; done) | (simp; omega)) _)))
  have HK2 := Aside0.mk (HK1.out.then hB2)
  have HG2 : Aside0 ((w1.alloc (.cells #[.int .i64 x, .int .i64 g] 48)).heap[w1.heap.size]? = some (.cells #[.int .i64 x, .int .i64 g] 48 (0, 0))) := ⟨blk_new _ _⟩
  have hz2 := HK1.out.ca.sl.z w1.heap.size (Nat.le_refl _)
  generalize (w1.alloc (.cells #[.int .i64 x, .int .i64 g] 48)) = W2 at *
  clear hB2 p0 p1 p2 p3 p4 o0 o1 o2 o3 o4 hPl hOl
  have hBd : Below W2.heap.size W2 W2.drew := (Below.refl _ _).drew
  obtain ⟨s0, s1, s2, s3, s4⟩ := cells5 (blk_below HK2.out.p hBd)
  obtain ⟨-, -, -, s7, s8⟩ := cells5 (blk_below HK2.out.o hBd)
  have hg2 := blk_below HG2.out hBd
  have s5 := cell_blk hg2 0
  have s6 := cell_blk hg2 1
  simp only [List.getElem?_toArray, List.getElem?_cons_zero, List.getElem?_cons_succ] at s5 s6
  have HK9 := Aside0.mk (HK2.out.then hBd)
  clear hBd hg2
  --MARK18
  refine start_ (n := 23) (S := fun w' => w'.cell? ⟨w.heap.size, 0, none⟩ = some (.int .i64 s.limit) ∧ w'.cell? ⟨w.heap.size, 1, none⟩ = some ((.slice AG0 (ints s.gens).length cG0)) ∧ w'.cell? ⟨w.heap.size, 2, none⟩ = some ((.slice AA0 (bools s.alive).length cA0)) ∧ w'.cell? ⟨w.heap.size, 3, none⟩ = some ((.slice AC0 vs.length cC0)) ∧ w'.cell? ⟨w.heap.size, 4, none⟩ = some ((.slice AF0 (ints s.free).length cF0)) ∧ w'.cell? ⟨w1.heap.size, 0, none⟩ = some (.int .i64 x) ∧ w'.cell? ⟨w1.heap.size, 1, none⟩ = some (.int .i64 g) ∧ w'.cell? ⟨w.heap.size + 1, 3, none⟩ = some (.int .i64 g1) ∧ w'.cell? ⟨w.heap.size + 1, 4, none⟩ = some (.int .i64 g2)) (ds := [20]) #[false, false, false, false, false, false, false, false, false, false, false, false, false, false, false, false, false, false, false, false, false, false, false] (by kernel_rfl) rfl rfl ⟨s0, s1, s2, s3, s4, s5, s6, s7, s8⟩ (fun hHeld => ?_)
  generalize W2.drew = x9 at *
  refine pure_ (i := 1) (N := some 104) (v := ?_) (a' := ?_) #[false, true, false, false, false, false, false, false, false, false, false, false, false, false, false, false, false, false, false, false, false, false, false] rfl rfl (by kernel_rfl) (fun _ _ _ h => h) (Or.inl ⟨by rfl, ?_⟩) ?_ ?_
  rotate_left
  · intro w'
    go_simp
    with_reducible rfl
  rotate_left
  · simp only [Act.put, List.setIfInBounds_toArray, List.set_cons_zero, List.set_cons_succ, i64_w, i32_w]
    rfl
  refine pure_ (i := 2) (N := some 105) (v := ?_) (a' := ?_) #[false, true, true, false, false, false, false, false, false, false, false, false, false, false, false, false, false, false, false, false, false, false, false] rfl rfl (by kernel_rfl) (fun _ _ _ h => h) (Or.inl ⟨by rfl, ?_⟩) ?_ ?_
  rotate_left
  · intro w'
    go_simp
    with_reducible rfl
  rotate_left
  · simp only [Act.put, List.setIfInBounds_toArray, List.set_cons_zero, List.set_cons_succ, i64_w, i32_w]
    rfl
  refine take_ (i := 0) (N := some 103) (v := ?_) (a' := ?_) #[true, true, true, false, false, false, false, false, false, false, false, false, false, false, false, false, false, false, false, false, false, false, false] rfl rfl (by kernel_rfl) (fun _ _ _ h => h) (Or.inl ⟨by rfl, ?_⟩) hHeld ?_ ?_
  rotate_left
  · rintro w' ⟨s0, s1, s2, s3, s4, s5, s6, s7, s8⟩
    go_simp
    with_reducible rfl
  rotate_left
  · simp only [Act.put, List.setIfInBounds_toArray, List.set_cons_zero, List.set_cons_succ, i64_w, i32_w]
    rfl
  refine take_ (i := 3) (N := some 106) (v := ?_) (a' := ?_) #[true, true, true, true, false, false, false, false, false, false, false, false, false, false, false, false, false, false, false, false, false, false, false] rfl rfl (by kernel_rfl) (fun _ _ _ h => h) (Or.inl ⟨by rfl, ?_⟩) hHeld ?_ ?_
  rotate_left
  · rintro w' ⟨s0, s1, s2, s3, s4, s5, s6, s7, s8⟩
    go_simp
    with_reducible rfl
  rotate_left
  · simp only [Act.put, List.setIfInBounds_toArray, List.set_cons_zero, List.set_cons_succ, i64_w, i32_w]
    rfl
  refine take_ (i := 5) (N := some 108) (v := ?_) (a' := ?_) #[true, true, true, true, false, true, false, false, false, false, false, false, false, false, false, false, false, false, false, false, false, false, false] rfl rfl (by kernel_rfl) (fun _ _ _ h => h) (Or.inl ⟨by rfl, ?_⟩) hHeld ?_ ?_
  rotate_left
  · rintro w' ⟨s0, s1, s2, s3, s4, s5, s6, s7, s8⟩
    go_simp
    with_reducible rfl
  rotate_left
  · simp only [Act.put, List.setIfInBounds_toArray, List.set_cons_zero, List.set_cons_succ, i64_w, i32_w]
    rfl
  refine take_ (i := 6) (N := some 109) (v := ?_) (a' := ?_) #[true, true, true, true, false, true, true, false, false, false, false, false, false, false, false, false, false, false, false, false, false, false, false] rfl rfl (by kernel_rfl) (fun _ _ _ h => h) (Or.inl ⟨by rfl, ?_⟩) hHeld ?_ ?_
  rotate_left
  · rintro w' ⟨s0, s1, s2, s3, s4, s5, s6, s7, s8⟩
    go_simp
    with_reducible rfl
  rotate_left
  · simp only [Act.put, List.setIfInBounds_toArray, List.set_cons_zero, List.set_cons_succ, i64_w, i32_w]
    rfl
  refine one_ (i := 4) (N := some 107) #[true, true, true, true, true, true, true, false, false, false, false, false, false, false, false, false, false, false, false, false, false, false, false] rfl rfl (by kernel_rfl) (by decide) (fun K hK => ?_)
  refine goes_ Try.func22 (by kernel_rfl) rfl #[.pointer (some ⟨b, 0, none⟩), .agg #[.int .i64 x, .int .i64 g]] (by rfl) rfl rfl (by simp only [List.map_toArray, List.map_cons, List.map_nil]; rfl) ?_
  with_reducible refine (alive_slab x g x9 HK9.out.ca.sl hO.l0 hO.a).mono ?_
  rintro e w4 ⟨rfl, hBw4⟩
  refine ⟨_, rfl, ?_⟩
  have HKa := Aside0.mk (HK9.out.then hBw4)
  have b0 := pw_cell_below hBw4 s0
  have b1 := pw_cell_below hBw4 s1
  have b2 := pw_cell_below hBw4 s2
  have b3 := pw_cell_below hBw4 s3
  have b4 := pw_cell_below hBw4 s4
  have b5 := pw_cell_below hBw4 s5
  have b6 := pw_cell_below hBw4 s6
  have b7 := pw_cell_below hBw4 s7
  have b8 := pw_cell_below hBw4 s8
  refine hK.out _ _ ⟨b0, b1, b2, b3, b4, b5, b6, b7, b8⟩ (fun hHeld => ?_)
  clear hK K
  refine norm_ (a' := ?_) ?_ ?_
  rotate_left
  · show Act.put _ (some 107) _ = _
    simp only [Act.put, List.setIfInBounds_toArray, List.set_cons_zero, List.set_cons_succ, i64_w, i32_w]
    rfl
  refine one_ (i := 7) (N := some 110) #[true, true, true, true, true, true, true, true, false, false, false, false, false, false, false, false, false, false, false, false, false, false, false] rfl rfl (by kernel_rfl) (by decide) (fun K hK => ?_)
  refine goes_ Try.func42 (by kernel_rfl) rfl #[.agg #[.int .i64 s.limit, (.slice AG0 (ints s.gens).length cG0), (.slice AA0 (bools s.alive).length cA0), (.slice AC0 vs.length cC0), (.slice AF0 (ints s.free).length cF0)], .agg #[.int .i64 x, .int .i64 g]] (by rfl) rfl rfl (by simp only [List.map_toArray, List.map_cons, List.map_nil]; rfl) ?_
  with_reducible refine (alive_rd x g w4 HKa.out.ca.rd hO.a).mono ?_
  rintro e w5 ⟨rfl, hBw5⟩
  refine ⟨_, rfl, ?_⟩
  have HKb := Aside0.mk (HKa.out.then hBw5)
  have c0 := pw_cell_below hBw5 b0
  have c1 := pw_cell_below hBw5 b1
  have c2 := pw_cell_below hBw5 b2
  have c3 := pw_cell_below hBw5 b3
  have c4 := pw_cell_below hBw5 b4
  have c5 := pw_cell_below hBw5 b5
  have c6 := pw_cell_below hBw5 b6
  have c7 := pw_cell_below hBw5 b7
  have c8 := pw_cell_below hBw5 b8
  refine hK.out _ _ ⟨c0, c1, c2, c3, c4, c5, c6, c7, c8⟩ (fun hHeld => ?_)
  clear hK K
  refine norm_ (a' := ?_) ?_ ?_
  rotate_left
  · show Act.put _ (some 110) _ = _
    simp only [Act.put, List.setIfInBounds_toArray, List.set_cons_zero, List.set_cons_succ, i64_w, i32_w]
    rfl
  refine pure_ (i := 8) (N := some 111) (v := ?_) (a' := ?_) #[true, true, true, true, true, true, true, true, true, false, false, false, false, false, false, false, false, false, false, false, false, false, false] rfl rfl (by kernel_rfl) (fun _ _ _ h => h) (Or.inl ⟨by rfl, ?_⟩) ?_ ?_
  rotate_left
  · intro w'
    go_simp
    with_reducible rfl
  rotate_left
  · simp only [Act.put, List.setIfInBounds_toArray, List.set_cons_zero, List.set_cons_succ, i64_w, i32_w]
    rfl
  refine pure_ (i := 9) (N := some 112) (v := ?_) (a' := ?_) #[true, true, true, true, true, true, true, true, true, true, false, false, false, false, false, false, false, false, false, false, false, false, false] rfl rfl (by kernel_rfl) (fun _ _ _ h => h) (Or.inl ⟨by rfl, ?_⟩) ?_ ?_
  rotate_left
  · intro w'
    go_simp
    with_reducible rfl
  rotate_left
  · simp only [Act.put, List.setIfInBounds_toArray, List.set_cons_zero, List.set_cons_succ, i64_w, i32_w]
    rfl
  refine pure_ (i := 10) (N := some 113) (v := ?_) (a' := ?_) #[true, true, true, true, true, true, true, true, true, true, true, false, false, false, false, false, false, false, false, false, false, false, false] rfl rfl (by kernel_rfl) (fun _ _ _ h => h) (Or.inl ⟨by rfl, ?_⟩) ?_ ?_
  rotate_left
  · intro w'
    go_simp
    with_reducible rfl
  rotate_left
  · simp only [Act.put, List.setIfInBounds_toArray, List.set_cons_zero, List.set_cons_succ, i64_w, i32_w]
    rfl
  refine pure_ (i := 11) (N := some 114) (v := ?_) (a' := ?_) #[true, true, true, true, true, true, true, true, true, true, true, true, false, false, false, false, false, false, false, false, false, false, false] rfl rfl (by kernel_rfl) (fun _ _ _ h => h) (Or.inl ⟨by rfl, ?_⟩) ?_ ?_
  rotate_left
  · intro w'
    go_simp
    with_reducible rfl
  rotate_left
  · simp only [Act.put, List.setIfInBounds_toArray, List.set_cons_zero, List.set_cons_succ, i64_w, i32_w]
    rfl
  refine pure_ (i := 15) (N := some 118) (v := ?_) (a' := ?_) #[true, true, true, true, true, true, true, true, true, true, true, true, false, false, false, true, false, false, false, false, false, false, false] rfl rfl (by kernel_rfl) (fun _ _ _ h => h) (Or.inl ⟨by rfl, ?_⟩) ?_ ?_
  rotate_left
  · intro w'
    go_simp
    with_reducible rfl
  rotate_left
  · simp only [Act.put, List.setIfInBounds_toArray, List.set_cons_zero, List.set_cons_succ, i64_w, i32_w]
    rfl
  refine take_ (i := 12) (N := some 115) (v := ?_) (a' := ?_) #[true, true, true, true, true, true, true, true, true, true, true, true, true, false, false, true, false, false, false, false, false, false, false] rfl rfl (by kernel_rfl) (fun _ _ _ h => h) (Or.inl ⟨by rfl, ?_⟩) hHeld ?_ ?_
  rotate_left
  · rintro w' ⟨s0, s1, s2, s3, s4, s5, s6, s7, s8⟩
    go_simp
    with_reducible rfl
  rotate_left
  · simp only [Act.put, List.setIfInBounds_toArray, List.set_cons_zero, List.set_cons_succ, i64_w, i32_w]
    rfl
  refine take_ (i := 14) (N := some 117) (v := ?_) (a' := ?_) #[true, true, true, true, true, true, true, true, true, true, true, true, true, false, true, true, false, false, false, false, false, false, false] rfl rfl (by kernel_rfl) (fun _ _ _ h => h) (Or.inl ⟨by rfl, ?_⟩) hHeld ?_ ?_
  rotate_left
  · rintro w' ⟨s0, s1, s2, s3, s4, s5, s6, s7, s8⟩
    go_simp
    with_reducible rfl
  rotate_left
  · simp only [Act.put, List.setIfInBounds_toArray, List.set_cons_zero, List.set_cons_succ, i64_w, i32_w]
    rfl
  refine take_ (i := 16) (N := some 119) (v := ?_) (a' := ?_) #[true, true, true, true, true, true, true, true, true, true, true, true, true, false, true, true, true, false, false, false, false, false, false] rfl rfl (by kernel_rfl) (fun _ _ _ h => h) (Or.inl ⟨by rfl, ?_⟩) hHeld ?_ ?_
  rotate_left
  · rintro w' ⟨s0, s1, s2, s3, s4, s5, s6, s7, s8⟩
    go_simp
    with_reducible rfl
  rotate_left
  · simp only [Act.put, List.setIfInBounds_toArray, List.set_cons_zero, List.set_cons_succ, i64_w, i32_w]
    rfl
  refine one_ (i := 13) (N := some 116) #[true, true, true, true, true, true, true, true, true, true, true, true, true, true, true, true, true, false, false, false, false, false, false] rfl rfl (by kernel_rfl) (by decide) (fun K hK => ?_)
  refine goes_ Try.func22 (by kernel_rfl) rfl #[.pointer (some ⟨b, 0, none⟩), .agg #[.int .i64 g1, .int .i64 g2]] (by rfl) rfl rfl (by simp only [List.map_toArray, List.map_cons, List.map_nil]; rfl) ?_
  with_reducible refine (alive_slab g1 g2 w5 HKb.out.ca.sl hO.l0 hO.a).mono ?_
  rintro e w6 ⟨rfl, hBw6⟩
  refine ⟨_, rfl, ?_⟩
  have HKc := Aside0.mk (HKb.out.then hBw6)
  have d0 := pw_cell_below hBw6 c0
  have d1 := pw_cell_below hBw6 c1
  have d2 := pw_cell_below hBw6 c2
  have d3 := pw_cell_below hBw6 c3
  have d4 := pw_cell_below hBw6 c4
  have d5 := pw_cell_below hBw6 c5
  have d6 := pw_cell_below hBw6 c6
  have d7 := pw_cell_below hBw6 c7
  have d8 := pw_cell_below hBw6 c8
  refine hK.out _ _ ⟨d0, d1, d2, d3, d4, d5, d6, d7, d8⟩ (fun hHeld => ?_)
  clear hK K
  refine norm_ (a' := ?_) ?_ ?_
  rotate_left
  · show Act.put _ (some 116) _ = _
    simp only [Act.put, List.setIfInBounds_toArray, List.set_cons_zero, List.set_cons_succ, i64_w, i32_w]
    rfl
  refine one_ (i := 17) (N := some 120) #[true, true, true, true, true, true, true, true, true, true, true, true, true, true, true, true, true, true, false, false, false, false, false] rfl rfl (by kernel_rfl) (by decide) (fun K hK => ?_)
  refine goes_ Try.func42 (by kernel_rfl) rfl #[.agg #[.int .i64 s.limit, (.slice AG0 (ints s.gens).length cG0), (.slice AA0 (bools s.alive).length cA0), (.slice AC0 vs.length cC0), (.slice AF0 (ints s.free).length cF0)], .agg #[.int .i64 g1, .int .i64 g2]] (by rfl) rfl rfl (by simp only [List.map_toArray, List.map_cons, List.map_nil]; rfl) ?_
  with_reducible refine (alive_rd g1 g2 w6 HKc.out.ca.rd hO.a).mono ?_
  rintro e w7 ⟨rfl, hBw7⟩
  refine ⟨_, rfl, ?_⟩
  have HKd := Aside0.mk (HKc.out.then hBw7)
  have e0 := pw_cell_below hBw7 d0
  have e1 := pw_cell_below hBw7 d1
  have e2 := pw_cell_below hBw7 d2
  have e3 := pw_cell_below hBw7 d3
  have e4 := pw_cell_below hBw7 d4
  have e5 := pw_cell_below hBw7 d5
  have e6 := pw_cell_below hBw7 d6
  have e7 := pw_cell_below hBw7 d7
  have e8 := pw_cell_below hBw7 d8
  refine hK.out _ _ ⟨e0, e1, e2, e3, e4, e5, e6, e7, e8⟩ (fun hHeld => ?_)
  clear hK K
  refine norm_ (a' := ?_) ?_ ?_
  rotate_left
  · show Act.put _ (some 120) _ = _
    simp only [Act.put, List.setIfInBounds_toArray, List.set_cons_zero, List.set_cons_succ, i64_w, i32_w]
    rfl
  refine pure_ (i := 18) (N := some 121) (v := ?_) (a' := ?_) #[true, true, true, true, true, true, true, true, true, true, true, true, true, true, true, true, true, true, true, false, false, false, false] rfl rfl (by kernel_rfl) (fun _ _ _ h => h) (Or.inl ⟨by rfl, ?_⟩) ?_ ?_
  rotate_left
  · intro w'
    go_simp
    with_reducible rfl
  rotate_left
  · simp only [Act.put, List.setIfInBounds_toArray, List.set_cons_zero, List.set_cons_succ, i64_w, i32_w]
    rfl
  refine pure_ (i := 19) (N := some 122) (v := ?_) (a' := ?_) #[true, true, true, true, true, true, true, true, true, true, true, true, true, true, true, true, true, true, true, true, false, false, false] rfl rfl (by kernel_rfl) (fun _ _ _ h => h) (Or.inl ⟨by rfl, ?_⟩) ?_ ?_
  rotate_left
  · intro w'
    go_simp
    with_reducible rfl
  rotate_left
  · simp only [Act.put, List.setIfInBounds_toArray, List.set_cons_zero, List.set_cons_succ, i64_w, i32_w]
    rfl
  refine last_ (i := 20) (N := none) #[true, true, true, true, true, true, true, true, true, true, true, true, true, true, true, true, true, true, true, true, true, false, false] rfl rfl (by kernel_rfl) (by decide) (fun K hK => ?_)
  obtain ⟨ra0, ra1, ra2, ra3, ra4⟩ := cells5 HKd.out.r
  obtain ⟨ga0, ga1, ga2, ga3, ga4⟩ := froz5 HKd.out.r
  have hRl := lt_blk HKd.out.r
  refine skip_ (w1 := ?_) (by rfl) rfl ?_ ?_
  rotate_left
  · go_simp
    first | with_reducible rfl | rfl
  refine hK.out _ _ ?_
  clear hK K
  refine pure_ (i := 21) (N := some 9) (v := ?_) (a' := ?_) #[true, true, true, true, true, true, true, true, true, true, true, true, true, true, true, true, true, true, true, true, true, true, false] rfl rfl (by kernel_rfl) (fun _ _ _ h => h) (Or.inl ⟨by rfl, ?_⟩) ?_ ?_
  rotate_left
  · intro w'
    go_simp
    with_reducible rfl
  rotate_left
  · simp only [Act.put, List.setIfInBounds_toArray, List.set_cons_zero, List.set_cons_succ, i64_w, i32_w]
    rfl
  refine pure_ (i := 22) (N := some 10) (v := ?_) (a' := ?_) #[true, true, true, true, true, true, true, true, true, true, true, true, true, true, true, true, true, true, true, true, true, true, true] rfl rfl (by kernel_rfl) (fun _ _ _ h => h) (Or.inl ⟨by rfl, ?_⟩) ?_ ?_
  rotate_left
  · intro w'
    go_simp
    with_reducible rfl
  rotate_left
  · simp only [Act.put, List.setIfInBounds_toArray, List.set_cons_zero, List.set_cons_succ, i64_w, i32_w]
    rfl
  refine done_ (by kernel_rfl) ?_
  go_wp2
  --MARKE
  have hkR : Keep (fun i => i = w.heap.size + 2) w7 ((((((w7.setCell ⟨(w.heap.size + 2), 0, none⟩ (.int .i64 s.limit)).setCell ⟨(w.heap.size + 2), 1, none⟩ ((.slice AG0 (ints s.gens).length cG0))).setCell ⟨(w.heap.size + 2), 2, none⟩ ((.slice AA0 (bools s.alive).length cA0))).setCell ⟨(w.heap.size + 2), 3, none⟩ ((.slice AC0 vs.length cC0))).setCell ⟨(w.heap.size + 2), 4, none⟩ ((.slice AF0 (ints s.free).length cF0)))) := set5_keep _ _ _ _ _ _ _
  obtain ⟨z0, z1, z2, z3, z4⟩ := cells5 (blk_set5 (u0 := .int .i64 s.limit) (u1 := (.slice AG0 (ints s.gens).length cG0)) (u2 := (.slice AA0 (bools s.alive).length cA0)) (u3 := (.slice AC0 vs.length cC0)) (u4 := (.slice AF0 (ints s.free).length cF0)) HKd.out.r)
  refine bodyPost_ret (v := .tuple #[.agg #[.int .i64 s.limit, (.slice AG0 (ints s.gens).length cG0), (.slice AA0 (bools s.alive).length cA0), (.slice AC0 vs.length cC0), (.slice AF0 (ints s.free).length cF0)], .slice AH had.length cH, .bool true]) (by simp [results, Try.results26, go_sem, z0, z1, z2, z3, z4]) rfl ?_
  exact ⟨_, _, _, _, vs, _, rfl, _, _, HKd.out.done hkR⟩
end Go.Proofs.Ytnglgjegkjfnaaa
set_option linter.unusedSimpArgs false
set_option linter.unusedVariables false
namespace Go.Proofs.Ytnglgjegkjfnaaa
open Go.RowKit Go.ChangeShapes Go.WideShapes Go.ChangeAt Go.Proofs.YtnglgjegkjfnaaaW.PrintWords Go.Proofs.YtnglgjegkjfnaaaW.PrintMore Go.Proofs.YtnglgjegkjfnaaaW.PrintLast
/-! calls, any of them. -/
theorem takeS_in {s : Sl} {p : Int} (hW : Wf s) : Wf (takeS s p).1 ∧ (takeS s p).1.limit = s.limit := by
  cases hpr : procS s p with
  | false => rw [takeS, hpr]; exact ⟨hW, rfl⟩
  | true =>
    have hp := procS_iff.1 hpr
    have hn : p.toNat < s.caches.length := by omega
    rw [takeS, if_pos hpr]
    cases hs : (slotS s p.toNat).2 with
    | none =>
      have h := take_none hW hn hs
      have e : slotS s p.toNat = ((slotS s p.toNat).1, none) := by rw [← hs]
      rw [e]
      exact ⟨h.1, h.2.1⟩
    | some x =>
      have h := take_some hW hn hs
      have e : slotS s p.toNat = ((slotS s p.toNat).1, some x) := by rw [← hs]
      rw [e]
      exact ⟨h.wf, h.lim⟩
theorem giveS_in {s : Sl} {p x g : Int} (hW : Wf s) : Wf (giveS s p x g).1 ∧ (giveS s p x g).1.limit = s.limit := by
  cases hpr : procS s p with
  | false => rw [giveS, hpr]; exact ⟨hW, rfl⟩
  | true =>
    have hp := procS_iff.1 hpr
    cases hal : aliveS s x g with
    | false => rw [giveS, if_pos hpr, hal]; exact ⟨hW, rfl⟩
    | true =>
      obtain ⟨n, rfl⟩ := Int.eq_ofNat_of_zero_le hp.1
      have h := (give_alive (p := n) hW (by omega) hal).1
      exact ⟨h.wf, h.lim⟩
theorem flushS_in {s : Sl} {p : Int} (hW : Wf s) : Wf (flushS s p).1 ∧ (flushS s p).1.limit = s.limit := by
  cases hpr : procS s p with
  | false => rw [flushS, hpr]; exact ⟨hW, rfl⟩
  | true =>
    have hp := procS_iff.1 hpr
    obtain ⟨n, rfl⟩ := Int.eq_ofNat_of_zero_le hp.1
    have h := flush_wf (p := n) hW (by omega)
    exact ⟨h.1, h.2.2.2.2.1⟩
theorem callS_in {s : Sl} {had : List (Int × Int)} {o : SOp} (hW : Wf s) : Wf (callS s had o).1 ∧ (callS s had o).1.limit = s.limit ∧ (callS s had o).2.length ≤ had.length + 1 := by
  unfold callS
  split
  · refine ⟨(takeS_in hW).1, (takeS_in hW).2, ?_⟩
    show (if _ then _ else _ : List (Int × Int)).length ≤ _
    split <;> simp
  split
  · exact ⟨(giveS_in hW).1, (giveS_in hW).2, Nat.le_succ _⟩
  split
  · exact ⟨(flushS_in hW).1, (flushS_in hW).2, Nat.le_succ _⟩
  · exact ⟨hW, rfl, Nat.le_succ _⟩
theorem calls_law {w0 w : World} {b : Nat} {col hc : Nat → Nat} {s : Sl} {vG vA vC vF : Value} {vs : List Value} {vh : Value} {had : List (Int × Int)} (o : SOp) (h : CaW w0 w b col hc s s vG vA vC vF vs vh had) (hW : Wf s) (hhl : (had.length + 1) * 16 ≤ 140737488355328) :
    Calls Try.prog 26 #[.pointer (some ⟨b, 0, none⟩), .agg #[.int .i64 s.limit, vG, vA, vC, vF], .agg o.cells, vh] w (CallsP w0 w hc b (callS s had o)) := by
  obtain ⟨d, p, q, g1, g2⟩ := o
  have hO := hW.ok
  by_cases h0 : d = 0
  · subst h0
    obtain ⟨s1, x, g, er, hT⟩ : ∃ s1 x g er, takeS s p = (s1, x, g, er) := ⟨_, _, _, _, rfl⟩
    rw [callS_take hT]
    by_cases he : er = 0
    · rw [if_pos he]; exact calls_take_yes p q g1 g2 h hO hhl hT he
    · rw [if_neg he]; exact calls_take_no p q g1 g2 h hO hhl hT he
  by_cases h1 : d = 1
  · subst h1
    obtain ⟨x, g, hN⟩ : ∃ x g, nameS q (g1, g2) had = (x, g) := ⟨_, _, rfl⟩
    obtain ⟨s1, er, hG⟩ : ∃ s1 er, giveS s p x g = (s1, er) := ⟨_, _, rfl⟩
    rw [callS_give hN hG]
    exact calls_give p q g1 g2 h hO hhl hN hG hW.cl
  by_cases h2 : d = 2
  · subst h2
    obtain ⟨s1, er, hG⟩ : ∃ s1 er, flushS s p = (s1, er) := ⟨_, _, rfl⟩
    rw [callS_flush hG]
    exact calls_flush p q g1 g2 h hO hhl hG
  · obtain ⟨x, g, hN⟩ : ∃ x g, nameS q (g1, g2) had = (x, g) := ⟨_, _, rfl⟩
    rw [callS_ask h0 h1 h2]
    exact calls_ask d p q g1 g2 h hO hhl hN h0 h1 h2
end Go.Proofs.Ytnglgjegkjfnaaa
