import Derived.Test.YtnglgjegkjfnaaaSlVV
import Derived.Test.YtnglgjegkjfnaaaSlQ
import Derived.Deep.DrawnRows
set_option linter.unusedSimpArgs false
set_option linter.unusedVariables false
namespace Go.Proofs.Ytnglgjegkjfnaaa
open Go.RowKit Go.ChangeShapes Go.WideShapes Go.ChangeAt Go.Proofs.YtnglgjegkjfnaaaW.PrintWords Go.Proofs.YtnglgjegkjfnaaaW.PrintMore Go.Proofs.YtnglgjegkjfnaaaW.PrintLast
/-! rotaref04.Give: printed by gen04t.py. -/
/-- The copy in block w.size, a name in the next one, the answer's block behind it. -/
structure RfW (w wr : World) (x g : Int) (s : Sl) (vG vA vC vF : Value) (vs : List Value) (col : Nat → Nat) : Prop where
  q : SlB TT wr w.heap.size w.heap.size col s vG vA vC vF vs
  g : wr.heap[w.heap.size + 1]? = some (.cells #[.int .i64 x, .int .i64 g] 48 (0, 0))
  cg : col (w.heap.size + 1) = 0
  r : wr.heap[w.heap.size + 2]? = some (.cells #[.int .i64 0, .slice none 0 0, .slice none 0 0, .slice none 0 0, .slice none 0 0] 30 (0, 0))
  cr : col (w.heap.size + 2) = 0
  b : Below w.heap.size w wr
theorem RfW.step {w wr w' : World} {x g : Int} {s s' : Sl} {vG vA vC vF vG' vA' vC' vF' : Value} {vs vs' : List Value} {col col' : Nat → Nat} (h : RfW w wr x g s vG vA vC vF vs col) (hQ : SlB TT w' w.heap.size w.heap.size col' s' vG' vA' vC' vF' vs') (hN : Nx wr col w' col') : RfW w w' x g s' vG' vA' vC' vF' vs' col' :=
  ⟨hQ, blk_keep h.g hN.keep (fun f => f h.cg), (hN.cols _ (lt_blk h.g)).trans h.cg, blk_keep h.r hN.keep (fun f => f h.cr), (hN.cols _ (lt_blk h.r)).trans h.cr, below_then_keep h.b h.b.size hN.keep (fun i hi => h.q.r.b i hi)⟩
theorem RfW.then {w wr w' : World} {x g : Int} {s : Sl} {vG vA vC vF : Value} {vs : List Value} {col : Nat → Nat} (h : RfW w wr x g s vG vA vC vF vs col) (hB : Below wr.heap.size wr w') : RfW w w' x g s vG vA vC vF vs col :=
  ⟨h.q.below hB, blk_below h.g hB, h.cg, blk_below h.r hB, h.cr, below_then h.b hB⟩
set_option maxRecDepth 100000 in
set_option maxHeartbeats 8000000 in
theorem give_rd {I : Nat → Prop} {s : Sl} {vG vA vC vF : Value} {vs : List Value} (p x g : Int) (w : World) (h : SlR w s vG vA vC vF vs) (hI : OwnS I vG vA vC vF vs) (hO : Ok s) : Calls Try.prog 40 #[.agg #[.int .i64 s.limit, vG, vA, vC, vF], .int .i64 p, .agg #[.int .i64 x, .int .i64 g]] w (RefP I w (giveS s p x g)) := by
  have HI := Aside0.mk hI
  clear hI
  have hBd := hO.bd
  obtain ⟨AG0, cG0, rfl, -⟩ := h.g.slice
  obtain ⟨AA0, cA0, rfl, -⟩ := h.a.slice
  obtain ⟨AC0, cC0, rfl, -⟩ := h.c.slice
  obtain ⟨AF0, cF0, rfl, -⟩ := h.f.slice
  have hW : Below w.heap.size w (((w.alloc (.cells #[.int .i64 s.limit, (.slice AG0 (ints s.gens).length cG0), (.slice AA0 (bools s.alive).length cA0), (.slice AC0 vs.length cC0), (.slice AF0 (ints s.free).length cF0)] TT)).alloc (.cells #[.int .i64 x, .int .i64 g] 48)).alloc (.cells #[.int .i64 0, .slice none 0 0, .slice none 0 0, .slice none 0 0, .slice none 0 0] 30)) := (by repeat (first | (with_reducible exact Below.refl _ _) | (with_reducible refine Below.drew ?_) | (with_reducible refine below_drewN ?_ _) | (with_reducible refine below_al ?_ _) | (with_reducible refine Below.alloc ?_ (by first | exact Nat.le_refl _ | omega | (simp; done) | (simp; omega)) _) | (with_reducible refine Below.setCell ?_ (by first | (simp only []; omega) | (simp; done) | (simp; omega)) _)))
  have HX : Aside0 (SlX w (((w.alloc (.cells #[.int .i64 s.limit, (.slice AG0 (ints s.gens).length cG0), (.slice AA0 (bools s.alive).length cA0), (.slice AC0 vs.length cC0), (.slice AF0 (ints s.free).length cF0)] TT)).alloc (.cells #[.int .i64 x, .int .i64 g] 48)).alloc (.cells #[.int .i64 0, .slice none 0 0, .slice none 0 0, .slice none 0 0, .slice none 0 0] 30)) w.heap.size s (.slice AG0 (ints s.gens).length cG0) (.slice AA0 (bools s.alive).length cA0) (.slice AC0 vs.length cC0) (.slice AF0 (ints s.free).length cF0) vs) := ⟨⟨h, hW, blk_alloc (blk_alloc (blk_new _ _))⟩⟩
  have HGb : Aside0 ((((w.alloc (.cells #[.int .i64 s.limit, (.slice AG0 (ints s.gens).length cG0), (.slice AA0 (bools s.alive).length cA0), (.slice AC0 vs.length cC0), (.slice AF0 (ints s.free).length cF0)] TT)).alloc (.cells #[.int .i64 x, .int .i64 g] 48)).alloc (.cells #[.int .i64 0, .slice none 0 0, .slice none 0 0, .slice none 0 0, .slice none 0 0] 30)).heap[w.heap.size + 1]? = some (.cells #[.int .i64 x, .int .i64 g] 48 (0, 0))) := ⟨blk_alloc (blk_new1 _ _ _)⟩
  have HRb : Aside0 ((((w.alloc (.cells #[.int .i64 s.limit, (.slice AG0 (ints s.gens).length cG0), (.slice AA0 (bools s.alive).length cA0), (.slice AC0 vs.length cC0), (.slice AF0 (ints s.free).length cF0)] TT)).alloc (.cells #[.int .i64 x, .int .i64 g] 48)).alloc (.cells #[.int .i64 0, .slice none 0 0, .slice none 0 0, .slice none 0 0, .slice none 0 0] 30)).heap[w.heap.size + 2]? = some (.cells #[.int .i64 0, .slice none 0 0, .slice none 0 0, .slice none 0 0, .slice none 0 0] 30 (0, 0))) := ⟨blk_new2 _ _ _ _⟩
  have hWz : (((w.alloc (.cells #[.int .i64 s.limit, (.slice AG0 (ints s.gens).length cG0), (.slice AA0 (bools s.alive).length cA0), (.slice AC0 vs.length cC0), (.slice AF0 (ints s.free).length cF0)] TT)).alloc (.cells #[.int .i64 x, .int .i64 g] 48)).alloc (.cells #[.int .i64 0, .slice none 0 0, .slice none 0 0, .slice none 0 0, .slice none 0 0] 30)).heap.size = w.heap.size + 3 := by simp
  clear h hW
  unfold RefP
  go_enter Try.func40, Try.ntmps40
  go_wp2_with fail
  generalize (((w.alloc (.cells #[.int .i64 s.limit, (.slice AG0 (ints s.gens).length cG0), (.slice AA0 (bools s.alive).length cA0), (.slice AC0 vs.length cC0), (.slice AF0 (ints s.free).length cF0)] TT)).alloc (.cells #[.int .i64 x, .int .i64 g] 48)).alloc (.cells #[.int .i64 0, .slice none 0 0, .slice none 0 0, .slice none 0 0, .slice none 0 0] 30)) = W at *
  refine (proc_rd p W HX.out.r).mono ?_
  cases hpr : procS s p with
  | false =>
    have HT : Aside0 (giveS s p x g = (s, 1)) := ⟨by rw [giveS, hpr]; rfl⟩
    rintro e w1 ⟨rfl, hB1⟩
    have HX1 := Aside0.mk (HX.out.below hB1)
    have HR1 := Aside0.mk (blk_below HRb.out hB1)
    obtain ⟨x0, x1, x2, x3, x4⟩ := cells5 HX1.out.blk
    obtain ⟨r0, r1, r2, r3, r4⟩ := cells5 HR1.out
    obtain ⟨r5, r6, r7, r8, r9⟩ := froz5 HR1.out
    have hRl := lt_blk HR1.out
    have hPl := lt_blk HX1.out.blk
    clear hB1 hpr
    go_wp2
    have hkR : Keep (fun i => i = w.heap.size + 2) w1 ((((((w1.setCell ⟨(w.heap.size + 2), 0, none⟩ (.int .i64 s.limit)).setCell ⟨(w.heap.size + 2), 1, none⟩ ((.slice AG0 (ints s.gens).length cG0))).setCell ⟨(w.heap.size + 2), 2, none⟩ ((.slice AA0 (bools s.alive).length cA0))).setCell ⟨(w.heap.size + 2), 3, none⟩ ((.slice AC0 vs.length cC0))).setCell ⟨(w.heap.size + 2), 4, none⟩ ((.slice AF0 (ints s.free).length cF0)))) := set5_keep _ _ _ _ _ _ _
    obtain ⟨z0, z1, z2, z3, z4⟩ := cells5 (blk_set5 (u0 := .int .i64 s.limit) (u1 := (.slice AG0 (ints s.gens).length cG0)) (u2 := (.slice AA0 (bools s.alive).length cA0)) (u3 := (.slice AC0 vs.length cC0)) (u4 := (.slice AF0 (ints s.free).length cF0)) HR1.out)
    refine bodyPost_ret (v := .tuple #[.agg #[.int .i64 s.limit, (.slice AG0 (ints s.gens).length cG0), (.slice AA0 (bools s.alive).length cA0), (.slice AC0 vs.length cC0), (.slice AF0 (ints s.free).length cF0)], .int .i64 1]) (by simp [results, Try.results40, go_sem, z0, z1, z2, z3, z4]) rfl ?_
    rw [HT.out]
    exact ⟨_, _, _, _, vs, rfl, (HX1.out.r0.far HX1.out.b hkR (fun k hk => by omega)).owned HI.out, below_then_keep HX1.out.b HX1.out.b.size hkR (fun k hk => by omega)⟩
  | true =>
    rintro e w1 ⟨rfl, hB1⟩
    have HX1 := Aside0.mk (HX.out.below hB1)
    have HR1 := Aside0.mk (blk_below HRb.out hB1)
    have HG1 := Aside0.mk (blk_below HGb.out hB1)
    obtain ⟨x0, x1, x2, x3, x4⟩ := cells5 HX1.out.blk
    have hPl := lt_blk HX1.out.blk
    have y0 := cell_blk HG1.out 0
    have y1 := cell_blk HG1.out 1
    simp only [List.getElem?_toArray, List.getElem?_cons_zero, List.getElem?_cons_succ] at y0 y1
    have hAl := alive_rd x g w1 HX1.out.r hO.a
    have HPR := Aside0.mk hpr
    clear hB1 hpr
    go_wp2_with fail
    refine hAl.mono ?_
    clear hAl
    cases hal : aliveS s x g with
    | false =>
      have HT : Aside0 (giveS s p x g = (s, 41)) := ⟨by rw [giveS, if_pos HPR.out, hal]; rfl⟩
      rintro e w2 ⟨rfl, hB2⟩
      have HX2 := Aside0.mk (HX1.out.below hB2)
      have HR2 := Aside0.mk (blk_below HR1.out hB2)
      clear x0 x1 x2 x3 x4 hPl y0 y1
      obtain ⟨x0, x1, x2, x3, x4⟩ := cells5 HX2.out.blk
      obtain ⟨r0, r1, r2, r3, r4⟩ := cells5 HR2.out
      obtain ⟨r5, r6, r7, r8, r9⟩ := froz5 HR2.out
      have hRl := lt_blk HR2.out
      have hPl := lt_blk HX2.out.blk
      clear hB2 hal
      go_wp2
      have hkR : Keep (fun i => i = w.heap.size + 2) w2 ((((((w2.setCell ⟨(w.heap.size + 2), 0, none⟩ (.int .i64 s.limit)).setCell ⟨(w.heap.size + 2), 1, none⟩ ((.slice AG0 (ints s.gens).length cG0))).setCell ⟨(w.heap.size + 2), 2, none⟩ ((.slice AA0 (bools s.alive).length cA0))).setCell ⟨(w.heap.size + 2), 3, none⟩ ((.slice AC0 vs.length cC0))).setCell ⟨(w.heap.size + 2), 4, none⟩ ((.slice AF0 (ints s.free).length cF0)))) := set5_keep _ _ _ _ _ _ _
      obtain ⟨z0, z1, z2, z3, z4⟩ := cells5 (blk_set5 (u0 := .int .i64 s.limit) (u1 := (.slice AG0 (ints s.gens).length cG0)) (u2 := (.slice AA0 (bools s.alive).length cA0)) (u3 := (.slice AC0 vs.length cC0)) (u4 := (.slice AF0 (ints s.free).length cF0)) HR2.out)
      refine bodyPost_ret (v := .tuple #[.agg #[.int .i64 s.limit, (.slice AG0 (ints s.gens).length cG0), (.slice AA0 (bools s.alive).length cA0), (.slice AC0 vs.length cC0), (.slice AF0 (ints s.free).length cF0)], .int .i64 41]) (by simp [results, Try.results40, go_sem, z0, z1, z2, z3, z4]) rfl ?_
      rw [HT.out]
      exact ⟨_, _, _, _, vs, rfl, (HX2.out.r0.far HX2.out.b hkR (fun k hk => by omega)).owned HI.out, below_then_keep HX2.out.b HX2.out.b.size hkR (fun k hk => by omega)⟩
    | true =>
      obtain ⟨hp0, hp1⟩ := procS_iff.1 HPR.out
      obtain ⟨n, rfl⟩ := Int.eq_ofNat_of_zero_le hp0
      have hpn : n < s.caches.length := by omega
      obtain ⟨i, rfl, hil, hai, hgi⟩ := alive_true hal
      obtain ⟨y, hy⟩ : ∃ y, s.caches[n]? = some y := ⟨_, List.getElem?_eq_getElem hpn⟩
      have HY := Aside0.mk hy
      have hyl := hO.cl y (List.mem_of_getElem? hy)
      have hfl := hO.fl
      have hc64 := hO.c1
      have hal64 := hO.a
      have HAL := Aside0.mk hal
      rintro e w2 ⟨rfl, hB2⟩
      have HX2 := Aside0.mk (HX1.out.below hB2)
      have HR2 := Aside0.mk (blk_below HR1.out hB2)
      have HG2 := Aside0.mk (blk_below HG1.out hB2)
      clear x0 x1 x2 x3 x4 hPl y0 y1
      obtain ⟨x0, x1, x2, x3, x4⟩ := cells5 HX2.out.blk
      have hPl := lt_blk HX2.out.blk
      have hcp := copy_rd w2 HX2.out.r hBd
      clear hB2 hal hy hgi
      go_wp2_with fail
      refine hcp.mono ?_
      clear hcp x0 x1 x2 x3 x4 hPl
      rintro e w3 ⟨vG2, vA2, vC2, vF2, vs2, col2, rfl, hS2, hz2, hB3⟩
      obtain ⟨AG2, cG2, rfl, -⟩ := hS2.g.slice
      obtain ⟨AA2, cA2, rfl, -⟩ := hS2.a.slice
      obtain ⟨AC2, cC2, rfl, -⟩ := hS2.c.slice
      obtain ⟨AF2, cF2, rfl, -⟩ := hS2.f.slice
      have HX3 := Aside0.mk (HX2.out.below hB3)
      have hR3 := blk_below HR2.out hB3
      have hG3 := blk_below HG2.out hB3
      obtain ⟨x0, x1, x2, x3, x4⟩ := cells5 HX3.out.blk
      obtain ⟨f0, f1, f2, f3, f4⟩ := froz5 HX3.out.blk
      have hPl := lt_blk HX3.out.blk
      have hw2 : w.heap.size ≤ w2.heap.size := HX2.out.b.size
      have hP2 := lt_blk HX2.out.blk
      have hR2l := lt_blk HR2.out
      have hG2l := lt_blk HG2.out
      obtain ⟨col, hQ3, hcol⟩ := (hS2.lower hw2).into HX3.out.blk (Nat.le_refl _) (hz2 _ hP2)
      have hk3 : Keep (fun k => k = w.heap.size) w3 ((((((w3.setCell ⟨w.heap.size, 0, none⟩ (.int .i64 s.limit)).setCell ⟨w.heap.size, 1, none⟩ ((.slice AG2 (ints s.gens).length cG2))).setCell ⟨w.heap.size, 2, none⟩ ((.slice AA2 (bools s.alive).length cA2))).setCell ⟨w.heap.size, 3, none⟩ ((.slice AC2 vs2.length cC2))).setCell ⟨w.heap.size, 4, none⟩ ((.slice AF2 (ints s.free).length cF2)))) := set5_keep _ _ _ _ _ _ _
      have HW3 : Aside0 (RfW w ((((((w3.setCell ⟨w.heap.size, 0, none⟩ (.int .i64 s.limit)).setCell ⟨w.heap.size, 1, none⟩ ((.slice AG2 (ints s.gens).length cG2))).setCell ⟨w.heap.size, 2, none⟩ ((.slice AA2 (bools s.alive).length cA2))).setCell ⟨w.heap.size, 3, none⟩ ((.slice AC2 vs2.length cC2))).setCell ⟨w.heap.size, 4, none⟩ ((.slice AF2 (ints s.free).length cF2)))) i g s (.slice AG2 (ints s.gens).length cG2) (.slice AA2 (bools s.alive).length cA2) (.slice AC2 vs2.length cC2) (.slice AF2 (ints s.free).length cF2) vs2 col) := ⟨⟨hQ3, blk_keep hG3 hk3 (by omega), (hcol _ (by omega)).trans (hz2 _ hG2l), blk_keep hR3 hk3 (by omega), (hcol _ (by omega)).trans (hz2 _ hR2l), below_then_keep HX3.out.b HX3.out.b.size hk3 (fun k hk => by omega)⟩⟩
      have hW3s : ((((((w3.setCell ⟨w.heap.size, 0, none⟩ (.int .i64 s.limit)).setCell ⟨w.heap.size, 1, none⟩ ((.slice AG2 (ints s.gens).length cG2))).setCell ⟨w.heap.size, 2, none⟩ ((.slice AA2 (bools s.alive).length cA2))).setCell ⟨w.heap.size, 3, none⟩ ((.slice AC2 vs2.length cC2))).setCell ⟨w.heap.size, 4, none⟩ ((.slice AF2 (ints s.free).length cF2)))).heap.size = w3.heap.size := by simp [World.setCell]
      clear hQ3 hcol hk3 hR3 hG3 hS2 hz2 hB3
      go_upto_region 6 with fail
      generalize ((((((w3.setCell ⟨w.heap.size, 0, none⟩ (.int .i64 s.limit)).setCell ⟨w.heap.size, 1, none⟩ ((.slice AG2 (ints s.gens).length cG2))).setCell ⟨w.heap.size, 2, none⟩ ((.slice AA2 (bools s.alive).length cA2))).setCell ⟨w.heap.size, 3, none⟩ ((.slice AC2 vs2.length cC2))).setCell ⟨w.heap.size, 4, none⟩ ((.slice AF2 (ints s.free).length cF2)))) = W3 at *
      clear x0 x1 x2 x3 x4 f0 f1 f2 f3 f4 hPl
      obtain ⟨ga, oa, ca, hea, hga, hga3, hata⟩ := HW3.out.q.r.a.form (by rw [bools_len]; omega)
      injection hea with hea1 hea2 hea3
      subst hea1 hea3
      have da := (hata i).1 _ (bools_get hai)
      have dfa := (hata i).2
      obtain ⟨q0, q1, q2, q3, q4⟩ := cells5 HW3.out.q.blk
      have y0 := cell_blk HW3.out.g 0
      have y1 := cell_blk HW3.out.g 1
      have hGl := lt_blk HW3.out.g
      have hPl2 := lt_blk HW3.out.q.blk
      simp only [List.getElem?_toArray, List.getElem?_cons_zero, List.getElem?_cons_succ] at y0 y1
      rw [bools_len] at q2
      clear hata hea2
      obtain ⟨col4, hQ4, hN4⟩ := HW3.out.q.mark (i := i) (by omega) (by omega) false
      rw [bools_len] at hQ4
      have HW4 := Aside0.mk (HW3.out.step hQ4 hN4)
      clear hQ4 hN4
      have hia : (i : Int) < (s.alive.length : Int) := by omega
      have hi0 : (0 : Int) ≤ (i : Int) := by omega
      clear hal64
      by_cases hgm : g = 2147483647
      · subst hgm
        have HT : Aside0 (giveS s n i 2147483647 = ({ s with alive := s.alive.set i false }, 0)) := ⟨by rw [giveS, if_pos HPR.out, if_pos HAL.out, if_pos rfl, Int.toNat_natCast]⟩
        obtain ⟨e0, e1, e2, e3, e4⟩ := cells5 HW4.out.q.blk
        obtain ⟨r0, r1, r2, r3, r4⟩ := cells5 HW4.out.r
        obtain ⟨r5, r6, r7, r8, r9⟩ := froz5 HW4.out.r
        have hRl := lt_blk HW4.out.r
        have hPl4 := lt_blk HW4.out.q.blk
        have z9 := cell_blk HW4.out.g 1
        simp only [List.getElem?_toArray, List.getElem?_cons_zero, List.getElem?_cons_succ] at z9
        go_wp2
        have hkR : Keep (fun i => i = w.heap.size + 2) (W3.setCell ⟨ga, oa + i, none⟩ (.bool false)) (((((((W3.setCell ⟨ga, oa + i, none⟩ (.bool false)).setCell ⟨(w.heap.size + 2), 0, none⟩ (.int .i64 s.limit)).setCell ⟨(w.heap.size + 2), 1, none⟩ ((.slice AG2 (ints s.gens).length cG2))).setCell ⟨(w.heap.size + 2), 2, none⟩ ((.slice (some ⟨ga, oa, none⟩) s.alive.length cA2))).setCell ⟨(w.heap.size + 2), 3, none⟩ ((.slice AC2 vs2.length cC2))).setCell ⟨(w.heap.size + 2), 4, none⟩ ((.slice AF2 (ints s.free).length cF2)))) := set5_keep _ _ _ _ _ _ _
        obtain ⟨z0, z1, z2, z3, z4⟩ := cells5 (blk_set5 (u0 := .int .i64 s.limit) (u1 := (.slice AG2 (ints s.gens).length cG2)) (u2 := (.slice (some ⟨ga, oa, none⟩) s.alive.length cA2)) (u3 := (.slice AC2 vs2.length cC2)) (u4 := (.slice AF2 (ints s.free).length cF2)) HW4.out.r)
        refine bodyPost_ret (v := .tuple #[.agg #[.int .i64 s.limit, (.slice AG2 (ints s.gens).length cG2), (.slice (some ⟨ga, oa, none⟩) s.alive.length cA2), (.slice AC2 vs2.length cC2), (.slice AF2 (ints s.free).length cF2)], .int .i64 0]) (by simp [results, Try.results40, go_sem, z0, z1, z2, z3, z4]) rfl ?_
        rw [HT.out]
        refine ⟨_, _, _, _, rfl, ⟨_, (HW4.out.q.r.keep hkR (fun i hi => by subst hi; rw [HW4.out.cr]; omega)).rdo⟩, ?_⟩
        exact below_then_keep HW4.out.b HW4.out.b.size hkR (fun i hi => by omega)
      · have hgb : (g == 2147483647) = false := by simpa using hgm
        obtain ⟨e0, e1, e2, e3, e4⟩ := cells5 HW4.out.q.blk
        have z9 := cell_blk HW4.out.g 1
        have hPl4 := lt_blk HW4.out.q.blk
        have hGl4 := lt_blk HW4.out.g
        simp only [List.getElem?_toArray, List.getElem?_cons_zero, List.getElem?_cons_succ] at z9
        go_wp2_with fail
        generalize (W3.setCell ⟨ga, oa + i, none⟩ (.bool false)) = W4 at *
        have hx0 : Below W4.heap.size W4 W4.drew := (Below.refl _ _).drew
        have HP0 := Aside0.mk (HW4.out.then hx0)
        obtain ⟨gC, oC, cC, heC, hgC, hg4, hatC⟩ := HP0.out.q.r.c.form (by rw [HP0.out.q.r.l]; exact Nat.lt_of_le_of_lt (Nat.zero_le _) hpn)
        obtain ⟨v, hv, hvrow⟩ := HP0.out.q.r.v n y HY.out
        have hcell := (hatC _).1 _ hv
        have hfz := (hatC n).2
        obtain ⟨Av, cv, rfl, -⟩ := hvrow.slice
        injection heC with he1 he2 he3
        subst he1 he3
        have hvl : vs2.length = s.caches.length := HP0.out.q.r.l
        rw [ints_len] at hcell
        have HVR := Aside0.mk hvrow
        have hc0 := (cells5 HP0.out.q.blk).2.2.2.1
        rw [hvl] at hc0
        have hc3 := cell_blk HP0.out.g 0
        simp only [List.getElem?_toArray, List.getElem?_cons_zero] at hc3
        have hki : (0 : Int) ≤ (n : Int) := by omega
        have hkl : (n : Int) < (s.caches.length : Int) := by omega
        have hb1 := HP0.out.q.one
        have hPx := lt_blk HP0.out.q.blk
        have hwx : w.heap.size ≤ W4.drew.heap.size := HP0.out.b.size
        clear he2 hatC hv hvrow e0 e1 e2 e3 e4 z9 hPl4 hGl4 da dfa q0 q1 q2 q3 q4 y0 y1 hGl hPl2
        refine start_ (n := 14) (S := fun w' => w'.cell? ⟨w.heap.size, 3, none⟩ = some (.slice (some ⟨gC, oC, none⟩) s.caches.length cC2) ∧ w'.cell? ⟨gC, oC + n, none⟩ = some (.slice Av y.length cv) ∧ w'.cell? ⟨w.heap.size + 1, 0, none⟩ = some (.int .i64 i)) (ds := [13]) #[false, false, false, false, false, false, false, false, false, false, false, false, false, false] (by kernel_rfl) rfl rfl ⟨hc0, hcell, hc3⟩ (fun hHeld => ?_)
        generalize W4.drew = u0 at *
        refine pure_ (i := 0) (N := some 29) (v := ?_) (a' := ?_) #[true, false, false, false, false, false, false, false, false, false, false, false, false, false] rfl rfl (by kernel_rfl) (fun _ _ _ h => h) (Or.inl ⟨by rfl, ?_⟩) ?_ ?_
        rotate_left
        · intro w'
          go_simp
          with_reducible rfl
        rotate_left
        · simp only [Act.put, List.setIfInBounds_toArray, List.set_cons_zero, List.set_cons_succ, i64_w, i32_w]
          rfl
        refine pure_ (i := 2) (N := some 31) (v := ?_) (a' := ?_) #[true, false, true, false, false, false, false, false, false, false, false, false, false, false] rfl rfl (by kernel_rfl) (fun _ _ _ h => h) (Or.inl ⟨by rfl, ?_⟩) ?_ ?_
        rotate_left
        · intro w'
          go_simp
          with_reducible rfl
        rotate_left
        · simp only [Act.put, List.setIfInBounds_toArray, List.set_cons_zero, List.set_cons_succ, i64_w, i32_w]
          rfl
        refine pure_ (i := 3) (N := some 32) (v := ?_) (a' := ?_) #[true, false, true, true, false, false, false, false, false, false, false, false, false, false] rfl rfl (by kernel_rfl) (fun _ _ _ h => h) (Or.inl ⟨by rfl, ?_⟩) ?_ ?_
        rotate_left
        · intro w'
          go_simp
          with_reducible rfl
        rotate_left
        · simp only [Act.put, List.setIfInBounds_toArray, List.set_cons_zero, List.set_cons_succ, i64_w, i32_w]
          rfl
        refine pure_ (i := 5) (N := some 34) (v := ?_) (a' := ?_) #[true, false, true, true, false, true, false, false, false, false, false, false, false, false] rfl rfl (by kernel_rfl) (fun _ _ _ h => h) (Or.inl ⟨by rfl, ?_⟩) ?_ ?_
        rotate_left
        · intro w'
          go_simp
          with_reducible rfl
        rotate_left
        · simp only [Act.put, List.setIfInBounds_toArray, List.set_cons_zero, List.set_cons_succ, i64_w, i32_w]
          rfl
        refine pure_ (i := 8) (N := some 37) (v := ?_) (a' := ?_) #[true, false, true, true, false, true, false, false, true, false, false, false, false, false] rfl rfl (by kernel_rfl) (fun _ _ _ h => h) (Or.inl ⟨by rfl, ?_⟩) ?_ ?_
        rotate_left
        · intro w'
          go_simp
          with_reducible rfl
        rotate_left
        · simp only [Act.put, List.setIfInBounds_toArray, List.set_cons_zero, List.set_cons_succ, i64_w, i32_w]
          rfl
        refine take_ (i := 1) (N := some 30) (v := ?_) (a' := ?_) #[true, true, true, true, false, true, false, false, true, false, false, false, false, false] rfl rfl (by kernel_rfl) (fun _ _ _ h => h) (Or.inl ⟨by rfl, ?_⟩) hHeld ?_ ?_
        rotate_left
        · rintro w' ⟨s0, s1, s2⟩
          go_simp
          with_reducible rfl
        rotate_left
        · simp only [Act.put, List.setIfInBounds_toArray, List.set_cons_zero, List.set_cons_succ, i64_w, i32_w]
          rfl
        refine take_ (i := 4) (N := some 33) (v := ?_) (a' := ?_) #[true, true, true, true, true, true, false, false, true, false, false, false, false, false] rfl rfl (by kernel_rfl) (fun _ _ _ h => h) (Or.inl ⟨by rfl, ?_⟩) hHeld ?_ ?_
        rotate_left
        · rintro w' ⟨s0, s1, s2⟩
          go_simp
          with_reducible rfl
        rotate_left
        · simp only [Act.put, List.setIfInBounds_toArray, List.set_cons_zero, List.set_cons_succ, i64_w, i32_w]
          rfl
        refine pure_ (i := 6) (N := some 35) (v := ?_) (a' := ?_) #[true, true, true, true, true, true, true, false, true, false, false, false, false, false] rfl rfl (by kernel_rfl) (fun _ _ _ h => h) (Or.inl ⟨by rfl, ?_⟩) ?_ ?_
        rotate_left
        · intro w'
          go_simp
          with_reducible rfl
        rotate_left
        · simp only [Act.put, List.setIfInBounds_toArray, List.set_cons_zero, List.set_cons_succ, i64_w, i32_w]
          rfl
        refine take_ (i := 7) (N := some 36) (v := ?_) (a' := ?_) #[true, true, true, true, true, true, true, true, true, false, false, false, false, false] rfl rfl (by kernel_rfl) (fun _ _ _ h => h) (Or.inl ⟨by rfl, ?_⟩) hHeld ?_ ?_
        rotate_left
        · rintro w' ⟨s0, s1, s2⟩
          go_simp
          with_reducible rfl
        rotate_left
        · simp only [Act.put, List.setIfInBounds_toArray, List.set_cons_zero, List.set_cons_succ, i64_w, i32_w]
          rfl
        refine take_ (i := 9) (N := some 38) (v := ?_) (a' := ?_) #[true, true, true, true, true, true, true, true, true, true, false, false, false, false] rfl rfl (by kernel_rfl) (fun _ _ _ h => h) (Or.inl ⟨by rfl, ?_⟩) hHeld ?_ ?_
        rotate_left
        · rintro w' ⟨s0, s1, s2⟩
          go_simp
          with_reducible rfl
        rotate_left
        · simp only [Act.put, List.setIfInBounds_toArray, List.set_cons_zero, List.set_cons_succ, i64_w, i32_w]
          rfl
        refine one_ (i := 10) (N := some 39) #[true, true, true, true, true, true, true, true, true, true, true, false, false, false] rfl rfl (by kernel_rfl) (by decide) (fun K hK => ?_)
        refine value_ (w1 := ?_) (v := ?_) (by rfl) rfl ?_ ?_
        rotate_left 2
        · go_simp
          constructor
          · rfl
          · rfl
        have hS1 : Below u0.heap.size u0 (u0.alloc (.cells #[.int .i64 i] 3)) := below_al (Below.refl _ _) _
        have hI : (u0.alloc (.cells #[.int .i64 i] 3)).heap[u0.heap.size]? = some (.cells #[.int .i64 i] 3 (0, 0)) := blk_new _ _
        generalize u0.alloc (.cells #[.int .i64 i] 3) = u1 at *
        have hz1 := hS1.size
        refine hK.out _ _ ⟨pw_cell_below hS1 hc0, pw_cell_below hS1 hcell, pw_cell_below hS1 hc3⟩ (fun hHeld => ?_)
        clear hK K
        refine norm_ (a' := ?_) ?_ ?_
        rotate_left
        · show Act.put _ (some 39) _ = _
          simp only [Act.put, List.setIfInBounds_toArray, List.set_cons_zero, List.set_cons_succ, i64_w, i32_w]
          rfl
        refine one_ (i := 11) (N := some 40) #[true, true, true, true, true, true, true, true, true, true, true, true, false, false] rfl rfl (by kernel_rfl) (by decide) (fun K hK => ?_)
        obtain ⟨v5, w5, hr5, hrow5, hg5⟩ := row_append (P := Try.prog) (t := 26) Try.underlying26 infoIn rfl (by omega) (HVR.out.below hS1) (some ⟨u0.heap.size, 0, none⟩) 1 1 [.int .i64 i] rfl (fun _ => ⟨_, rfl, fun j u hj => by match j, hj with | 0, hj => (obtain rfl : Value.int .i64 i = u := by simpa using hj); rw [adds]; exact cell_blk hI 0⟩) (fun u hu => by rw [List.mem_singleton.1 hu]; rfl) (by rw [ints_len]; omega) (by omega)
        rw [ints_len] at hr5
        refine app_ (.tmp 36) (.tmp 39) 26 (by rfl) rfl rfl rfl rfl hr5 ?_
        have hK5 := grown_keep hg5 HVR.out.own
        obtain ⟨A5, c5, he5, -⟩ := hrow5.slice
        rw [List.length_append, ints_len, List.length_singleton] at he5
        subst he5
        have hrow5 : Row w5 w.heap.size (fun k => col4 k = 6 + n ∨ u0.heap.size ≤ k) 3 (.slice A5 (y.length + 1) c5) (ints (y ++ [(i : Int)])) := by rw [ints_append]; exact hrow5.mono (fun k _ h => h.imp id (fun h => by omega))
        have hK05 : Keep (fun k => col4 k = 6 + n) u0 w5 := (Keep.of_below hS1).trans hK5
        have hz5 := hK05.size
        have d1 := (keep_cell hK05 hgC (by omega) (oC + n)).1.trans hcell
        have d2 := (keep_cell hK05 hgC (by omega) (oC + n)).2.trans hfz
        have hgC5 : gC < w5.heap.size := by omega
        have dk3 := (keep_cell hK05 hPx (by omega) 3).1.trans hc0
        have dk0 := (keep_cell hK05 (lt_blk HP0.out.g) (by have := HP0.out.cg; omega) 0).1.trans hc3
        refine hK.out _ _ ⟨dk3, d1, dk0⟩ (fun hHeld => ?_)
        clear hK K
        refine norm_ (a' := ?_) ?_ ?_
        rotate_left
        · show Act.put _ (some 40) _ = _
          simp only [Act.put, List.setIfInBounds_toArray, List.set_cons_zero, List.set_cons_succ, i64_w, i32_w]
          rfl
        refine pure_ (i := 12) (N := some 41) (v := ?_) (a' := ?_) #[true, true, true, true, true, true, true, true, true, true, true, true, true, false] rfl rfl (by kernel_rfl) (fun _ _ _ h => h) (Or.inl ⟨by rfl, ?_⟩) ?_ ?_
        rotate_left
        · intro w'
          go_simp
          with_reducible rfl
        rotate_left
        · simp only [Act.put, List.setIfInBounds_toArray, List.set_cons_zero, List.set_cons_succ, i64_w, i32_w]
          rfl
        refine last_ (i := 13) (N := none) #[true, true, true, true, true, true, true, true, true, true, true, true, true, true] rfl rfl (by kernel_rfl) (by decide) (fun K hK => ?_)
        refine skip_ (w1 := ?_) (by rfl) rfl ?_ ?_
        rotate_left
        · go_simp
          first | with_reducible rfl | rfl
        refine hK.out _ _ ?_
        clear hK K
        refine done_ (by kernel_rfl) ?_
        obtain ⟨col5, hQ5, hN5⟩ := HP0.out.q.cache (w1 := w5) (v1 := .slice A5 (y.length + 1) c5) (ys := y ++ [(i : Int)]) hwx (p := n) rfl (by exact hpn) hK05 hrow5
        rw [hvl] at hQ5
        have HW5 := Aside0.mk (HP0.out.step hQ5 hN5)
        clear hQ5 hN5 hHeld hrow5 hK05 hK5 hr5 hg5 hS1 hI d1 d2 dk3 dk0 hc0 hcell hc3 hfz
        generalize (w5.setCell ⟨gC, oC + n, none⟩ (.slice A5 (y.length + 1) c5)) = W5 at *
        obtain ⟨gC2, oC2, cC3, heC, hgC5', -, hat5⟩ := HW5.out.q.r.c.form (by rw [List.length_set]; omega)
        injection heC with h1 h2 h3
        injection h1 with h1
        injection h1 with h4 h5
        subst h4 h5
        have d3 := (hat5 n).1 _ (List.getElem?_set_self (by omega))
        have d4 := (hat5 n).2
        obtain ⟨e0, e1, e2, e3, e4⟩ := cells5 HW5.out.q.blk
        have hPl5 := lt_blk HW5.out.q.blk
        clear hat5 h2 h3
        by_cases h64 : y.length + 1 = 64
        · have hm1 : (((y.length : Int) + 1) == 64) = true := by simp; omega
          have hm2 : (((y.length + 1 : Nat) : Int) == 64) = true := by simp; omega
          have HT : Aside0 (giveS s n i g = ({ s with alive := s.alive.set i false, caches := s.caches.set n ((y ++ [(i : Int)]).drop 32), free := s.free ++ (y ++ [(i : Int)]).take 32 }, 0)) := ⟨by
            rw [giveS, if_pos HPR.out, if_pos HAL.out, if_neg hgm, Int.toNat_natCast, Int.toNat_natCast, giveBack]
            show ((if (s.caches.getD n [] ++ [(i : Int)]).length = 64 then _ else _), (0 : Int)) = _
            rw [getD_some HY.out, if_pos (by rw [List.length_append, List.length_singleton]; exact h64)]⟩
          obtain ⟨v9, hv9, hrow9⟩ := HW5.out.q.r.v n (y ++ [(i : Int)]) (List.getElem?_set_self hpn)
          have hve : v9 = .slice A5 (y.length + 1) c5 := by
            rw [List.getElem?_set_self (by omega)] at hv9
            injection hv9 with h
            exact h.symm
          subst hve
          obtain ⟨g5, o5, c5', he5, hg5l, hg56, hat5⟩ := hrow9.form (by rw [ints_len, List.length_append, List.length_singleton]; omega)
          injection he5 with h1 h2 h3
          subst h1 h3
          have hc5 := hrow9.lens.2
          rw [ints_len] at e4
          have HRW := Aside0.mk hrow9
          have h32c : (32 : Int) ≤ (c5 : Int) := by omega
          have h32l : (32 : Int) ≤ (y.length : Int) + 1 := by omega
          have hlc : (y.length : Int) + 1 ≤ (c5 : Int) := by omega
          have hcn : ¬ c5 = 32 := by omega
          have HAT : Aside0 (∀ (j : Nat) (u : Value), (ints (y ++ [(i : Int)]))[j]? = some u → W5.drew.cell? ⟨g5, o5 + j, none⟩ = some u) := ⟨fun j u hj => (hat5 j).1 u hj⟩
          clear hv9 hrow9 h2 hat5 hg5l hg56
          go_wp2_with fail
          have hx5 : Below W5.heap.size W5 W5.drew := (Below.refl _ _).drew
          have HP5 := Aside0.mk (HW5.out.then hx5)
          have HRX := Aside0.mk (HRW.out.below hx5)
          have hf0 : W5.drew.cell? ⟨w.heap.size, 4, none⟩ = some (.slice AF2 s.free.length cF2) := e4
          have hf1 : W5.drew.cell? ⟨w.heap.size, 3, none⟩ = some (.slice (some ⟨gC, oC, none⟩) s.caches.length cC2) := e3
          have hf2 : W5.drew.cell? ⟨gC, oC + n, none⟩ = some (.slice (some ⟨g5, o5, none⟩) (y.length + 1) c5) := d3
          have hf3 : W5.drew.frozen? ⟨gC, oC + n, none⟩ = false := d4
          have hfb4 := (froz5 HP5.out.q.blk).2.2.2.2
          have hgCx : gC < W5.drew.heap.size := hgC5'
          have hbx := lt_blk HP5.out.q.blk
          have hbw : w.heap.size ≤ W5.drew.heap.size := HP5.out.b.size
          have hb15 := HP5.out.q.one
          have hg45 : col5 gC = 4 := HP5.out.q.r.c.own gC (by simp [Value.ownBlock])
          clear e0 e1 e2 e3 e4 d3 d4 hPl5
          refine start_ (n := 11) (S := fun w' => w'.cell? ⟨w.heap.size, 4, none⟩ = some (.slice AF2 s.free.length cF2) ∧ w'.cell? ⟨w.heap.size, 3, none⟩ = some (.slice (some ⟨gC, oC, none⟩) s.caches.length cC2) ∧ w'.cell? ⟨gC, oC + n, none⟩ = some (.slice (some ⟨g5, o5, none⟩) (y.length + 1) c5)) (ds := [8, 10]) #[false, false, false, false, false, false, false, false, false, false, false] (by kernel_rfl) rfl rfl ⟨hf0, hf1, hf2⟩ (fun hHeld => ?_)
          generalize W5.drew = x1 at *
          refine pure_ (i := 0) (N := some 49) (v := ?_) (a' := ?_) #[true, false, false, false, false, false, false, false, false, false, false] rfl rfl (by kernel_rfl) (fun _ _ _ h => h) (Or.inl ⟨by rfl, ?_⟩) ?_ ?_
          rotate_left
          · intro w'
            go_simp
            with_reducible rfl
          rotate_left
          · simp only [Act.put, List.setIfInBounds_toArray, List.set_cons_zero, List.set_cons_succ, i64_w, i32_w]
            rfl
          refine pure_ (i := 2) (N := some 51) (v := ?_) (a' := ?_) #[true, false, true, false, false, false, false, false, false, false, false] rfl rfl (by kernel_rfl) (fun _ _ _ h => h) (Or.inl ⟨by rfl, ?_⟩) ?_ ?_
          rotate_left
          · intro w'
            go_simp
            with_reducible rfl
          rotate_left
          · simp only [Act.put, List.setIfInBounds_toArray, List.set_cons_zero, List.set_cons_succ, i64_w, i32_w]
            rfl
          refine pure_ (i := 4) (N := some 53) (v := ?_) (a' := ?_) #[true, false, true, false, true, false, false, false, false, false, false] rfl rfl (by kernel_rfl) (fun _ _ _ h => h) (Or.inl ⟨by rfl, ?_⟩) ?_ ?_
          rotate_left
          · intro w'
            go_simp
            with_reducible rfl
          rotate_left
          · simp only [Act.put, List.setIfInBounds_toArray, List.set_cons_zero, List.set_cons_succ, i64_w, i32_w]
            rfl
          refine take_ (i := 1) (N := some 50) (v := ?_) (a' := ?_) #[true, true, true, false, true, false, false, false, false, false, false] rfl rfl (by kernel_rfl) (fun _ _ _ h => h) (Or.inl ⟨by rfl, ?_⟩) hHeld ?_ ?_
          rotate_left
          · rintro w' ⟨s0, s1, s2⟩
            go_simp
            with_reducible rfl
          rotate_left
          · simp only [Act.put, List.setIfInBounds_toArray, List.set_cons_zero, List.set_cons_succ, i64_w, i32_w]
            rfl
          refine take_ (i := 3) (N := some 52) (v := ?_) (a' := ?_) #[true, true, true, true, true, false, false, false, false, false, false] rfl rfl (by kernel_rfl) (fun _ _ _ h => h) (Or.inl ⟨by rfl, ?_⟩) hHeld ?_ ?_
          rotate_left
          · rintro w' ⟨s0, s1, s2⟩
            go_simp
            with_reducible rfl
          rotate_left
          · simp only [Act.put, List.setIfInBounds_toArray, List.set_cons_zero, List.set_cons_succ, i64_w, i32_w]
            rfl
          refine pure_ (i := 5) (N := some 54) (v := ?_) (a' := ?_) #[true, true, true, true, true, true, false, false, false, false, false] rfl rfl (by kernel_rfl) (fun _ _ _ h => h) (Or.inl ⟨by rfl, ?_⟩) ?_ ?_
          rotate_left
          · intro w'
            go_simp
            with_reducible rfl
          rotate_left
          · simp only [Act.put, List.setIfInBounds_toArray, List.set_cons_zero, List.set_cons_succ, i64_w, i32_w]
            rfl
          refine take_ (i := 6) (N := some 55) (v := ?_) (a' := ?_) #[true, true, true, true, true, true, true, false, false, false, false] rfl rfl (by kernel_rfl) (fun _ _ _ h => h) (Or.inl ⟨by rfl, ?_⟩) hHeld ?_ ?_
          rotate_left
          · rintro w' ⟨s0, s1, s2⟩
            go_simp
            with_reducible rfl
          rotate_left
          · simp only [Act.put, List.setIfInBounds_toArray, List.set_cons_zero, List.set_cons_succ, i64_w, i32_w]
            rfl
          refine pure_ (i := 7) (N := some 56) (v := ?_) (a' := ?_) #[true, true, true, true, true, true, true, true, false, false, false] rfl rfl (by kernel_rfl) (fun _ _ _ h => h) (Or.inl ⟨by rfl, ?_⟩) ?_ ?_
          rotate_left
          · intro w'
            go_simp
            with_reducible rfl
          rotate_left
          · simp only [Act.put, List.setIfInBounds_toArray, List.set_cons_zero, List.set_cons_succ, i64_w, i32_w]
            rfl
          refine last_ (i := 8) (N := some 57) #[true, true, true, true, true, true, true, true, true, false, false] rfl rfl (by kernel_rfl) (by decide) (fun K hK => ?_)
          have hFr := HP5.out.q.r.f
          obtain ⟨v6, w6, hr6, hrow6, hg6⟩ := row_append (P := Try.prog) (t := 26) Try.underlying26 infoIn rfl (by omega) hFr (some ⟨g5, o5, none⟩) 32 c5 (ints ((y ++ [(i : Int)]).take 32)) (by rw [ints_len, List.length_take, List.length_append, List.length_singleton]; omega) (fun _ => ⟨_, rfl, fun j u hj => by rw [ints_take, List.getElem?_take] at hj; split at hj; (rw [adds]; exact HAT.out j u hj); cases hj⟩) ints_one (by rw [ints_len]; show (s.free.length + 32) * 8 ≤ _; omega) (by omega)
          rw [ints_len] at hr6
          refine app_ (.tmp 50) (.tmp 56) 26 (by rfl) rfl rfl rfl rfl hr6 ?_
          have hK6 := grown_keep hg6 hFr.own
          obtain ⟨A6, c6, he6, -⟩ := hrow6.slice
          rw [← ints_append] at hrow6
          rw [← ints_append, ints_len, List.length_append, show ((y ++ [(i : Int)]).take 32).length = 32 by rw [List.length_take, List.length_append, List.length_singleton]; omega] at he6
          subst he6
          have hc64' := (keep_cell hK6 hbx (by omega) 4).1.trans hf0
          have hf64 := (keep_cell hK6 hbx (by omega) 4).2.trans hfb4
          have hz6 := hK6.size
          have hb6l : w.heap.size < w6.heap.size := by omega
          refine hK.out _ _ ?_
          clear hK K
          refine norm_ (a' := ?_) ?_ ?_
          rotate_left
          · show Act.put _ (some 57) _ = _
            simp only [Act.put, List.setIfInBounds_toArray, List.set_cons_zero, List.set_cons_succ, i64_w, i32_w]
            rfl
          refine pure_ (i := 9) (N := some 58) (v := ?_) (a' := ?_) #[true, true, true, true, true, true, true, true, true, true, false] rfl rfl (by kernel_rfl) (fun _ _ _ h => h) (Or.inl ⟨by rfl, ?_⟩) ?_ ?_
          rotate_left
          · intro w'
            go_simp
            with_reducible rfl
          rotate_left
          · simp only [Act.put, List.setIfInBounds_toArray, List.set_cons_zero, List.set_cons_succ, i64_w, i32_w]
            rfl
          refine last_ (i := 10) (N := none) #[true, true, true, true, true, true, true, true, true, true, true] rfl rfl (by kernel_rfl) (by decide) (fun K hK => ?_)
          refine skip_ (w1 := ?_) (by rfl) rfl ?_ ?_
          rotate_left
          · go_simp
            first | with_reducible rfl | rfl
          refine hK.out _ _ ?_
          clear hK K
          refine done_ (by kernel_rfl) ?_
          have hst : Keep (fun k => k = w.heap.size) w6 (w6.setCell ⟨w.heap.size, 4, none⟩ (.slice A6 (s.free.length + 32) c6)) := (by repeat (first | (with_reducible exact Keep.refl _ _) | (with_reducible refine Keep.drewN ?_ _) | (with_reducible refine Keep.drew ?_) | (with_reducible refine Keep.setCell ?_ _ _ (by first | (right; with_reducible rfl) | (left; simp; done) | (left; simp; omega) | (right; simp; done) | (right; assumption))) | (with_reducible refine Keep.alloc ?_ _)))
          have hb6 := blk_keep HP5.out.q.blk hK6 (by omega)
          have hbk : (w6.setCell ⟨w.heap.size, 4, none⟩ (.slice A6 (s.free.length + 32) c6)).heap[w.heap.size]? = _ := blk_set (i := 4) (u := .slice A6 (s.free.length + 32) c6) hb6
          simp only [List.setIfInBounds_toArray, List.set_cons_zero, List.set_cons_succ] at hbk
          have hF6 := (hrow6.mono (ok' := fun k => col5 k = 5 ∨ x1.heap.size ≤ k ∧ k < w6.heap.size) (fun k hl h => h.imp id (fun h => ⟨by omega, hl⟩))).keep hst (fun j hj h => by subst hj; rcases h with h | h <;> omega)
          have hc6 := (HRX.out.keep hK6 (fun j hj h => by omega)).keep hst (fun j hj h => by subst hj; omega)
          have hdr := hc6.drop (k := 32) (by rw [ints_len, List.length_append, List.length_singleton]; omega)
          rw [← ints_drop, if_neg (by omega), Option.map_some, adds, Nat.mul_one, show y.length + 1 - 32 = 32 by omega] at hdr
          have hKK : Keep (fun k => col5 k = 1 ∨ col5 k = 5 ∨ col5 k = 6 + n) x1 (w6.setCell ⟨w.heap.size, 4, none⟩ (.slice A6 (s.free.length + 32) c6)) := (hK6.mono (fun _ _ h => .inr (.inl h))).trans (hst.mono (fun _ _ h => by subst h; exact .inl hb15))
          have k3 : (w6.setCell ⟨w.heap.size, 4, none⟩ (.slice A6 (s.free.length + 32) c6)).cell? ⟨w.heap.size, 3, none⟩ = some (.slice (some ⟨gC, oC, none⟩) s.caches.length cC2) := by
            have := cell_blk hbk 3
            simpa using this
          have kc := (keep_cell hKK hgCx (by omega) (oC + n)).1.trans hf2
          have kf := (keep_cell hKK hgCx (by omega) (oC + n)).2.trans hf3
          have hbl7 := lt_blk hbk
          have hs7 := hKK.size
          have hdl : ((y ++ [(i : Int)]).drop 32).length = 32 := by rw [List.length_drop, List.length_append, List.length_singleton]; omega
          have hsz67 : (w6.setCell ⟨w.heap.size, 4, none⟩ (.slice A6 (s.free.length + 32) c6)).heap.size = w6.heap.size := by simp [World.setCell]
          have HF6 := Aside0.mk hF6
          have HBK := Aside0.mk hbk
          have HKK := Aside0.mk hKK
          have HDR := Aside0.mk hdr
          have hw32 : y.length + 1 - 32 = 32 := by omega
          clear hF6 hbk hKK hdr hc6 hst hb6 hc64' hf64 hFr hrow6 hHeld hf0 hf1 hf2 hf3 hfb4 hm1 hm2
          go_wp2_with fail
          generalize (w6.setCell ⟨w.heap.size, 4, none⟩ (.slice A6 (s.free.length + 32) c6)) = W7 at *
          have hx7 : Below W7.heap.size W7 W7.drew := (Below.refl _ _).drew
          have k3 : W7.drew.cell? ⟨w.heap.size, 3, none⟩ = _ := k3
          have kc : W7.drew.cell? ⟨gC, oC + n, none⟩ = _ := kc
          have kf : W7.drew.frozen? ⟨gC, oC + n, none⟩ = false := kf
          have hgC7 : gC < W7.drew.heap.size := Nat.lt_of_lt_of_le hgCx hs7
          have HDX := Aside0.mk (HDR.out.below hx7)
          refine start_ (n := 12) (S := fun w' => w'.cell? ⟨w.heap.size, 3, none⟩ = some (.slice (some ⟨gC, oC, none⟩) s.caches.length cC2) ∧ w'.cell? ⟨gC, oC + n, none⟩ = some (.slice (some ⟨g5, o5, none⟩) (y.length + 1) c5)) (ds := [11]) #[false, false, false, false, false, false, false, false, false, false, false, false] (by kernel_rfl) rfl rfl ⟨k3, kc⟩ (fun hHeld => ?_)
          generalize W7.drew = x2 at *
          refine pure_ (i := 0) (N := some 59) (v := ?_) (a' := ?_) #[true, false, false, false, false, false, false, false, false, false, false, false] rfl rfl (by kernel_rfl) (fun _ _ _ h => h) (Or.inl ⟨by rfl, ?_⟩) ?_ ?_
          rotate_left
          · intro w'
            go_simp
            with_reducible rfl
          rotate_left
          · simp only [Act.put, List.setIfInBounds_toArray, List.set_cons_zero, List.set_cons_succ, i64_w, i32_w]
            rfl
          refine pure_ (i := 2) (N := some 61) (v := ?_) (a' := ?_) #[true, false, true, false, false, false, false, false, false, false, false, false] rfl rfl (by kernel_rfl) (fun _ _ _ h => h) (Or.inl ⟨by rfl, ?_⟩) ?_ ?_
          rotate_left
          · intro w'
            go_simp
            with_reducible rfl
          rotate_left
          · simp only [Act.put, List.setIfInBounds_toArray, List.set_cons_zero, List.set_cons_succ, i64_w, i32_w]
            rfl
          refine pure_ (i := 3) (N := some 62) (v := ?_) (a' := ?_) #[true, false, true, true, false, false, false, false, false, false, false, false] rfl rfl (by kernel_rfl) (fun _ _ _ h => h) (Or.inl ⟨by rfl, ?_⟩) ?_ ?_
          rotate_left
          · intro w'
            go_simp
            with_reducible rfl
          rotate_left
          · simp only [Act.put, List.setIfInBounds_toArray, List.set_cons_zero, List.set_cons_succ, i64_w, i32_w]
            rfl
          refine pure_ (i := 5) (N := some 64) (v := ?_) (a' := ?_) #[true, false, true, true, false, true, false, false, false, false, false, false] rfl rfl (by kernel_rfl) (fun _ _ _ h => h) (Or.inl ⟨by rfl, ?_⟩) ?_ ?_
          rotate_left
          · intro w'
            go_simp
            with_reducible rfl
          rotate_left
          · simp only [Act.put, List.setIfInBounds_toArray, List.set_cons_zero, List.set_cons_succ, i64_w, i32_w]
            rfl
          refine take_ (i := 1) (N := some 60) (v := ?_) (a' := ?_) #[true, true, true, true, false, true, false, false, false, false, false, false] rfl rfl (by kernel_rfl) (fun _ _ _ h => h) (Or.inl ⟨by rfl, ?_⟩) hHeld ?_ ?_
          rotate_left
          · rintro w' ⟨s0, s1⟩
            go_simp
            with_reducible rfl
          rotate_left
          · simp only [Act.put, List.setIfInBounds_toArray, List.set_cons_zero, List.set_cons_succ, i64_w, i32_w]
            rfl
          refine take_ (i := 4) (N := some 63) (v := ?_) (a' := ?_) #[true, true, true, true, true, true, false, false, false, false, false, false] rfl rfl (by kernel_rfl) (fun _ _ _ h => h) (Or.inl ⟨by rfl, ?_⟩) hHeld ?_ ?_
          rotate_left
          · rintro w' ⟨s0, s1⟩
            go_simp
            with_reducible rfl
          rotate_left
          · simp only [Act.put, List.setIfInBounds_toArray, List.set_cons_zero, List.set_cons_succ, i64_w, i32_w]
            rfl
          refine pure_ (i := 6) (N := some 65) (v := ?_) (a' := ?_) #[true, true, true, true, true, true, true, false, false, false, false, false] rfl rfl (by kernel_rfl) (fun _ _ _ h => h) (Or.inl ⟨by rfl, ?_⟩) ?_ ?_
          rotate_left
          · intro w'
            go_simp
            with_reducible rfl
          rotate_left
          · simp only [Act.put, List.setIfInBounds_toArray, List.set_cons_zero, List.set_cons_succ, i64_w, i32_w]
            rfl
          refine take_ (i := 7) (N := some 66) (v := ?_) (a' := ?_) #[true, true, true, true, true, true, true, true, false, false, false, false] rfl rfl (by kernel_rfl) (fun _ _ _ h => h) (Or.inl ⟨by rfl, ?_⟩) hHeld ?_ ?_
          rotate_left
          · rintro w' ⟨s0, s1⟩
            go_simp
            with_reducible rfl
          rotate_left
          · simp only [Act.put, List.setIfInBounds_toArray, List.set_cons_zero, List.set_cons_succ, i64_w, i32_w]
            rfl
          refine pure_ (i := 8) (N := some 67) (v := ?_) (a' := ?_) #[true, true, true, true, true, true, true, true, true, false, false, false] rfl rfl (by kernel_rfl) (fun _ _ _ h => h) (Or.inl ⟨by rfl, ?_⟩) ?_ ?_
          rotate_left
          · intro w'
            go_simp
            with_reducible rfl
          rotate_left
          · simp only [Act.put, List.setIfInBounds_toArray, List.set_cons_zero, List.set_cons_succ, i64_w, i32_w]
            rfl
          refine one_ (i := 9) (N := some 68) #[true, true, true, true, true, true, true, true, true, true, false, false] rfl rfl (by kernel_rfl) (by decide) (fun K hK => ?_)
          refine goes_ Try.func47 (by kernel_rfl) rfl #[.slice (some ⟨g5, o5 + 32, none⟩) 32 (c5 - 32)] (by rfl) rfl rfl (by simp only [List.map_toArray, List.map_cons, List.map_nil]; rfl) ?_
          with_reducible refine (ints_ref (.slice (some ⟨g5, o5 + 32, none⟩) 32 (c5 - 32)) ((y ++ [(i : Int)]).drop 32) x2 HDX.out.reads (by rw [hdl]; omega)).mono ?_
          rintro e w8 ⟨v8, rfl, hR8, hS8⟩
          refine ⟨_, rfl, ?_⟩
          obtain ⟨A8, c8, he8, -⟩ := hR8.slice
          rw [ints_len, hdl] at he8
          subst he8
          refine hK.out _ _ ⟨pw_cell_below hS8 k3, pw_cell_below hS8 kc⟩ (fun hHeld => ?_)
          clear hK K
          refine norm_ (a' := ?_) ?_ ?_
          rotate_left
          · show Act.put _ (some 68) _ = _
            simp only [Act.put, List.setIfInBounds_toArray, List.set_cons_zero, List.set_cons_succ, i64_w, i32_w]
            rfl
          refine pure_ (i := 10) (N := some 69) (v := ?_) (a' := ?_) #[true, true, true, true, true, true, true, true, true, true, true, false] rfl rfl (by kernel_rfl) (fun _ _ _ h => h) (Or.inl ⟨by rfl, ?_⟩) ?_ ?_
          rotate_left
          · intro w'
            go_simp
            with_reducible rfl
          rotate_left
          · simp only [Act.put, List.setIfInBounds_toArray, List.set_cons_zero, List.set_cons_succ, i64_w, i32_w]
            rfl
          refine last_ (i := 11) (N := none) #[true, true, true, true, true, true, true, true, true, true, true, true] rfl rfl (by kernel_rfl) (by decide) (fun K hK => ?_)
          have hc8 := pw_cell_below hS8 kc
          have hf8 := (keep_cell (Keep.of_below (F := fun _ => False) hS8) hgC7 (fun h => h) (oC + n)).2.trans kf
          have hgC8 : gC < w8.heap.size := Nat.lt_of_lt_of_le hgC7 hS8.size
          refine skip_ (w1 := ?_) (by rfl) rfl ?_ ?_
          rotate_left
          · go_simp
            first | with_reducible rfl | rfl
          refine hK.out _ _ ?_
          clear hK K
          refine done_ (by kernel_rfl) ?_
          have hzx7 := hx7.size
          have hzx8 := hS8.size
          obtain ⟨col9, hQ9, hN9⟩ := HP5.out.q.both (new := fun k => if k < x2.heap.size then 5 else 6 + n) (by omega) rfl (show n < (s.caches.set n (y ++ [(i : Int)])).length by rw [List.length_set]; exact hpn) ((HKK.out.trans (Keep.of_below hx7)).trans (Keep.of_below hS8)) (blk_below (blk_below HBK.out hx7) hS8)
            (((HF6.out.below hx7).below hS8).mono (fun k _ h => h.imp id (fun h => ⟨h.1, if_pos (by omega)⟩))) (Row.mono (ok := fun k => x2.heap.size ≤ k) ⟨fun k hk => hR8.base_le k hk, (hR8.lower (by omega)).row, hR8.one⟩ (fun k _ h => .inr ⟨by omega, if_neg (by omega)⟩))
          rw [List.set_set] at hQ9
          have HW9 := Aside0.mk (HP5.out.step hQ9 hN9)
          clear hQ9 hN9 hHeld hR8 hc8 hf8 k3 kc kf
          generalize (w8.setCell ⟨gC, oC + n, none⟩ (.slice A8 32 c8)) = W9 at *
          obtain ⟨e0, e1, e2, e3, e4⟩ := cells5 HW9.out.q.blk
          have hPl9 := lt_blk HW9.out.q.blk
          obtain ⟨r0, r1, r2, r3, r4⟩ := cells5 HW9.out.r
          obtain ⟨r5, r6, r7, r8, r9⟩ := froz5 HW9.out.r
          have hRl := lt_blk HW9.out.r
          go_wp2
          have hkR : Keep (fun i => i = w.heap.size + 2) W9 ((((((W9.setCell ⟨(w.heap.size + 2), 0, none⟩ (.int .i64 s.limit)).setCell ⟨(w.heap.size + 2), 1, none⟩ ((.slice AG2 (ints s.gens).length cG2))).setCell ⟨(w.heap.size + 2), 2, none⟩ ((.slice (some ⟨ga, oa, none⟩) s.alive.length cA2))).setCell ⟨(w.heap.size + 2), 3, none⟩ ((.slice (some ⟨gC, oC, none⟩) s.caches.length cC2))).setCell ⟨(w.heap.size + 2), 4, none⟩ ((.slice A6 (s.free.length + 32) c6)))) := set5_keep _ _ _ _ _ _ _
          obtain ⟨z0, z1, z2, z3, z4⟩ := cells5 (blk_set5 (u0 := .int .i64 s.limit) (u1 := (.slice AG2 (ints s.gens).length cG2)) (u2 := (.slice (some ⟨ga, oa, none⟩) s.alive.length cA2)) (u3 := (.slice (some ⟨gC, oC, none⟩) s.caches.length cC2)) (u4 := (.slice A6 (s.free.length + 32) c6)) HW9.out.r)
          refine bodyPost_ret (v := .tuple #[.agg #[.int .i64 s.limit, (.slice AG2 (ints s.gens).length cG2), (.slice (some ⟨ga, oa, none⟩) s.alive.length cA2), (.slice (some ⟨gC, oC, none⟩) s.caches.length cC2), (.slice A6 (s.free.length + 32) c6)], .int .i64 0]) (by simp [results, Try.results40, go_sem, z0, z1, z2, z3, z4]) rfl ?_
          rw [HT.out]
          refine ⟨_, _, _, _, rfl, ⟨_, (HW9.out.q.r.keep hkR (fun i hi => by subst hi; rw [HW9.out.cr]; omega)).rdo⟩, ?_⟩
          exact below_then_keep HW9.out.b HW9.out.b.size hkR (fun i hi => by omega)
        · have hm1 : (((y.length : Int) + 1) == 64) = false := by simp; omega
          have hm2 : (((y.length + 1 : Nat) : Int) == 64) = false := by simp; omega
          have HT : Aside0 (giveS s n i g = ({ s with alive := s.alive.set i false, caches := s.caches.set n (y ++ [(i : Int)]) }, 0)) := ⟨by
            rw [giveS, if_pos HPR.out, if_pos HAL.out, if_neg hgm, Int.toNat_natCast, Int.toNat_natCast, giveBack]
            show ((if (s.caches.getD n [] ++ [(i : Int)]).length = 64 then _ else _), (0 : Int)) = _
            rw [getD_some HY.out, if_neg (by rw [List.length_append, List.length_singleton]; exact h64)]⟩
          obtain ⟨r0, r1, r2, r3, r4⟩ := cells5 HW5.out.r
          obtain ⟨r5, r6, r7, r8, r9⟩ := froz5 HW5.out.r
          have hRl := lt_blk HW5.out.r
          go_wp2
          have hkR : Keep (fun i => i = w.heap.size + 2) W5 ((((((W5.setCell ⟨(w.heap.size + 2), 0, none⟩ (.int .i64 s.limit)).setCell ⟨(w.heap.size + 2), 1, none⟩ ((.slice AG2 (ints s.gens).length cG2))).setCell ⟨(w.heap.size + 2), 2, none⟩ ((.slice (some ⟨ga, oa, none⟩) s.alive.length cA2))).setCell ⟨(w.heap.size + 2), 3, none⟩ ((.slice (some ⟨gC, oC, none⟩) s.caches.length cC2))).setCell ⟨(w.heap.size + 2), 4, none⟩ ((.slice AF2 (ints s.free).length cF2)))) := set5_keep _ _ _ _ _ _ _
          obtain ⟨z0, z1, z2, z3, z4⟩ := cells5 (blk_set5 (u0 := .int .i64 s.limit) (u1 := (.slice AG2 (ints s.gens).length cG2)) (u2 := (.slice (some ⟨ga, oa, none⟩) s.alive.length cA2)) (u3 := (.slice (some ⟨gC, oC, none⟩) s.caches.length cC2)) (u4 := (.slice AF2 (ints s.free).length cF2)) HW5.out.r)
          refine bodyPost_ret (v := .tuple #[.agg #[.int .i64 s.limit, (.slice AG2 (ints s.gens).length cG2), (.slice (some ⟨ga, oa, none⟩) s.alive.length cA2), (.slice (some ⟨gC, oC, none⟩) s.caches.length cC2), (.slice AF2 (ints s.free).length cF2)], .int .i64 0]) (by simp [results, Try.results40, go_sem, z0, z1, z2, z3, z4]) rfl ?_
          rw [HT.out]
          refine ⟨_, _, _, _, rfl, ⟨_, (HW5.out.q.r.keep hkR (fun i hi => by subst hi; rw [HW5.out.cr]; omega)).rdo⟩, ?_⟩
          exact below_then_keep HW5.out.b HW5.out.b.size hkR (fun i hi => by omega)
end Go.Proofs.Ytnglgjegkjfnaaa
