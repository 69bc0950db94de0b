import Derived.Test.YtnglgjegkjfnaaaSlXX
import Derived.Test.YtnglgjegkjfnaaaSlQ
import Derived.Deep.DrawnRows
set_option linter.unusedSimpArgs false
set_option linter.unusedVariables false
namespace Go.Proofs.Ytnglgjegkjfnaaa
open Go.RowKit Go.ChangeShapes Go.WideShapes Go.ChangeAt Go.Proofs.YtnglgjegkjfnaaaW.PrintWords Go.Proofs.YtnglgjegkjfnaaaW.PrintMore Go.Proofs.YtnglgjegkjfnaaaW.PrintLast
/-! rotaref04.Take: printed by gen04w.py. -/
def TakeRP (I : Nat → Prop) (w : World) (r : Sl × Int × Int × Int) (e : Ending) (w' : World) : Prop := ∃ vG vA vC vF vs, e = .returned (.tuple #[.agg #[.int .i64 r.1.limit, vG, vA, vC, vF], .agg #[.int .i64 r.2.1, .int .i64 r.2.2.1], .int .i64 r.2.2.2]) ∧ SlO (fun k => I k ∨ w.heap.size ≤ k ∧ k < w'.heap.size) w' r.1 vG vA vC vF vs ∧ Below w.heap.size w w'
/-- The copy in block w.size, the answer's state and name in the next two. -/
structure TkW (w wr : World) (s : Sl) (vG vA vC vF : Value) (vs : List Value) (col : Nat → Nat) : Prop where
  q : SlB TT wr w.heap.size w.heap.size col s vG vA vC vF vs
  r : wr.heap[w.heap.size + 1]? = some (.cells #[.int .i64 0, .slice none 0 0, .slice none 0 0, .slice none 0 0, .slice none 0 0] 30 (0, 0))
  cr : col (w.heap.size + 1) = 0
  g : wr.heap[w.heap.size + 2]? = some (.cells #[.int .i64 0, .int .i64 0] 48 (0, 0))
  cg : col (w.heap.size + 2) = 0
  b : Below w.heap.size w wr
theorem TkW.step {w wr w' : World} {s s' : Sl} {vG vA vC vF vG' vA' vC' vF' : Value} {vs vs' : List Value} {col col' : Nat → Nat} (h : TkW w wr s vG vA vC vF vs col) (hQ : SlB TT w' w.heap.size w.heap.size col' s' vG' vA' vC' vF' vs') (hN : Nx wr col w' col') : TkW w w' s' vG' vA' vC' vF' vs' col' :=
  ⟨hQ, blk_keep h.r hN.keep (fun f => f h.cr), (hN.cols _ (lt_blk h.r)).trans h.cr, blk_keep h.g hN.keep (fun f => f h.cg), (hN.cols _ (lt_blk h.g)).trans h.cg, below_then_keep h.b h.b.size hN.keep (fun i hi => h.q.r.b i hi)⟩
theorem TkW.then {w wr w' : World} {s : Sl} {vG vA vC vF : Value} {vs : List Value} {col : Nat → Nat} (h : TkW w wr s vG vA vC vF vs col) (hB : Below wr.heap.size wr w') : TkW w w' s vG vA vC vF vs col :=
  ⟨h.q.below hB, blk_below h.r hB, h.cr, blk_below h.g hB, h.cg, below_then h.b hB⟩
set_option maxRecDepth 100000 in
set_option maxHeartbeats 8000000 in
theorem take_out {I : Nat → Prop} {s : Sl} {vG vA vC vF : Value} {vs : List Value} (p : Int) (w : World) (h : SlR w s vG vA vC vF vs) (hI : OwnS I vG vA vC vF vs) (hpr : procS s p = false) : Calls Try.prog 39 #[.agg #[.int .i64 s.limit, vG, vA, vC, vF], .int .i64 p] w (TakeRP I w (takeS s p)) := by
  have HI := Aside0.mk hI
  clear hI
  obtain ⟨AG0, cG0, rfl, -⟩ := h.g.slice
  obtain ⟨AA0, cA0, rfl, -⟩ := h.a.slice
  obtain ⟨AC0, cC0, rfl, -⟩ := h.c.slice
  obtain ⟨AF0, cF0, rfl, -⟩ := h.f.slice
  have hW : Below w.heap.size w (((w.alloc (.cells #[.int .i64 s.limit, (.slice AG0 (ints s.gens).length cG0), (.slice AA0 (bools s.alive).length cA0), (.slice AC0 vs.length cC0), (.slice AF0 (ints s.free).length cF0)] TT)).alloc (.cells #[.int .i64 0, .slice none 0 0, .slice none 0 0, .slice none 0 0, .slice none 0 0] 30)).alloc (.cells #[.int .i64 0, .int .i64 0] 48)) := (by repeat (first | (with_reducible exact Below.refl _ _) | (with_reducible refine Below.drew ?_) | (with_reducible refine below_drewN ?_ _) | (with_reducible refine below_al ?_ _) | (with_reducible refine Below.alloc ?_ (by first | exact Nat.le_refl _ | omega | (simp; done) | (simp; omega)) _) | (with_reducible refine Below.setCell ?_ (by first | (simp only []; omega) | (simp; done) | (simp; omega)) _)))
  have HX : Aside0 (SlX w (((w.alloc (.cells #[.int .i64 s.limit, (.slice AG0 (ints s.gens).length cG0), (.slice AA0 (bools s.alive).length cA0), (.slice AC0 vs.length cC0), (.slice AF0 (ints s.free).length cF0)] TT)).alloc (.cells #[.int .i64 0, .slice none 0 0, .slice none 0 0, .slice none 0 0, .slice none 0 0] 30)).alloc (.cells #[.int .i64 0, .int .i64 0] 48)) w.heap.size s (.slice AG0 (ints s.gens).length cG0) (.slice AA0 (bools s.alive).length cA0) (.slice AC0 vs.length cC0) (.slice AF0 (ints s.free).length cF0) vs) := ⟨⟨h, hW, blk_alloc (blk_alloc (blk_new _ _))⟩⟩
  have HRb : Aside0 ((((w.alloc (.cells #[.int .i64 s.limit, (.slice AG0 (ints s.gens).length cG0), (.slice AA0 (bools s.alive).length cA0), (.slice AC0 vs.length cC0), (.slice AF0 (ints s.free).length cF0)] TT)).alloc (.cells #[.int .i64 0, .slice none 0 0, .slice none 0 0, .slice none 0 0, .slice none 0 0] 30)).alloc (.cells #[.int .i64 0, .int .i64 0] 48)).heap[w.heap.size + 1]? = some (.cells #[.int .i64 0, .slice none 0 0, .slice none 0 0, .slice none 0 0, .slice none 0 0] 30 (0, 0))) := ⟨blk_alloc (blk_new1 _ _ _)⟩
  have HGb : Aside0 ((((w.alloc (.cells #[.int .i64 s.limit, (.slice AG0 (ints s.gens).length cG0), (.slice AA0 (bools s.alive).length cA0), (.slice AC0 vs.length cC0), (.slice AF0 (ints s.free).length cF0)] TT)).alloc (.cells #[.int .i64 0, .slice none 0 0, .slice none 0 0, .slice none 0 0, .slice none 0 0] 30)).alloc (.cells #[.int .i64 0, .int .i64 0] 48)).heap[w.heap.size + 2]? = some (.cells #[.int .i64 0, .int .i64 0] 48 (0, 0))) := ⟨blk_new2 _ _ _ _⟩
  have HT : Aside0 (takeS s p = (s, 0, 0, 1)) := ⟨by rw [takeS, hpr]; rfl⟩
  clear h hW
  unfold TakeRP
  go_enter Try.func39, Try.ntmps39
  go_wp2_with fail
  generalize (((w.alloc (.cells #[.int .i64 s.limit, (.slice AG0 (ints s.gens).length cG0), (.slice AA0 (bools s.alive).length cA0), (.slice AC0 vs.length cC0), (.slice AF0 (ints s.free).length cF0)] TT)).alloc (.cells #[.int .i64 0, .slice none 0 0, .slice none 0 0, .slice none 0 0, .slice none 0 0] 30)).alloc (.cells #[.int .i64 0, .int .i64 0] 48)) = W at *
  refine (proc_rd p W HX.out.r).mono ?_
  rw [hpr]
  rintro e w1 ⟨rfl, hB1⟩
  have HX1 := Aside0.mk (HX.out.below hB1)
  have HR1 := Aside0.mk (blk_below HRb.out hB1)
  have HG1 := Aside0.mk (blk_below HGb.out hB1)
  obtain ⟨x0, x1, x2, x3, x4⟩ := cells5 HX1.out.blk
  obtain ⟨r0, r1, r2, r3, r4⟩ := cells5 HR1.out
  obtain ⟨r5, r6, r7, r8, r9⟩ := froz5 HR1.out
  have y0 := cell_blk HG1.out 0
  have y1 := cell_blk HG1.out 1
  have y2 := frozen_blk HG1.out 0
  have y3 := frozen_blk HG1.out 1
  simp only [List.getElem?_toArray, List.getElem?_cons_zero, List.getElem?_cons_succ] at y0 y1
  have hRl := lt_blk HR1.out
  have hPl := lt_blk HX1.out.blk
  have hGl := lt_blk HG1.out
  clear hB1 hpr
  go_wp2
  have hkA : Keep (fun i => i = w.heap.size + 1) w1 ((((((w1.setCell ⟨(w.heap.size + 1), 0, none⟩ (.int .i64 s.limit)).setCell ⟨(w.heap.size + 1), 1, none⟩ ((.slice AG0 (ints s.gens).length cG0))).setCell ⟨(w.heap.size + 1), 2, none⟩ ((.slice AA0 (bools s.alive).length cA0))).setCell ⟨(w.heap.size + 1), 3, none⟩ ((.slice AC0 vs.length cC0))).setCell ⟨(w.heap.size + 1), 4, none⟩ ((.slice AF0 (ints s.free).length cF0)))) := set5_keep _ _ _ _ _ _ _
  have hkB : Keep (fun i => i = w.heap.size + 2) ((((((w1.setCell ⟨(w.heap.size + 1), 0, none⟩ (.int .i64 s.limit)).setCell ⟨(w.heap.size + 1), 1, none⟩ ((.slice AG0 (ints s.gens).length cG0))).setCell ⟨(w.heap.size + 1), 2, none⟩ ((.slice AA0 (bools s.alive).length cA0))).setCell ⟨(w.heap.size + 1), 3, none⟩ ((.slice AC0 vs.length cC0))).setCell ⟨(w.heap.size + 1), 4, none⟩ ((.slice AF0 (ints s.free).length cF0)))) (((((((w1.setCell ⟨(w.heap.size + 1), 0, none⟩ (.int .i64 s.limit)).setCell ⟨(w.heap.size + 1), 1, none⟩ ((.slice AG0 (ints s.gens).length cG0))).setCell ⟨(w.heap.size + 1), 2, none⟩ ((.slice AA0 (bools s.alive).length cA0))).setCell ⟨(w.heap.size + 1), 3, none⟩ ((.slice AC0 vs.length cC0))).setCell ⟨(w.heap.size + 1), 4, none⟩ ((.slice AF0 (ints s.free).length cF0))).setCell ⟨w.heap.size + 2, 0, none⟩ (.int .i64 0)).setCell ⟨w.heap.size + 2, 1, none⟩ (.int .i64 0)) := (by repeat (first | (with_reducible exact Keep.refl _ _) | (with_reducible refine Keep.drewN ?_ _) | (with_reducible refine Keep.drew ?_) | (with_reducible refine Keep.setCell ?_ _ _ (by first | (right; with_reducible rfl) | (left; simp; done) | (left; simp; omega) | (right; simp; done) | (right; assumption))) | (with_reducible refine Keep.alloc ?_ _)))
  have hkR : Keep (fun i => i = w.heap.size + 1 ∨ i = w.heap.size + 2) w1 (((((((w1.setCell ⟨(w.heap.size + 1), 0, none⟩ (.int .i64 s.limit)).setCell ⟨(w.heap.size + 1), 1, none⟩ ((.slice AG0 (ints s.gens).length cG0))).setCell ⟨(w.heap.size + 1), 2, none⟩ ((.slice AA0 (bools s.alive).length cA0))).setCell ⟨(w.heap.size + 1), 3, none⟩ ((.slice AC0 vs.length cC0))).setCell ⟨(w.heap.size + 1), 4, none⟩ ((.slice AF0 (ints s.free).length cF0))).setCell ⟨w.heap.size + 2, 0, none⟩ (.int .i64 0)).setCell ⟨w.heap.size + 2, 1, none⟩ (.int .i64 0)) := (hkA.mono (fun _ _ h => .inl h)).trans (hkB.mono (fun _ _ h => .inr h))
  have hG7 : (((((((w1.setCell ⟨(w.heap.size + 1), 0, none⟩ (.int .i64 s.limit)).setCell ⟨(w.heap.size + 1), 1, none⟩ ((.slice AG0 (ints s.gens).length cG0))).setCell ⟨(w.heap.size + 1), 2, none⟩ ((.slice AA0 (bools s.alive).length cA0))).setCell ⟨(w.heap.size + 1), 3, none⟩ ((.slice AC0 vs.length cC0))).setCell ⟨(w.heap.size + 1), 4, none⟩ ((.slice AF0 (ints s.free).length cF0))).setCell ⟨w.heap.size + 2, 0, none⟩ (.int .i64 0)).setCell ⟨w.heap.size + 2, 1, none⟩ (.int .i64 0)).heap[w.heap.size + 2]? = some (.cells #[.int .i64 0, .int .i64 0] 48 (0, 0)) := by
    have := blk_set (i := 1) (u := .int .i64 0) (blk_set (i := 0) (u := .int .i64 0) (blk_keep HG1.out hkA (by omega)))
    simpa using this
  obtain ⟨z0, z1, z2, z3, z4⟩ := cells5 (blk_keep (blk_set5 (u0 := .int .i64 s.limit) (u1 := (.slice AG0 (ints s.gens).length cG0)) (u2 := (.slice AA0 (bools s.alive).length cA0)) (u3 := (.slice AC0 vs.length cC0)) (u4 := (.slice AF0 (ints s.free).length cF0)) HR1.out) hkB (by omega))
  have z5 := cell_blk hG7 0
  have z6 := cell_blk hG7 1
  simp only [List.getElem?_toArray, List.getElem?_cons_zero, List.getElem?_cons_succ] at z5 z6
  refine bodyPost_ret (v := .tuple #[.agg #[.int .i64 s.limit, (.slice AG0 (ints s.gens).length cG0), (.slice AA0 (bools s.alive).length cA0), (.slice AC0 vs.length cC0), (.slice AF0 (ints s.free).length cF0)], .agg #[.int .i64 0, .int .i64 0], .int .i64 1]) (by simp [results, Try.results39, go_sem, z0, z1, z2, z3, z4, z5, z6]) rfl ?_
  rw [HT.out]
  exact ⟨_, _, _, _, vs, rfl, (HX1.out.r0.far HX1.out.b hkR (fun k hk => by omega)).owned HI.out, below_then_keep HX1.out.b HX1.out.b.size hkR (fun k hk => by omega)⟩
end Go.Proofs.Ytnglgjegkjfnaaa
