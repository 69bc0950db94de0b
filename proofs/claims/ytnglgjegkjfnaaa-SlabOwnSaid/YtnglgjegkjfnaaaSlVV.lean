import Derived.Test.YtnglgjegkjfnaaaSlUU
import Derived.Test.YtnglgjegkjfnaaaSlQ
import Derived.Deep.DrawnRows
set_option linter.unusedSimpArgs false
set_option linter.unusedVariables false
namespace Go.Proofs.Ytnglgjegkjfnaaa
open Go.RowKit Go.ChangeShapes Go.WideShapes Go.ChangeAt Go.Proofs.YtnglgjegkjfnaaaW.PrintWords Go.Proofs.YtnglgjegkjfnaaaW.PrintMore Go.Proofs.YtnglgjegkjfnaaaW.PrintLast
/-! rotaref04.Flush: printed by gen04s.py. -/
/-- The blocks that a state lies in. -/
def OwnS (I : Nat → Prop) (vG vA vC vF : Value) (vs : List Value) : Prop := (∀ k, vG.ownBlock = some k → I k) ∧ (∀ k, vA.ownBlock = some k → I k) ∧ (∀ k, vC.ownBlock = some k → I k) ∧ (∀ k, vF.ownBlock = some k → I k) ∧ ∀ v ∈ vs, ∀ k, v.ownBlock = some k → I k
theorem OwnS.mono {I J : Nat → Prop} {vG vA vC vF : Value} {vs : List Value} (h : OwnS I vG vA vC vF vs) (hJ : ∀ k, I k → J k) : OwnS J vG vA vC vF vs :=
  ⟨fun k e => hJ k (h.1 k e), fun k e => hJ k (h.2.1 k e), fun k e => hJ k (h.2.2.1 k e), fun k e => hJ k (h.2.2.2.1 k e), fun v hv k e => hJ k (h.2.2.2.2 v hv k e)⟩
structure SlO (I : Nat → Prop) (w : World) (s : Sl) (vG vA vC vF : Value) (vs : List Value) : Prop where
  rd : SlR w s vG vA vC vF vs
  own : OwnS I vG vA vC vF vs
theorem SlR.owned {I : Nat → Prop} {b : Nat} {w' : World} {s : Sl} {vG vA vC vF : Value} {vs : List Value} (h : SlR w' s vG vA vC vF vs) (hI : OwnS I vG vA vC vF vs) : SlO (fun k => I k ∨ b ≤ k ∧ k < w'.heap.size) w' s vG vA vC vF vs := ⟨h, hI.mono (fun _ => .inl)⟩
theorem SlV.rdo {I : Nat → Prop} {b : Nat} {w' : World} {col : Nat → Nat} {s : Sl} {vG vA vC vF : Value} {vs : List Value} (h : SlV w' b col s vG vA vC vF vs) : SlO (fun k => I k ∨ b ≤ k ∧ k < w'.heap.size) w' s vG vA vC vF vs :=
  ⟨h.rd, fun k e => .inr ⟨h.g.base_le k e, h.g.lt k e⟩, fun k e => .inr ⟨h.a.base_le k e, h.a.lt k e⟩, fun k e => .inr ⟨h.c.base_le k e, h.c.lt k e⟩, fun k e => .inr ⟨h.f.base_le k e, h.f.lt k e⟩, fun v hv k e => by
    obtain ⟨i, hi⟩ := List.getElem?_of_mem hv
    have hl := (List.getElem?_eq_some_iff.1 hi).1
    rw [h.l] at hl
    obtain ⟨v', hv', hr⟩ := h.v i _ (List.getElem?_eq_getElem hl)
    rw [hi] at hv'
    injection hv' with hv'
    subst hv'
    exact .inr ⟨hr.base_le k e, hr.lt k e⟩⟩
def RefP (I : Nat → Prop) (w : World) (r : Sl × Int) (e : Ending) (w' : World) : Prop := ∃ vG vA vC vF vs, e = .returned (.tuple #[.agg #[.int .i64 r.1.limit, vG, vA, vC, vF], .int .i64 r.2]) ∧ SlO (fun k => I k ∨ w.heap.size ≤ k ∧ k < w'.heap.size) w' r.1 vG vA vC vF vs ∧ Below w.heap.size w w'
theorem SlR.far {w w' : World} {s : Sl} {vG vA vC vF : Value} {vs : List Value} {w0 : World} {F : Nat → Prop} (h : SlR w0 s vG vA vC vF vs) (hB : Below w0.heap.size w0 w) (hk : Keep F w w') (hF : ∀ k, F k → w0.heap.size ≤ k) : SlR w' s vG vA vC vF vs := h.below (below_then_keep hB hB.size hk hF)
set_option maxRecDepth 100000 in
set_option maxHeartbeats 8000000 in
theorem flush_rd {I : Nat → Prop} {s : Sl} {vG vA vC vF : Value} {vs : List Value} (p : Int) (w : World) (h : SlR w s vG vA vC vF vs) (hI : OwnS I vG vA vC vF vs) (hO : Ok s) : Calls Try.prog 41 #[.agg #[.int .i64 s.limit, vG, vA, vC, vF], .int .i64 p] w (RefP I w (flushS s p)) := by
  have HI := Aside0.mk hI
  clear hI
  have hBd := hO.bd
  obtain ⟨AG0, cG0, rfl, -⟩ := h.g.slice
  obtain ⟨AA0, cA0, rfl, -⟩ := h.a.slice
  obtain ⟨AC0, cC0, rfl, -⟩ := h.c.slice
  obtain ⟨AF0, cF0, rfl, -⟩ := h.f.slice
  have hW : Below w.heap.size w ((w.alloc (.cells #[.int .i64 s.limit, (.slice AG0 (ints s.gens).length cG0), (.slice AA0 (bools s.alive).length cA0), (.slice AC0 vs.length cC0), (.slice AF0 (ints s.free).length cF0)] TT)).alloc (.cells #[.int .i64 0, .slice none 0 0, .slice none 0 0, .slice none 0 0, .slice none 0 0] 30)) := (by repeat (first | (with_reducible exact Below.refl _ _) | (with_reducible refine Below.drew ?_) | (with_reducible refine below_drewN ?_ _) | (with_reducible refine below_al ?_ _) | (with_reducible refine Below.alloc ?_ (by first | exact Nat.le_refl _ | omega | (simp; done) | (simp; omega)) _) | (with_reducible refine Below.setCell ?_ (by first | (simp only []; omega) | (simp; done) | (simp; omega)) _)))
  have HX : Aside0 (SlX w ((w.alloc (.cells #[.int .i64 s.limit, (.slice AG0 (ints s.gens).length cG0), (.slice AA0 (bools s.alive).length cA0), (.slice AC0 vs.length cC0), (.slice AF0 (ints s.free).length cF0)] TT)).alloc (.cells #[.int .i64 0, .slice none 0 0, .slice none 0 0, .slice none 0 0, .slice none 0 0] 30)) w.heap.size s (.slice AG0 (ints s.gens).length cG0) (.slice AA0 (bools s.alive).length cA0) (.slice AC0 vs.length cC0) (.slice AF0 (ints s.free).length cF0) vs) := ⟨⟨h, hW, blk_alloc (blk_new _ _)⟩⟩
  have HRb : Aside0 (((w.alloc (.cells #[.int .i64 s.limit, (.slice AG0 (ints s.gens).length cG0), (.slice AA0 (bools s.alive).length cA0), (.slice AC0 vs.length cC0), (.slice AF0 (ints s.free).length cF0)] TT)).alloc (.cells #[.int .i64 0, .slice none 0 0, .slice none 0 0, .slice none 0 0, .slice none 0 0] 30)).heap[w.heap.size + 1]? = some (.cells #[.int .i64 0, .slice none 0 0, .slice none 0 0, .slice none 0 0, .slice none 0 0] 30 (0, 0))) := ⟨blk_new1 _ _ _⟩
  have hWz : ((w.alloc (.cells #[.int .i64 s.limit, (.slice AG0 (ints s.gens).length cG0), (.slice AA0 (bools s.alive).length cA0), (.slice AC0 vs.length cC0), (.slice AF0 (ints s.free).length cF0)] TT)).alloc (.cells #[.int .i64 0, .slice none 0 0, .slice none 0 0, .slice none 0 0, .slice none 0 0] 30)).heap.size = w.heap.size + 2 := by simp
  clear h hW
  unfold RefP
  go_enter Try.func41, Try.ntmps41
  go_wp2_with fail
  generalize ((w.alloc (.cells #[.int .i64 s.limit, (.slice AG0 (ints s.gens).length cG0), (.slice AA0 (bools s.alive).length cA0), (.slice AC0 vs.length cC0), (.slice AF0 (ints s.free).length cF0)] TT)).alloc (.cells #[.int .i64 0, .slice none 0 0, .slice none 0 0, .slice none 0 0, .slice none 0 0] 30)) = W at *
  refine (proc_rd p W HX.out.r).mono ?_
  cases hpr : procS s p with
  | false =>
    have HT : Aside0 (flushS s p = (s, 1)) := ⟨by rw [flushS, hpr]; rfl⟩
    rintro e w1 ⟨rfl, hB1⟩
    have HX1 := Aside0.mk (HX.out.below hB1)
    have HR1 := Aside0.mk (blk_below HRb.out hB1)
    obtain ⟨x0, x1, x2, x3, x4⟩ := cells5 HX1.out.blk
    obtain ⟨r0, r1, r2, r3, r4⟩ := cells5 HR1.out
    obtain ⟨r5, r6, r7, r8, r9⟩ := froz5 HR1.out
    have hRl := lt_blk HR1.out
    have hPl := lt_blk HX1.out.blk
    clear hB1 hpr
    go_wp2
    have hk1 : Keep (fun i => i = w.heap.size + 1) w1 ((((((w1.setCell ⟨(w.heap.size + 1), 0, none⟩ (.int .i64 s.limit)).setCell ⟨(w.heap.size + 1), 1, none⟩ ((.slice AG0 (ints s.gens).length cG0))).setCell ⟨(w.heap.size + 1), 2, none⟩ ((.slice AA0 (bools s.alive).length cA0))).setCell ⟨(w.heap.size + 1), 3, none⟩ ((.slice AC0 vs.length cC0))).setCell ⟨(w.heap.size + 1), 4, none⟩ ((.slice AF0 (ints s.free).length cF0)))) := set5_keep _ _ _ _ _ _ _
    obtain ⟨z0, z1, z2, z3, z4⟩ := cells5 (blk_set5 (u0 := .int .i64 s.limit) (u1 := (.slice AG0 (ints s.gens).length cG0)) (u2 := (.slice AA0 (bools s.alive).length cA0)) (u3 := (.slice AC0 vs.length cC0)) (u4 := (.slice AF0 (ints s.free).length cF0)) HR1.out)
    refine bodyPost_ret (v := .tuple #[.agg #[.int .i64 s.limit, (.slice AG0 (ints s.gens).length cG0), (.slice AA0 (bools s.alive).length cA0), (.slice AC0 vs.length cC0), (.slice AF0 (ints s.free).length cF0)], .int .i64 1]) (by simp [results, Try.results41, go_sem, z0, z1, z2, z3, z4]) rfl ?_
    rw [HT.out]
    exact ⟨_, _, _, _, vs, rfl, (HX1.out.r0.far HX1.out.b hk1 (fun k hk => by omega)).owned HI.out, below_then_keep HX1.out.b HX1.out.b.size hk1 (fun k hk => by omega)⟩
  | true =>
    obtain ⟨hp0, hp1⟩ := procS_iff.1 hpr
    obtain ⟨n, rfl⟩ := Int.eq_ofNat_of_zero_le hp0
    have hpn : n < s.caches.length := by omega
    obtain ⟨y, hy⟩ : ∃ y, s.caches[n]? = some y := ⟨_, List.getElem?_eq_getElem hpn⟩
    have HT : Aside0 (flushS s n = ({ s with caches := s.caches.set n [], free := s.free ++ y }, 0)) := ⟨by rw [flushS, if_pos hpr, Int.toNat_natCast, getD_some hy]⟩
    have hyl := hO.cl y (List.mem_of_getElem? hy)
    have hfl := hO.fl
    have hc64 := hO.c1
    rintro e w1 ⟨rfl, hB1⟩
    have HX1 := Aside0.mk (HX.out.below hB1)
    have HR1 := Aside0.mk (blk_below HRb.out hB1)
    obtain ⟨x0, x1, x2, x3, x4⟩ := cells5 HX1.out.blk
    have hPl := lt_blk HX1.out.blk
    have hcp := copy_rd w1 HX1.out.r hBd
    clear hB1 hpr
    go_wp2_with fail
    refine hcp.mono ?_
    clear hcp x0 x1 x2 x3 x4 hPl
    rintro e w2 ⟨vG2, vA2, vC2, vF2, vs2, col2, rfl, hS2, hz2, hB2⟩
    obtain ⟨AG2, cG2, rfl, -⟩ := hS2.g.slice
    obtain ⟨AA2, cA2, rfl, -⟩ := hS2.a.slice
    obtain ⟨AC2, cC2, rfl, -⟩ := hS2.c.slice
    obtain ⟨AF2, cF2, rfl, -⟩ := hS2.f.slice
    have HX2 := Aside0.mk (HX1.out.below hB2)
    have hR2 := blk_below HR1.out hB2
    obtain ⟨x0, x1, x2, x3, x4⟩ := cells5 HX2.out.blk
    obtain ⟨f0, f1, f2, f3, f4⟩ := froz5 HX2.out.blk
    have hPl := lt_blk HX2.out.blk
    have hw1 : w.heap.size ≤ w1.heap.size := HX1.out.b.size
    have hP1 := lt_blk HX1.out.blk
    have hR1l := lt_blk HR1.out
    obtain ⟨col, hQ3, hcol⟩ := (hS2.lower hw1).into HX2.out.blk (Nat.le_refl _) (hz2 _ hP1)
    have hk3 : Keep (fun k => k = w.heap.size) w2 ((((((w2.setCell ⟨w.heap.size, 0, none⟩ (.int .i64 s.limit)).setCell ⟨w.heap.size, 1, none⟩ ((.slice AG2 (ints s.gens).length cG2))).setCell ⟨w.heap.size, 2, none⟩ ((.slice AA2 (bools s.alive).length cA2))).setCell ⟨w.heap.size, 3, none⟩ ((.slice AC2 vs2.length cC2))).setCell ⟨w.heap.size, 4, none⟩ ((.slice AF2 (ints s.free).length cF2)))) := set5_keep _ _ _ _ _ _ _
    have hR3 := blk_keep hR2 hk3 (by omega)
    have hB3 := below_then_keep HX2.out.b HX2.out.b.size hk3 (fun k hk => by omega)
    have hcR : col (w.heap.size + 1) = 0 := (hcol _ (by omega)).trans (hz2 _ hR1l)
    go_wp2_with fail
    generalize ((((((w2.setCell ⟨w.heap.size, 0, none⟩ (.int .i64 s.limit)).setCell ⟨w.heap.size, 1, none⟩ ((.slice AG2 (ints s.gens).length cG2))).setCell ⟨w.heap.size, 2, none⟩ ((.slice AA2 (bools s.alive).length cA2))).setCell ⟨w.heap.size, 3, none⟩ ((.slice AC2 vs2.length cC2))).setCell ⟨w.heap.size, 4, none⟩ ((.slice AF2 (ints s.free).length cF2)))) = W3 at *
    obtain ⟨gC, oC, cC, he, hgC, hg4, hat⟩ := hQ3.r.c.form (by rw [hQ3.r.l]; omega)
    obtain ⟨v, hv, hvrow⟩ := hQ3.r.v _ _ hy
    have hcell := (hat _).1 _ hv
    have hfz := (hat n).2
    obtain ⟨Av, cv, rfl, -⟩ := hvrow.slice
    injection he with he1 he2 he3
    subst he1 he3
    obtain ⟨-, -, -, c3, c4⟩ := cells5 hQ3.blk
    have hfb4 := (froz5 hQ3.blk).2.2.2.2
    have hlt := lt_blk hQ3.blk
    have hvl : vs2.length = s.caches.length := hQ3.r.l
    rw [hvl] at c3
    rw [ints_len] at hcell c4
    have HVR := Aside0.mk hvrow
    have hb1 := hQ3.one
    have hx0 : Below W3.heap.size W3 W3.drew := (Below.refl _ _).drew
    have HP0 := Aside0.mk (hQ3.below hx0)
    have HR0 := Aside0.mk (blk_below hR3 hx0)
    have HBx := Aside0.mk (below_then hB3 hx0)
    have HCR := Aside0.mk hcR
    have hc0 : W3.drew.cell? ⟨w.heap.size, 3, none⟩ = some (.slice (some ⟨gC, oC, none⟩) s.caches.length cC2) := c3
    have hc1 : W3.drew.cell? ⟨gC, oC + n, none⟩ = some (.slice Av y.length cv) := hcell
    have hc2 : W3.drew.cell? ⟨w.heap.size, 4, none⟩ = some (.slice AF2 s.free.length cF2) := c4
    have hgCx : gC < W3.drew.heap.size := hgC
    have hbx : w.heap.size < W3.drew.heap.size := hlt
    have hfC : W3.drew.frozen? ⟨gC, oC + n, none⟩ = false := hfz
    have hfb4 : W3.drew.frozen? ⟨w.heap.size, 4, none⟩ = false := hfb4
    have hsx : W3.heap.size ≤ W3.drew.heap.size := hx0.size
    have hb : w.heap.size ≤ W3.drew.heap.size := HBx.out.size
    clear c3 hcell c4 hlt hfz hgC hQ3 hR3 hB3 hk3 hcR hcol hS2 hz2 hB2 hR2 x0 x1 x2 x3 x4 f0 f1 f2 f3 f4 hPl hat hv hvrow hy he2
    refine start_ (n := 10) (S := fun w' => w'.cell? ⟨w.heap.size, 3, none⟩ = some (.slice (some ⟨gC, oC, none⟩) s.caches.length cC2) ∧ w'.cell? ⟨gC, oC + n, none⟩ = some (.slice Av y.length cv) ∧ w'.cell? ⟨w.heap.size, 4, none⟩ = some (.slice AF2 s.free.length cF2)) (ds := [7, 9]) #[false, false, false, false, false, false, false, false, false, false] (by kernel_rfl) rfl rfl ⟨hc0, hc1, hc2⟩ (fun hHeld => ?_)
    generalize W3.drew = x0 at *
    refine pure_ (i := 0) (N := some 13) (v := ?_) (a' := ?_) #[true, false, false, false, false, false, false, false, false, false] rfl rfl (by kernel_rfl) (fun _ _ _ h => h) (Or.inl ⟨by rfl, ?_⟩) ?_ ?_
    rotate_left
    · intro w'
      go_simp
      with_reducible rfl
    rotate_left
    · simp only [Act.put, List.setIfInBounds_toArray, List.set_cons_zero, List.set_cons_succ, i64_w, i32_w]
      rfl
    refine pure_ (i := 2) (N := some 15) (v := ?_) (a' := ?_) #[true, false, true, false, false, false, false, false, false, false] rfl rfl (by kernel_rfl) (fun _ _ _ h => h) (Or.inl ⟨by rfl, ?_⟩) ?_ ?_
    rotate_left
    · intro w'
      go_simp
      with_reducible rfl
    rotate_left
    · simp only [Act.put, List.setIfInBounds_toArray, List.set_cons_zero, List.set_cons_succ, i64_w, i32_w]
      rfl
    refine pure_ (i := 4) (N := some 17) (v := ?_) (a' := ?_) #[true, false, true, false, true, false, false, false, false, false] rfl rfl (by kernel_rfl) (fun _ _ _ h => h) (Or.inl ⟨by rfl, ?_⟩) ?_ ?_
    rotate_left
    · intro w'
      go_simp
      with_reducible rfl
    rotate_left
    · simp only [Act.put, List.setIfInBounds_toArray, List.set_cons_zero, List.set_cons_succ, i64_w, i32_w]
      rfl
    refine take_ (i := 1) (N := some 14) (v := ?_) (a' := ?_) #[true, true, true, false, true, false, false, false, false, false] rfl rfl (by kernel_rfl) (fun _ _ _ h => h) (Or.inl ⟨by rfl, ?_⟩) hHeld ?_ ?_
    rotate_left
    · rintro w' ⟨s0, s1, s2⟩
      go_simp
      with_reducible rfl
    rotate_left
    · simp only [Act.put, List.setIfInBounds_toArray, List.set_cons_zero, List.set_cons_succ, i64_w, i32_w]
      rfl
    refine take_ (i := 3) (N := some 16) (v := ?_) (a' := ?_) #[true, true, true, true, true, false, false, false, false, false] rfl rfl (by kernel_rfl) (fun _ _ _ h => h) (Or.inl ⟨by rfl, ?_⟩) hHeld ?_ ?_
    rotate_left
    · rintro w' ⟨s0, s1, s2⟩
      go_simp
      with_reducible rfl
    rotate_left
    · simp only [Act.put, List.setIfInBounds_toArray, List.set_cons_zero, List.set_cons_succ, i64_w, i32_w]
      rfl
    refine pure_ (i := 5) (N := some 18) (v := ?_) (a' := ?_) #[true, true, true, true, true, true, false, false, false, false] rfl rfl (by kernel_rfl) (fun _ _ _ h => h) (Or.inl ⟨by rfl, ?_⟩) ?_ ?_
    rotate_left
    · intro w'
      go_simp
      with_reducible rfl
    rotate_left
    · simp only [Act.put, List.setIfInBounds_toArray, List.set_cons_zero, List.set_cons_succ, i64_w, i32_w]
      rfl
    refine take_ (i := 6) (N := some 19) (v := ?_) (a' := ?_) #[true, true, true, true, true, true, true, false, false, false] rfl rfl (by kernel_rfl) (fun _ _ _ h => h) (Or.inl ⟨by rfl, ?_⟩) hHeld ?_ ?_
    rotate_left
    · rintro w' ⟨s0, s1, s2⟩
      go_simp
      with_reducible rfl
    rotate_left
    · simp only [Act.put, List.setIfInBounds_toArray, List.set_cons_zero, List.set_cons_succ, i64_w, i32_w]
      rfl
    refine last_ (i := 7) (N := some 20) #[true, true, true, true, true, true, true, true, false, false] rfl rfl (by kernel_rfl) (by decide) (fun K hK => ?_)
    have hrd := (HVR.out.below hx0).reads
    obtain ⟨A1, n1, c1, he1, hn1, -, -, hcell1, -⟩ := hrd
    injection he1 with he1 hen hec
    subst he1; subst hec
    obtain ⟨v5, w5, hr5, hrow5, hg5⟩ := row_append (P := Try.prog) (t := 26) Try.underlying26 infoIn rfl (by omega) HP0.out.r.f Av n1 cv (ints y) hn1 hcell1 ints_one (by rw [ints_len, ← hn1, ints_len]; omega) (by omega)
    rw [ints_len, ← hen, ints_len] at hr5
    refine app_ (.tmp 14) (.tmp 19) 26 (by rfl) rfl rfl rfl rfl hr5 ?_
    have hK5 := grown_keep hg5 HP0.out.r.f.own
    obtain ⟨A5, c5, he5, -⟩ := hrow5.slice
    rw [← ints_append] at hrow5
    rw [← ints_append, ints_len, List.length_append] at he5
    subst he5
    have hf5 := (keep_cell hK5 hbx (by omega) 4).2.trans hfb4
    have hc54 := (keep_cell hK5 hbx (by omega) 4).1.trans hc2
    have hsz5 := hK5.size
    refine hK.out _ _ ?_
    clear hK K
    refine norm_ (a' := ?_) ?_ ?_
    rotate_left
    · show Act.put _ (some 20) _ = _
      simp only [Act.put, List.setIfInBounds_toArray, List.set_cons_zero, List.set_cons_succ, i64_w, i32_w]
      rfl
    refine pure_ (i := 8) (N := some 21) (v := ?_) (a' := ?_) #[true, true, true, true, true, true, true, true, true, false] rfl rfl (by kernel_rfl) (fun _ _ _ h => h) (Or.inl ⟨by rfl, ?_⟩) ?_ ?_
    rotate_left
    · intro w'
      go_simp
      with_reducible rfl
    rotate_left
    · simp only [Act.put, List.setIfInBounds_toArray, List.set_cons_zero, List.set_cons_succ, i64_w, i32_w]
      rfl
    refine last_ (i := 9) (N := none) #[true, true, true, true, true, true, true, true, true, true] rfl rfl (by kernel_rfl) (by decide) (fun K hK => ?_)
    refine skip_ (w1 := ?_) (by rfl) rfl ?_ ?_
    rotate_left
    · go_simp
      first | with_reducible rfl | rfl
    refine hK.out _ _ ?_
    clear hK K
    refine done_ (by kernel_rfl) ?_
    have hst : Keep (fun k => k = w.heap.size) w5 (w5.setCell ⟨w.heap.size, 4, none⟩ (.slice A5 (s.free.length + y.length) c5)) := (by repeat (first | (with_reducible exact Keep.refl _ _) | (with_reducible refine Keep.drewN ?_ _) | (with_reducible refine Keep.drew ?_) | (with_reducible refine Keep.setCell ?_ _ _ (by first | (right; with_reducible rfl) | (left; simp; done) | (left; simp; omega) | (right; simp; done) | (right; assumption))) | (with_reducible refine Keep.alloc ?_ _)))
    have hbk : (w5.setCell ⟨w.heap.size, 4, none⟩ (.slice A5 (s.free.length + y.length) c5)).heap[w.heap.size]? = some (.cells #[.int .i64 s.limit, (.slice AG2 (ints s.gens).length cG2), (.slice AA2 (bools s.alive).length cA2), .slice (some ⟨gC, oC, none⟩) vs2.length cC2, .slice A5 (s.free.length + y.length) c5] TT (0, 0)) := by
      have := blk_set (i := 4) (u := .slice A5 (s.free.length + y.length) c5) (blk_keep HP0.out.blk hK5 (by omega))
      simpa using this
    have hk : Keep (fun k => col k = 1 ∨ col k = 5 ∨ col k = 6 + n) x0 (w5.setCell ⟨w.heap.size, 4, none⟩ (.slice A5 (s.free.length + y.length) c5)) := (hK5.mono (fun _ _ h => .inr (.inl h))).trans (hst.mono (fun _ _ h => by subst h; exact .inl hb1))
    have hrow6 := (hrow5.mono (ok' := fun k => col k = 5 ∨ x0.heap.size ≤ k ∧ (fun _ => 5) k = 5) (fun k _ h => h.imp id (fun h => ⟨h, rfl⟩))).keep hst (fun i hi h => by subst hi; rcases h with h | h <;> omega)
    obtain ⟨col9, hQ9, hN9⟩ := HP0.out.both (new := fun _ => 5) (ys := []) (v1 := .slice none 0 0) (by omega) rfl hpn hk hbk hrow6 (Row.nil _ _ _ _)
    have hcc := (keep_cell hK5 hgCx (by omega) (oC + n)).1.trans hc1
    have hcf := (keep_cell hK5 hgCx (by omega) (oC + n)).2.trans hfC
    have hc3 := (keep_cell hK5 hbx (by omega) 3).1.trans hc0
    have hg5l : gC < w5.heap.size := by omega
    have hb5l : w.heap.size < w5.heap.size := by omega
    have HR7 := Aside0.mk (blk_keep HR0.out hN9.keep (fun e => e HCR.out))
    rw [hvl] at hQ9
    have HQ9 := Aside0.mk hQ9
    have HN9 := Aside0.mk hN9
    have hbg : w.heap.size ≠ gC := fun e => by rw [e] at hb1; omega
    obtain ⟨q0, q1, q2, q3, q4⟩ := cells5 HQ9.out.blk
    obtain ⟨r0, r1, r2, r3, r4⟩ := cells5 HR7.out
    obtain ⟨r5, r6, r7, r8, r9⟩ := froz5 HR7.out
    have hRl := lt_blk HR7.out
    have hPl := lt_blk HQ9.out.blk
    clear hQ9 hN9 hbk hrow6 hk
    go_wp2
    have hk7 : Keep (fun i => i = w.heap.size + 1) ((w5.setCell ⟨w.heap.size, 4, none⟩ (.slice A5 (s.free.length + y.length) c5)).setCell ⟨gC, oC + n, none⟩ (.slice none 0 0)) ((((((((w5.setCell ⟨w.heap.size, 4, none⟩ (.slice A5 (s.free.length + y.length) c5)).setCell ⟨gC, oC + n, none⟩ (.slice none 0 0)).setCell ⟨(w.heap.size + 1), 0, none⟩ (.int .i64 s.limit)).setCell ⟨(w.heap.size + 1), 1, none⟩ ((.slice AG2 (ints s.gens).length cG2))).setCell ⟨(w.heap.size + 1), 2, none⟩ ((.slice AA2 (bools s.alive).length cA2))).setCell ⟨(w.heap.size + 1), 3, none⟩ (.slice (some ⟨gC, oC, none⟩) s.caches.length cC2)).setCell ⟨(w.heap.size + 1), 4, none⟩ (.slice A5 (s.free.length + y.length) c5))) := set5_keep _ _ _ _ _ _ _
    obtain ⟨z0, z1, z2, z3, z4⟩ := cells5 (blk_set5 (u0 := .int .i64 s.limit) (u1 := (.slice AG2 (ints s.gens).length cG2)) (u2 := (.slice AA2 (bools s.alive).length cA2)) (u3 := .slice (some ⟨gC, oC, none⟩) s.caches.length cC2) (u4 := .slice A5 (s.free.length + y.length) c5) HR7.out)
    refine bodyPost_ret (v := .tuple #[.agg #[.int .i64 s.limit, (.slice AG2 (ints s.gens).length cG2), (.slice AA2 (bools s.alive).length cA2), .slice (some ⟨gC, oC, none⟩) s.caches.length cC2, .slice A5 (s.free.length + y.length) c5], .int .i64 0]) (by simp [results, Try.results41, go_sem, z0, z1, z2, z3, z4]) rfl ?_
    rw [HT.out]
    have hcz : col9 (w.heap.size + 1) = 0 := (HN9.out.cols _ (lt_blk HR0.out)).trans HCR.out
    refine ⟨_, _, _, _, rfl, ⟨_, (HQ9.out.r.keep hk7 (fun i hi => by subst hi; rw [hcz]; omega)).rdo⟩, ?_⟩
    exact below_then_keep (below_then_keep HBx.out HBx.out.size HN9.out.keep (fun i hi => HP0.out.r.b i hi)) (by have := HBx.out.size; have := HN9.out.keep.size; omega) hk7 (fun i hi => by omega)
end Go.Proofs.Ytnglgjegkjfnaaa
