/- SlabFlushes: behind Flush of every P all caches are empty, and as many slots are free as lay in caches and in the free list. Condition (Upto): at most 1048576 items in all. -/
import Derived.Test.YtnglgjegkjfnaaaSlDD
import Derived.Deep.DrawnRows
set_option linter.unusedSimpArgs false
set_option linter.unusedVariables false
namespace Go.Proofs.Ytnglgjegkjfnaaa
open Go.RowKit Go.ChangeShapes Go.WideShapes Go.ChangeAt Go.Proofs.YtnglgjegkjfnaaaW.PrintWords Go.Proofs.YtnglgjegkjfnaaaW.PrintMore Go.Proofs.YtnglgjegkjfnaaaW.PrintLast
attribute [local go_sem high] eqG
set_option maxHeartbeats 1000000 in
theorem live_ref {L : Int} {s : Sl} {base : Nat} {col : Nat → Nat} {vG vA vC vF : Value} {vs : List Value} (w : World) (h : SlV w base col s vG vA vC vF vs) (hb : s.alive.length ≤ 1000000) : Calls Try.prog 27 #[.agg #[.int .i64 L, vG, vA, vC, vF]] w fun e w' => e = .returned (.int .i64 (liveS s)) ∧ Below w.heap.size w w' := by
  obtain ⟨AG, cG, rfl, -⟩ := h.g.slice
  obtain ⟨AA, cA, rfl, hcA⟩ := h.a.slice
  obtain ⟨AC, cC, rfl, -⟩ := h.c.slice
  obtain ⟨AF, cF, rfl, -⟩ := h.f.slice
  rw [bools_len] at hcA
  have hW : Below w.heap.size w (w.alloc (.cells #[.int .i64 L, .slice AG (ints s.gens).length cG, .slice AA (bools s.alive).length cA, .slice AC vs.length cC, .slice AF (ints s.free).length cF] 30)) := below_al (Below.refl _ _) _
  have hX : (w.alloc (.cells #[.int .i64 L, .slice AG (ints s.gens).length cG, .slice AA (bools s.alive).length cA, .slice AC vs.length cC, .slice AF (ints s.free).length cF] 30)).heap[w.heap.size]? = some (.cells #[.int .i64 L, .slice AG (ints s.gens).length cG, .slice AA (bools s.alive).length cA, .slice AC vs.length cC, .slice AF (ints s.free).length cF] 30 (0, 0)) := blk_new _ _
  have HW := Aside0.mk hW
  have HX := Aside0.mk hX
  have HR := Aside0.mk (h.a.below hW)
  clear h hW hX
  go_enter Try.func27, Try.ntmps27
  go_wp2_with fail
  generalize (w.alloc (.cells #[.int .i64 L, .slice AG (ints s.gens).length cG, .slice AA (bools s.alive).length cA, .slice AC vs.length cC, .slice AF (ints s.free).length cF] 30)) = W at *
  have c2 := cell_blk HX.out 2
  simp [bools_len] at c2
  go_loopw [3, 4] (fun n i wr => ∃ k : Nat, k ≤ s.alive.length ∧ i = .int .i64 k ∧ n = .int .i64 ((s.alive.take k).countP id : Nat) ∧ Aside0 (wr = W)) (fun _ i _ => s.alive.length - (intOf i).toNat)
  case atStart => exact ⟨0, by omega, rfl, rfl, ⟨rfl⟩⟩
  case round =>
    obtain ⟨k, hk, rfl, rfl, HE⟩ := hrel
    obtain rfl := HE.out
    have hcn : (s.alive.take k).countP id ≤ 1000000 := Nat.le_trans List.countP_le_length (by rw [List.length_take]; omega)
    by_cases hlt2 : k < s.alive.length
    · obtain ⟨g, o, c', he, hg, -, hat⟩ := HR.out.form (by rw [bools_len]; omega)
      injection he with he1 he2 he3
      subst he1
      have hx : s.alive[k]? = some s.alive[k] := List.getElem?_eq_getElem hlt2
      have hcell := (hat k).1 _ (bools_get hx)
      have hT : Aside0 ((s.alive.take (k + 1)).countP id = (s.alive.take k).countP id + (if s.alive[k] then 1 else 0)) := ⟨by
        rw [List.take_succ_eq_append_getElem hlt2, List.countP_append]
        cases s.alive[k] <;> rfl⟩
      clear hat hx HE he2 he3
      generalize (s.alive.take k).countP id = m at *
      cases hy : s.alive[k] with
      | true =>
        rw [hy] at hcell hT
        clear hy
        go_wp2
        go_roundw
        case rel => exact ⟨k + 1, by omega, by go_num, by rw [hT.out]; go_num, ⟨by trivial⟩⟩
        case measure => simp [intOf]; omega
      | false =>
        rw [hy] at hcell hT
        clear hy
        go_wp2
        go_roundw
        case rel => exact ⟨k + 1, by omega, by go_num, by rw [hT.out]; rfl, ⟨by trivial⟩⟩
        case measure => simp [intOf]; omega
    · obtain rfl : k = s.alive.length := by omega
      rw [List.take_length] at *
      clear HE
      go_wp2
      go_ret
      exact ⟨rfl, HW.out⟩
/-- The slab that is being flushed; the state that was told before, in block B. -/
structure FlW (w wr : World) (base b X B : Nat) (col : Nat → Nat) (s1 : Sl) (L P : Int) (v : Value) (base2 : Nat) (colw : Nat → Nat) (s0 : Sl) (vG vA vC vF : Value) (vs : List Value) : Prop where
  l : LsW w wr base b X col s1 L P v
  r : SlV wr base2 colw s0 vG vA vC vF vs
  blk : wr.heap[B]? = some (.cells #[.int .i64 L, vG, vA, vC, vF] 30 (0, 0))
  c0 : col B = 0
  d : ∀ k, colw k ≠ 0 → col k = 0
section
variable {w wr w' : World} {base b X B base2 : Nat} {col col' colw : Nat → Nat} {s0 s1 s' : Sl} {L P : Int} {v vG vA vC vF : Value} {vs : List Value}
theorem FlW.then (h : FlW w wr base b X B col s1 L P v base2 colw s0 vG vA vC vF vs) (hB : Below wr.heap.size wr w') : FlW w w' base b X B col s1 L P v base2 colw s0 vG vA vC vF vs :=
  ⟨h.l.then hB, h.r.below hB, blk_below h.blk hB, h.c0, h.d⟩
theorem FlW.slab (h : FlW w wr base b X B col s1 L P v base2 colw s0 vG vA vC vF vs) (hN : Nx wr col w' col') (hS : IsSlab TS w' base b col' s') : FlW w w' base b X B col' s' L P v base2 colw s0 vG vA vC vF vs :=
  ⟨h.l.slab hN hS, h.r.keep hN.keep (fun k f => by
    rcases Nat.eq_zero_or_pos (colw k) with e | e
    · omega
    · exact absurd (h.d k (Nat.ne_of_gt e)) f), blk_keep h.blk hN.keep (fun f => f h.c0), (hN.cols B (lt_blk h.blk)).trans h.c0, fun k hk => by
    rcases Nat.lt_or_ge k wr.heap.size with e | e
    · exact (hN.cols k e).trans (h.d k hk)
    · exact absurd (h.r.z k e) hk⟩
end
/-- Behind Flush of the first p Ps. -/
structure FlI (p : Nat) (L P : Int) (s0 s1 : Sl) : Prop where
  wf : Wf s1
  lim : s1.limit = L
  cl : (s1.caches.length : Int) = P
  z : ∀ i, i < p → s1.caches.getD i [] = []
  c : ∀ i, p ≤ i → s1.caches.getD i [] = s0.caches.getD i []
theorem FlI.step {p : Nat} {L P : Int} {s0 s1 : Sl} (h : FlI p L P s0 s1) (hp : p < s1.caches.length) : FlI (p + 1) L P s0 (flushS s1 p).1 ∧ (flushS s1 p).2 = 0 ∧ (flushS s1 p).1.free.length = s1.free.length + (s0.caches.getD p []).length := by
  obtain ⟨h1, h2, h3, h4, h5, h6, h7⟩ := flush_wf h.wf hp
  refine ⟨⟨h1, h5.trans h.lim, by rw [h6, List.length_set]; exact h.cl, fun i hi => ?_, fun i hi => ?_⟩, h2, ?_⟩
  · rw [h6]
    by_cases e : p = i
    · subst e; exact getD_set_self hp
    · rw [getD_set_ne e]; exact h.z i (by omega)
  · rw [h6, getD_set_ne (by omega)]; exact h.c i (by omega)
  · rw [h7, List.length_append, h.c p (Nat.le_refl _)]
def FlE (w : World) (base b X B : Nat) (L P : Int) (v : Value) (base2 : Nat) (colw : Nat → Nat) (s0 : Sl) (vG vA vC vF : Value) (vs : List Value) (p m : Nat) (wr : World) : Prop :=
  ∃ s1 col, FlW w wr base b X B col s1 L P v base2 colw s0 vG vA vC vF vs ∧ FlI p L P s0 s1 ∧ s1.free.length = m
set_option maxRecDepth 100000 in
set_option maxHeartbeats 8000000 in
theorem SlabFlushes0.walk (w : World) (L P : Int) (A : Option Addr) (c : Nat) (ops : List SOp) (hC : kSOp.C w A ops.length ops) (hc : ops.length ≤ c) (hl : ops.length ≤ 1048576) :
    Calls Try.prog 9 #[.agg #[.int .i64 L, .int .i64 P, .slice A ops.length c]] w fun e w' => e = .returned (.bool true) ∧ Below w.heap.size w w' := by
  have hW : Below w.heap.size w (w.alloc (.cells #[.int .i64 L, .int .i64 P, .slice A ops.length c] 37)) := below_al (Below.refl _ _) _
  have hX : (w.alloc (.cells #[.int .i64 L, .int .i64 P, .slice A ops.length c] 37)).heap[w.heap.size]? = some (.cells #[.int .i64 L, .int .i64 P, .slice A ops.length c] 37 (0, 0)) := blk_new _ _
  have HF := Aside0.mk (fit_any L P (.slice A ops.length c) ⟨_, _, _, rfl⟩ (w.alloc (.cells #[.int .i64 L, .int .i64 P, .slice A ops.length c] 37)))
  have HC := Aside0.mk hC
  have HW := Aside0.mk hW
  have HX := Aside0.mk hX
  have hXl := lt_blk hX
  have hk := fit_ok L P
  clear hC hX hW
  go_enter Try.func9, Try.ntmps9
  go_wp2_with fail
  generalize (w.alloc (.cells #[.int .i64 L, .int .i64 P, .slice A ops.length c] 37)) = W at *
  refine HF.out.mono ?_
  clear HF
  rintro e w1 ⟨rfl, hB1⟩
  generalize fitL L = L' at *
  generalize fitP P = P' at *
  have hX1 := blk_below HX.out hB1
  have hb01 := below_then HW.out hB1
  have x0 := cell_blk hX1 0; have x1 := cell_blk hX1 1; have x2 := cell_blk hX1 2
  have f0 := frozen_blk hX1 0; have f1 := frozen_blk hX1 1; have f2 := frozen_blk hX1 2
  simp at x0 x1 x2
  have hXl1 := lt_blk hX1
  have hst : Keep (fun i => i = w.heap.size) w1 (((w1.setCell ⟨w.heap.size, 0, none⟩ (.int .i64 L')).setCell ⟨w.heap.size, 1, none⟩ (.int .i64 P')).setCell ⟨w.heap.size, 2, none⟩ (.slice A ops.length c)) := (by repeat (first | (with_reducible exact Keep.refl _ _) | (with_reducible refine Keep.drewN ?_ _) | (with_reducible refine Keep.drew ?_) | (with_reducible refine Keep.setCell ?_ _ _ (by first | (right; with_reducible rfl) | (left; simp; done) | (left; simp; omega) | (right; simp; done) | (right; assumption))) | (with_reducible refine Keep.alloc ?_ _)))
  have hX2 : (((w1.setCell ⟨w.heap.size, 0, none⟩ (.int .i64 L')).setCell ⟨w.heap.size, 1, none⟩ (.int .i64 P')).setCell ⟨w.heap.size, 2, none⟩ (.slice A ops.length c)).heap[w.heap.size]? = some (.cells #[.int .i64 L', .int .i64 P', .slice A ops.length c] 37 (0, 0)) := by
    have := blk_set (i := 2) (u := .slice A ops.length c) (blk_set (i := 1) (u := .int .i64 P') (blk_set (i := 0) (u := .int .i64 L') hX1))
    simpa using this
  have hb02 := below_then_keep hb01 hb01.size hst (fun i hi => by omega)
  have HX2 := Aside0.mk hX2
  have HB2 := Aside0.mk hb02
  clear hB1 hX1 hb01 hst hX2 hb02
  go_wp2_with fail
  generalize (((w1.setCell ⟨w.heap.size, 0, none⟩ (.int .i64 L')).setCell ⟨w.heap.size, 1, none⟩ (.int .i64 P')).setCell ⟨w.heap.size, 2, none⟩ (.slice A ops.length c)) = W2 at *
  clear x0 x1 x2 f0 f1 f2 hXl1
  have hs2 := HB2.out.size
  refine (snew_any L' P' W2).mono ?_
  rintro e w3 ⟨hB3, ⟨-, b, col, rfl, hS3, hc3⟩ | ⟨h0, -⟩⟩
  · have hX3 := blk_below HX2.out hB3
    have x0 := cell_blk hX3 0; have x1 := cell_blk hX3 1; have x2 := cell_blk hX3 2
    simp at x0 x1 x2
    have hXl3 := lt_blk hX3
    have HT := names_any W2 w3 b col L' P' A c ops hB3 hS3 hk (Kd.C_below HC.out HB2.out) hc hl
    have hz3 := hS3.z
    clear hX3
    go_wp2_with fail
    refine HT.mono ?_
    clear HT
    rintro e w4 hNP
    obtain ⟨vh, va, s, had, book, col4, rfl, hA4⟩ := after_names hB3 hz3 hc3 hNP
    have hX5 := blk_below HX2.out hA4.below
    have hL5 : LsW w w4 W2.heap.size b w.heap.size col4 s L' P' (.slice A ops.length c) := ⟨below_then HB2.out hA4.below, hA4.sl, hX5, Nat.le_refl _, by
      rcases Nat.eq_zero_or_pos (col4 w.heap.size) with h | h
      · exact h
      · have := hA4.cb _ (Nat.ne_of_gt h); have := lt_blk HX2.out; omega, fun i hi => by have := hA4.cb i hi; omega, hA4.bs⟩
    have hSt := state_slab w4 hA4.sl hA4.i.wf.l0 hA4.i.wf.ok.bd
    have HI := Aside0.mk hA4.i
    have HL5 := Aside0.mk hL5
    have HBD := Aside0.mk hA4.i.wf.ok.bd
    clear hNP hS3 hB3 hc3 hz3 x0 x1 x2 hXl3 hA4 hX5 hL5
    go_wp2_with fail
    refine hSt.mono ?_
    clear hSt
    rintro e w5 ⟨vG, vA, vC, vF, vs, colw, rfl, hV, hcw, hB5⟩
    obtain ⟨AG, cG, rfl, -⟩ := hV.g.slice
    obtain ⟨AA, cA, rfl, -⟩ := hV.a.slice
    obtain ⟨AC, cC, rfl, hcC⟩ := hV.c.slice
    obtain ⟨AF, cF, rfl, -⟩ := hV.f.slice
    rw [HI.out.lim]
    have hAl : Below w5.heap.size w5 (w5.alloc (.cells #[.int .i64 L', .slice AG (ints s.gens).length cG, .slice AA (bools s.alive).length cA, .slice AC vs.length cC, .slice AF (ints s.free).length cF] 30)) := below_al (Below.refl _ _) _
    have hFW : FlW w (w5.alloc (.cells #[.int .i64 L', .slice AG (ints s.gens).length cG, .slice AA (bools s.alive).length cA, .slice AC vs.length cC, .slice AF (ints s.free).length cF] 30)) W2.heap.size b w.heap.size w5.heap.size col4 s L' P' (.slice A ops.length c) w4.heap.size colw s (.slice AG (ints s.gens).length cG) (.slice AA (bools s.alive).length cA) (.slice AC vs.length cC) (.slice AF (ints s.free).length cF) vs :=
      ⟨(HL5.out.then hB5).then hAl, hV.below hAl, blk_new _ _, HL5.out.sl.z _ hB5.size, fun k hk => HL5.out.sl.z k (hV.b k hk)⟩
    have HE0 : Aside0 (FlE w W2.heap.size b w.heap.size w5.heap.size L' P' (.slice A ops.length c) w4.heap.size colw s (.slice AG (ints s.gens).length cG) (.slice AA (bools s.alive).length cA) (.slice AC vs.length cC) (.slice AF (ints s.free).length cF) vs 0 s.free.length (w5.alloc (.cells #[.int .i64 L', .slice AG (ints s.gens).length cG, .slice AA (bools s.alive).length cA, .slice AC vs.length cC, .slice AF (ints s.free).length cF] 30))) := ⟨s, col4, hFW, ⟨HI.out.wf, HI.out.lim, HI.out.cl, fun i hi => by omega, fun i _ => rfl⟩, rfl⟩
    have HVL := Aside0.mk hV.l
    clear hAl hFW hV hcw hB5 HL5
    go_wp2_with fail
    --MARK1
    generalize (w5.alloc (.cells #[.int .i64 L', .slice AG (ints s.gens).length cG, .slice AA (bools s.alive).length cA, .slice AC vs.length cC, .slice AF (ints s.free).length cF] 30)) = W5 at *
    obtain ⟨B, hB⟩ : ∃ B, w5.heap.size = B := ⟨_, rfl⟩
    rw [hB] at HE0 ⊢
    go_loopw [7, 9, 10] (fun ok n i wr => ∃ p m : Nat, (p : Int) ≤ P' ∧ ok = .bool true ∧ n = .int .i64 m ∧ i = .int .i64 p ∧ Aside0 (FlE w W2.heap.size b w.heap.size B L' P' (.slice A ops.length c) w4.heap.size colw s (.slice AG (ints s.gens).length cG) (.slice AA (bools s.alive).length cA) (.slice AC vs.length cC) (.slice AF (ints s.free).length cF) vs p m wr)) (fun _ _ i _ => 5000 - (intOf i).toNat)
    case atStart => exact ⟨0, s.free.length, by have := okNew_iff.1 hk; omega, rfl, by rw [ints_len], rfl, HE0⟩
    case round =>
      clear HE0
      obtain ⟨p, m, hp, rfl, rfl, rfl, HE⟩ := hrel
      obtain ⟨s1, col1, hF, hI, hm⟩ := HE.out
      have x1 := cell_blk hF.l.x 1; have y3 := cell_blk hF.blk 3
      simp at x1 y3
      have hPb := (okNew_iff.1 hk).2.2
      have hvl : (vs.length : Int) = P' := by rw [HVL.out]; exact HI.out.cl
      by_cases hlt : (p : Int) < P'
      · have hps : p < s.caches.length := by have := HI.out.cl; omega
        have hp1 : p < s1.caches.length := by have := hI.cl; omega
        obtain ⟨x, hx⟩ : ∃ x, s.caches[p]? = some x := ⟨_, List.getElem?_eq_getElem hps⟩
        obtain ⟨u, hu, hrow⟩ := hF.r.v p x hx
        obtain ⟨Au, cu, rfl, -⟩ := hrow.slice
        obtain ⟨g, o, c', he, hg, -, hat⟩ := hF.r.c.form (by omega)
        injection he with he1 he2 he3
        have hcell := (hat p).1 _ hu
        rw [ints_len] at hcell
        obtain ⟨hI', h0, hfl⟩ := hI.step hp1
        have hxd : s.caches.getD p [] = x := by rw [List.getD_eq_getElem?_getD, hx]; rfl
        rw [hxd, hm] at hfl
        have hx64 : x.length < 64 := HI.out.wf.cl x (List.mem_of_getElem? hx)
        have hmb : m ≤ 140737488355328 := by have := hI.wf.ok.bd.f; omega
        have hpv : (p : Int) < (vs.length : Int) := by omega
        have hp0 : (0 : Int) ≤ (p : Int) := by omega
        have hFl := flush_slab (p : Int) wr hF.l.bs hF.l.sl hI.wf.ok
        have HF := Aside0.mk hF
        have HI' := Aside0.mk hI'
        have HFL := Aside0.mk hfl
        have H0 := Aside0.mk h0
        subst he1
        clear he2 he3 hat hrow hF hI hI' hfl h0 hx hu hm hvl HE hxd
        go_wp2_with fail
        --MARK2
        refine hFl.mono ?_
        clear hFl
        rintro e w6 ⟨col6, rfl, hS6, hN6⟩
        rw [H0.out]
        have HF6 := Aside0.mk (HF.out.slab hN6 hS6)
        clear hS6 hN6 x1 y3 hcell
        go_wp2
        go_roundw
        case rel => exact ⟨p + 1, m + x.length, by omega, rfl, by go_num, by go_num, ⟨⟨_, col6, HF6.out, HI'.out, HFL.out⟩⟩⟩
        case measure => simp [intOf]; omega
      · have hp2 : P' ≤ (p : Int) := by omega
        have hSt := state_slab wr hF.l.sl hI.wf.l0 hI.wf.ok.bd
        have HF := Aside0.mk hF
        have HII := Aside0.mk hI
        have HM := Aside0.mk hm
        have hmb : m ≤ 140737488355328 := by have := hI.wf.ok.bd.f; omega
        clear hF hI hvl HE hm
        go_wp2_with fail
        --MARK3
        refine hSt.mono ?_
        clear hSt x1 y3
        rintro e w7 ⟨vG, vA, vC, vF, us, colu, rfl, hV, hcw, hB7⟩
        obtain ⟨DG, dG, rfl, -⟩ := hV.g.slice
        obtain ⟨DA, dA, rfl, -⟩ := hV.a.slice
        obtain ⟨DC, dC, rfl, hcC⟩ := hV.c.slice
        obtain ⟨DF, dF, rfl, -⟩ := hV.f.slice
        rw [HII.out.lim]
        have hAl : Below w7.heap.size w7 (w7.alloc (.cells #[.int .i64 L', .slice DG (ints s1.gens).length dG, .slice DA (bools s1.alive).length dA, .slice DC us.length dC, .slice DF (ints s1.free).length dF] 30)) := below_al (Below.refl _ _) _
        have HL8 := Aside0.mk ((HF.out.l.then hB7).then hAl)
        have HV8 := Aside0.mk (hV.below hAl)
        have HB8 : Aside0 ((w7.alloc (.cells #[.int .i64 L', .slice DG (ints s1.gens).length dG, .slice DA (bools s1.alive).length dA, .slice DC us.length dC, .slice DF (ints s1.free).length dF] 30)).heap[w7.heap.size]? = some (.cells #[.int .i64 L', .slice DG (ints s1.gens).length dG, .slice DA (bools s1.alive).length dA, .slice DC us.length dC, .slice DF s1.free.length dF] 30 (0, 0))) := ⟨by simpa only [ints_len s1.free] using blk_new w7 (.cells #[.int .i64 L', .slice DG (ints s1.gens).length dG, .slice DA (bools s1.alive).length dA, .slice DC us.length dC, .slice DF (ints s1.free).length dF] 30)⟩
        clear hAl hV hcw hB7
        go_wp2_with fail
        --MARK4
        generalize (w7.alloc (.cells #[.int .i64 L', .slice DG (ints s1.gens).length dG, .slice DA (bools s1.alive).length dA, .slice DC us.length dC, .slice DF (ints s1.free).length dF] 30)) = W8 at *
        obtain ⟨D, hD⟩ : ∃ D, w7.heap.size = D := ⟨_, rfl⟩
        rw [hD] at HB8 ⊢
        have y0 := cell_blk HB8.out 0; have y1 := cell_blk HB8.out 1; have y2 := cell_blk HB8.out 2; have y3 := cell_blk HB8.out 3; have y4 := cell_blk HB8.out 4
        simp at y0 y1 y2 y3 y4
        have HUL : Aside0 ((us.length : Int) = P') := ⟨by rw [HV8.out.l]; exact HII.out.cl⟩
        go_loopw [7, 12] (fun ok i wr => ∃ q : Nat, (q : Int) ≤ P' ∧ ok = .bool true ∧ i = .int .i64 q ∧ Aside0 (wr = W8)) (fun _ i _ => 5000 - (intOf i).toNat)
        case atStart => exact ⟨0, by omega, rfl, rfl, ⟨by trivial⟩⟩
        case round =>
          obtain ⟨q, hq, rfl, rfl, HW⟩ := hrel
          obtain rfl := HW.out
          by_cases hlq : (q : Int) < P'
          · have hqu : (q : Int) < (us.length : Int) := by have := HUL.out; omega
            have hq0 : (0 : Int) ≤ (q : Int) := by omega
            have hqs : q < s1.caches.length := by have := HII.out.cl; omega
            obtain ⟨x, hx⟩ : ∃ x, s1.caches[q]? = some x := ⟨_, List.getElem?_eq_getElem hqs⟩
            have hxe : x = [] := by
              have h1 := HII.out.z q (by omega)
              rw [List.getD_eq_getElem?_getD, hx] at h1; exact h1
            subst hxe
            obtain ⟨u, hu, hrow⟩ := HV8.out.v q _ hx
            obtain ⟨Au, cu, rfl, -⟩ := hrow.slice
            obtain ⟨g, o, c', he, hg, -, hat⟩ := HV8.out.c.form (by omega)
            injection he with he1 he2 he3
            have hcell := (hat q).1 _ hu
            rw [ints_len] at hcell
            simp at hcell
            subst he1
            clear he2 he3 hat hrow hx hu HW
            go_wp2
            go_roundw
            case rel => exact ⟨q + 1, by omega, rfl, by go_num, ⟨by trivial⟩⟩
            case measure => simp [intOf]; omega
          · have hqu : ¬ (q : Int) < (us.length : Int) := by have := HUL.out; omega
            have hqu2 : (us.length : Int) ≤ (q : Int) := by omega
            clear HW
            go_wp2_with fail
            --MARK5
            have hZ : Below wr.heap.size wr wr.drew := (Below.refl _ _).drew
            have HL9 := Aside0.mk (HL8.out.then hZ)
            have hV9 := HV8.out.below hZ
            rw [ints_len s1.free] at hV9
            have HV9 := Aside0.mk hV9
            have HB9 := Aside0.mk (blk_below HB8.out hZ)
            clear y0 y1 y2 y3 y4 hZ hV9 hqu hqu2
            obtain rfl := HM.out
            obtain rfl := HUL.out
            have hl0 : 0 < s1.limit := HII.out.wf.l0
            have hal : s1.alive.length ≤ 1000000 := by have := HII.out.wf.a; have := HII.out.wf.g; have := HII.out.wf.l1; omega
            refine start_ (n := 27) (S := fun w' => w'.cell? ⟨D, 0, none⟩ = some (.int .i64 L') ∧ w'.cell? ⟨D, 1, none⟩ = some (.slice DG (ints s1.gens).length dG) ∧ w'.cell? ⟨D, 2, none⟩ = some (.slice DA (bools s1.alive).length dA) ∧ w'.cell? ⟨D, 3, none⟩ = some (.slice DC us.length dC) ∧ w'.cell? ⟨D, 4, none⟩ = some (.slice DF s1.free.length dF) ∧ w'.cell? ⟨w.heap.size, 1, none⟩ = some (.int .i64 us.length)) (ds := [20, 24]) #[false, false, false, false, false, false, false, false, false, false, false, false, false, false, false, false, false, false, false, false, false, false, false, false, false, false, false] (by kernel_rfl) rfl rfl ⟨cell_blk HB9.out 0, cell_blk HB9.out 1, cell_blk HB9.out 2, cell_blk HB9.out 3, cell_blk HB9.out 4, cell_blk HL9.out.x 1⟩ (fun hHeld => ?_)
            generalize wr.drew = x0 at *
            refine pure_ (i := 0) (N := some 84) (v := ?_) (a' := ?_) #[true, false, false, false, false, false, false, false, false, false, false, false, false, false, false, false, false, false, false, false, false, false, false, false, false, false, false] rfl rfl (by kernel_rfl) (fun _ _ _ h => h) (Or.inl ⟨by rfl, ?_⟩) ?_ ?_
            rotate_left
            · intro w'
              go_simp
              with_reducible rfl
            rotate_left
            · simp only [Act.put, List.setIfInBounds_toArray, List.set_cons_zero, List.set_cons_succ]
              rfl
            refine pure_ (i := 1) (N := some 85) (v := ?_) (a' := ?_) #[true, true, false, false, false, false, false, false, false, false, false, false, false, false, false, false, false, false, false, false, false, false, false, false, false, false, false] rfl rfl (by kernel_rfl) (fun _ _ _ h => h) (Or.inl ⟨by rfl, ?_⟩) ?_ ?_
            rotate_left
            · intro w'
              go_simp
              with_reducible rfl
            rotate_left
            · simp only [Act.put, List.setIfInBounds_toArray, List.set_cons_zero, List.set_cons_succ]
              rfl
            refine pure_ (i := 2) (N := some 86) (v := ?_) (a' := ?_) #[true, true, true, false, false, false, false, false, false, false, false, false, false, false, false, false, false, false, false, false, false, false, false, false, false, false, false] rfl rfl (by kernel_rfl) (fun _ _ _ h => h) (Or.inl ⟨by rfl, ?_⟩) ?_ ?_
            rotate_left
            · intro w'
              go_simp
              with_reducible rfl
            rotate_left
            · simp only [Act.put, List.setIfInBounds_toArray, List.set_cons_zero, List.set_cons_succ]
              rfl
            refine pure_ (i := 5) (N := some 89) (v := ?_) (a' := ?_) #[true, true, true, false, false, true, false, false, false, false, false, false, false, false, false, false, false, false, false, false, false, false, false, false, false, false, false] rfl rfl (by kernel_rfl) (fun _ _ _ h => h) (Or.inl ⟨by rfl, ?_⟩) ?_ ?_
            rotate_left
            · intro w'
              go_simp
              with_reducible rfl
            rotate_left
            · simp only [Act.put, List.setIfInBounds_toArray, List.set_cons_zero, List.set_cons_succ]
              rfl
            refine take_ (i := 3) (N := some 87) (v := ?_) (a' := ?_) #[true, true, true, true, false, true, false, false, false, false, false, false, false, false, false, false, false, false, false, false, false, false, false, false, false, false, false] rfl rfl (by kernel_rfl) (fun _ _ _ h => h) (Or.inl ⟨by rfl, ?_⟩) hHeld ?_ ?_
            rotate_left
            · rintro w' ⟨s0, s1, s2, s3, s4, s5⟩
              go_simp
              with_reducible rfl
            rotate_left
            · simp only [Act.put, List.setIfInBounds_toArray, List.set_cons_zero, List.set_cons_succ]
              rfl
            refine pure_ (i := 4) (N := some 88) (v := ?_) (a' := ?_) #[true, true, true, true, true, true, false, false, false, false, false, false, false, false, false, false, false, false, false, false, false, false, false, false, false, false, false] rfl rfl (by kernel_rfl) (fun _ _ _ h => h) (Or.inl ⟨by rfl, ?_⟩) ?_ ?_
            rotate_left
            · intro w'
              go_simp
              with_reducible rfl
            rotate_left
            · simp only [Act.put, List.setIfInBounds_toArray, List.set_cons_zero, List.set_cons_succ]
              rfl
            refine take_ (i := 6) (N := some 90) (v := ?_) (a' := ?_) #[true, true, true, true, true, true, true, false, false, false, false, false, false, false, false, false, false, false, false, false, false, false, false, false, false, false, false] rfl rfl (by kernel_rfl) (fun _ _ _ h => h) (Or.inl ⟨by rfl, ?_⟩) hHeld ?_ ?_
            rotate_left
            · rintro w' ⟨s0, s1, s2, s3, s4, s5⟩
              go_simp
              with_reducible rfl
            rotate_left
            · simp only [Act.put, List.setIfInBounds_toArray, List.set_cons_zero, List.set_cons_succ]
              rfl
            refine pure_ (i := 7) (N := some 91) (v := ?_) (a' := ?_) #[true, true, true, true, true, true, true, true, false, false, false, false, false, false, false, false, false, false, false, false, false, false, false, false, false, false, false] rfl rfl (by kernel_rfl) (fun _ _ _ h => h) (Or.inl ⟨by rfl, ?_⟩) ?_ ?_
            rotate_left
            · intro w'
              go_simp
              with_reducible rfl
            rotate_left
            · simp only [Act.put, List.setIfInBounds_toArray, List.set_cons_zero, List.set_cons_succ]
              rfl
            refine pure_ (i := 8) (N := some 92) (v := ?_) (a' := ?_) #[true, true, true, true, true, true, true, true, true, false, false, false, false, false, false, false, false, false, false, false, false, false, false, false, false, false, false] rfl rfl (by kernel_rfl) (fun _ _ _ h => h) (Or.inl ⟨by rfl, ?_⟩) ?_ ?_
            rotate_left
            · intro w'
              go_simp
              with_reducible rfl
            rotate_left
            · simp only [Act.put, List.setIfInBounds_toArray, List.set_cons_zero, List.set_cons_succ]
              rfl
            refine pure_ (i := 9) (N := some 93) (v := ?_) (a' := ?_) #[true, true, true, true, true, true, true, true, true, true, false, false, false, false, false, false, false, false, false, false, false, false, false, false, false, false, false] rfl rfl (by kernel_rfl) (fun _ _ _ h => h) (Or.inl ⟨by rfl, ?_⟩) ?_ ?_
            rotate_left
            · intro w'
              go_simp
              with_reducible rfl
            rotate_left
            · simp only [Act.put, List.setIfInBounds_toArray, List.set_cons_zero, List.set_cons_succ]
              rfl
            refine pure_ (i := 10) (N := some 94) (v := ?_) (a' := ?_) #[true, true, true, true, true, true, true, true, true, true, true, false, false, false, false, false, false, false, false, false, false, false, false, false, false, false, false] rfl rfl (by kernel_rfl) (fun _ _ _ h => h) (Or.inl ⟨by rfl, ?_⟩) ?_ ?_
            rotate_left
            · intro w'
              go_simp
              with_reducible rfl
            rotate_left
            · simp only [Act.put, List.setIfInBounds_toArray, List.set_cons_zero, List.set_cons_succ]
              rfl
            refine pure_ (i := 13) (N := some 97) (v := ?_) (a' := ?_) #[true, true, true, true, true, true, true, true, true, true, true, false, false, true, false, false, false, false, false, false, false, false, false, false, false, false, false] rfl rfl (by kernel_rfl) (fun _ _ _ h => h) (Or.inl ⟨by rfl, ?_⟩) ?_ ?_
            rotate_left
            · intro w'
              go_simp
              with_reducible rfl
            rotate_left
            · simp only [Act.put, List.setIfInBounds_toArray, List.set_cons_zero, List.set_cons_succ]
              rfl
            refine take_ (i := 11) (N := some 95) (v := ?_) (a' := ?_) #[true, true, true, true, true, true, true, true, true, true, true, true, false, true, false, false, false, false, false, false, false, false, false, false, false, false, false] rfl rfl (by kernel_rfl) (fun _ _ _ h => h) (Or.inl ⟨by rfl, ?_⟩) hHeld ?_ ?_
            rotate_left
            · rintro w' ⟨s0, s1, s2, s3, s4, s5⟩
              go_simp
              with_reducible rfl
            rotate_left
            · simp only [Act.put, List.setIfInBounds_toArray, List.set_cons_zero, List.set_cons_succ]
              rfl
            refine pure_ (i := 12) (N := some 96) (v := ?_) (a' := ?_) #[true, true, true, true, true, true, true, true, true, true, true, true, true, true, false, false, false, false, false, false, false, false, false, false, false, false, false] rfl rfl (by kernel_rfl) (fun _ _ _ h => h) (Or.inl ⟨by rfl, ?_⟩) ?_ ?_
            rotate_left
            · intro w'
              go_simp
              with_reducible rfl
            rotate_left
            · simp only [Act.put, List.setIfInBounds_toArray, List.set_cons_zero, List.set_cons_succ]
              rfl
            refine pure_ (i := 14) (N := some 98) (v := ?_) (a' := ?_) #[true, true, true, true, true, true, true, true, true, true, true, true, true, true, true, false, false, false, false, false, false, false, false, false, false, false, false] rfl rfl (by kernel_rfl) (fun _ _ _ h => h) (Or.inl ⟨by rfl, ?_⟩) ?_ ?_
            rotate_left
            · intro w'
              go_simp
              with_reducible rfl
            rotate_left
            · simp only [Act.put, List.setIfInBounds_toArray, List.set_cons_zero, List.set_cons_succ]
              rfl
            refine pure_ (i := 15) (N := some 99) (v := ?_) (a' := ?_) #[true, true, true, true, true, true, true, true, true, true, true, true, true, true, true, true, false, false, false, false, false, false, false, false, false, false, false] rfl rfl (by kernel_rfl) (fun _ _ _ h => h) (Or.inl ⟨by rfl, ?_⟩) ?_ ?_
            rotate_left
            · intro w'
              go_simp
              with_reducible rfl
            rotate_left
            · simp only [Act.put, List.setIfInBounds_toArray, List.set_cons_zero, List.set_cons_succ]
              rfl
            refine pure_ (i := 16) (N := some 100) (v := ?_) (a' := ?_) #[true, true, true, true, true, true, true, true, true, true, true, true, true, true, true, true, true, false, false, false, false, false, false, false, false, false, false] rfl rfl (by kernel_rfl) (fun _ _ _ h => h) (Or.inl ⟨by rfl, ?_⟩) ?_ ?_
            rotate_left
            · intro w'
              go_simp
              with_reducible rfl
            rotate_left
            · simp only [Act.put, List.setIfInBounds_toArray, List.set_cons_zero, List.set_cons_succ]
              rfl
            refine pure_ (i := 17) (N := some 101) (v := ?_) (a' := ?_) #[true, true, true, true, true, true, true, true, true, true, true, true, true, true, true, true, true, true, false, false, false, false, false, false, false, false, false] rfl rfl (by kernel_rfl) (fun _ _ _ h => h) (Or.inl ⟨by rfl, ?_⟩) ?_ ?_
            rotate_left
            · intro w'
              go_simp
              with_reducible rfl
            rotate_left
            · simp only [Act.put, List.setIfInBounds_toArray, List.set_cons_zero, List.set_cons_succ]
              rfl
            refine take_ (i := 19) (N := some 103) (v := ?_) (a' := ?_) #[true, true, true, true, true, true, true, true, true, true, true, true, true, true, true, true, true, true, false, true, false, false, false, false, false, false, false] rfl rfl (by kernel_rfl) (fun _ _ _ h => h) (Or.inl ⟨by rfl, ?_⟩) hHeld ?_ ?_
            rotate_left
            · rintro w' ⟨s0, s1, s2, s3, s4, s5⟩
              go_simp
              with_reducible rfl
            rotate_left
            · simp only [Act.put, List.setIfInBounds_toArray, List.set_cons_zero, List.set_cons_succ]
              rfl
            refine one_ (i := 18) (N := some 102) #[true, true, true, true, true, true, true, true, true, true, true, true, true, true, true, true, true, true, true, true, false, false, false, false, false, false, false] rfl rfl (by kernel_rfl) (by decide) (fun K hK => ?_)
            refine goes_ Try.func21 (by kernel_rfl) rfl #[.pointer (some ⟨b, 0, none⟩)] (by rfl) rfl rfl (by simp only [List.map_toArray, List.map_cons, List.map_nil]; rfl) ?_
            with_reducible refine (live_slab x0 HL9.out.sl hl0 hal).mono ?_
            rintro e w1 ⟨rfl, hS1⟩
            refine ⟨_, rfl, ?_⟩
            have hB1 := blk_below HB9.out hS1
            have hX1 := blk_below HL9.out.x hS1
            have HV1 := Aside0.mk (HV9.out.below hS1)
            have HS1 := Aside0.mk (below_then HL9.out.below hS1)
            refine hK.out _ _ ⟨cell_blk hB1 0, cell_blk hB1 1, cell_blk hB1 2, cell_blk hB1 3, cell_blk hB1 4, cell_blk hX1 1⟩ (fun hHeld => ?_)
            clear hK K
            refine norm_ (a' := ?_) ?_ ?_
            rotate_left
            · show Act.put _ (some 102) _ = _
              simp only [Act.put, List.setIfInBounds_toArray, List.set_cons_zero, List.set_cons_succ]
              rfl
            refine last_ (i := 20) (N := some 104) #[true, true, true, true, true, true, true, true, true, true, true, true, true, true, true, true, true, true, true, true, true, false, false, false, false, false, false] rfl rfl (by kernel_rfl) (by decide) (fun K hK => ?_)
            refine goes_ Try.func27 (by kernel_rfl) rfl #[.agg #[.int .i64 L', .slice DG (ints s1.gens).length dG, .slice DA (bools s1.alive).length dA, .slice DC us.length dC, .slice DF s1.free.length dF]] (by rfl) rfl rfl (by simp only [List.map_toArray, List.map_cons, List.map_nil]; rfl) ?_
            with_reducible refine (live_ref w1 HV1.out hal).mono ?_
            rintro e w2 ⟨rfl, hS2⟩
            refine ⟨_, rfl, ?_⟩
            have HS2 := Aside0.mk (below_then HS1.out hS2)
            refine hK.out _ _ ?_
            clear hK K
            refine norm_ (a' := ?_) ?_ ?_
            rotate_left
            · show Act.put _ (some 104) _ = _
              simp only [Act.put, List.setIfInBounds_toArray, List.set_cons_zero, List.set_cons_succ]
              rfl
            refine pure_ (i := 21) (N := some 105) (v := ?_) (a' := ?_) #[true, true, true, true, true, true, true, true, true, true, true, true, true, true, true, true, true, true, true, true, true, true, false, false, false, false, false] rfl rfl (by kernel_rfl) (fun _ _ _ h => h) (Or.inl ⟨by rfl, ?_⟩) ?_ ?_
            rotate_left
            · intro w'
              go_simp
              with_reducible rfl
            rotate_left
            · simp only [Act.put, List.setIfInBounds_toArray, List.set_cons_zero, List.set_cons_succ]
              rfl
            refine pure_ (i := 22) (N := some 106) (v := ?_) (a' := ?_) #[true, true, true, true, true, true, true, true, true, true, true, true, true, true, true, true, true, true, true, true, true, true, true, false, false, false, false] rfl rfl (by kernel_rfl) (fun _ _ _ h => h) (Or.inl ⟨by rfl, ?_⟩) ?_ ?_
            rotate_left
            · intro w'
              go_simp
              with_reducible rfl
            rotate_left
            · simp only [Act.put, List.setIfInBounds_toArray, List.set_cons_zero, List.set_cons_succ]
              rfl
            refine pure_ (i := 23) (N := some 107) (v := ?_) (a' := ?_) #[true, true, true, true, true, true, true, true, true, true, true, true, true, true, true, true, true, true, true, true, true, true, true, true, false, false, false] rfl rfl (by kernel_rfl) (fun _ _ _ h => h) (Or.inl ⟨by rfl, ?_⟩) ?_ ?_
            rotate_left
            · intro w'
              go_simp
              with_reducible rfl
            rotate_left
            · simp only [Act.put, List.setIfInBounds_toArray, List.set_cons_zero, List.set_cons_succ]
              rfl
            refine last_ (i := 24) (N := some 108) #[true, true, true, true, true, true, true, true, true, true, true, true, true, true, true, true, true, true, true, true, true, true, true, true, true, false, false] rfl rfl (by kernel_rfl) (by decide) (fun K hK => ?_)
            refine goes_ Try.func20 (by kernel_rfl) rfl #[] (by rfl) rfl rfl (by simp only [List.map_toArray, List.map_cons, List.map_nil]) ?_
            with_reducible refine (awake_any w2).mono ?_
            rintro e w3 ⟨rfl, hS3⟩
            refine ⟨_, rfl, ?_⟩
            have HS3 := Aside0.mk (below_then HS2.out hS3)
            refine hK.out _ _ ?_
            clear hK K
            refine norm_ (a' := ?_) ?_ ?_
            rotate_left
            · show Act.put _ (some 108) _ = _
              simp only [Act.put, List.setIfInBounds_toArray, List.set_cons_zero, List.set_cons_succ]
              rfl
            refine pure_ (i := 25) (N := some 109) (v := ?_) (a' := ?_) #[true, true, true, true, true, true, true, true, true, true, true, true, true, true, true, true, true, true, true, true, true, true, true, true, true, true, false] rfl rfl (by kernel_rfl) (fun _ _ _ h => h) (Or.inl ⟨by rfl, ?_⟩) ?_ ?_
            rotate_left
            · intro w'
              go_simp
              with_reducible rfl
            rotate_left
            · simp only [Act.put, List.setIfInBounds_toArray, List.set_cons_zero, List.set_cons_succ]
              rfl
            refine pure_ (i := 26) (N := some 2) (v := ?_) (a' := ?_) #[true, true, true, true, true, true, true, true, true, true, true, true, true, true, true, true, true, true, true, true, true, true, true, true, true, true, true] rfl rfl (by kernel_rfl) (fun _ _ _ h => h) (Or.inl ⟨by rfl, ?_⟩) ?_ ?_
            rotate_left
            · intro w'
              go_simp
              with_reducible rfl
            rotate_left
            · simp only [Act.put, List.setIfInBounds_toArray, List.set_cons_zero, List.set_cons_succ]
              rfl
            refine done_ (by kernel_rfl) ?_
            go_wp2
            go_ret
            exact ⟨by simp, HS3.out⟩
  · rw [hk] at h0
    cases h0
theorem slabFlushes.walk (w : World) (cs : Array Value) (x : Int × Int × List SOp) (hK : kScr.K w x cs.toList) (_ : True) (hm : x.2.2.length ≤ 1048576) : Calls Try.prog 9 #[.agg cs] w fun e w' => e = .returned (.bool true) ∧ Below w.heap.size w w' := by
  obtain ⟨A, c, hcs, hc, hC⟩ := kScr_open hK
  obtain rfl := Array.toList_inj.1 hcs
  exact SlabFlushes0.walk w x.1 x.2.1 A c x.2.2 hC hc hm
theorem slabFlushes.own : ownKnob Try.prog.godebug = none := by kernel_rfl

end Go.Proofs.Ytnglgjegkjfnaaa
