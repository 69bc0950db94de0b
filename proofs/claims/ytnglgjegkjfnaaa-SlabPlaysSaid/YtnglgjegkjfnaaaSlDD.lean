/- SlabLast: behind any calls as many names as the limit are alive at once, whichever Ps take them; the next one is refused; one that is given back by any P is had by any other. Condition (Upto): at most 1048576 items in all. -/
import Derived.Test.YtnglgjegkjfnaaaSlAC
import Derived.Deep.CondSized
set_option linter.unusedSimpArgs false
set_option linter.unusedVariables false
namespace Go.Proofs.Ytnglgjegkjfnaaa
open Go.RowKit Go.ChangeShapes Go.WideShapes Go.ChangeAt Go.Proofs.YtnglgjegkjfnaaaW.PrintWords Go.Proofs.YtnglgjegkjfnaaaW.PrintMore Go.Proofs.YtnglgjegkjfnaaaW.PrintLast
attribute [local go_sem high] eqG
theorem again {s s' : Sl} {x g : Int} {p : Nat} (hW : Wf s) (hfull : liveS s = s.gens.length) (hn : (s.gens.length : Int) = s.limit) (hG : GiveR s s' x g) (hx : aliveS s x g = true) (hg : g < 2147483647) (hp : p < s.caches.length) : (slotS s' p).2 = some x := by
  obtain ⟨h0, h1, h2⟩ := (aliveS_iff hW.a).1 hx
  have hall : ∀ i, i < s.gens.length → aliveAt s i = true := fun i hi => by
    have hl : s.alive.countP id = s.alive.length := by rw [hW.a]; exact hfull
    have := List.countP_eq_length.1 hl
    have hi2 : i < s.alive.length := by rw [hW.a]; exact hi
    have h3 := this s.alive[i] (List.getElem_mem hi2)
    rw [aliveAt, List.getD_eq_getElem?_getD, List.getElem?_eq_getElem hi2]
    exact h3
  have hgen : ∀ i, genAt s' i = genAt s i := fun i => by rw [genAt, genAt, hG.gen]
  have hgl : s'.gens.length = s.gens.length := by rw [hG.gen]
  have hxl : x.toNat < s.gens.length := by
    rcases Nat.lt_or_ge x.toNat s.alive.length with h | h
    · rw [← hW.a]; exact h
    · rw [aliveAt, getD_none h] at h1; cases h1
  have hxd : aliveAt s' x.toNat = false := by
    cases ha : aliveAt s' x.toNat with
    | false => rfl
    | true =>
      have h3 := (aliveS_iff hG.wf.a).2 ⟨h0, ha, rfl⟩
      exact absurd rfl ((hG.al _ _).1 h3).2
  have hp' : p < s'.caches.length := by rw [hG.cl]; exact hp
  cases hs : (slotS s' p).2 with
  | none =>
    exfalso
    have h3 := (take_none hG.wf hp' hs).2.2.2.2.2.2
    have h4 := hG.wf.al x.toNat (by rw [hgl]; exact hxl) hxd (by rw [hgen, h2]; exact hg)
    rw [h3] at h4
    rcases h4 with h4 | h4
    · cases h4
    · exact h4
  | some y =>
    have hT := take_some hG.wf hp' hs
    have h3 := hT.dead
    have h4 := hT.lt
    have h5 := hT.wf.g
    rw [hT.lim, hG.lim, ← hn] at h5
    have h6 := hT.x0
    have hyl : y.toNat < s.gens.length := by omega
    by_cases e : y = x
    · rw [e]
    · exfalso
      have h7 := (hG.al y (genAt s y.toNat)).2 ⟨(aliveS_iff hW.a).2 ⟨h6, hall _ hyl, rfl⟩, e⟩
      rw [((aliveS_iff hG.wf.a).1 h7).2.1] at h3
      cases h3
set_option maxHeartbeats 1000000 in
theorem live_same {b : Nat} {s : Sl} {base : Nat} {col : Nat → Nat} (w : World) (h : IsSlab TS w base b col s) (hl : 0 < s.limit) (hb : s.alive.length ≤ 1000000) : Calls Try.prog 21 #[.pointer (some ⟨b, 0, none⟩)] w fun e w' => e = .returned (.int .i64 (liveS s)) ∧ w' = w := by
  have H := Aside0.mk h
  obtain ⟨vG, vA, vC, vF, vs, h⟩ := h
  obtain ⟨-, -, c2, -, -⟩ := h.cells
  obtain ⟨A, cc, hA, hc⟩ := h.r.a.slice
  subst hA
  rw [bools_len] at c2 hc
  have HB := Aside0.mk h
  have hlt := lt_blk h.blk
  clear h
  go_enter Try.func21, Try.ntmps21
  go_wp2_with fail
  refine (is_slab _ H.out hl).mono ?_
  rintro e w1 ⟨rfl, rfl⟩
  go_wp2
  go_loopw [3, 14] (fun n i wr => ∃ k : Nat, k ≤ s.alive.length ∧ i = .int .i64 k ∧ n = .int .i64 ((s.alive.take k).countP id : Nat) ∧ Aside0 (wr = w)) (fun _ i _ => s.alive.length - (intOf i).toNat)
  case atStart => exact ⟨0, by omega, rfl, rfl, ⟨rfl⟩⟩
  case round =>
    obtain ⟨k, hk, rfl, rfl, HW⟩ := hrel
    obtain rfl := HW.out
    have hcn : (s.alive.take k).countP id ≤ 1000000 := Nat.le_trans List.countP_le_length (by rw [List.length_take]; omega)
    by_cases hlt2 : k < s.alive.length
    · obtain ⟨g, o, c', he, hg, -, hat⟩ := HB.out.r.a.form (by rw [bools_len]; omega)
      injection he with he1 he2 he3
      subst he1
      have hx : s.alive[k]? = some s.alive[k] := List.getElem?_eq_getElem hlt2
      have hcell := (hat k).1 _ (bools_get hx)
      have hT : Aside0 ((s.alive.take (k + 1)).countP id = (s.alive.take k).countP id + (if s.alive[k] then 1 else 0)) := ⟨by
        rw [List.take_succ_eq_append_getElem hlt2, List.countP_append]
        cases s.alive[k] <;> rfl⟩
      clear hat hx HW
      generalize (s.alive.take k).countP id = m at *
      cases hy : s.alive[k] with
      | true =>
        rw [hy] at hcell hT
        clear hy
        go_wp2
        go_roundw
        case rel => exact ⟨k + 1, by omega, by go_num, by rw [hT.out]; go_num, ⟨trivial⟩⟩
        case measure => simp [intOf]; omega
      | false =>
        rw [hy] at hcell hT
        clear hy
        go_wp2
        go_roundw
        case rel => exact ⟨k + 1, by omega, by go_num, by rw [hT.out]; rfl, ⟨trivial⟩⟩
        case measure => simp [intOf]; omega
    · obtain rfl : k = s.alive.length := by omega
      rw [List.take_length] at *
      clear HW
      go_wp2
      go_ret
      exact ⟨rfl, rfl⟩
/-- The script's numbers, fitted, in block X; the slab in b. -/
structure LsW (w wr : World) (base b X : Nat) (col : Nat → Nat) (s : Sl) (L P : Int) (v : Value) : Prop where
  below : Below w.heap.size w wr
  sl : IsSlab TS wr base b col s
  x : wr.heap[X]? = some (.cells #[.int .i64 L, .int .i64 P, v] 37 (0, 0))
  xw : w.heap.size ≤ X
  x0 : col X = 0
  cb : ∀ i, col i ≠ 0 → w.heap.size ≤ i
  bs : base ≤ wr.heap.size
theorem LsW.then {w wr w' : World} {base b X : Nat} {col : Nat → Nat} {s : Sl} {L P : Int} {v : Value} (h : LsW w wr base b X col s L P v) (hB : Below wr.heap.size wr w') : LsW w w' base b X col s L P v :=
  ⟨below_then h.below hB, h.sl.below hB, blk_below h.x hB, h.xw, h.x0, h.cb, by have := h.bs; have := hB.size; omega⟩
theorem LsW.slab {w wr w' : World} {base b X : Nat} {col col' : Nat → Nat} {s s' : Sl} {L P : Int} {v : Value} (h : LsW w wr base b X col s L P v) (hN : Nx wr col w' col') (hS : IsSlab TS w' base b col' s') : LsW w w' base b X col' s' L P v :=
  ⟨below_then_keep h.below h.below.size hN.keep h.cb, hS, blk_keep h.x hN.keep (fun f => f h.x0), h.xw, (hN.cols X (lt_blk h.x)).trans h.x0, fun i hi => by
    rcases Nat.lt_or_ge i wr.heap.size with hl | hl
    · rw [hN.cols i hl] at hi; exact h.cb i hi
    · have := h.below.size; omega, by have := h.bs; have := hN.keep.size; omega⟩
/-- And the last name had, in block Y; behind q of the statement's own Takes. -/
structure LsI (w wr : World) (base b X Y : Nat) (col : Nat → Nat) (s : Sl) (L P : Int) (v : Value) (k q : Nat) (u0 u1 : Int) : Prop where
  l : LsW w wr base b X col s L P v
  y : wr.heap[Y]? = some (.cells #[.int .i64 u0, .int .i64 u1] 48 (0, 0))
  y0 : col Y = 0
  yw : w.heap.size ≤ Y
  wf : Wf s
  lim : s.limit = L
  cl : (s.caches.length : Int) = P
  gn : ∀ i, genAt s i ≤ k
  lv : q ≤ liveS s
  ls : aliveS s u0 u1 = true ∨ (u0 = 0 ∧ u1 = 0)
theorem LsI.then {w wr w' : World} {base b X Y k q : Nat} {col : Nat → Nat} {s : Sl} {L P u0 u1 : Int} {v : Value} (h : LsI w wr base b X Y col s L P v k q u0 u1) (hB : Below wr.heap.size wr w') : LsI w w' base b X Y col s L P v k q u0 u1 :=
  ⟨h.l.then hB, blk_below h.y hB, h.y0, h.yw, h.wf, h.lim, h.cl, h.gn, h.lv, h.ls⟩
theorem LsI.q_le {w wr : World} {base b X Y k q : Nat} {col : Nat → Nat} {s : Sl} {L P u0 u1 : Int} {v : Value} (h : LsI w wr base b X Y col s L P v k q u0 u1) : (q : Int) ≤ L ∧ 1 ≤ L ∧ L ≤ 4096 ∧ 1 ≤ P ∧ P ≤ 64 := by
  have h1 : liveS s ≤ s.alive.length := List.countP_le_length
  have h2 := h.wf.a; have h3 := h.wf.g; have h4 := h.wf.l0; have h5 := h.wf.l1; have h6 := h.wf.c0; have h7 := h.wf.c1
  have h8 := h.lv; have h9 := h.lim; have h10 := h.cl
  omega
theorem LsI.ne {w wr : World} {base b X Y k q : Nat} {col : Nat → Nat} {s : Sl} {L P u0 u1 : Int} {v : Value} (h : LsI w wr base b X Y col s L P v k q u0 u1) : X ≠ Y := by
  rintro rfl
  have h1 := h.l.x
  rw [h.y] at h1
  simp at h1
theorem LsI.set {w wr : World} {base b X Y k q : Nat} {col : Nat → Nat} {s : Sl} {L P u0 u1 n0 n1 : Int} {v : Value} (h : LsI w wr base b X Y col s L P v k q u0 u1) (ha : aliveS s n0 n1 = true) : LsI w ((wr.setCell ⟨Y, 0, none⟩ (.int .i64 n0)).setCell ⟨Y, 1, none⟩ (.int .i64 n1)) base b X Y col s L P v k q n0 n1 := by
  have hk : Keep (fun i => i = Y) wr ((wr.setCell ⟨Y, 0, none⟩ (.int .i64 n0)).setCell ⟨Y, 1, none⟩ (.int .i64 n1)) := (by repeat (first | (with_reducible exact Keep.refl _ _) | (with_reducible refine Keep.drewN ?_ _) | (with_reducible refine Keep.drew ?_) | (with_reducible refine Keep.setCell ?_ _ _ (by first | (right; with_reducible rfl) | (left; simp; done) | (left; simp; omega) | (right; simp; done) | (right; assumption))) | (with_reducible refine Keep.alloc ?_ _)))
  have hy : ((wr.setCell ⟨Y, 0, none⟩ (.int .i64 n0)).setCell ⟨Y, 1, none⟩ (.int .i64 n1)).heap[Y]? = some (.cells #[.int .i64 n0, .int .i64 n1] 48 (0, 0)) := by
    have := blk_set (i := 1) (u := .int .i64 n1) (blk_set (i := 0) (u := .int .i64 n0) h.y)
    simpa using this
  exact ⟨⟨below_then_keep h.l.below h.l.below.size hk (fun i e => by rw [e]; exact h.yw), h.l.sl.keep hk (fun i e => by rw [e]; exact h.y0), blk_keep h.l.x hk h.ne, h.l.xw, h.l.x0, h.l.cb, by have := h.l.bs; have := hk.size; omega⟩, hy, h.y0, h.yw, h.wf, h.lim, h.cl, h.gn, h.lv, .inl ha⟩
/-- What a Take among them answers. -/
def LtP (w : World) (base b X Y : Nat) (L P : Int) (v : Value) (k q : Nat) (u0 u1 : Int) (e : Ending) (w' : World) : Prop :=
  (∃ s col, e = .returned (.tuple #[.agg #[.int .i64 0, .int .i64 0], .int .i64 2]) ∧ LsI w w' base b X Y col s L P v k q u0 u1 ∧ liveS s = s.gens.length ∧ (s.gens.length : Int) = L) ∨
  (∃ s col x g, e = .returned (.tuple #[.agg #[.int .i64 x, .int .i64 g], .int .i64 0]) ∧ LsI w w' base b X Y col s L P v (k + 1) (q + 1) u0 u1 ∧ aliveS s x g = true)
theorem last_take {w wr : World} {base b X Y k q : Nat} {col : Nat → Nat} {s : Sl} {L P u0 u1 : Int} {v : Value} (h : LsI w wr base b X Y col s L P v k q u0 u1) (hk : k < 2147483647) (p : Int) (hp0 : 0 ≤ p) (hp : p < P) : Calls Try.prog 23 #[.pointer (some ⟨b, 0, none⟩), .int .i64 p] wr (LtP w base b X Y L P v k q u0 u1) := by
  obtain ⟨n, rfl⟩ : ∃ n : Nat, p = n := ⟨p.toNat, by omega⟩
  have hn : n < s.caches.length := by have := h.cl; omega
  have hpr : procS s n = true := by simp [procS]; omega
  refine (take_slab (n : Int) wr h.l.bs h.l.sl h.wf.ok).mono ?_
  rintro e w' ⟨col', rfl, hS, hN⟩
  have hy := blk_keep h.y hN.keep (fun f => f h.y0)
  have hy0 := (hN.cols Y (lt_blk h.y)).trans h.y0
  cases hs : (slotS s n).2 with
  | none =>
    obtain ⟨h1, h2, h3, h4, h5, h6, h7⟩ := take_none h.wf hn hs
    have hlf := live_full h.wf h7 (fun i _ => by have := h.gn i; omega)
    rw [takeS_none hpr hs] at hS ⊢
    refine .inl ⟨_, col', rfl, ⟨h.l.slab hN hS, hy, hy0, h.yw, h1, h2.trans h.lim, by rw [h3]; exact h.cl, fun i => ?_, ?_, ?_⟩, ?_, ?_⟩
    · show genAt (slotS s n).1 i ≤ _
      rw [genAt, h4]; exact h.gn i
    · show q ≤ liveS (slotS s n).1
      rw [liveS, h5]; exact h.lv
    · rcases h.ls with hl | hl
      · refine .inl ?_
        show aliveS (slotS s n).1 u0 u1 = true
        rw [aliveS, h4, h5]; exact hl
      · exact .inr hl
    · show liveS (slotS s n).1 = (slotS s n).1.gens.length
      rw [liveS, h5, h4]; exact hlf
    · show ((slotS s n).1.gens.length : Int) = L
      rw [h4, h6, h.lim]
  | some x =>
    have hT := take_some h.wf hn hs
    rw [takeS_some hpr hs] at hS ⊢
    refine .inr ⟨_, col', x, _, rfl, ⟨h.l.slab hN hS, hy, hy0, h.yw, hT.wf, hT.lim.trans h.lim, by rw [hT.cl]; exact h.cl, fun i => ?_, ?_, ?_⟩, (hT.al _ _).2 (.inl ⟨rfl, rfl⟩)⟩
    · rw [hT.gen, hT.ge]
      have := h.gn x.toNat; have := h.gn i
      split <;> omega
    · rw [hT.live]; have := h.lv; omega
    · rcases h.ls with hl | hl
      · refine .inl ((hT.al _ _).2 (.inr ⟨fun e => ?_, hl⟩))
        have := ((aliveS_iff h.wf.a).1 hl).2.1
        rw [e, hT.dead] at this
        cases this
      · exact .inr hl
def LsE (w : World) (base b X Y : Nat) (L P : Int) (v : Value) (k q : Nat) (wr : World) : Prop := ∃ s col u0 u1, LsI w wr base b X Y col s L P v k q u0 u1
set_option maxRecDepth 100000 in
set_option maxHeartbeats 8000000 in
theorem SlabLast0.walk (w : World) (L P : Int) (A : Option Addr) (c : Nat) (ops : List SOp) (f t : Int) (hC : kSOp.C w A ops.length ops) (hc : ops.length ≤ c) (hl : ops.length ≤ 1048576) :
    Calls Try.prog 6 #[.agg #[.int .i64 L, .int .i64 P, .slice A ops.length c], .int .i64 f, .int .i64 t] w fun e w' => e = .returned (.bool true) ∧ Below w.heap.size w w' := by
  have hW : Below w.heap.size w (w.alloc (.cells #[.int .i64 L, .int .i64 P, .slice A ops.length c] 37)) := below_al (Below.refl _ _) _
  have hX : (w.alloc (.cells #[.int .i64 L, .int .i64 P, .slice A ops.length c] 37)).heap[w.heap.size]? = some (.cells #[.int .i64 L, .int .i64 P, .slice A ops.length c] 37 (0, 0)) := blk_new _ _
  have HF := Aside0.mk (fit_any L P (.slice A ops.length c) ⟨_, _, _, rfl⟩ (w.alloc (.cells #[.int .i64 L, .int .i64 P, .slice A ops.length c] 37)))
  have HC := Aside0.mk hC
  have HW := Aside0.mk hW
  have HX := Aside0.mk hX
  have hXl := lt_blk hX
  have hk := fit_ok L P
  clear hC hX hW
  go_enter Try.func6, Try.ntmps6
  go_wp2_with fail
  generalize (w.alloc (.cells #[.int .i64 L, .int .i64 P, .slice A ops.length c] 37)) = W at *
  refine HF.out.mono ?_
  clear HF
  rintro e w1 ⟨rfl, hB1⟩
  generalize fitL L = L' at *
  generalize fitP P = P' at *
  have hX1 := blk_below HX.out hB1
  have hb01 := below_then HW.out hB1
  have x0 := cell_blk hX1 0; have x1 := cell_blk hX1 1; have x2 := cell_blk hX1 2
  have f0 := frozen_blk hX1 0; have f1 := frozen_blk hX1 1; have f2 := frozen_blk hX1 2
  simp at x0 x1 x2
  have hXl1 := lt_blk hX1
  have hst : Keep (fun i => i = w.heap.size) w1 (((w1.setCell ⟨w.heap.size, 0, none⟩ (.int .i64 L')).setCell ⟨w.heap.size, 1, none⟩ (.int .i64 P')).setCell ⟨w.heap.size, 2, none⟩ (.slice A ops.length c)) := (by repeat (first | (with_reducible exact Keep.refl _ _) | (with_reducible refine Keep.drewN ?_ _) | (with_reducible refine Keep.drew ?_) | (with_reducible refine Keep.setCell ?_ _ _ (by first | (right; with_reducible rfl) | (left; simp; done) | (left; simp; omega) | (right; simp; done) | (right; assumption))) | (with_reducible refine Keep.alloc ?_ _)))
  have hX2 : (((w1.setCell ⟨w.heap.size, 0, none⟩ (.int .i64 L')).setCell ⟨w.heap.size, 1, none⟩ (.int .i64 P')).setCell ⟨w.heap.size, 2, none⟩ (.slice A ops.length c)).heap[w.heap.size]? = some (.cells #[.int .i64 L', .int .i64 P', .slice A ops.length c] 37 (0, 0)) := by
    have := blk_set (i := 2) (u := .slice A ops.length c) (blk_set (i := 1) (u := .int .i64 P') (blk_set (i := 0) (u := .int .i64 L') hX1))
    simpa using this
  have hb02 := below_then_keep hb01 hb01.size hst (fun i hi => by omega)
  have HX2 := Aside0.mk hX2
  have HB2 := Aside0.mk hb02
  clear hB1 hX1 hb01 hst hX2 hb02
  go_wp2_with fail
  generalize (((w1.setCell ⟨w.heap.size, 0, none⟩ (.int .i64 L')).setCell ⟨w.heap.size, 1, none⟩ (.int .i64 P')).setCell ⟨w.heap.size, 2, none⟩ (.slice A ops.length c)) = W2 at *
  clear x0 x1 x2 f0 f1 f2 hXl1
  have hs2 := HB2.out.size
  refine (snew_any L' P' W2).mono ?_
  rintro e w3 ⟨hB3, ⟨-, b, col, rfl, hS3, hc3⟩ | ⟨h0, -⟩⟩
  · have hX3 := blk_below HX2.out hB3
    have x0 := cell_blk hX3 0; have x1 := cell_blk hX3 1; have x2 := cell_blk hX3 2
    simp at x0 x1 x2
    have hXl3 := lt_blk hX3
    have HX3 := Aside0.mk hX3
    have HB3 := Aside0.mk hB3
    have HS3 := Aside0.mk hS3
    have HC3 := Aside0.mk hc3
    have HK := Aside0.mk hk
    have hP1 : 1 ≤ P' := (okNew_iff.1 hk).2.2.1
    have hP2 : P' ≤ 64 := (okNew_iff.1 hk).2.2.2
    obtain ⟨bd, hbd⟩ : ∃ bd : Bool, bd = (decide (f < 0) || (decide (P' ≤ f) || (decide (t < 0) || decide (P' ≤ t)))) := ⟨_, rfl⟩
    have HBD := Aside0.mk hbd
    clear hX3 hB3 hS3 hc3 hk hbd
    go_upto_region 5 with fail
    go_cut [47] (fun s47 wx => s47 = .bool bd ∧ w3 = wx)
    case first =>
      by_cases c1 : f < 0
      · obtain rfl : bd = true := by rw [HBD.out]; simp [c1]
        go_wp2_with fail
        go_meet
        exact ⟨rfl, rfl⟩
      · by_cases c2 : P' ≤ f
        · obtain rfl : bd = true := by rw [HBD.out]; simp [c2]
          go_wp2_with fail
          go_meet
          exact ⟨rfl, rfl⟩
        · by_cases c3 : t < 0
          · obtain rfl : bd = true := by rw [HBD.out]; simp [c3]
            go_wp2_with fail
            go_meet
            exact ⟨rfl, rfl⟩
          · by_cases c4 : P' ≤ t
            · obtain rfl : bd = true := by rw [HBD.out]; simp [c4]
              go_wp2_with fail
              go_meet
              exact ⟨rfl, rfl⟩
            · obtain rfl : bd = false := by rw [HBD.out]; simp; omega
              go_wp2_with fail
              go_meet
              exact ⟨rfl, rfl⟩
    case rest =>
      obtain ⟨rfl, rfl⟩ := hcut
      go_upto_if 47 with fail
      go_cut [1, 2] (fun s1 s2 wx => ∃ f t : Nat, s1 = .int .i64 f ∧ s2 = .int .i64 t ∧ (f : Int) < P' ∧ (t : Int) < P' ∧ Below w3.heap.size w3 wx)
      case first =>
        cases bd with
        | true =>
          go_wp2_with fail
          go_region
          go_wp2_with fail
          go_meet
          exact ⟨0, (P' - 1).toNat, rfl, by rw [show ((P' - 1).toNat : Int) = P' - 1 by omega], by omega, by omega, (Below.refl _ _).drew⟩
        | false =>
          have hr := HBD.out
          simp at hr
          go_wp2_with fail
          go_meet
          exact ⟨f.toNat, t.toNat, by rw [show (f.toNat : Int) = f by omega], by rw [show (t.toNat : Int) = t by omega], by omega, by omega, Below.refl _ _⟩
      case rest =>
        obtain ⟨f', t', rfl, rfl, hf', ht', hBc⟩ := hcut
        have hX4 := blk_below HX3.out hBc
        have hB4 := below_then HB3.out hBc
        have hS4 := HS3.out.below hBc
        clear x0 x1 x2 hXl3
        have x0 := cell_blk hX4 0; have x1 := cell_blk hX4 1; have x2 := cell_blk hX4 2
        simp at x0 x1 x2
        have hXl4 := lt_blk hX4
        have HT := names_any W2 wc b col L' P' A c ops hB4 hS4 HK.out (Kd.C_below HC.out HB2.out) hc hl
        have hz4 := hS4.z
        clear hX4
        --MARK1
        go_wp2_with fail
        refine HT.mono ?_
        clear HT
        rintro e w4 hNP
        obtain ⟨vh, va, s, had, book, col4, rfl, hA4⟩ := after_names hB4 hz4 HC3.out hNP
        have hX5 := blk_below HX2.out hA4.below
        have hL5 : LsW w w4 W2.heap.size b w.heap.size col4 s L' P' (.slice A ops.length c) := ⟨below_then HB2.out hA4.below, hA4.sl, hX5, Nat.le_refl _, by
          rcases Nat.eq_zero_or_pos (col4 w.heap.size) with h | h
          · exact h
          · have := hA4.cb _ (Nat.ne_of_gt h); have := lt_blk HX2.out; omega, fun i hi => by have := hA4.cb i hi; omega, hA4.bs⟩
        have HI := Aside0.mk hA4.i
        have HL5 := Aside0.mk hL5
        clear hNP hz4 x0 x1 x2 hXl4 hB4 hS4 hA4 hX5 hL5
        --MARK2
        have hI5 : LsI w (w4.alloc (.cells #[.int .i64 0, .int .i64 0] 48)) W2.heap.size b w.heap.size w4.heap.size col4 s L' P' (.slice A ops.length c) ops.length 0 0 0 :=
          ⟨HL5.out.then (below_al (Below.refl _ _) _), blk_new _ _, HL5.out.sl.z _ (Nat.le_refl _), HL5.out.below.size, HI.out.wf, HI.out.lim, HI.out.cl, HI.out.gn, Nat.zero_le _, .inr ⟨rfl, rfl⟩⟩
        have HI5 := Aside0.mk hI5
        clear hI5 HL5 HI
        go_wp2_with fail
        --MARK3
        generalize (w4.alloc (.cells #[.int .i64 0, .int .i64 0] 48)) = W5 at *
        obtain ⟨Y, hY⟩ : ∃ Y, w4.heap.size = Y := ⟨_, rfl⟩
        rw [hY] at HI5 ⊢
        go_loopw [11, 13] (fun ok i wr => ∃ q : Nat, ok = .bool true ∧ i = .int .i64 q ∧ Aside0 (LsE w W2.heap.size b w.heap.size Y L' P' (.slice A ops.length c) (ops.length + q) q wr)) (fun _ i _ => 5000 - (intOf i).toNat)
        case atStart => exact ⟨0, rfl, rfl, ⟨⟨s, col4, 0, 0, HI5.out⟩⟩⟩
        case round =>
          clear HI5
          obtain ⟨q, rfl, rfl, HE⟩ := hrel
          obtain ⟨s6, col6, u0, u1, hI⟩ := HE.out
          obtain ⟨hq, hL1, hL2, -, -⟩ := hI.q_le
          have x0 := cell_blk hI.l.x 0; have x1 := cell_blk hI.l.x 1
          simp at x0 x1
          have hTk := last_take hI (by omega) ((q : Int) % P') (Int.emod_nonneg _ (by omega)) (Int.emod_lt_of_pos _ (by omega))
          clear HE hI
          go_wp2_with fail
          --MARK4
          refine hTk.mono ?_
          clear hTk x0 x1
          rintro e w7 (⟨s7, col7, rfl, hI7, hlv, hgl⟩ | ⟨s7, col7, x, g, rfl, hI7, hal⟩)
          · have HI8 := Aside0.mk (hI7.then (below_al (Below.refl _ _) (.cells #[.int .i64 0, .int .i64 0] 48)))
            have x0 := cell_blk hI7.l.x 0
            simp at x0
            have hXl := lt_blk hI7.l.x
            have HLV := Aside0.mk hlv
            have HGL := Aside0.mk hgl
            clear hI7 hlv hgl
            go_wp2_with fail
            --MARK5
            generalize (w7.alloc (.cells #[.int .i64 0, .int .i64 0] 48)) = w8 at *
            clear x0 hXl
            have x0 := cell_blk HI8.out.l.x 0; have y0 := cell_blk HI8.out.y 0; have y1 := cell_blk HI8.out.y 1
            simp at x0 y0 y1
            have hLive : ∀ n, Calls Try.prog 21 #[.pointer (some ⟨b, 0, none⟩)] (w8.drewN n) fun e w' => e = .returned (.int .i64 L') ∧ w' = w8.drewN n := fun n => by
              have := live_same (w8.drewN n) (HI8.out.l.sl.below (by repeat (first | (with_reducible exact Below.refl _ _) | (with_reducible refine Below.drew ?_) | (with_reducible refine below_drewN ?_ _) | (with_reducible refine below_al ?_ _) | (with_reducible refine Below.alloc ?_ (by first | exact Nat.le_refl _ | omega | (simp; done) | (simp; omega)) _) | (with_reducible refine Below.setCell ?_ (by first | (simp only []; omega) | (simp; done) | (simp; omega)) _)))) HI8.out.wf.l0 (by have := HI8.out.wf.a; have := HGL.out; omega)
              rw [HLV.out, HGL.out] at this
              exact this
            have HLive := Aside0.mk hLive
            clear hLive
            go_quiet ((go_at_call 21; exact Calls.quiet_of_same (HLive.out _)))
            go_wp2_with fail
            --MARK6
            have hI9 : LsI w (w8.drewN nq) W2.heap.size b w.heap.size Y col7 s7 L' P' (.slice A ops.length c) (ops.length + q) q u0 u1 := HI8.out.then (by repeat (first | (with_reducible exact Below.refl _ _) | (with_reducible refine Below.drew ?_) | (with_reducible refine below_drewN ?_ _) | (with_reducible refine below_al ?_ _) | (with_reducible refine Below.alloc ?_ (by first | exact Nat.le_refl _ | omega | (simp; done) | (simp; omega)) _) | (with_reducible refine Below.setCell ?_ (by first | (simp only []; omega) | (simp; done) | (simp; omega)) _)))
            have HI9 := Aside0.mk hI9
            clear hI9 x0 y0 y1
            generalize w8.drewN nq = w9 at *
            refine (alive_slab u0 u1 w9 HI9.out.l.sl HI9.out.wf.l0 HI9.out.wf.a).mono ?_
            rintro e w10 ⟨rfl, hB10⟩
            have HI10 := Aside0.mk (HI9.out.then hB10)
            clear hB10 HI9
            have y0 := cell_blk HI10.out.y 0; have y1 := cell_blk HI10.out.y 1
            simp at y0 y1
            cases hal : aliveS s7 u0 u1 with
            | false =>
              obtain ⟨rfl, rfl⟩ : u0 = 0 ∧ u1 = 0 := by
                rcases HI10.out.ls with h | h
                · rw [hal] at h; cases h
                · exact h
              clear hal
              go_wp2
              go_ret
              exact ⟨rfl, HI10.out.l.below⟩
            | true =>
              have hfn : f' < s7.caches.length := by have := HI10.out.cl; omega
              obtain ⟨hGR, h0⟩ := give_alive HI10.out.wf hfn hal
              obtain ⟨hu0, -, hug⟩ := (aliveS_iff HI10.out.wf.a).1 hal
              have hgn := HI10.out.gn u0.toNat
              rw [hug] at hgn
              have hg := give_slab (f' : Int) u0 u1 w10 HI10.out.l.bs HI10.out.l.sl HI10.out.wf.ok HI10.out.wf.cl
              have hu1 : 0 ≤ u1 := by
                have h1 := HI10.out.wf.a
                rcases Nat.lt_or_ge u0.toNat s7.gens.length with h | h
                · have := (HI10.out.wf.gm _ h).1; rw [hug] at this; exact this
                · rw [genAt, getD_none h] at hug; omega
              have hag := again (p := t') HI10.out.wf HLV.out (by rw [HGL.out, HI10.out.lim]) hGR hal (by omega) (by have := HI10.out.cl; omega)
              have hdead : aliveS (giveS s7 f' u0 u1).1 u0 u1 = false := by
                cases h : aliveS (giveS s7 f' u0 u1).1 u0 u1 with
                | false => rfl
                | true => exact absurd rfl ((hGR.al _ _).1 h).2
              have hpt : t' < (giveS s7 f' u0 u1).1.caches.length := by rw [hGR.cl]; have := HI10.out.cl; omega
              have hpr : procS (giveS s7 f' u0 u1).1 t' = true := by simp [procS]; omega
              have hT := take_some hGR.wf hpt hag
              have hTk := takeS_some hpr hag
              rw [hT.ge, genAt, hGR.gen, ← genAt, hug] at hTk
              have HGR := Aside0.mk hGR
              have HDE := Aside0.mk hdead
              have HTK := Aside0.mk hTk
              have hq2 : (q : Int) ≤ 4096 := by omega
              have hu2 : u1 ≤ 2000000 := by omega
              clear hal hGR hdead hTk hT hag hug hgn hpt hpr hfn
              go_wp2_with fail
              refine hg.mono ?_
              clear hg
              rintro e w11 ⟨col11, rfl, hS11, hN11⟩
              rw [h0]
              have HL11 := Aside0.mk (HI10.out.l.slab hN11 hS11)
              have hy11 := blk_keep HI10.out.y hN11.keep (fun f => f HI10.out.y0)
              have HY0 := Aside0.mk ((hN11.cols Y (lt_blk HI10.out.y)).trans HI10.out.y0)
              have HY11 := Aside0.mk hy11
              clear y0 y1 h0 hN11 hS11 hy11
              have y0 := cell_blk HY11.out 0; have y1 := cell_blk HY11.out 1
              simp at y0 y1
              generalize (giveS s7 f' u0 u1).1 = s11 at *
              have hA := alive_slab u0 u1 w11 HL11.out.sl HGR.out.wf.l0 HGR.out.wf.a
              rw [HDE.out] at hA
              go_wp2_with fail
              refine hA.mono ?_
              clear hA
              rintro e w12 ⟨rfl, hB12⟩
              have HL12 := Aside0.mk (HL11.out.then hB12)
              have HY12 := Aside0.mk (blk_below HY11.out hB12)
              clear hB12 y0 y1
              have y0 := cell_blk HY12.out 0; have y1 := cell_blk HY12.out 1
              simp at y0 y1
              have hTa := take_slab (t' : Int) w12 HL12.out.bs HL12.out.sl HGR.out.wf.ok
              go_wp2_with fail
              refine hTa.mono ?_
              clear hTa
              rintro e w13 ⟨col13, rfl, hS13, hN13⟩
              have hy13 := blk_keep HY12.out hN13.keep (fun f => f HY0.out)
              have HB13 := Aside0.mk (HL12.out.slab hN13 hS13).below
              clear y0 y1 hS13 hN13
              rw [HTK.out]
              have y0 := cell_blk hy13 0; have y1 := cell_blk hy13 1
              simp at y0 y1
              have hYl := lt_blk hy13
              clear hy13
              go_wp2
              --MARK8
              go_ret
              exact ⟨by simp, below_then HB13.out (below_al (Below.refl _ _) _)⟩
          · have HI8 := Aside0.mk ((hI7.set hal).then (below_al (Below.refl _ _) (.cells #[.int .i64 x, .int .i64 g] 48)))
            have y0 := cell_blk hI7.y 0; have y1 := cell_blk hI7.y 1
            have f0 := frozen_blk hI7.y 0; have f1 := frozen_blk hI7.y 1
            simp at y0 y1
            have hYl := lt_blk hI7.y
            clear hI7 hal
            go_wp2_with fail
            --MARK7
            go_roundw
            case rel => exact ⟨q + 1, rfl, by go_num, ⟨⟨s7, col7, x, g, HI8.out⟩⟩⟩
            case measure => simp [intOf]; omega
  · rw [hk] at h0
    cases h0
theorem slabLast.walk (w : World) (cs : Array Value) (x : Int × Int × List SOp) (hK : kScr.K w x cs.toList) (_ : True) (f : Int) (_ : (Lit.int .i64 f).wf = true) (t : Int) (_ : (Lit.int .i64 t).wf = true) (hm' : x.2.2.length + 1 + 1 ≤ 1048576) : Calls Try.prog 6 #[.agg cs, .int .i64 f, .int .i64 t] w fun e w' => e = .returned (.bool true) ∧ Below w.heap.size w w' := by
  obtain ⟨A, c, hcs, hc, hC⟩ := kScr_open hK
  obtain rfl := Array.toList_inj.1 hcs
  exact SlabLast0.walk w x.1 x.2.1 A c x.2.2 f t hC hc (by omega)
theorem slabLast.own : ownKnob Try.prog.godebug = none := by kernel_rfl

end Go.Proofs.Ytnglgjegkjfnaaa
