import Derived.Test.YtjjdojnnomokaaaRCallB
import Derived.Test.YtjjdojnnomokaaaRCallC
import Derived.Test.YtjjdojnnomokaaaRCallD
set_option linter.unusedSimpArgs false
set_option linter.unusedVariables false
namespace Go.Proofs.Ytjjdojnnomokaaa
open Go.RowKit Go.ChangeShapes Go.WideShapes Go.ChangeAt Go.Proofs.YtjjdojnnomokaaaW.PrintWords Go.Proofs.YtjjdojnnomokaaaW.PrintMore Go.Proofs.YtjjdojnnomokaaaW.PrintLast
/-! rotalaw02.calls, whichever: printed by gen02e.py. -/
theorem calls_any0 (base bm bo : Nat) (Am : Option Addr) (cm : Nat) (Ao : Option Addr) (co : Nat) (rm ro : Rg) (d : Int) (x : Wt) (w : World) (h : PQ w base bm bo Am cm Ao co rm ro rm ro) :
    Calls Try.prog 28 #[.agg #[.pointer (some ⟨bm, 0, none⟩), .pointer (some ⟨bo, 0, none⟩), .slice Am rm.l.length cm, .bool rm.has, .int .i64 rm.nx.s, .int .i64 rm.nx.g, .int .u64 rm.nx.t, .slice Ao ro.l.length co, .bool ro.has, .int .i64 ro.nx.s, .int .i64 ro.nx.g, .int .u64 ro.nx.t, .int .i64 0], .agg #[.int .i64 d, .int .i64 x.s, .int .i64 x.g, .int .u64 x.t]] w (CallsP0 base bm bo w) := by
  rcases (show d = 0 ∨ d = 1 ∨ d = 2 ∨ d = 3 ∨ d = 4 ∨ d = 5 ∨ d = 6 ∨ (d ≠ 0 ∧ d ≠ 1 ∧ d ≠ 2 ∧ d ≠ 3 ∧ d ≠ 4 ∧ d ≠ 5 ∧ d ≠ 6) by omega) with rfl | rfl | rfl | rfl | rfl | rfl | rfl | hd
  · exact calls_put0 base bm bo Am cm Ao co rm ro x w h
  · exact calls_rdy0 base bm bo Am cm Ao co rm ro x w h
  · exact calls_kick0 base bm bo Am cm Ao co rm ro x w h
  · exact calls_take0 base bm bo Am cm Ao co rm ro x w h
  · exact calls_drain0 base bm bo Am cm Ao co rm ro x w h
  · exact calls_steal0 base bm bo Am cm Ao co rm ro x w h
  · exact calls_other0 base bm bo Am cm Ao co rm ro x w h
  · exact calls_none0 base bm bo Am cm Ao co rm ro x w h d hd
theorem calls_any1 (base bm bo : Nat) (Am : Option Addr) (cm : Nat) (Ao : Option Addr) (co : Nat) (rm ro : Rg) (d : Int) (x : Wt) (w : World) (h : PQ w base bm bo Am cm Ao co rm ro rm ro) :
    Calls Try.prog 28 #[.agg #[.pointer (some ⟨bo, 0, none⟩), .pointer (some ⟨bm, 0, none⟩), .slice Ao ro.l.length co, .bool ro.has, .int .i64 ro.nx.s, .int .i64 ro.nx.g, .int .u64 ro.nx.t, .slice Am rm.l.length cm, .bool rm.has, .int .i64 rm.nx.s, .int .i64 rm.nx.g, .int .u64 rm.nx.t, .int .i64 1], .agg #[.int .i64 d, .int .i64 x.s, .int .i64 x.g, .int .u64 x.t]] w (CallsP1 base bm bo w) := by
  rcases (show d = 0 ∨ d = 1 ∨ d = 2 ∨ d = 3 ∨ d = 4 ∨ d = 5 ∨ d = 6 ∨ (d ≠ 0 ∧ d ≠ 1 ∧ d ≠ 2 ∧ d ≠ 3 ∧ d ≠ 4 ∧ d ≠ 5 ∧ d ≠ 6) by omega) with rfl | rfl | rfl | rfl | rfl | rfl | rfl | hd
  · exact calls_put1 base bm bo Am cm Ao co rm ro x w h
  · exact calls_rdy1 base bm bo Am cm Ao co rm ro x w h
  · exact calls_kick1 base bm bo Am cm Ao co rm ro x w h
  · exact calls_take1 base bm bo Am cm Ao co rm ro x w h
  · exact calls_drain1 base bm bo Am cm Ao co rm ro x w h
  · exact calls_steal1 base bm bo Am cm Ao co rm ro x w h
  · exact calls_other1 base bm bo Am cm Ao co rm ro x w h
  · exact calls_none1 base bm bo Am cm Ao co rm ro x w h d hd
def CallsT (base b0 b1 : Nat) (w : World) (e : Ending) (w' : World) : Prop := ∃ (A0 : Option Addr) (c0 : Nat) (A1 : Option Addr) (c1 : Nat) (r0 r1 : Rg) (k : Int), e = .returned (.tuple #[.agg #[.pointer (some ⟨b0, 0, none⟩), .pointer (some ⟨b1, 0, none⟩), .slice A0 r0.l.length c0, .bool r0.has, .int .i64 r0.nx.s, .int .i64 r0.nx.g, .int .u64 r0.nx.t, .slice A1 r1.l.length c1, .bool r1.has, .int .i64 r1.nx.s, .int .i64 r1.nx.g, .int .u64 r1.nx.t, .int .i64 k], .bool true]) ∧ PQ w' base b0 b1 A0 c0 A1 c1 r0 r1 r0 r1 ∧ (k = 0 ∨ k = 1) ∧ Keep (fun i => i = b0 ∨ i = b1) w w'
theorem calls_top (base b0 b1 : Nat) (A0 : Option Addr) (c0 : Nat) (A1 : Option Addr) (c1 : Nat) (r0 r1 : Rg) (n d : Int) (hn : n = 0 ∨ n = 1) (x : Wt) (w : World) (h : PQ w base b0 b1 A0 c0 A1 c1 r0 r1 r0 r1) :
    Calls Try.prog 28 #[.agg #[.pointer (some ⟨b0, 0, none⟩), .pointer (some ⟨b1, 0, none⟩), .slice A0 r0.l.length c0, .bool r0.has, .int .i64 r0.nx.s, .int .i64 r0.nx.g, .int .u64 r0.nx.t, .slice A1 r1.l.length c1, .bool r1.has, .int .i64 r1.nx.s, .int .i64 r1.nx.g, .int .u64 r1.nx.t, .int .i64 n], .agg #[.int .i64 d, .int .i64 x.s, .int .i64 x.g, .int .u64 x.t]] w (CallsT base b0 b1 w) := by
  rcases hn with rfl | rfl
  · exact (calls_any0 base b0 b1 A0 c0 A1 c1 r0 r1 d x w h).mono fun e w' ⟨Am, cm, Ao, co, rm, ro, k, he, hq, hk, hK⟩ => ⟨Am, cm, Ao, co, rm, ro, k, he, hq, hk, hK⟩
  · exact (calls_any1 base b1 b0 A1 c1 A0 c0 r1 r0 d x w h.swap).mono fun e w' ⟨Am, cm, Ao, co, rm, ro, k, he, hq, hk, hK⟩ => ⟨Ao, co, Am, cm, ro, rm, k, he, hq.swap, hk, hK.mono (fun _ _ h => h.symm)⟩
/-- What the laws keep from round to round: the pair in block G. -/
structure LP (w wr : World) (base b0 b1 G : Nat) (A0 : Option Addr) (c0 : Nat) (A1 : Option Addr) (c1 : Nat) (r0 r1 : Rg) (n : Int) : Prop where
  below : Below w.heap.size w wr
  q : PQ wr base b0 b1 A0 c0 A1 c1 r0 r1 r0 r1
  blk : wr.heap[G]? = some (.cells #[.pointer (some ⟨b0, 0, none⟩), .pointer (some ⟨b1, 0, none⟩), .slice A0 r0.l.length c0, .bool r0.has, .int .i64 r0.nx.s, .int .i64 r0.nx.g, .int .u64 r0.nx.t, .slice A1 r1.l.length c1, .bool r1.has, .int .i64 r1.nx.s, .int .i64 r1.nx.g, .int .u64 r1.nx.t, .int .i64 n] 55 (0, 0))
  n01 : n = 0 ∨ n = 1
  w0 : w.heap.size ≤ b0
  w1 : w.heap.size ≤ b1
  wG : w.heap.size ≤ G
  n0 : b0 ≠ G
  n1 : b1 ≠ G
theorem LP.then {w wr w' : World} {base b0 b1 G c0 c1 : Nat} {A0 A1 : Option Addr} {r0 r1 : Rg} {n : Int} (h : LP w wr base b0 b1 G A0 c0 A1 c1 r0 r1 n) (hB : Below wr.heap.size wr w') : LP w w' base b0 b1 G A0 c0 A1 c1 r0 r1 n :=
  ⟨below_then h.below hB, h.q.below hB, blk_below h.blk hB, h.n01, h.w0, h.w1, h.wG, h.n0, h.n1⟩
theorem blk_set13 {w : World} {b t : Nat} {a0 a1 a2 a3 a4 a5 a6 a7 a8 a9 a10 a11 a12 v0 v1 v2 v3 v4 v5 v6 v7 v8 v9 v10 v11 v12 : Value} (h : w.heap[b]? = some (.cells #[a0, a1, a2, a3, a4, a5, a6, a7, a8, a9, a10, a11, a12] t (0, 0))) : (((((((((((((w.setCell ⟨b, 0, none⟩ v0).setCell ⟨b, 1, none⟩ v1).setCell ⟨b, 2, none⟩ v2).setCell ⟨b, 3, none⟩ v3).setCell ⟨b, 4, none⟩ v4).setCell ⟨b, 5, none⟩ v5).setCell ⟨b, 6, none⟩ v6).setCell ⟨b, 7, none⟩ v7).setCell ⟨b, 8, none⟩ v8).setCell ⟨b, 9, none⟩ v9).setCell ⟨b, 10, none⟩ v10).setCell ⟨b, 11, none⟩ v11).setCell ⟨b, 12, none⟩ v12).heap[b]? = some (.cells #[v0, v1, v2, v3, v4, v5, v6, v7, v8, v9, v10, v11, v12] t (0, 0)) := by
  have h1 := (blk_set (i := 12) (u := v12) (blk_set (i := 11) (u := v11) (blk_set (i := 10) (u := v10) (blk_set (i := 9) (u := v9) (blk_set (i := 8) (u := v8) (blk_set (i := 7) (u := v7) (blk_set (i := 6) (u := v6) (blk_set (i := 5) (u := v5) (blk_set (i := 4) (u := v4) (blk_set (i := 3) (u := v3) (blk_set (i := 2) (u := v2) (blk_set (i := 1) (u := v1) (blk_set (i := 0) (u := v0) h)))))))))))))
  simpa using h1
/-- A call, and the pair that it tells stored at G. -/
theorem LP.called {w wr w1 w' : World} {base b0 b1 G c0 c1 c0' c1' : Nat} {A0 A1 A0' A1' : Option Addr} {r0 r1 r0' r1' : Rg} {n n' : Int} (h : LP w wr base b0 b1 G A0 c0 A1 c1 r0 r1 n) (hq : PQ w1 base b0 b1 A0' c0' A1' c1' r0' r1' r0' r1') (hn : n' = 0 ∨ n' = 1) (hK : Keep (fun i => i = b0 ∨ i = b1) wr w1)
    (k : Keep (fun i => i = G) w1 w') (hG : w'.heap[G]? = some (.cells #[.pointer (some ⟨b0, 0, none⟩), .pointer (some ⟨b1, 0, none⟩), .slice A0' r0'.l.length c0', .bool r0'.has, .int .i64 r0'.nx.s, .int .i64 r0'.nx.g, .int .u64 r0'.nx.t, .slice A1' r1'.l.length c1', .bool r1'.has, .int .i64 r1'.nx.s, .int .i64 r1'.nx.g, .int .u64 r1'.nx.t, .int .i64 n'] 55 (0, 0))) : LP w w' base b0 b1 G A0' c0' A1' c1' r0' r1' n' := by
  have h0 := h.w0
  have h1 := h.w1
  have h2 := h.wG
  have hG1 := blk_keep h.blk hK (show ¬ (G = b0 ∨ G = b1) by have := h.n0; have := h.n1; omega)
  exact ⟨below_then_keep (below_then_keep h.below h.below.size hK (fun i hi => by omega)) (Nat.le_trans h.below.size hK.size) k (fun i hi => by omega), hq.store hG1 (by decide) h.n0 h.n1 k, hG, hn, h.w0, h.w1, h.wG, h.n0, h.n1⟩
end Go.Proofs.Ytjjdojnnomokaaa
