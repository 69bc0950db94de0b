import Derived.Test.YtjjdojnnomokaaaRCallB
set_option linter.unusedSimpArgs false
set_option linter.unusedVariables false
namespace Go.Proofs.Ytjjdojnnomokaaa
open Go.RowKit Go.ChangeShapes Go.WideShapes Go.ChangeAt Go.Proofs.YtjjdojnnomokaaaW.PrintWords Go.Proofs.YtjjdojnnomokaaaW.PrintMore Go.Proofs.YtjjdojnnomokaaaW.PrintLast
/-! What stays from step to step in the region that steals at the document. -/
theorem held18 {W : World} {R S t t' : Nat} {a0 a1 a2 a3 a4 a5 a6 a7 a8 a9 a10 a11 a12 s0 s1 s2 s3 s4 : Value} (h : W.heap[R]? = some (.cells #[a0, a1, a2, a3, a4, a5, a6, a7, a8, a9, a10, a11, a12] t (0, 0))) (h' : W.heap[S]? = some (.cells #[s0, s1, s2, s3, s4] t' (0, 0))) : W.cell? ⟨R, 0, none⟩ = some a0 ∧ W.cell? ⟨R, 1, none⟩ = some a1 ∧ W.cell? ⟨R, 2, none⟩ = some a2 ∧ W.cell? ⟨R, 3, none⟩ = some a3 ∧ W.cell? ⟨R, 4, none⟩ = some a4 ∧ W.cell? ⟨R, 5, none⟩ = some a5 ∧ W.cell? ⟨R, 6, none⟩ = some a6 ∧ W.cell? ⟨R, 7, none⟩ = some a7 ∧ W.cell? ⟨R, 8, none⟩ = some a8 ∧ W.cell? ⟨R, 9, none⟩ = some a9 ∧ W.cell? ⟨R, 10, none⟩ = some a10 ∧ W.cell? ⟨R, 11, none⟩ = some a11 ∧ W.cell? ⟨R, 12, none⟩ = some a12 ∧ W.cell? ⟨S, 0, none⟩ = some s0 ∧ W.cell? ⟨S, 1, none⟩ = some s1 ∧ W.cell? ⟨S, 2, none⟩ = some s2 ∧ W.cell? ⟨S, 3, none⟩ = some s3 ∧ W.cell? ⟨S, 4, none⟩ = some s4 :=
  ⟨cell_blk h 0, cell_blk h 1, cell_blk h 2, cell_blk h 3, cell_blk h 4, cell_blk h 5, cell_blk h 6, cell_blk h 7, cell_blk h 8, cell_blk h 9, cell_blk h 10, cell_blk h 11, cell_blk h 12, cell_blk h' 0, cell_blk h' 1, cell_blk h' 2, cell_blk h' 3, cell_blk h' 4⟩
/-- The four blocks, the rings, what has turned, the document's rows. -/
structure StA (w : World) (base bm bo N bP bR bS bY : Nat) (cP : Array Value) (tP : Nat) (cR : Array Value) (tR : Nat) (cS : Array Value) (tS : Nat) (cY : Array Value) (tY : Nat) (t2 f2 : Rg) (vm vo : Value) (lm lo : List Wt) (x : World) : Prop where
  P : x.heap[bP]? = some (.cells cP tP (0, 0))
  S : x.heap[bS]? = some (.cells cS tS (0, 0))
  R : x.heap[bR]? = some (.cells cR tR (0, 0))
  Y : x.heap[bY]? = some (.cells cY tY (0, 0))
  I : IsRing x bm t2
  J : IsRing x bo f2
  K : Keep (fun i => i = bm ∨ i = bo) w x
  m : kW.R 27 x base (fun k => k < N) vm lm
  o : kW.R 27 x base (fun k => k < N) vo lo
/-- Behind the region's memory: three new blocks, the two lists that the document's Steal answers. -/
def StF (w : World) (base bm bo N bP bR bS bY : Nat) (cP : Array Value) (tP : Nat) (cR : Array Value) (tR : Nat) (cS : Array Value) (tS : Nat) (cY : Array Value) (tY : Nat) (t2 f2 : Rg) (c0 : Array Value) (t0 : Nat) (c1 : Array Value) (t1 : Nat) (c3 : Array Value) (t3 : Nat) (g0 g1 g2 : Nat) (vf vt : Value) (lf lt : List Wt) (x : World) : Prop :=
  x.heap[g0]? = some (.cells c0 t0 (0, 0)) ∧ x.heap[g1]? = some (.cells c1 t1 (0, 0)) ∧ x.heap[g2]? = some (.cells c3 t3 (0, 0)) ∧ g0 ≠ g1 ∧ g0 ≠ g2 ∧ g1 ≠ g2 ∧ N ≤ g0 ∧ N ≤ g1 ∧ N ≤ g2 ∧ N ≤ x.heap.size ∧ x.heap[bP]? = some (.cells cP tP (0, 0)) ∧ x.heap[bR]? = some (.cells cR tR (0, 0)) ∧ x.heap[bY]? = some (.cells cY tY (0, 0)) ∧ IsRing x bm t2 ∧ IsRing x bo f2 ∧ Keep (fun i => i = bm ∨ i = bo) w x ∧ kW.R 27 x base (fun k => k ≠ g2) vf lf ∧ kW.R 27 x base (fun k => k ≠ g2) vt lt ∧ x.heap[bS]? = some (.cells cS tS (0, 0))
section
variable {w x x' : World} {base bm bo N bP bR bS bY tP tR tS tY t0 t1 t3 g0 g1 g2 : Nat} {cP cR cS cY c0 c1 c3 : Array Value} {t2 f2 : Rg} {vm vo vf vt : Value} {lm lo lf lt : List Wt}
theorem StA.below (h : StA w base bm bo N bP bR bS bY cP tP cR tR cS tS cY tY t2 f2 vm vo lm lo x) (hB : Below x.heap.size x x') : StA w base bm bo N bP bR bS bY cP tP cR tR cS tS cY tY t2 f2 vm vo lm lo x' := by
  obtain ⟨hP, hS, hR, hY, hI, hJ, hK, hm, ho⟩ := h
  exact ⟨blk_below hP hB, blk_below hS hB, blk_below hR hB, blk_below hY hB, hI.below hB, hJ.below hB, hK.trans' (Keep.of_below hB) (G := fun _ => False) (fun _ _ h => h.elim), Kd.R_below hm hB, Kd.R_below ho hB⟩
theorem StA.mkF {ok ok' : Nat → Prop} (h : StA w base bm bo N bP bR bS bY cP tP cR tR cS tS cY tY t2 f2 vm vo lm lo x) (h0 : x.heap[g0]? = some (.cells c0 t0 (0, 0))) (h1 : x.heap[g1]? = some (.cells c1 t1 (0, 0))) (h2 : x.heap[g2]? = some (.cells c3 t3 (0, 0))) (hf : kW.R 27 x base ok vf lf) (ht : kW.R 27 x base ok' vt lt) (hn : g0 ≠ g1 ∧ g0 ≠ g2 ∧ g1 ≠ g2 ∧ N ≤ g0 ∧ N ≤ g1 ∧ N ≤ g2 ∧ N ≤ x.heap.size) (o : ∀ k, ok k → k ≠ g2) (o' : ∀ k, ok' k → k ≠ g2) :
    StF w base bm bo N bP bR bS bY cP tP cR tR cS tS cY tY t2 f2 c0 t0 c1 t1 c3 t3 g0 g1 g2 vf vt lf lt x := by
  obtain ⟨hP, hS, hR, hY, hI, hJ, hK, hm, ho⟩ := h
  obtain ⟨n1, n2, n3, n4, n5, n6, n7⟩ := hn
  exact ⟨h0, h1, h2, n1, n2, n3, n4, n5, n6, n7, hP, hR, hY, hI, hJ, hK, Kd.R_mono hf o, Kd.R_mono ht o', hS⟩
theorem okA {M : Nat} (h : g2 < M) (h' : N ≤ g2) : ∀ k, (k < N ∨ M ≤ k) → k ≠ g2 := fun k hk => by omega
theorem okC {M : Nat} (h : M ≤ g2) : ∀ k, k < M → k ≠ g2 := fun k hk => by omega
theorem newb (X : World) (cs : Array Value) (t : Nat) : ∃ g x', X.alloc (.cells cs t) = x' ∧ X.heap.size = g ∧ Below X.heap.size X x' ∧ Aside0 (x'.heap[g]? = some (.cells cs t (0, 0))) ∧ X.heap.size ≤ g ∧ g < x'.heap.size :=
  ⟨_, _, rfl, rfl, below_al (Below.refl _ _) _, ⟨blk_new _ _⟩, Nat.le_refl _, by simp⟩
end
end Go.Proofs.Ytjjdojnnomokaaa
