import Derived.Test.YtjjdojnnomokaaaRCallT
import Derived.Test.YtjjdojnnomokaaaRTells
set_option linter.unusedSimpArgs false
set_option linter.unusedVariables false
namespace Go.Proofs.Ytjjdojnnomokaaa
open Go.RowKit Go.ChangeShapes Go.WideShapes Go.ChangeAt Go.Proofs.YtjjdojnnomokaaaW.PrintWords Go.Proofs.YtjjdojnnomokaaaW.PrintMore Go.Proofs.YtjjdojnnomokaaaW.PrintLast
/-! Rows of one's own, spoilt. -/
section
variable {w w' W0 : World} {B g c n : Nat} {v v1 : Value} {xs : List Wt} {ok F : Nat → Prop}
theorem own_form (h : kW.R 27 w B ok v xs) : (v = .slice none 0 0 ∧ xs.length = 0) ∨ ∃ g c, v = .slice (some ⟨g, 0, none⟩) xs.length c ∧ B ≤ g ∧ g < w.heap.size := by
  obtain ⟨_, inner, hown, hr⟩ := h
  rcases hown.2 with ⟨rfl, h0⟩ | ⟨g, cap, cur, rfl, hb, hh, hnc, hcm, hcs, _⟩
  · exact .inl ⟨rfl, h0⟩
  · exact .inr ⟨g, cap, rfl, hb, lt_blk hh⟩
theorem own_cells (h : kW.R 27 w B ok (.slice (some ⟨g, 0, none⟩) n c) xs) (i : Nat) (hi : i < n) : ∃ y : Wt, w.cell? ⟨g, i * 3, none⟩ = some (.int .i64 y.s) ∧ w.cell? ⟨g, i * 3 + 1, none⟩ = some (.int .i64 y.g) ∧ w.cell? ⟨g, i * 3 + 2, none⟩ = some (.int .u64 y.t) ∧ (∀ j, w.frozen? ⟨g, j, none⟩ = false) ∧ g < w.heap.size ∧ B ≤ g := by
  obtain ⟨A', c', he, hc', hC⟩ := Kd.R_reads h
  injection he with e1 e2 e3
  subst e1
  subst e2
  obtain ⟨y, hy, e0, e1, e2⟩ := wt_at hC i hi
  rw [Nat.zero_add] at e0 e1 e2
  obtain ⟨_, inner, hown, hr⟩ := h
  rcases hown.2 with ⟨he, h0⟩ | ⟨g', cap, cur, he, hb, hh, hnc, hcm, hcs, _⟩
  · cases he
  · injection he with e1 _ _
    injection e1 with e1
    injection e1 with e1 _
    subst e1
    exact ⟨y, e0, e1, e2, fun j => frozen_blk hh j, lt_blk hh, hb⟩
theorem own_set (h : kW.R 27 w B ok (.slice (some ⟨g, 0, none⟩) n c) xs) (i : Nat) (hi : i < n) (x : Wt) :
    kW.R 27 (((w.setCell ⟨g, i * 3, none⟩ (.int .i64 x.s)).setCell ⟨g, i * 3 + 1, none⟩ (.int .i64 x.g)).setCell ⟨g, i * 3 + 2, none⟩ (.int .u64 x.t)) B ok (.slice (some ⟨g, 0, none⟩) n c) (xs.set i x) ∧ Keep (fun k => k = g) w (((w.setCell ⟨g, i * 3, none⟩ (.int .i64 x.s)).setCell ⟨g, i * 3 + 1, none⟩ (.int .i64 x.g)).setCell ⟨g, i * 3 + 2, none⟩ (.int .u64 x.t)) := by
  obtain ⟨A', c', he, hc', hC⟩ := Kd.R_reads h
  injection he with e1 e2 e3
  subst e1
  subst e2
  obtain ⟨y, hy, e0, e1, e2⟩ := wt_at hC i hi
  rw [Nat.zero_add] at e0 e1 e2
  have hs := Kd.R_seg (okp := fun _ => False) h (i : Int) (by omega) (by omega) (c := [.int .i64 y.s, .int .i64 y.g, .int .u64 y.t]) (seg := [.int .i64 x.s, .int .i64 x.g, .int .u64 x.t]) (j := 0) rfl (fun j u hj => by
    rw [Int.toNat_natCast]
    match j, hj with
    | 0, hj => simp only [List.getElem?_cons_zero] at hj; injection hj with hj; subst hj; exact e0
    | 1, hj => simp only [List.getElem?_cons_succ, List.getElem?_cons_zero] at hj; injection hj with hj; subst hj; exact e1
    | 2, hj => simp only [List.getElem?_cons_succ, List.getElem?_cons_zero] at hj; injection hj with hj; subst hj; exact e2
    | j + 3, hj => simp at hj) (Nat.le_refl 3) (x' := x) (kW_mkM _ _ _ _) (fun k h => h.elim)
  rw [Int.toNat_natCast] at hs
  exact ⟨hs.1, (by repeat (first | (with_reducible exact Keep.refl _ _) | (with_reducible refine Keep.drewN ?_ _) | (with_reducible refine Keep.drew ?_) | (with_reducible refine Keep.setCell ?_ _ _ (by first | (right; with_reducible rfl) | (left; simp; done) | (left; simp; omega) | (right; simp; done) | (right; assumption))) | (with_reducible refine Keep.alloc ?_ _)))⟩
/-- A row of a given length, in memory that is newer than W0's; and nothing older has turned. -/
structure Sp (W0 : World) (v : Value) (n : Nat) (w : World) : Prop where
  r : ∃ xs, xs.length = n ∧ kW.R 27 w W0.heap.size (fun _ => True) v xs
  b : Below W0.heap.size W0 w
theorem Sp.set (h : Sp W0 (.slice (some ⟨g, 0, none⟩) n c) n w) (i : Nat) (hi : i < n) (x : Wt) : Sp W0 (.slice (some ⟨g, 0, none⟩) n c) n (((w.setCell ⟨g, i * 3, none⟩ (.int .i64 x.s)).setCell ⟨g, i * 3 + 1, none⟩ (.int .i64 x.g)).setCell ⟨g, i * 3 + 2, none⟩ (.int .u64 x.t)) := by
  obtain ⟨xs, hx, hr⟩ := h.r
  obtain ⟨h1, h2⟩ := own_set hr i hi x
  obtain ⟨y, -, -, -, -, -, hb⟩ := own_cells hr i hi
  exact ⟨⟨_, by rw [List.length_set, hx], h1⟩, below_then_keep h.b h.b.size h2 (fun k e => by subst e; exact hb)⟩
theorem Sp.store {t : Nat} {cs : Array Value} (h : Sp W0 v n w) (hg : w.heap[g]? = some (.cells cs t (0, 0))) (ht : 27 ≠ t) (hG : W0.heap.size ≤ g) (k : Keep (fun i => i = g) w w') : Sp W0 v n w' := by
  obtain ⟨xs, hx, hr⟩ := h.r
  exact ⟨⟨xs, hx, R_keepT hr hg ht k⟩, below_then_keep h.b h.b.size k (fun i e => by subst e; exact hG)⟩
theorem Sp.then (h : Sp W0 v n w) (hB : Below w.heap.size w w') : Sp W0 v n w' := by
  obtain ⟨xs, hx, hr⟩ := h.r
  exact ⟨⟨xs, hx, Kd.R_below hr hB⟩, below_then h.b hB⟩
theorem Sp.app {xs : List Wt} {y : Wt} (h : Sp W0 v n w) (hx : xs.length = n) (ho : kW.R 27 w' W0.heap.size (fun _ => True) v1 (xs ++ [y])) (hg : w.grownBy w' v.ownBlock) (hb : ∀ k, v.ownBlock = some k → W0.heap.size ≤ k) : Sp W0 v1 (n + 1) w' :=
  ⟨⟨_, by rw [List.length_append, hx]; rfl, ho⟩, below_then_keep h.b h.b.size (F := fun k => v.ownBlock = some k) ⟨hg.os, hg.tape, hg.output, hg.size, fun k hk hn => hg.block k hk (fun e => hn e.symm)⟩ hb⟩
/-- The like, where the row is the only thing that turned. -/
structure SpK (W0 : World) (B : Nat) (v : Value) (n : Nat) (w : World) : Prop where
  r : ∃ xs, xs.length = n ∧ kW.R 27 w B (fun _ => True) v xs
  k : Keep (fun k => v.ownBlock = some k) W0 w
theorem SpK.set (h : SpK W0 B (.slice (some ⟨g, 0, none⟩) n c) n w) (i : Nat) (hi : i < n) (x : Wt) : SpK W0 B (.slice (some ⟨g, 0, none⟩) n c) n (((w.setCell ⟨g, i * 3, none⟩ (.int .i64 x.s)).setCell ⟨g, i * 3 + 1, none⟩ (.int .i64 x.g)).setCell ⟨g, i * 3 + 2, none⟩ (.int .u64 x.t)) := by
  obtain ⟨xs, hx, hr⟩ := h.r
  obtain ⟨h1, h2⟩ := own_set hr i hi x
  exact ⟨⟨_, by rw [List.length_set, hx], h1⟩, h.k.trans (h2.mono (fun k _ e => by subst e; simp [Value.ownBlock]))⟩
theorem own_ne {t : Nat} {cs : Array Value} (h : kW.R 27 w B ok v xs) (hg : w.heap[g]? = some (.cells cs t (0, 0))) (ht : 27 ≠ t) : ¬ v.ownBlock = some g := fun e => by
  obtain ⟨_, inner, hown, hr⟩ := h
  rcases hown.2 with ⟨rfl, h0⟩ | ⟨g', cap, cur, rfl, hb, hh, hnc, hcm, hcs, _⟩
  · simp [Value.ownBlock] at e
  · obtain rfl : g' = g := by simpa [Value.ownBlock] using e
    rw [hg] at hh
    injection hh with hh
    injection hh with _ hh
    exact ht hh.symm
theorem own_base (h : kW.R 27 w B ok v xs) : ∀ k, v.ownBlock = some k → B ≤ k := fun k e => ((Kd.R_bound h).1 k e).2.1
end
end Go.Proofs.Ytjjdojnnomokaaa
