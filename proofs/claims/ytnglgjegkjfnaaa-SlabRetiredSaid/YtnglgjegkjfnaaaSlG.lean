import Derived.Test.YtnglgjegkjfnaaaSlF
set_option linter.unusedSimpArgs false
set_option linter.unusedVariables false
namespace Go.Proofs.Ytnglgjegkjfnaaa
open Go.RowKit Go.Proofs.YtnglgjegkjfnaaaW.PrintWords Go.Proofs.YtnglgjegkjfnaaaW.PrintMore
/-! A slab that is begun, and one more cache. -/
abbrev TT : Nat := 30
/-- What may be copied. -/
structure Bd (s : Sl) : Prop where
  g : s.gens.length * 8 ≤ 140737488355328
  a : s.alive.length * 1 ≤ 140737488355328
  f : s.free.length * 8 ≤ 140737488355328
  c : s.caches.length * 24 ≤ 140737488355328
  e : ∀ x ∈ s.caches, x.length * 8 ≤ 140737488355328
section
variable {T : TypeId} {w w1 wc w' : World} {base b : Nat} {col : Nat → Nat} {s : Sl} {vG vA vC vF v1 vx vC' : Value} {vs vals : List Value} {e : TypeId} {c : Nat}
theorem row_type_blk {w : World} {base : Nat} {ok : Nat → Prop} {e t : TypeId} {v : Value} {vals : List Value} {cs : Array Value} (h : Row w base ok e v vals) {k : Nat} (hk : v.ownBlock = some k) (hb : w.heap[k]? = some (.cells cs t (0, 0))) (hne : e ≠ t) : False := by
  obtain ⟨_, cs', hc'⟩ := q_typed h.row k hk
  rw [hb] at hc'
  injection hc' with hc'
  injection hc' with _ hc'
  exact hne hc'.symm
theorem row_keepT {ok : Nat → Prop} {t g : Nat} {cs : Array Value} (h : Row w base ok e v1 vals) (hb : w.heap[g]? = some (.cells cs t (0, 0))) (ht : e ≠ t) (k : Keep (fun i => i = g) w w1) : Row w1 base ok e v1 vals :=
  ⟨h.own, q_move h.row (fun i hi => k.block i (h.lt i hi) (fun hig => by subst hig; exact row_type_blk h hi hb ht)), h.one⟩
theorem SlV.lower {base' : Nat} (h : SlV w base col s vG vA vC vF vs) (hb : base' ≤ base) : SlV w base' col s vG vA vC vF vs :=
  ⟨h.g.lower hb, h.a.lower hb, h.c.lower hb, h.f.lower hb, h.l, fun i x hx => by obtain ⟨v, hv, hr⟩ := h.v i x hx; exact ⟨v, hv, hr.lower hb⟩, h.z, fun k hk => Nat.le_trans hb (h.b k hk)⟩
theorem blk_set5 {w : World} {b t : Nat} {a0 a1 a2 a3 a4 u0 u1 u2 u3 u4 : Value} (h : w.heap[b]? = some (.cells #[a0, a1, a2, a3, a4] t (0, 0))) : (((((w.setCell ⟨b, 0, none⟩ u0).setCell ⟨b, 1, none⟩ u1).setCell ⟨b, 2, none⟩ u2).setCell ⟨b, 3, none⟩ u3).setCell ⟨b, 4, none⟩ u4).heap[b]? = some (.cells #[u0, u1, u2, u3, u4] t (0, 0)) := by
  have h1 := (blk_set (i := 4) (u := u4) (blk_set (i := 3) (u := u3) (blk_set (i := 2) (u := u2) (blk_set (i := 1) (u := u1) (blk_set (i := 0) (u := u0) h)))))
  simpa using h1
theorem cells5 {w : World} {b t : Nat} {a0 a1 a2 a3 a4 : Value} (h : w.heap[b]? = some (.cells #[a0, a1, a2, a3, a4] t (0, 0))) : w.cell? ⟨b, 0, none⟩ = some a0 ∧ w.cell? ⟨b, 1, none⟩ = some a1 ∧ w.cell? ⟨b, 2, none⟩ = some a2 ∧ w.cell? ⟨b, 3, none⟩ = some a3 ∧ w.cell? ⟨b, 4, none⟩ = some a4 :=
  ⟨cell_blk h 0, cell_blk h 1, cell_blk h 2, cell_blk h 3, cell_blk h 4⟩
theorem froz5 {w : World} {b t : Nat} {cs : Array Value} (h : w.heap[b]? = some (.cells cs t (0, 0))) : w.frozen? ⟨b, 0, none⟩ = false ∧ w.frozen? ⟨b, 1, none⟩ = false ∧ w.frozen? ⟨b, 2, none⟩ = false ∧ w.frozen? ⟨b, 3, none⟩ = false ∧ w.frozen? ⟨b, 4, none⟩ = false :=
  ⟨frozen_blk h 0, frozen_blk h 1, frozen_blk h 2, frozen_blk h 3, frozen_blk h 4⟩
theorem set5_keep (w : World) (b : Nat) (u0 u1 u2 u3 u4 : Value) : Keep (fun k => k = b) w (((((w.setCell ⟨b, 0, none⟩ u0).setCell ⟨b, 1, none⟩ u1).setCell ⟨b, 2, none⟩ u2).setCell ⟨b, 3, none⟩ u3).setCell ⟨b, 4, none⟩ u4) :=
  (by repeat (first | (with_reducible exact Keep.refl _ _) | (with_reducible refine Keep.drewN ?_ _) | (with_reducible refine Keep.drew ?_) | (with_reducible refine Keep.setCell ?_ _ _ (by first | (right; with_reducible rfl) | (left; simp; done) | (left; simp; omega) | (right; simp; done) | (right; assumption))) | (with_reducible refine Keep.alloc ?_ _)))
end
end Go.Proofs.Ytnglgjegkjfnaaa
