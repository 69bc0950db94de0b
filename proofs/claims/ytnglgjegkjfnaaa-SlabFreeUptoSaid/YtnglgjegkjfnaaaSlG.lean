import Derived.Test.YtnglgjegkjfnaaaSlF
namespace Go.Proofs.Ytnglgjegkjfnaaa
open Go.RowKit Go.Proofs.YtnglgjegkjfnaaaW.PrintWords Go.Proofs.YtnglgjegkjfnaaaW.PrintMore
/-! A slab that is begun, and one more cache. -/
abbrev TT : Nat := 30
/-- What may be copied. -/
structure Bd (s : Sl) : Prop where
  g : s.gens.length * 8 ≤ 140737488355328
  a : s.alive.length * 1 ≤ 140737488355328
  f : s.free.length * 8 ≤ 140737488355328
  c : s.caches.length * 24 ≤ 140737488355328
  e : ∀ x ∈ s.caches, x.length * 8 ≤ 140737488355328
section
variable {T : TypeId} {w w1 wc w' : World} {base b : Nat} {col : Nat → Nat} {s : Sl} {vG vA vC vF v1 vx vC' : Value} {vs vals : List Value} {e : TypeId} {c : Nat}
theorem row_type {w : World} {base : Nat} {ok : Nat → Prop} {e e' : TypeId} {v v' : Value} {vals vals' : List Value} {ok' : Nat → Prop} (h : Row w base ok e v vals) (h' : Row w base ok' e' v' vals') (hne : e ≠ e') {k : Nat} (hk : v.ownBlock = some k) (hk' : v'.ownBlock = some k) : False := by
  obtain ⟨_, cs, hc⟩ := q_typed h.row k hk
  obtain ⟨_, cs', hc'⟩ := q_typed h'.row k hk'
  rw [hc] at hc'
  injection hc' with hc'
  injection hc' with _ hc'
  exact hne hc'
theorem row_type_blk {w : World} {base : Nat} {ok : Nat → Prop} {e t : TypeId} {v : Value} {vals : List Value} {cs : Array Value} (h : Row w base ok e v vals) {k : Nat} (hk : v.ownBlock = some k) (hb : w.heap[k]? = some (.cells cs t (0, 0))) (hne : e ≠ t) : False := by
  obtain ⟨_, cs', hc'⟩ := q_typed h.row k hk
  rw [hb] at hc'
  injection hc' with hc'
  injection hc' with _ hc'
  exact hne hc'.symm
theorem slab_begun {limit : Int} {gens free : List Int} {alive : List Bool} {ok1 ok2 ok3 : Nat → Prop} (hT : 3 ≠ T ∧ 4 ≠ T) (hG : Row w base ok1 3 vG (ints gens)) (hA : Row w base ok2 4 vA (bools alive)) (hF : Row w base ok3 3 vF (ints free)) (hne : ∀ k, vG.ownBlock = some k → vF.ownBlock = some k → False)
    (hb : w.heap[b]? = some (.cells #[.int .i64 limit, vG, vA, .slice none 0 0, vF] T (0, 0))) (hbb : base ≤ b) : ∃ col, SlB T w base b col ⟨limit, gens, alive, [], free⟩ vG vA (.slice none 0 0) vF [] ∧ ∀ k, k < base → col k = 0 := by
  let col : Nat → Nat := fun k => if vG.ownBlock = some k then 2 else if vA.ownBlock = some k then 3 else if vF.ownBlock = some k then 5 else if k = b then 1 else 0
  refine ⟨col, ⟨⟨⟨fun k hk => ?_, hG.row, hG.one⟩, ⟨fun k hk => ?_, hA.row, hA.one⟩, Row.nil _ _ _ _, ⟨fun k hk => ?_, hF.row, hF.one⟩, rfl, fun i x hx => by simp at hx, fun k hk => ?_, fun k hk => ?_⟩, hb, ?_⟩, fun k hk => ?_⟩
  · show (if vG.ownBlock = some k then 2 else _) = 2
    rw [if_pos hk]
  · show (if vG.ownBlock = some k then 2 else if vA.ownBlock = some k then 3 else _) = 3
    rw [if_neg (fun h => row_type hG hA (by decide) h hk), if_pos hk]
  · show (if vG.ownBlock = some k then 2 else if vA.ownBlock = some k then 3 else if vF.ownBlock = some k then 5 else _) = 5
    rw [if_neg (fun h => hne k h hk), if_neg (fun h => row_type hF hA (by decide) hk h), if_pos hk]
  · show (if vG.ownBlock = some k then 2 else if vA.ownBlock = some k then 3 else if vF.ownBlock = some k then 5 else if k = b then 1 else 0) = 0
    rw [if_neg (fun h => by have := hG.lt k h; omega), if_neg (fun h => by have := hA.lt k h; omega), if_neg (fun h => by have := hF.lt k h; omega), if_neg (by have := lt_blk hb; omega)]
  · by_cases h1 : vG.ownBlock = some k
    · exact hG.base_le k h1
    · by_cases h2 : vA.ownBlock = some k
      · exact hA.base_le k h2
      · by_cases h3 : vF.ownBlock = some k
        · exact hF.base_le k h3
        · by_cases h4 : k = b
          · omega
          · have : col k = 0 := by
              show (if vG.ownBlock = some k then 2 else if vA.ownBlock = some k then 3 else if vF.ownBlock = some k then 5 else if k = b then 1 else 0) = 0
              rw [if_neg h1, if_neg h2, if_neg h3, if_neg h4]
            exact absurd this hk
  · show (if vG.ownBlock = some b then 2 else if vA.ownBlock = some b then 3 else if vF.ownBlock = some b then 5 else if b = b then 1 else 0) = 1
    rw [if_neg (fun h => row_type_blk hG h hb hT.1), if_neg (fun h => row_type_blk hA h hb hT.2), if_neg (fun h => row_type_blk hF h hb hT.1), if_pos rfl]
  · show (if vG.ownBlock = some k then 2 else if vA.ownBlock = some k then 3 else if vF.ownBlock = some k then 5 else if k = b then 1 else 0) = 0
    rw [if_neg (fun h => by have := hG.base_le k h; omega), if_neg (fun h => by have := hA.base_le k h; omega), if_neg (fun h => by have := hF.base_le k h; omega), if_neg (by omega)]
theorem SlB.push (h : SlB T w base b col s vG vA vC vF vs) (hb : base ≤ w.heap.size) {x : List Int} (hB : Below w.heap.size w wc) (hx : Row wc w.heap.size (fun _ => True) 3 vx (ints x)) (hk : Keep (fun k => col k = 4) wc w1) (hr : Row w1 base (fun k => col k = 4 ∨ wc.heap.size ≤ k) 26 vC' (vs ++ [vx])) :
    ∃ col', SlB T (w1.setCell ⟨b, 3, none⟩ vC') base b col' { s with caches := s.caches ++ [x] } vG vA vC' vF (vs ++ [vx]) ∧ Nx w col (w1.setCell ⟨b, 3, none⟩ vC') col' := by
  let col' : Nat → Nat := fun k => if w.heap.size ≤ k ∧ k < w1.heap.size then (if k < wc.heap.size then 6 + s.caches.length else 4) else col k
  have hcols : ∀ k, k < w.heap.size → col' k = col k := fun k hk => if_neg (by omega)
  have hs1 := hB.size
  have hs2 := hk.size
  have h1 := h.one
  have hbl := lt_blk h.blk
  have hz := h.r.z
  have hS : Keep (fun k => k = b) w1 (w1.setCell ⟨b, 3, none⟩ vC') := (Keep.refl _ _).setCell _ _ (.inr rfl)
  have hK1 : Keep (fun k => col k = 4) w w1 := (Keep.of_below hB).trans hk
  have hK : Keep (fun k => col k = 4 ∨ k = b) w (w1.setCell ⟨b, 3, none⟩ vC') := (hK1.mono (fun _ _ h => Or.inl h)).setCell _ _ (.inr (.inr rfl))
  have hsz : (w1.setCell ⟨b, 3, none⟩ vC').heap.size = w1.heap.size := by simp [World.setCell]
  refine ⟨col', ⟨⟨?_, ?_, ?_, ?_, ?_, ?_, ?_, ?_⟩, ?_, ?_⟩, ⟨hK.mono ?_, hcols⟩⟩
  · exact row_old h.r.g hK (fun k f => by rcases f with f | rfl <;> omega) hcols
  · exact row_old h.r.a hK (fun k f => by rcases f with f | rfl <;> omega) hcols
  · have h4 : Row w1 base (fun k => col' k = 4) 26 vC' (vs ++ [vx]) := hr.mono fun k hl ho => by
      rcases Nat.lt_or_ge k w.heap.size with hk' | hk'
      · rw [hcols k hk']
        rcases ho with ho | ho
        · exact ho
        · omega
      · show (if w.heap.size ≤ k ∧ k < w1.heap.size then (if k < wc.heap.size then 6 + s.caches.length else 4) else col k) = 4
        rw [if_pos ⟨hk', hl⟩]
        rcases ho with ho | ho
        · rw [hz k hk'] at ho; omega
        · rw [if_neg (by omega)]
    exact h4.keep hS (fun k f ho => by subst f; rw [hcols _ hbl, h1] at ho; omega)
  · exact row_old h.r.f hK (fun k f => by rcases f with f | rfl <;> omega) hcols
  · simp [h.r.l]
  · intro i y hy
    by_cases hi : i < s.caches.length
    · rw [List.getElem?_append_left hi] at hy
      obtain ⟨v, hv, hro⟩ := h.r.v i y hy
      exact ⟨v, by rw [List.getElem?_append_left (by rw [h.r.l]; exact hi)]; exact hv, row_old hro hK (fun k f => by rcases f with f | rfl <;> omega) hcols⟩
    · have hil := (List.getElem?_eq_some_iff.1 hy).1
      simp at hil
      obtain rfl : i = s.caches.length := by omega
      rw [List.getElem?_append_right (Nat.le_refl _), Nat.sub_self] at hy
      obtain rfl : x = y := by simpa using hy
      refine ⟨vx, by rw [← h.r.l, List.getElem?_append_right (Nat.le_refl _), Nat.sub_self]; rfl, ?_⟩
      have h6 : Row wc base (fun k => w.heap.size ≤ k ∧ k < wc.heap.size) 3 vx (ints x) := ⟨fun k hk' => ⟨hx.base_le k hk', hx.lt k hk'⟩, (hx.lower hb).row, hx.one⟩
      have h7 := (h6.keep hk (fun k f ho => by rw [hz k ho.1] at f; omega)).keep hS (fun k f ho => by omega)
      exact h7.mono fun k hl ho => by
        show (if w.heap.size ≤ k ∧ k < w1.heap.size then (if k < wc.heap.size then 6 + s.caches.length else 4) else col k) = _
        rw [if_pos ⟨ho.1, by omega⟩, if_pos ho.2]
  · intro k hk'
    show (if w.heap.size ≤ k ∧ k < w1.heap.size then (if k < wc.heap.size then 6 + s.caches.length else 4) else col k) = 0
    rw [if_neg (by omega)]
    exact hz k (by omega)
  · intro k hk'
    by_cases hn : w.heap.size ≤ k ∧ k < w1.heap.size
    · omega
    · have : col' k = col k := if_neg hn
      rw [this] at hk'
      exact h.r.b k hk'
  · have := blk_set (i := 3) (u := vC') (blk_keep h.blk hK1 (by show ¬ col b = 4; omega))
    simpa using this
  · rw [hcols b hbl]; exact h1
  · intro i _ f
    rcases f with f | rfl
    · omega
    · omega
theorem row_keepT {ok : Nat → Prop} {t g : Nat} {cs : Array Value} (h : Row w base ok e v1 vals) (hb : w.heap[g]? = some (.cells cs t (0, 0))) (ht : e ≠ t) (k : Keep (fun i => i = g) w w1) : Row w1 base ok e v1 vals :=
  ⟨h.own, q_move h.row (fun i hi => k.block i (h.lt i hi) (fun hig => by subst hig; exact row_type_blk h hi hb ht)), h.one⟩
theorem SlV.lower {base' : Nat} (h : SlV w base col s vG vA vC vF vs) (hb : base' ≤ base) : SlV w base' col s vG vA vC vF vs :=
  ⟨h.g.lower hb, h.a.lower hb, h.c.lower hb, h.f.lower hb, h.l, fun i x hx => by obtain ⟨v, hv, hr⟩ := h.v i x hx; exact ⟨v, hv, hr.lower hb⟩, h.z, fun k hk => Nat.le_trans hb (h.b k hk)⟩
theorem blk_set5 {w : World} {b t : Nat} {a0 a1 a2 a3 a4 u0 u1 u2 u3 u4 : Value} (h : w.heap[b]? = some (.cells #[a0, a1, a2, a3, a4] t (0, 0))) : (((((w.setCell ⟨b, 0, none⟩ u0).setCell ⟨b, 1, none⟩ u1).setCell ⟨b, 2, none⟩ u2).setCell ⟨b, 3, none⟩ u3).setCell ⟨b, 4, none⟩ u4).heap[b]? = some (.cells #[u0, u1, u2, u3, u4] t (0, 0)) := by
  have h1 := (blk_set (i := 4) (u := u4) (blk_set (i := 3) (u := u3) (blk_set (i := 2) (u := u2) (blk_set (i := 1) (u := u1) (blk_set (i := 0) (u := u0) h)))))
  simpa using h1
theorem cells5 {w : World} {b t : Nat} {a0 a1 a2 a3 a4 : Value} (h : w.heap[b]? = some (.cells #[a0, a1, a2, a3, a4] t (0, 0))) : w.cell? ⟨b, 0, none⟩ = some a0 ∧ w.cell? ⟨b, 1, none⟩ = some a1 ∧ w.cell? ⟨b, 2, none⟩ = some a2 ∧ w.cell? ⟨b, 3, none⟩ = some a3 ∧ w.cell? ⟨b, 4, none⟩ = some a4 :=
  ⟨cell_blk h 0, cell_blk h 1, cell_blk h 2, cell_blk h 3, cell_blk h 4⟩
theorem froz5 {w : World} {b t : Nat} {cs : Array Value} (h : w.heap[b]? = some (.cells cs t (0, 0))) : w.frozen? ⟨b, 0, none⟩ = false ∧ w.frozen? ⟨b, 1, none⟩ = false ∧ w.frozen? ⟨b, 2, none⟩ = false ∧ w.frozen? ⟨b, 3, none⟩ = false ∧ w.frozen? ⟨b, 4, none⟩ = false :=
  ⟨frozen_blk h 0, frozen_blk h 1, frozen_blk h 2, frozen_blk h 3, frozen_blk h 4⟩
theorem set5_keep (w : World) (b : Nat) (u0 u1 u2 u3 u4 : Value) : Keep (fun k => k = b) w (((((w.setCell ⟨b, 0, none⟩ u0).setCell ⟨b, 1, none⟩ u1).setCell ⟨b, 2, none⟩ u2).setCell ⟨b, 3, none⟩ u3).setCell ⟨b, 4, none⟩ u4) :=
  (by repeat (first | (with_reducible exact Keep.refl _ _) | (with_reducible refine Keep.drewN ?_ _) | (with_reducible refine Keep.drew ?_) | (with_reducible refine Keep.setCell ?_ _ _ (by first | (right; with_reducible rfl) | (left; simp; done) | (left; simp; omega) | (right; simp; done) | (right; assumption))) | (with_reducible refine Keep.alloc ?_ _)))
theorem take_snocI {l : List (List Int)} {k : Nat} {x : List Int} (h : l[k]? = some x) : l.take (k + 1) = l.take k ++ [x] := by
  rw [List.take_add_one, h]; rfl
end
end Go.Proofs.Ytnglgjegkjfnaaa
