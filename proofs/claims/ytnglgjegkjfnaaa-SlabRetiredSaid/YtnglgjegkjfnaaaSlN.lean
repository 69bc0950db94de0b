import Derived.Test.YtnglgjegkjfnaaaSlM
set_option linter.unusedSimpArgs false
set_option linter.unusedVariables false
namespace Go.Proofs.Ytnglgjegkjfnaaa
open Go.RowKit Go.Proofs.YtnglgjegkjfnaaaW.PrintWords Go.Proofs.YtnglgjegkjfnaaaW.PrintMore Go.Proofs.YtnglgjegkjfnaaaW.PrintLast
/-! The list and a cache written, in one step of the colours. -/
theorem SlB.both {T : TypeId} {w w1 : World} {base b : Nat} {col : Nat → Nat} {s : Sl} {vG vA vC vF vF' v1 : Value} {vs : List Value} (h : SlB T w base b col s vG vA vC vF vs) (hb : base ≤ w.heap.size) {p g o n cc : Nat} {ys free' : List Int} {new : Nat → Nat} (hC : vC = .slice (some ⟨g, o, none⟩) n cc) (hp : p < s.caches.length)
    (hk : Keep (fun k => col k = 1 ∨ col k = 5 ∨ col k = 6 + p) w w1) (hblk : w1.heap[b]? = some (.cells #[.int .i64 s.limit, vG, vA, vC, vF'] T (0, 0))) (hF : Row w1 base (fun k => col k = 5 ∨ w.heap.size ≤ k ∧ new k = 5) 3 vF' (ints free')) (hr : Row w1 base (fun k => col k = 6 + p ∨ w.heap.size ≤ k ∧ new k = 6 + p) 3 v1 (ints ys)) :
    ∃ col', SlB T (w1.setCell ⟨g, o + p, none⟩ v1) base b col' { s with caches := s.caches.set p ys, free := free' } vG vA vC vF' (vs.set p v1) ∧ Nx w col (w1.setCell ⟨g, o + p, none⟩ v1) col' := by
  let col' : Nat → Nat := fun k => if w.heap.size ≤ k ∧ k < w1.heap.size then new k else col k
  have hcols : ∀ k, k < w.heap.size → col' k = col k := fun k hk => if_neg (by omega)
  have hnew : ∀ {e v vals c}, c ≠ 0 → Row w1 base (fun k => col k = c ∨ w.heap.size ≤ k ∧ new k = c) e v vals → Row w1 base (fun k => col' k = c) e v vals := fun {e v vals c} h0 hr => hr.mono fun k hl ho => by
    rcases Nat.lt_or_ge k w.heap.size with hk | hk
    · rw [hcols k hk]
      rcases ho with ho | ho
      · exact ho
      · omega
    · show (if w.heap.size ≤ k ∧ k < w1.heap.size then new k else col k) = c
      rw [if_pos ⟨hk, hl⟩]
      rcases ho with ho | ho
      · rw [h.r.z k hk] at ho; omega
      · exact ho.2
  have hlv : p < vs.length := by rw [h.r.l]; exact hp
  have hg4 : col g = 4 := h.r.c.own g (by rw [hC]; simp [Value.ownBlock])
  have hgl : g < w.heap.size := h.r.c.lt g (by rw [hC]; simp [Value.ownBlock])
  have h1 := h.one
  have hbl := lt_blk h.blk
  have hS : Keep (fun k => k = g) w1 (w1.setCell ⟨g, o + p, none⟩ v1) := (Keep.refl _ _).setCell _ _ (.inr rfl)
  have hK : Keep (fun k => (col k = 1 ∨ col k = 5 ∨ col k = 6 + p) ∨ k = g) w (w1.setCell ⟨g, o + p, none⟩ v1) := (hk.mono (fun _ _ h => Or.inl h)).setCell _ _ (.inr (.inr rfl))
  have hv1 : v1.oneCell' = true := by obtain ⟨A, c', he, _⟩ := hr.slice; rw [he]; rfl
  have hcg : col' g = 4 := by rw [hcols g hgl]; exact hg4
  have hsz : (w1.setCell ⟨g, o + p, none⟩ v1).heap.size = w1.heap.size := by simp [World.setCell]
  have hs := hk.size
  refine ⟨col', ⟨⟨?_, ?_, ?_, ?_, ?_, ?_, ?_, ?_⟩, ?_, ?_⟩, ⟨hK.mono ?_, hcols⟩⟩
  · exact row_old h.r.g hK (fun k f => by rcases f with f | rfl <;> omega) hcols
  · exact row_old h.r.a hK (fun k f => by rcases f with f | rfl <;> omega) hcols
  · have h4 := row_old h.r.c hk (fun k f => by omega) hcols
    rw [hC] at h4 ⊢
    exact h4.set hlv hv1
  · exact (hnew (by omega) hF).keep hS (fun k f ho => by subst f; omega)
  · rw [List.length_set, List.length_set]; exact h.r.l
  · intro i x hx
    by_cases hip : i = p
    · subst hip
      rw [List.getElem?_set_self hp] at hx
      injection hx with hx
      subst hx
      exact ⟨v1, List.getElem?_set_self hlv, (hnew (by omega) hr).keep hS (fun k f ho => by subst f; omega)⟩
    · rw [List.getElem?_set_ne (Ne.symm hip)] at hx
      obtain ⟨v, hv, hro⟩ := h.r.v i x hx
      exact ⟨v, by rw [List.getElem?_set_ne (Ne.symm hip)]; exact hv, row_old hro hK (fun k f => by rcases f with f | rfl <;> omega) hcols⟩
  · intro k hk'
    show (if w.heap.size ≤ k ∧ k < w1.heap.size then new k else col k) = 0
    rw [if_neg (by omega)]
    exact h.r.z k (by omega)
  · intro k hk'
    by_cases hn : w.heap.size ≤ k ∧ k < w1.heap.size
    · omega
    · have : col' k = col k := if_neg hn
      rw [this] at hk'
      exact h.r.b k hk'
  · exact blk_keep hblk hS (fun f => by rw [f] at h1; omega)
  · rw [hcols b hbl]; exact h1
  · intro i _ f
    rcases f with f | rfl
    · omega
    · omega
def FlushP (base b : Nat) (col : Nat → Nat) (r : Sl × Int) (w : World) (e : Ending) (w' : World) : Prop := ∃ col', e = .returned (.int .i64 r.2) ∧ IsSlab TS w' base b col' r.1 ∧ Nx w col w' col'
end Go.Proofs.Ytnglgjegkjfnaaa
