import Derived.Test.YtnglgjegkjfnaaaSlFF
namespace Go.Proofs.Ytnglgjegkjfnaaa
open Go.RowKit Go.ChangeShapes Go.WideShapes Go.ChangeAt Go.Proofs.YtnglgjegkjfnaaaW.PrintWords Go.Proofs.YtnglgjegkjfnaaaW.PrintMore
/-! The document's free: may a slot stand in a free list? -/
def freeB (s : Sl) (x : Int) : Bool := decide (0 ≤ x) && (decide (x < s.gens.length) && (!aliveAt s x.toNat && decide (genAt s x.toNat < 2147483647)))
theorem freeB_iff {s : Sl} {x : Int} : freeB s x = true ↔ FreeAt s x := by
  simp [freeB, FreeAt]
set_option maxHeartbeats 1000000 in
theorem free_ref {L : Int} {s : Sl} {base : Nat} {col : Nat → Nat} {vG vA vC vF : Value} {vs : List Value} (x : Int) (w : World) (h : SlV w base col s vG vA vC vF vs) (ha : s.alive.length = s.gens.length) : Calls Try.prog 33 #[.agg #[.int .i64 L, vG, vA, vC, vF], .int .i64 x] w fun e w' => e = .returned (.bool (freeB s x)) ∧ Below w.heap.size w w' := by
  obtain ⟨AG, cG, e1, -⟩ := h.g.slice
  obtain ⟨AA, cA, e2, -⟩ := h.a.slice
  obtain ⟨AC, cC, rfl, -⟩ := h.c.slice
  obtain ⟨AF, cF, rfl, -⟩ := h.f.slice
  rw [ints_len] at e1
  rw [bools_len] at e2
  subst e1 e2
  have hW : Below w.heap.size w (w.alloc (.cells #[.int .i64 L, .slice AG s.gens.length cG, .slice AA s.alive.length cA, .slice AC vs.length cC, .slice AF (ints s.free).length cF] 30)) := below_al (Below.refl _ _) _
  have hg := h.g.below hW
  have hal := h.a.below hW
  by_cases h0 : 0 ≤ x
  · obtain ⟨n, rfl⟩ := Int.eq_ofNat_of_zero_le h0
    by_cases h1 : (n : Int) < (s.gens.length : Int)
    · have hn : n < s.gens.length := by omega
      have hn2 : (n : Int) < (s.alive.length : Int) := by omega
      obtain ⟨g, o, c1, he, hgl, -, hat⟩ := hg.form (by rw [ints_len]; omega)
      obtain ⟨g', o', c1', he', hgl', -, hat'⟩ := hal.form (by rw [bools_len]; omega)
      injection he with he1 he2 he3
      injection he' with he1' he2' he3'
      subst he1 he1'
      obtain ⟨y, hy⟩ : ∃ y, s.gens[n]? = some y := ⟨_, List.getElem?_eq_getElem hn⟩
      obtain ⟨a, hb⟩ : ∃ a, s.alive[n]? = some a := ⟨_, List.getElem?_eq_getElem (by omega)⟩
      have hc1 := (hat n).1 _ (ints_get hy)
      have hc2 := (hat' n).1 _ (bools_get hb)
      have hA : aliveAt s n = a := by rw [aliveAt, List.getD_eq_getElem?_getD, hb]; rfl
      have hG : genAt s n = y := by rw [genAt, List.getD_eq_getElem?_getD, hy]; rfl
      have hE : freeB s n = (!a && decide (y < 2147483647)) := by
        unfold freeB
        rw [Int.toNat_natCast, hA, hG, decide_eq_true h0, decide_eq_true h1]; rfl
      rw [hE]
      clear hE hA hG hy hb hat hat' he2 he3 he2' he3' hg hal h ha
      cases a with
      | true =>
        go_enter Try.func33, Try.ntmps33
        go_wp2
        go_ret
        exact ⟨by simp, hW⟩
      | false =>
        by_cases h2 : y < 2147483647
        · go_enter Try.func33, Try.ntmps33
          go_wp2
          go_ret
          exact ⟨by simp [h2], hW⟩
        · go_enter Try.func33, Try.ntmps33
          go_wp2
          go_ret
          exact ⟨by simp [h2], hW⟩
    · have hE : freeB s n = false := by simp [freeB]; omega
      have h1' : (s.gens.length : Int) ≤ n := by omega
      rw [hE]
      clear hE hg hal h ha
      go_enter Try.func33, Try.ntmps33
      go_wp2
      go_ret
      exact ⟨by simp, hW⟩
  · have hE : freeB s x = false := by simp [freeB]; omega
    have h0' : x < 0 := by omega
    rw [hE]
    clear hE hg hal h ha
    go_enter Try.func33, Try.ntmps33
    go_wp2
    go_ret
    exact ⟨by simp, hW⟩
end Go.Proofs.Ytnglgjegkjfnaaa
