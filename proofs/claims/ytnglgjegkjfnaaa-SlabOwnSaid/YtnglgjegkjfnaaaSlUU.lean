import Derived.Test.YtnglgjegkjfnaaaSlSS
import Derived.Test.YtnglgjegkjfnaaaSlTT
set_option linter.unusedSimpArgs false
set_option linter.unusedVariables false
namespace Go.Proofs.Ytnglgjegkjfnaaa
open Go.RowKit Go.ChangeShapes Go.WideShapes Go.ChangeAt Go.Proofs.YtnglgjegkjfnaaaW.PrintWords Go.Proofs.YtnglgjegkjfnaaaW.PrintMore Go.Proofs.YtnglgjegkjfnaaaW.PrintLast
/-! The document's proc and Alive. -/
set_option maxHeartbeats 1000000 in
theorem proc_rd {s : Sl} {vG vA vC vF : Value} {vs : List Value} (p : Int) (w : World) (h : SlR w s vG vA vC vF vs) : Calls Try.prog 49 #[.agg #[.int .i64 s.limit, vG, vA, vC, vF], .int .i64 p] w fun e w' => e = .returned (.bool (procS s p)) ∧ Below w.heap.size w w' := by
  obtain ⟨AC, cC, e3, -⟩ := h.c.slice
  rw [h.l] at e3
  subst e3
  have hW : Below w.heap.size w (w.alloc (.cells #[.int .i64 s.limit, vG, vA, .slice AC s.caches.length cC, vF] TT)) := below_al (Below.refl _ _) _
  have HW := Aside0.mk hW
  clear h hW
  by_cases h0 : 0 ≤ p
  · by_cases h1 : p < (s.caches.length : Int)
    · have HE : Aside0 (procS s p = true) := ⟨by simp [procS, h0, h1]⟩
      go_enter Try.func49, Try.ntmps49
      go_wp2
      go_ret
      exact ⟨by rw [HE.out]; rfl, HW.out⟩
    · have HE : Aside0 (procS s p = false) := ⟨by simp [procS]; omega⟩
      go_enter Try.func49, Try.ntmps49
      go_wp2
      go_ret
      exact ⟨by rw [HE.out]; rfl, HW.out⟩
  · have HE : Aside0 (procS s p = false) := ⟨by simp [procS]; omega⟩
    go_enter Try.func49, Try.ntmps49
    go_wp2
    go_ret
    exact ⟨by rw [HE.out]; rfl, HW.out⟩
set_option maxHeartbeats 2000000 in
theorem alive_rd {s : Sl} {vG vA vC vF : Value} {vs : List Value} (x g : Int) (w : World) (h : SlR w s vG vA vC vF vs) (ha : s.alive.length = s.gens.length) : Calls Try.prog 42 #[.agg #[.int .i64 s.limit, vG, vA, vC, vF], .agg #[.int .i64 x, .int .i64 g]] w fun e w' => e = .returned (.bool (aliveS s x g)) ∧ Below w.heap.size w w' := by
  obtain ⟨AG, cG, e1, -⟩ := h.g.slice
  obtain ⟨AA, cA, e2, -⟩ := h.a.slice
  obtain ⟨AC, cC, rfl, -⟩ := h.c.slice
  obtain ⟨AF, cF, rfl, -⟩ := h.f.slice
  rw [ints_len] at e1
  rw [bools_len] at e2
  subst e1 e2
  have hW : Below w.heap.size w ((w.alloc (.cells #[.int .i64 s.limit, .slice AG s.gens.length cG, .slice AA s.alive.length cA, .slice AC vs.length cC, .slice AF (ints s.free).length cF] TT)).alloc (.cells #[.int .i64 x, .int .i64 g] 48)) := (by repeat (first | (with_reducible exact Below.refl _ _) | (with_reducible refine Below.drew ?_) | (with_reducible refine below_drewN ?_ _) | (with_reducible refine below_al ?_ _) | (with_reducible refine Below.alloc ?_ (by first | exact Nat.le_refl _ | omega | (simp; done) | (simp; omega)) _) | (with_reducible refine Below.setCell ?_ (by first | (simp only []; omega) | (simp; done) | (simp; omega)) _)))
  have hg := h.g.below hW
  have hal := h.a.below hW
  have HW := Aside0.mk hW
  by_cases h0 : 0 ≤ x
  · obtain ⟨n, rfl⟩ := Int.eq_ofNat_of_zero_le h0
    by_cases h1 : (n : Int) < (s.gens.length : Int)
    · have hn : n < s.gens.length := by omega
      have hn2 : (n : Int) < (s.alive.length : Int) := by omega
      obtain ⟨gg, o, c1, he, hgl, -, hat⟩ := hg.form (by rw [ints_len]; omega)
      obtain ⟨g', o', c1', he', hgl', -, hat'⟩ := hal.form (by rw [bools_len]; omega)
      injection he with he1 he2 he3
      injection he' with he1' he2' he3'
      subst he1 he1'
      obtain ⟨y, hy⟩ : ∃ y, s.gens[n]? = some y := ⟨_, List.getElem?_eq_getElem hn⟩
      obtain ⟨a, hb⟩ : ∃ a, s.alive[n]? = some a := ⟨_, List.getElem?_eq_getElem (by omega)⟩
      have hc1 := (hat n).1 _ (ints_get hy)
      have hc2 := (hat' n).1 _ (bools_get hb)
      have HE : Aside0 (aliveS s n g = (a && decide (y = g))) := ⟨by
        unfold aliveS
        rw [Int.toNat_natCast, List.getD_eq_getElem?_getD, List.getD_eq_getElem?_getD, hy, hb, decide_eq_true h0, decide_eq_true h1]
        rfl⟩
      clear hy hb hat hat' he2 he3 he2' he3' hg hal h ha hW
      rw [HE.out]
      cases a with
      | true =>
        by_cases h2 : y = g
        · subst h2
          go_enter Try.func42, Try.ntmps42
          go_wp2_with fail
          go_region
          go_wp2
          go_ret
          exact ⟨by simp, (by repeat (first | (with_reducible exact HW.out) | (with_reducible refine Below.drew ?_) | (with_reducible refine below_drewN ?_ _) | (with_reducible refine below_al ?_ _) | (with_reducible refine Below.alloc ?_ (by first | exact Nat.le_refl _ | omega | (simp; done) | (simp; omega)) _) | (with_reducible refine Below.setCell ?_ (by first | (simp only []; omega) | (simp; done) | (simp; omega)) _)))⟩
        · have h2b : (y == g) = false := by simpa using h2
          go_enter Try.func42, Try.ntmps42
          go_wp2_with fail
          go_region
          go_wp2
          go_ret
          exact ⟨by simp [h2], (by repeat (first | (with_reducible exact HW.out) | (with_reducible refine Below.drew ?_) | (with_reducible refine below_drewN ?_ _) | (with_reducible refine below_al ?_ _) | (with_reducible refine Below.alloc ?_ (by first | exact Nat.le_refl _ | omega | (simp; done) | (simp; omega)) _) | (with_reducible refine Below.setCell ?_ (by first | (simp only []; omega) | (simp; done) | (simp; omega)) _)))⟩
      | false =>
        go_enter Try.func42, Try.ntmps42
        go_wp2_with fail
        go_region
        go_wp2
        go_ret
        exact ⟨by simp, (by repeat (first | (with_reducible exact HW.out) | (with_reducible refine Below.drew ?_) | (with_reducible refine below_drewN ?_ _) | (with_reducible refine below_al ?_ _) | (with_reducible refine Below.alloc ?_ (by first | exact Nat.le_refl _ | omega | (simp; done) | (simp; omega)) _) | (with_reducible refine Below.setCell ?_ (by first | (simp only []; omega) | (simp; done) | (simp; omega)) _)))⟩
    · have HE : Aside0 (aliveS s n g = false) := ⟨by simp [aliveS]; omega⟩
      have h1' : (s.gens.length : Int) ≤ n := by omega
      have hd1 : decide (n < s.gens.length) = false := by simp; omega
      have hd2 : decide ((n : Int) < (s.gens.length : Int)) = false := by simp; omega
      rw [HE.out]
      clear hg hal h ha hW
      go_enter Try.func42, Try.ntmps42
      go_wp2_with fail
      go_region
      go_wp2
      go_ret
      exact ⟨rfl, (by repeat (first | (with_reducible exact HW.out) | (with_reducible refine Below.drew ?_) | (with_reducible refine below_drewN ?_ _) | (with_reducible refine below_al ?_ _) | (with_reducible refine Below.alloc ?_ (by first | exact Nat.le_refl _ | omega | (simp; done) | (simp; omega)) _) | (with_reducible refine Below.setCell ?_ (by first | (simp only []; omega) | (simp; done) | (simp; omega)) _)))⟩
  · have HE : Aside0 (aliveS s x g = false) := ⟨by simp [aliveS]; omega⟩
    have hd1 : decide (x ≥ 0) = false := by simp; omega
    have hd2 : decide (0 ≤ x) = false := by simp; omega
    rw [HE.out]
    clear hg hal h ha hW
    go_enter Try.func42, Try.ntmps42
    go_wp2_with fail
    go_region
    go_wp2
    go_ret
    exact ⟨rfl, (by repeat (first | (with_reducible exact HW.out) | (with_reducible refine Below.drew ?_) | (with_reducible refine below_drewN ?_ _) | (with_reducible refine below_al ?_ _) | (with_reducible refine Below.alloc ?_ (by first | exact Nat.le_refl _ | omega | (simp; done) | (simp; omega)) _) | (with_reducible refine Below.setCell ?_ (by first | (simp only []; omega) | (simp; done) | (simp; omega)) _)))⟩
end Go.Proofs.Ytnglgjegkjfnaaa
