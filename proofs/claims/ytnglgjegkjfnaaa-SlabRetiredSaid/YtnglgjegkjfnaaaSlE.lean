import Derived.Test.YtnglgjegkjfnaaaSlD
set_option linter.unusedSimpArgs false
set_option linter.unusedVariables false
namespace Go.Proofs.Ytnglgjegkjfnaaa
open Go.RowKit Go.Proofs.YtnglgjegkjfnaaaW.PrintWords Go.Proofs.YtnglgjegkjfnaaaW.PrintMore
/-! Alive. -/
set_option maxHeartbeats 2000000 in
theorem alive_slab {b : Nat} {s : Sl} {base : Nat} {col : Nat → Nat} (x g : Int) (w : World) (h : IsSlab TS w base b col s) (hl : 0 < s.limit) (ha : s.alive.length = s.gens.length) : Calls Try.prog 22 #[.pointer (some ⟨b, 0, none⟩), .agg #[.int .i64 x, .int .i64 g]] w fun e w' => e = .returned (.bool (aliveS s x g)) ∧ Below w.heap.size w w' := by
  have hB : Below w.heap.size w (w.alloc (.cells #[.int .i64 x, .int .i64 g] 48)) := below_al (Below.refl _ _) _
  have hX : (w.alloc (.cells #[.int .i64 x, .int .i64 g] 48)).heap[w.heap.size]? = some (.cells #[.int .i64 x, .int .i64 g] 48 (0, 0)) := blk_new _ _
  have H : ∀ n, Calls Try.prog 34 #[.pointer (some ⟨b, 0, none⟩)] ((w.alloc (.cells #[.int .i64 x, .int .i64 g] 48)).drewN n) fun e w' => e = .returned (.bool true) ∧ w' = (w.alloc (.cells #[.int .i64 x, .int .i64 g] 48)).drewN n := fun n => (is_slab _ (h.below (by repeat (first | (with_reducible exact Below.refl _ _) | (with_reducible refine Below.drew ?_) | (with_reducible refine below_drewN ?_ _) | (with_reducible refine below_al ?_ _) | (with_reducible refine Below.alloc ?_ (by first | exact Nat.le_refl _ | omega | (simp; done) | (simp; omega)) _) | (with_reducible refine Below.setCell ?_ (by first | (simp only []; omega) | (simp; done) | (simp; omega)) _)))) hl).mono fun _ _ ⟨a, b⟩ => ⟨a, b.symm⟩
  have H := Aside0.mk H
  obtain ⟨vG, vA, vC, vF, vs, h⟩ := h
  have h := h.below hB
  obtain ⟨-, c1, c2, -, -⟩ := h.cells
  obtain ⟨AG, cG, hG, hcG⟩ := h.r.g.slice
  obtain ⟨AA, cA, hA, hcA⟩ := h.r.a.slice
  subst hG; subst hA
  rw [ints_len] at c1 hcG
  rw [bools_len] at c2 hcA
  have hlt := lt_blk h.blk
  have HB := Aside0.mk h
  have hwl := lt_blk hX
  clear h
  by_cases h0 : 0 ≤ x
  · obtain ⟨i, rfl⟩ := Int.eq_ofNat_of_zero_le h0
    have hd0 : decide ((i : Int) ≥ 0) = true := by simp
    by_cases h1 : i < s.gens.length
    · obtain ⟨gg, og, cg', he, -, -, hatg⟩ := HB.out.r.g.form (by rw [ints_len]; omega)
      injection he with e1 e2 e3
      subst e1
      obtain ⟨ga, oa, ca', he, -, -, hata⟩ := HB.out.r.a.form (by rw [bools_len]; omega)
      injection he with e4 e5 e6
      subst e4
      have hyg := (hatg i).1 _ (ints_get (List.getElem?_eq_getElem h1))
      have hya := (hata i).1 _ (bools_get (List.getElem?_eq_getElem (show i < s.alive.length by omega)))
      have hE : aliveS s i g = (s.alive[i] && decide (s.gens[i] = g)) := by
        simp [aliveS, h1, List.getD_eq_getElem?_getD, List.getElem?_eq_getElem, show i < s.alive.length by omega]
      rw [hE]
      rw [ha] at c2
      rw [ha] at hcA
      have hd1 : decide ((i : Int) < (s.gens.length : Int)) = true := by simp; omega
      clear hatg hata hE HB hX
      generalize s.gens[i] = y at *
      cases hal : s.alive[i] with
      | true =>
        rw [hal] at hya
        clear hal
        go_enter Try.func22, Try.ntmps22
        go_wp2_with fail
        go_quiet ((go_at_call 34; exact Calls.quiet_of_same (H.out _)))
        go_wp2
        go_ret
        exact ⟨rfl, (by repeat (first | (with_reducible exact hB) | (with_reducible refine Below.drew ?_) | (with_reducible refine below_drewN ?_ _) | (with_reducible refine below_al ?_ _) | (with_reducible refine Below.alloc ?_ (by first | exact Nat.le_refl _ | omega | (simp; done) | (simp; omega)) _) | (with_reducible refine Below.setCell ?_ (by first | (simp only []; omega) | (simp; done) | (simp; omega)) _)))⟩
      | false =>
        rw [hal] at hya
        clear hal
        go_enter Try.func22, Try.ntmps22
        go_wp2_with fail
        go_quiet ((go_at_call 34; exact Calls.quiet_of_same (H.out _)))
        go_wp2
        go_ret
        exact ⟨rfl, (by repeat (first | (with_reducible exact hB) | (with_reducible refine Below.drew ?_) | (with_reducible refine below_drewN ?_ _) | (with_reducible refine below_al ?_ _) | (with_reducible refine Below.alloc ?_ (by first | exact Nat.le_refl _ | omega | (simp; done) | (simp; omega)) _) | (with_reducible refine Below.setCell ?_ (by first | (simp only []; omega) | (simp; done) | (simp; omega)) _)))⟩
    · have hE : aliveS s i g = false := by simp [aliveS, h1]
      rw [hE]
      have hd1 : decide ((i : Int) < (s.gens.length : Int)) = false := by simp; omega
      clear hE HB hX
      go_enter Try.func22, Try.ntmps22
      go_wp2_with fail
      go_quiet ((go_at_call 34; exact Calls.quiet_of_same (H.out _)))
      go_wp2
      go_ret
      exact ⟨rfl, (by repeat (first | (with_reducible exact hB) | (with_reducible refine Below.drew ?_) | (with_reducible refine below_drewN ?_ _) | (with_reducible refine below_al ?_ _) | (with_reducible refine Below.alloc ?_ (by first | exact Nat.le_refl _ | omega | (simp; done) | (simp; omega)) _) | (with_reducible refine Below.setCell ?_ (by first | (simp only []; omega) | (simp; done) | (simp; omega)) _)))⟩
  · have hE : aliveS s x g = false := by simp [aliveS, h0]
    rw [hE]
    have hd0 : decide (x ≥ 0) = false := by simp; omega
    clear hE HB hX
    go_enter Try.func22, Try.ntmps22
    go_wp2_with fail
    go_quiet ((go_at_call 34; exact Calls.quiet_of_same (H.out _)))
    go_wp2
    go_ret
    exact ⟨rfl, (by repeat (first | (with_reducible exact hB) | (with_reducible refine Below.drew ?_) | (with_reducible refine below_drewN ?_ _) | (with_reducible refine below_al ?_ _) | (with_reducible refine Below.alloc ?_ (by first | exact Nat.le_refl _ | omega | (simp; done) | (simp; omega)) _) | (with_reducible refine Below.setCell ?_ (by first | (simp only []; omega) | (simp; done) | (simp; omega)) _)))⟩
end Go.Proofs.Ytnglgjegkjfnaaa
