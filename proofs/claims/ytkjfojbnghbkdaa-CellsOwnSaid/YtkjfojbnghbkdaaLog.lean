import Derived.Test.YtkjfojbnghbkdaaCellsG
import Derived.Test.YtkjfojbnghbkdaaCellsH
namespace Go.Proofs.Ytkjfojbnghbkdaa
open Go.RowKit Go.Proofs.YtkjfojbnghbkdaaW.PrintWords
/-! The log of calls, replayed, gives what is in the cells; and each access found what the last write left. -/
theorem rpl_append : ∀ (l : List Acc) (ys zs : List Int) (i : Nat) (a : Acc), rpl ys i l = (zs, 0, 0) → rpl ys i (l ++ [a]) = rpl zs (i + l.length) [a] := by
  intro l
  induction l with
  | nil =>
    intro ys zs i a h
    simp only [rpl, Prod.mk.injEq] at h
    rw [h.1]
    rfl
  | cons b l ih =>
    intro ys zs i a h
    rw [List.cons_append, rpl]
    rw [rpl] at h
    split
    · rename_i hc
      rw [if_pos hc] at h
      simp at h
    · rename_i hc
      rw [if_neg hc] at h
      split
      · rename_i hd
        rw [if_pos hd] at h
        simp at h
      · rename_i hd
        rw [if_neg hd] at h
        rw [ih _ _ _ _ h, List.length_cons]
        congr 1
        omega
theorem canB_one (a b c : Int) : canB ⟨a, 1, b, c, false⟩ = true := by simp [canB]
theorem canB_two (a b c : Int) : canB ⟨a, 2, b, c, true⟩ = true := by simp [canB]
theorem canB_three (a b c : Int) (w : Bool) : canB ⟨a, 3, b, c, w⟩ = true := by simp [canB]
theorem canB_four (a b c : Int) : canB ⟨a, 4, b, c, true⟩ = true := by simp [canB]
/-- An access that was told is one that could be, and has its place, its value before, and what is behind it. -/
theorem ck_acc {xs : List Int} {o : COp} (h : (ck xs o).2.2 = true) : ∃ i : Nat, i < xs.length ∧ (ck xs o).2.1.c = i ∧ (ck xs o).2.1.b = rd xs i ∧ canB (ck xs o).2.1 = true ∧ ((ck xs o).2.1.w = false → (ck xs o).2.1.a = (ck xs o).2.1.b) ∧ (ck xs o).1 = xs.set i (ck xs o).2.1.a := by
  unfold ck at h ⊢
  split at h
  · rename_i hk
    rw [if_pos hk]
    simp only at h ⊢
    unfold stp at h ⊢
    by_cases hr : 0 ≤ o.c ∧ o.c < (xs.length : Int)
    · obtain ⟨i, hi⟩ := Int.eq_ofNat_of_zero_le hr.1
      rw [hi] at hr ⊢
      have hi' : i < xs.length := by omega
      have hg : xs.getD ((i : Int)).toNat 0 = rd xs i := rfl
      rw [if_pos hr]
      simp only [hg, Int.toNat_natCast]
      have hset : xs = xs.set i (rd xs i) := by
        apply List.ext_getElem?
        intro j
        rw [List.getElem?_set]
        split
        · rename_i hj
          subst hj
          simp [rd, List.getD_eq_getElem?_getD, List.getElem?_eq_getElem hi', hi']
        · rfl
      rcases hk with hk | hk | hk | hk
      · rw [hk]
        rw [if_pos rfl]
        exact ⟨i, hi', rfl, rfl, canB_one _ _ _, fun _ => rfl, hset⟩
      · rw [hk]
        rw [if_neg (by decide), if_pos rfl]
        exact ⟨i, hi', rfl, rfl, canB_two _ _ _, (fun h => by cases h), rfl⟩
      · rw [hk]
        rw [if_neg (by decide), if_neg (by decide), if_pos rfl]
        split
        · exact ⟨i, hi', rfl, rfl, canB_three _ _ _ _, (fun h => by cases h), rfl⟩
        · exact ⟨i, hi', rfl, rfl, canB_three _ _ _ _, fun _ => rfl, hset⟩
      · rw [hk]
        rw [if_neg (by decide), if_neg (by decide), if_neg (by decide)]
        exact ⟨i, hi', rfl, rfl, canB_four _ _ _, (fun h => by cases h), rfl⟩
    · rw [if_neg hr] at h
      simp at h
  · simp at h
theorem ck_none {xs : List Int} {o : COp} (h : (ck xs o).2.2 = false) : (ck xs o).1 = xs := by
  unfold ck at h ⊢
  split at h
  · rename_i hk
    rw [if_pos hk]
    simp only at h ⊢
    unfold stp at h ⊢
    split
    · rename_i hr
      rw [if_pos hr] at h
      simp only at h
      rcases hk with hk | hk | hk | hk
      · simp [hk]
      · simp [hk] at h
      · rw [hk] at h
        rw [if_neg (by decide), if_neg (by decide), if_pos rfl] at h
        split at h <;> simp at h
      · simp [hk] at h
    · rfl
  · rename_i hk
    rw [if_neg hk]
theorem ck_rpl {xs : List Int} {o : COp} (h : (ck xs o).2.2 = true) (j : Nat) : rpl xs j [(ck xs o).2.1] = ((ck xs o).1, 0, 0) := by
  obtain ⟨i, hi, hc, hb, hcan, hw, hs⟩ := ck_acc h
  rw [rpl, hc, if_neg (by omega), hcan, hb, if_neg (by
    rintro (h | h | h)
    · cases h
    · exact h rfl
    · exact h.2 (by rw [hw h.1, hb])), Int.toNat_natCast, hs]
  rfl
theorem lg_rpl (y0 : List Int) : ∀ (ops : List COp) (xs : List Int) (l : List Acc), rpl y0 0 l = (xs, 0, 0) → rpl y0 0 (lg xs ops l).1 = ((lg xs ops l).2, 0, 0) := by
  intro ops
  induction ops with
  | nil => intro xs l h; exact h
  | cons o ops ih =>
    intro xs l h
    rw [lg]
    cases hs : (ck xs o).2.2 with
    | true =>
      rw [if_pos rfl]
      refine ih _ _ ?_
      rw [rpl_append l y0 xs 0 _ h, ck_rpl hs]
    | false =>
      rw [if_neg (by decide)]
      refine ih _ _ ?_
      rw [ck_none hs]
      exact h
theorem lg_len1 : ∀ (ops : List COp) (xs : List Int) (l : List Acc), (lg xs ops l).1.length ≤ l.length + ops.length := by
  intro ops
  induction ops with
  | nil => intro xs l; simp [lg]
  | cons o ops ih =>
    intro xs l
    rw [lg]
    refine Nat.le_trans (ih _ _) ?_
    split
    · simp; omega
    · simp
def ofS (s : PCellsOwn.S28) : Acc := ⟨s.f0, s.f1, s.f2, s.f3, s.f4⟩
theorem ofS_k {w : World} {x : PCellsOwn.S28} {cs : List Value} (h : PCellsOwn.k28.K w x cs) : kAcc.K w (ofS x) cs := by
  obtain ⟨_, _, rfl, rfl, ⟨_, _, rfl, rfl, ⟨_, _, rfl, rfl, ⟨_, _, rfl, rfl, rfl⟩⟩⟩⟩ := h
  exact ⟨_, _, rfl, rfl, ⟨_, _, rfl, rfl, ⟨_, _, rfl, rfl, ⟨_, _, rfl, rfl, rfl⟩⟩⟩⟩
theorem ofS_map (l : List Acc) : (l.map Acc.s).map ofS = l := by
  rw [List.map_map]
  exact (List.map_congr_left (fun _ _ => rfl)).trans (List.map_id l)
end Go.Proofs.Ytkjfojbnghbkdaa
