import Derived.Test.YtefkdicejhjfoaaPolE
namespace Go.Proofs.Ytefkdicejhjfoaa
open Go.RowKit Go.Proofs.YtefkdicejhjfoaaW.PrintWords Go.Proofs.YtefkdicejhjfoaaW.PrintLast Go.Proofs.YtefkdicejhjfoaaW.PrintMore Go.Proofs.Ytefkdicejhjfoaa.PPolicyPaths
/-! More edges take no path away: what Above tells is a part of what it tells of more edges. -/
theorem above_sub {es fs : List S35} {o : Int} (h : ∀ n : Nat, rchB es n o = true → rchB fs n o = true) : ∀ n, (aboveL es o n).Sublist (aboveL fs o n) := by
  intro n
  induction n with
  | zero => exact List.Sublist.refl _
  | succ n ih =>
    rw [aboveL, aboveL]
    split
    · rename_i hc
      rw [if_pos (h n hc)]
      exact List.Sublist.append ih (List.Sublist.refl _)
    · split
      · exact ih.trans (List.sublist_append_left _ _)
      · exact ih
theorem rchB_more {es more : List S35} {a b : Int} (h : rchB es a b = true) : rchB (es ++ more) a b = true := by
  rw [rchB_iff] at h ⊢
  refine h.mono (fun e he => ?_)
  unfold toE at he ⊢
  rw [List.map_append]
  exact List.mem_append_left _ he
/-- One step of the search: what is sought is ahead. -/
theorem sub_skip {was now : List Int} {i k : Nat} {x y : Int} (hs : (was.drop i).Sublist (now.drop k)) (hx : was[i]? = some x) (hy : now[k]? = some y) (hne : y ≠ x) : (was.drop i).Sublist (now.drop (k + 1)) := by
  rw [drop_at hx, drop_at hy] at hs
  rw [drop_at hx]
  cases hs with
  | cons _ h => exact h
  | cons_cons _ h => exact absurd rfl hne
theorem sub_next {was now : List Int} {i k : Nat} {x : Int} (hs : (was.drop i).Sublist (now.drop k)) (hx : was[i]? = some x) : (was.drop (i + 1)).Sublist (now.drop k) := by
  rw [drop_at hx] at hs
  exact (List.sublist_cons_self _ _).trans hs
theorem sub_in {was now : List Int} {i k : Nat} {x : Int} (hs : (was.drop i).Sublist (now.drop k)) (hx : was[i]? = some x) : k < now.length := by
  have h := hs.length_le
  have hi := (List.getElem?_eq_some_iff.1 hx).1
  rw [List.length_drop, List.length_drop] at h
  omega
theorem above_self {es : List S35} {D o : Nat} (ho : o < D) : 0 < (aboveL es o D).length := by
  induction D with
  | zero => omega
  | succ n ih =>
    rw [aboveL]
    by_cases h : o = n
    · subst h
      rw [if_pos (by rw [rchB_iff]; exact .refl)]
      simp
    · have := ih (by omega)
      split
      · simp
      · exact this
theorem chkL_or (D : Int) (es : List S35) : ∀ i, (chkL D es i).2 = 0 ∨ (chkL D es i).2 = 170 := by
  induction es with
  | nil => intro i; exact .inl rfl
  | cons e es ih =>
    intro i
    rw [chkL]
    split
    · exact .inr rfl
    · exact ih _
theorem chkL_more (D : Int) (es more : List S35) : ∀ i, (chkL D (es ++ more) i).2 = 170 ∨ (chkL D es i).2 = 0 ∧ (chkL D (es ++ more) i).2 = 0 := by
  induction es with
  | nil =>
    intro i
    rcases chkL_or D more i with h | h
    · exact .inr ⟨rfl, h⟩
    · exact .inl h
  | cons e es ih =>
    intro i
    rw [List.cons_append, chkL, chkL]
    split
    · exact .inl rfl
    · exact ih _
/-- The error behind more edges: the same, or that of an edge. -/
theorem looked_more (D : Int) (es more : List S35) (of : List Int) : lookedP D es of = lookedP D (es ++ more) of ∨ lookedP D (es ++ more) of = 170 := by
  unfold lookedP chk
  by_cases h : D < 1 ∨ 16 < D
  · rw [if_pos h, if_pos h]; exact .inl rfl
  · rw [if_neg h, if_neg h]
    rcases chkL_more D es more 0 with h1 | ⟨h1, h2⟩
    · rw [h1]; exact .inr rfl
    · rw [h1, h2]; exact .inl rfl
end Go.Proofs.Ytefkdicejhjfoaa
