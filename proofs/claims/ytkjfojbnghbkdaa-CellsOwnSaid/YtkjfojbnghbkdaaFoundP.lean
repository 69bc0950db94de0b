import Derived.Test.YtkjfojbnghbkdaaLog
import Derived.Test.YtkjfojbnghbkdaaFromP
namespace Go.Proofs.Ytkjfojbnghbkdaa
open Go.RowKit Go.Proofs.YtkjfojbnghbkdaaW.PrintWords
/-! What each access of a replayed log found: the last write's value, or nought. -/
def toF (a : Acc) : PCellsFrom.S28 := ⟨a.c, a.k, a.b, a.a, a.w⟩
theorem rd_toF {l : List Acc} {i : Nat} {a : Acc} (h : l[i]? = some a) : PCellsFrom.rd_T28 (l.map toF) i = toF a := by
  simp [PCellsFrom.rd_T28, List.getD_eq_getElem?_getD, List.getElem?_map, h]
theorem toF_k {w : World} {x : Acc} {cs : List Value} (h : kAcc.K w x cs) : PCellsFrom.k28.K w (toF x) cs := by
  obtain ⟨_, _, rfl, rfl, ⟨_, _, rfl, rfl, ⟨_, _, rfl, rfl, ⟨_, _, rfl, rfl, rfl⟩⟩⟩⟩ := h
  exact ⟨_, _, rfl, rfl, ⟨_, _, rfl, rfl, ⟨_, _, rfl, rfl, ⟨_, _, rfl, rfl, rfl⟩⟩⟩⟩
/-- The last write's value. -/
def valOf (l : List Acc) (c : Int) : Nat → Int
  | 0 => 0
  | n + 1 => match l[n]? with
    | some a => if a.c = c ∧ a.w = true then a.a else valOf l c n
    | none => valOf l c n
theorem last_spec (l : List Acc) (c : Int) : ∀ n, n ≤ l.length → (PCellsFrom.lastW (l.map toF) c n = -1 ∧ valOf l c n = 0) ∨ ∃ (k : Nat) (a : Acc), k < n ∧ PCellsFrom.lastW (l.map toF) c n = k ∧ l[k]? = some a ∧ a.c = c ∧ a.w = true ∧ a.a = valOf l c n := by
  intro n
  induction n with
  | zero => intro _; exact .inl ⟨rfl, rfl⟩
  | succ n ih =>
    intro hn
    have ha : l[n]? = some l[n] := List.getElem?_eq_getElem (by omega)
    generalize l[n] = a at ha
    rw [PCellsFrom.lastW, rd_toF ha, valOf, ha]
    simp only
    by_cases hc : a.c = c ∧ a.w = true
    · rw [if_pos hc, if_pos (show (toF a).f0 = c ∧ (toF a).f4 = true from hc)]
      exact .inr ⟨n, a, by omega, rfl, ha, hc.1, hc.2, rfl⟩
    · rw [if_neg hc, if_neg (show ¬ ((toF a).f0 = c ∧ (toF a).f4 = true) from hc)]
      rcases ih (by omega) with h | ⟨k, b, hk, h⟩
      · exact .inl h
      · exact .inr ⟨k, b, by omega, h⟩
theorem rd_set {ys : List Int} {i j : Nat} {v : Int} (hi : i < ys.length) : rd (ys.set i v) j = if i = j then v else rd ys j := by
  simp only [rd, List.getD_eq_getElem?_getD, Int.toNat_natCast, List.getElem?_set]
  split
  · first | rfl | (rw [if_pos hi]; rfl)
  · rfl
theorem rpl_vals {l : List Acc} {N : Nat} {zs : List Int} (h : rpl (List.replicate N 0) 0 l = (zs, 0, 0)) : ∀ i, i ≤ l.length → ∃ z : List Int, z.length = N ∧ rpl z i (l.drop i) = (zs, 0, 0) ∧ ∀ c : Nat, c < N → rd z c = valOf l c i := by
  intro i
  induction i with
  | zero =>
    intro _
    refine ⟨_, List.length_replicate .., h, fun c hc => ?_⟩
    simp [rd, valOf, List.getD_eq_getElem?_getD, List.getElem?_replicate, hc]
  | succ i ih =>
    intro hi
    obtain ⟨z, hz, hr, hv⟩ := ih (by omega)
    have ha : l[i]? = some l[i] := List.getElem?_eq_getElem (by omega)
    generalize l[i] = a at ha
    rw [rpl_at ha] at hr
    split at hr
    · simp at hr
    · rename_i hrg
      split at hr
      · simp at hr
      · rename_i hcn
        refine ⟨_, by rw [List.length_set]; exact hz, hr, fun c hc => ?_⟩
        have h0 : a.c.toNat < z.length := by omega
        rw [rd_set h0, valOf, ha]
        simp only
        have hac : a.c = ((a.c.toNat : Nat) : Int) := by omega
        by_cases he : a.c.toNat = c
        · rw [if_pos he]
          have hec : a.c = (c : Int) := by omega
          cases hw : a.w with
          | true => rw [if_pos ⟨hec, rfl⟩]
          | false =>
            rw [if_neg (by simp), ← hv c hc]
            have hab : a.a = a.b := by
              apply Decidable.byContradiction
              intro hne
              exact hcn (.inr (.inr ⟨hw, hne⟩))
            have hbr : a.b = rd z a.c := by
              apply Decidable.byContradiction
              intro hne
              exact hcn (.inr (.inl hne))
            rw [hab, hbr, hec]
        · rw [if_neg he, if_neg (fun hh => he (by omega)), hv c hc]
/-- What the law asks of each access. -/
theorem found_ok {l : List Acc} {N : Nat} {zs : List Int} (h : rpl (List.replicate N 0) 0 l = (zs, 0, 0)) {i : Nat} {a : Acc} (ha : l[i]? = some a) :
    (PCellsFrom.lastW (l.map toF) a.c i = -1 ∧ a.b = 0) ∨ ∃ (k : Nat) (b : Acc), k < i ∧ PCellsFrom.lastW (l.map toF) a.c i = k ∧ l[k]? = some b ∧ b.c = a.c ∧ b.w = true ∧ b.a = a.b := by
  have hi : i < l.length := (List.getElem?_eq_some_iff.1 ha).1
  obtain ⟨z, hz, hr, hv⟩ := rpl_vals h i (by omega)
  rw [rpl_at ha] at hr
  split at hr
  · simp at hr
  · rename_i hrg
    split at hr
    · simp at hr
    · rename_i hcn
      have hbr : a.b = rd z a.c := by
        apply Decidable.byContradiction
        intro hne
        exact hcn (.inr (.inl hne))
      have hac : a.c = ((a.c.toNat : Nat) : Int) := by omega
      have hval : a.b = valOf l a.c i := by rw [hbr, hac, hv _ (by omega)]
      rcases last_spec l a.c i (by omega) with ⟨h1, h2⟩ | ⟨k, b, hk, h1, h2, h3, h4, h5⟩
      · exact .inl ⟨h1, hval.trans h2⟩
      · exact .inr ⟨k, b, hk, h1, h2, h3, h4, h5.trans hval.symm⟩
theorem frm_get {l : List PCellsFrom.S28} : ∀ {n i : Nat}, i < n → rd (PCellsFrom.frm l n) i = PCellsFrom.lastW l (PCellsFrom.rd_T28 l i).f0 i := by
  intro n
  induction n with
  | zero => intro i h; omega
  | succ n ih =>
    intro i h
    rw [PCellsFrom.frm]
    by_cases hi : i < n
    · rw [← ih hi]
      simp only [rd, List.getD_eq_getElem?_getD, Int.toNat_natCast]
      rw [List.getElem?_append_left (by rw [PCellsFrom.frm_length]; exact hi)]
    · obtain rfl : i = n := by omega
      simp only [rd, List.getD_eq_getElem?_getD, Int.toNat_natCast]
      rw [List.getElem?_append_right (by rw [PCellsFrom.frm_length]; exact Nat.le_refl _), PCellsFrom.frm_length, Nat.sub_self]
      rfl
end Go.Proofs.Ytkjfojbnghbkdaa
