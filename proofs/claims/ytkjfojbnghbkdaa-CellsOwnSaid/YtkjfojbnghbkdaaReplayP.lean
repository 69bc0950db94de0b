import Derived.Test.YtkjfojbnghbkdaaPCellsReplayx
import Derived.Test.YtkjfojbnghbkdaaCellsH
namespace Go.Proofs.Ytkjfojbnghbkdaa
open Go.RowKit Go.Proofs.YtkjfojbnghbkdaaW.PrintWords
/-! The document's Replay is the plain law 'rpl'. -/
def toS (a : Acc) : PCellsReplay.S28 := ⟨a.c, a.k, a.b, a.a, a.w⟩
theorem ref_may {l : List Int} {a : Acc} (k : Nat) : PCellsReplay.rotaref10_may.f (k + 1) l a.c a.k a.b a.a a.w = some (if a.c < 0 ∨ (l.length : Int) ≤ a.c then 100 else if canB a = false ∨ a.b ≠ rd l a.c ∨ (a.w = false ∧ a.a ≠ a.b) then 101 else 0) := by
  obtain ⟨c, kk, b, v, w⟩ := a
  simp only [PCellsReplay.rotaref10_may.f, PCellsReplay.rotaref10_is.f, PCellsReplay.rotaref10_may.j0, canB]
  by_cases h0 : c ≥ 0
  · by_cases h1 : c < (l.length : Int)
    · rw [if_pos h0, decide_eq_true h1, Option.bind_some, if_pos rfl, if_pos h0, if_pos h1, if_neg (show ¬ (c < 0 ∨ (l.length : Int) ≤ c) by omega)]
      simp only [if_true]
      by_cases k0 : kk < 1
      · rw [if_pos k0, if_pos (.inl (by rw [if_neg (by omega), if_neg (by omega), if_neg (by omega)]; simp; omega))]
      · rw [if_neg k0]
        by_cases k4 : kk > 4
        · rw [if_pos k4, if_pos (.inl (by rw [if_neg (by omega), if_neg (by omega), if_neg (by omega)]; simp; omega))]
        · rw [if_neg k4]
          by_cases hb : b = rd l c
          · rw [if_pos hb]
            have hk : kk = 1 ∨ kk = 2 ∨ kk = 3 ∨ kk = 4 := by omega
            by_cases hv : v = b
            · rcases hk with rfl | rfl | rfl | rfl <;> cases w <;> simp [← hb, hv]
            · rcases hk with rfl | rfl | rfl | rfl <;> cases w <;> simp [← hb, hv]
          · rw [if_neg hb, if_pos (.inr (.inl hb))]
    · rw [if_pos h0, decide_eq_false h1, Option.bind_some, if_neg (by simp), if_pos (.inr (by omega))]
  · rw [if_neg h0, Option.bind_some, if_neg (by simp), if_pos (.inl (by omega))]
theorem rd_toS {l : List Acc} {i : Nat} {a : Acc} (h : l[i]? = some a) : PCellsReplay.rd_T28 (l.map toS) i = toS a := by
  simp [PCellsReplay.rd_T28, List.getD_eq_getElem?_getD, List.getElem?_map, h]
theorem ref_replay0 {l : List Acc} (hl : l.length < 17592186044416) : ∀ m i (ys : List Int) k, i + m = l.length → m + 2 ≤ k → PCellsReplay.rotaref10_Replay.l0 k (l.map toS) ys (i : Int) = some (rpl ys i (l.drop i)) := by
  intro m
  induction m with
  | zero =>
    intro i ys k hi hk
    obtain ⟨k, rfl⟩ : ∃ k', k = k' + 1 := ⟨k - 1, by omega⟩
    rw [PCellsReplay.rotaref10_Replay.l0, if_neg (by rw [List.length_map]; omega), List.drop_eq_nil_of_le (by omega)]
    rfl
  | succ m ih =>
    intro i ys k hi hk
    obtain ⟨k, rfl⟩ : ∃ k', k = k' + 2 := ⟨k - 2, by omega⟩
    have ha : l[i]? = some l[i] := List.getElem?_eq_getElem (by omega)
    generalize l[i] = a at ha
    rw [PCellsReplay.rotaref10_Replay.l0, if_pos (by rw [List.length_map]; omega), if_pos (by omega), rd_toS ha, rpl_at ha ys]
    have hm : PCellsReplay.rotaref10_may.f (k + 1) ys (toS a).f0 (toS a).f1 (toS a).f2 (toS a).f3 (toS a).f4 = _ := ref_may (l := ys) (a := a) k
    rw [hm, Option.bind_some]
    by_cases hr : a.c < 0 ∨ (ys.length : Int) ≤ a.c
    · rw [if_pos hr, if_pos hr, if_neg (by decide)]
    · rw [if_neg hr, if_neg hr]
      by_cases hb : canB a = false ∨ a.b ≠ rd ys a.c ∨ (a.w = false ∧ a.a ≠ a.b)
      · rw [if_pos hb, if_pos hb, if_neg (by decide)]
      · rw [if_neg hb, if_neg hb, if_pos rfl, if_pos (show 0 ≤ (toS a).f0 by show 0 ≤ a.c; omega), if_pos (show (toS a).f0 < (ys.length : Int) by show a.c < (ys.length : Int); omega)]
        have hw : wrap64 ((i : Int) + 1) = ((i + 1 : Nat) : Int) := by unfold wrap64; omega
        rw [hw, ih (i + 1) _ (k + 1) (by omega) (by omega)]
        rfl
theorem ref_replay {l : List Acc} {ys : List Int} (hl : l.length < 17592186044416) (hy : ys.length < 17592186044416) : PCellsReplay.rotaref10_Replay.f (l.length + 2) ys (l.map toS) = some (rpl ys 0 l) := by
  rw [PCellsReplay.rotaref10_Replay.f, if_pos (by simpa using hy), List.nil_append]
  exact ref_replay0 hl l.length 0 ys _ (by omega) (Nat.le_refl _)
theorem toS_k {w : World} {x : Acc} {cs : List Value} (h : kAcc.K w x cs) : PCellsReplay.k28.K w (toS x) cs := by
  obtain ⟨_, _, rfl, rfl, ⟨_, _, rfl, rfl, ⟨_, _, rfl, rfl, ⟨_, _, rfl, rfl, rfl⟩⟩⟩⟩ := h
  exact ⟨_, _, rfl, rfl, ⟨_, _, rfl, rfl, ⟨_, _, rfl, rfl, ⟨_, _, rfl, rfl, rfl⟩⟩⟩⟩
end Go.Proofs.Ytkjfojbnghbkdaa
