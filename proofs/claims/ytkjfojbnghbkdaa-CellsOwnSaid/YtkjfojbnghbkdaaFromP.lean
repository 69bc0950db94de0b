import Derived.Test.YtkjfojbnghbkdaaPCellsFromx
namespace Go.Proofs.Ytkjfojbnghbkdaa.PCellsFrom
open Go.RowKit
/-! What From answers: for each access the place of the last write of its cell ahead of it. The program's function and the document's are both this. -/
def lastW (l : List S28) (c : Int) : Nat → Int
  | 0 => -1
  | n + 1 => if (rd_T28 l n).f0 = c ∧ (rd_T28 l n).f4 = true then (n : Int) else lastW l c n
def frm (l : List S28) : Nat → List Int
  | 0 => []
  | n + 1 => frm l n ++ [lastW l (rd_T28 l n).f0 n]
theorem frm_length (l : List S28) (n : Nat) : (frm l n).length = n := by
  induction n with
  | zero => rfl
  | succ n ih => simp [frm, ih]
theorem wrap_succ {n : Nat} (h : n < 17592186044416) : wrap64 ((n : Int) + 1) = ((n + 1 : Nat) : Int) := by
  unfold wrap64; omega
theorem rd_take {l : List S28} {i j : Nat} (h : j < i) : rd_T28 (l.take i) j = rd_T28 l j := by
  simp [rd_T28, List.getD_eq_getElem?_getD, List.getElem?_take, h]
theorem cl1 {l : List S28} {x3 : List Int} {i : Nat} (hi : i < l.length) (hl : l.length < 17592186044416) (hx : x3.length < 17592186044416) {c a1 a2 a3 L : Int} {a4 : Bool} {F : Nat} {r : List Int} (h : ∀ K, F ≤ K → cells_From.l0 K l (x3 ++ [lastW l c i]) l L ((i + 1 : Nat) : Int) = some r) :
    ∀ d j k, j + d = i → d + 1 + F ≤ k → cells_From.l1 k l x3 (lastW l c j) l L (i : Int) (l.take i) ((l.take i).length : Int) (j : Int) c a1 a2 a3 a4 = some r := by
  intro d
  induction d with
  | zero =>
    intro j k hj hk
    obtain ⟨k, rfl⟩ : ∃ k', k = k' + 1 := ⟨k - 1, by omega⟩
    obtain rfl : j = i := by omega
    have hn : ¬ ((j : Int) < ((l.take j).length : Int)) := by rw [List.length_take]; omega
    rw [cells_From.l1, if_neg hn, if_pos hx, wrap_succ (by omega)]
    exact h k (by omega)
  | succ d ih =>
    intro j k hj hk
    obtain ⟨k, rfl⟩ : ∃ k', k = k' + 1 := ⟨k - 1, by omega⟩
    have hn : (j : Int) < ((l.take i).length : Int) := by rw [List.length_take]; omega
    rw [cells_From.l1, if_pos hn, if_pos (by omega), if_pos hn, wrap_succ (by omega), rd_take (by omega)]
    have hs := ih (j + 1) k (by omega) (by omega)
    rw [lastW] at hs
    by_cases h0 : (rd_T28 l j).f0 = c
    · by_cases h4 : (rd_T28 l j).f4 = true
      · rw [if_pos ⟨h0, h4⟩] at hs
        rw [if_pos h0, if_pos h4]; exact hs
      · rw [if_neg (fun hh => h4 hh.2)] at hs
        rw [if_pos h0, if_neg h4]; exact hs
    · rw [if_neg (fun hh => h0 hh.1)] at hs
      rw [if_neg h0]; exact hs
theorem cl0 {l : List S28} (hl : l.length < 17592186044416) : ∀ m i k, i + m = l.length → m * (l.length + 3) + 1 ≤ k → cells_From.l0 k l (frm l i) l (l.length : Int) (i : Int) = some (frm l l.length) := by
  intro m
  induction m with
  | zero =>
    intro i k hi hk
    obtain ⟨k, rfl⟩ : ∃ k', k = k' + 1 := ⟨k - 1, by omega⟩
    obtain rfl : i = l.length := by omega
    rw [cells_From.l0, if_neg (by omega)]
  | succ m ih =>
    intro i k hi hk
    obtain ⟨k, rfl⟩ : ∃ k', k = k' + 1 := ⟨k - 1, by omega⟩
    rw [cells_From.l0, if_pos (by omega), if_pos (by omega), if_pos (by omega), if_pos (by omega), Option.bind_some, Int.toNat_natCast]
    rw [Nat.add_mul] at hk
    refine cl1 (by omega) hl (by rw [frm_length]; omega) (F := m * (l.length + 3) + 1) (fun K hK => ?_) i 0 k (by omega) (by omega)
    exact ih (i + 1) K (by omega) hK
theorem cells_From_eq {l : List S28} (hl : l.length < 17592186044416) : cells_From.f (l.length * (l.length + 3) + 1) l = some (frm l l.length) := cl0 hl l.length 0 _ (by omega) (Nat.le_refl _)
theorem rl1 {l : List S28} {x3 : List Int} {i : Nat} (hi : i < l.length) (hl : l.length < 17592186044416) (hx : x3.length < 17592186044416) {F : Nat} {r : List Int} (h : ∀ K, F ≤ K → rotaref10_From.l0 K l (x3 ++ [lastW l (rd_T28 l i).f0 i]) ((i + 1 : Nat) : Int) = some r) :
    ∀ d j k, j + d = i → d + 1 + F ≤ k → rotaref10_From.l1 k l x3 (i : Int) (lastW l (rd_T28 l i).f0 j) (j : Int) = some r := by
  intro d
  induction d with
  | zero =>
    intro j k hj hk
    obtain ⟨k, rfl⟩ : ∃ k', k = k' + 1 := ⟨k - 1, by omega⟩
    obtain rfl : j = i := by omega
    rw [rotaref10_From.l1, if_neg (by omega), if_pos hx, wrap_succ (by omega)]
    exact h k (by omega)
  | succ d ih =>
    intro j k hj hk
    obtain ⟨k, rfl⟩ : ∃ k', k = k' + 1 := ⟨k - 1, by omega⟩
    rw [rotaref10_From.l1, if_pos (by omega), if_pos (by omega), if_pos (by omega), if_pos (by omega), if_pos (by omega), wrap_succ (by omega)]
    have hs := ih (j + 1) k (by omega) (by omega)
    rw [lastW] at hs
    by_cases h0 : (rd_T28 l j).f0 = (rd_T28 l i).f0
    · by_cases h4 : (rd_T28 l j).f4 = true
      · rw [if_pos ⟨h0, h4⟩] at hs
        rw [if_pos h0, if_pos h4]; exact hs
      · rw [if_neg (fun hh => h4 hh.2)] at hs
        rw [if_pos h0, if_neg h4]; exact hs
    · rw [if_neg (fun hh => h0 hh.1)] at hs
      rw [if_neg h0]; exact hs
theorem rl0 {l : List S28} (hl : l.length < 17592186044416) : ∀ m i k, i + m = l.length → m * (l.length + 3) + 1 ≤ k → rotaref10_From.l0 k l (frm l i) (i : Int) = some (frm l l.length) := by
  intro m
  induction m with
  | zero =>
    intro i k hi hk
    obtain ⟨k, rfl⟩ : ∃ k', k = k' + 1 := ⟨k - 1, by omega⟩
    obtain rfl : i = l.length := by omega
    rw [rotaref10_From.l0, if_neg (by omega)]
  | succ m ih =>
    intro i k hi hk
    obtain ⟨k, rfl⟩ : ∃ k', k = k' + 1 := ⟨k - 1, by omega⟩
    rw [rotaref10_From.l0, if_pos (by omega)]
    rw [Nat.add_mul] at hk
    refine rl1 (by omega) hl (by rw [frm_length]; omega) (F := m * (l.length + 3) + 1) (fun K hK => ?_) i 0 k (by omega) (by omega)
    exact ih (i + 1) K (by omega) hK
theorem ref_From_eq {l : List S28} (hl : l.length < 17592186044416) : rotaref10_From.f (l.length * (l.length + 3) + 1) l = some (frm l l.length) := rl0 hl l.length 0 _ (by omega) (Nat.le_refl _)
end Go.Proofs.Ytkjfojbnghbkdaa.PCellsFrom
