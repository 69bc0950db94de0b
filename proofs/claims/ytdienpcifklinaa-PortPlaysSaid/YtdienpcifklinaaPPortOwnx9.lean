-- what this claim does not use is left out
import Derived.Test.YtdienpcifklinaaPPortOwnx0
import Derived.Test.YtdienpcifklinaaPPortOwnx4
import Derived.Test.YtdienpcifklinaaPPortOwnx8
namespace Go.Proofs.Ytdienpcifklinaa.PPortOwn
open Go.RowKit Go.Proofs.YtdienpcifklinaaW.PrintWords Go.Proofs.YtdienpcifklinaaW.PrintLast Go.Proofs.YtdienpcifklinaaW.PrintMore
attribute [local go_sem] max2_int min2_int max_two min_two max_three min_three max_four min_four   -- for this text's walks alone
set_option linter.unusedVariables false
set_option linter.unusedSimpArgs false

/-! ### rotaref15_Load: function 21 -/
mutual
def rotaref15_Load.j0 : Nat → Bool → Bool → Int → List Int → List (S68) → Int → Option (Bool × Int × List Int × (List (S68)) × Int × Int)
  | 0, _, _, _, _, _, _ => none
  | k + 1, x52, x184000, x184001, x184002, x184003, x184004 => if x52 = true then (some (false, 0, ([] : List Int), ([] : List (S68)), 0, 150)) else (rotaref15_Load.l0 k 0 x184000 x184001 x184002 x184003 x184004)
def rotaref15_Load.l0 : Nat → Int → Bool → Int → List Int → List (S68) → Int → Option (Bool × Int × List Int × (List (S68)) × Int × Int)
  | 0, _, _, _, _, _, _ => none
  | k + 1, x6, x184000, x184001, x184002, x184003, x184004 => if x6 < (x184003.length : Int) then (if 0 ≤ x6 then (if ((rd_T68 x184003 x6).f1) < 0 then (some (false, 0, ([] : List Int), ([] : List (S68)), 0, 150)) else (if ((rd_T68 x184003 x6).f1) > 2147483647 then (some (false, 0, ([] : List Int), ([] : List (S68)), 0, 150)) else (if x6 > 0 then (if 0 ≤ (wrap64 (x6 - 1)) then (if (wrap64 (x6 - 1)) < (x184003.length : Int) then (if ((rd_T68 x184003 x6).f1) > ((rd_T68 x184003 (wrap64 (x6 - 1))).f1) then (some (false, 0, ([] : List Int), ([] : List (S68)), 0, 150)) else (rotaref15_Load.l0 k (wrap64 (x6 + 1)) x184000 x184001 x184002 x184003 x184004)) else (none)) else (none)) else (rotaref15_Load.l0 k (wrap64 (x6 + 1)) x184000 x184001 x184002 x184003 x184004)))) else (none)) else ((rotaref15_Copy.f k x184000 x184001 x184002 x184003 x184004).bind fun bt200 => (some (bt200.1, bt200.2.1, bt200.2.2.1, bt200.2.2.2.1, bt200.2.2.2.2, 0)))
end
def rotaref15_Load.f (k : Nat) (a0_0 : Bool) (a0_1 : Int) (l0_2 : List Int) (l0_3 : List (S68)) (a0_4 : Int) : Option (Bool × Int × List Int × (List (S68)) × Int × Int) := (rotaref15_New.f a0_0 a0_1).bind fun bt185 => (if bt185.2.2.2.2.2 = 0 then (if (l0_2.length : Int) > a0_1 then (rotaref15_Load.j0 k true a0_0 a0_1 l0_2 l0_3 a0_4) else (if (l0_3.length : Int) > a0_1 then (rotaref15_Load.j0 k true a0_0 a0_1 l0_2 l0_3 a0_4) else (if a0_4 < 0 then (rotaref15_Load.j0 k true a0_0 a0_1 l0_2 l0_3 a0_4) else (if a0_4 > 2147483647 then (rotaref15_Load.j0 k true a0_0 a0_1 l0_2 l0_3 a0_4) else (if a0_0 = true then (rotaref15_Load.j0 k false a0_0 a0_1 l0_2 l0_3 a0_4) else (rotaref15_Load.j0 k (decide (a0_4 > 0)) a0_0 a0_1 l0_2 l0_3 a0_4)))))) else (rotaref15_Load.j0 k true a0_0 a0_1 l0_2 l0_3 a0_4))
theorem rotaref15_Load.mono_l : ∀ k, (∀ y0 y1 y2 y3 y4 y5, LeO (rotaref15_Load.j0 k y0 y1 y2 y3 y4 y5) (rotaref15_Load.j0 (k + 1) y0 y1 y2 y3 y4 y5)) ∧ (∀ y0 y1 y2 y3 y4 y5, LeO (rotaref15_Load.l0 k y0 y1 y2 y3 y4 y5) (rotaref15_Load.l0 (k + 1) y0 y1 y2 y3 y4 y5))
  | 0 => ⟨fun _ _ _ _ _ _ r h => by simp [rotaref15_Load.j0] at h, fun _ _ _ _ _ _ r h => by simp [rotaref15_Load.l0] at h⟩
  | k + 1 => by
    obtain ⟨ih0, ih1⟩ := rotaref15_Load.mono_l k
    refine ⟨?_, ?_⟩
    · intro y0 y1 y2 y3 y4 y5
      unfold rotaref15_Load.j0
      repeat' first
      | (with_reducible exact ih0 _ _ _ _ _ _)
      | (with_reducible exact ih1 _ _ _ _ _ _)
      | (with_reducible exact rotaref15_Copy.mono _ _ _ _ _ _)
      | (with_reducible exact LeO.refl _)
      | (with_reducible exact LeO.none _)
      | (with_reducible refine LeO.ite ?_ ?_)
      | (with_reducible refine LeO.bind ?_ (fun _ => ?_))
      | exact ih0 _ _ _ _ _ _
      | exact ih1 _ _ _ _ _ _
      | exact rotaref15_Copy.mono _ _ _ _ _ _
      | exact LeO.none _
      | refine LeO.ite ?_ ?_
      | refine LeO.bind ?_ (fun _ => ?_)
    · intro y0 y1 y2 y3 y4 y5
      unfold rotaref15_Load.l0
      repeat' first
      | (with_reducible exact ih0 _ _ _ _ _ _)
      | (with_reducible exact ih1 _ _ _ _ _ _)
      | (with_reducible exact rotaref15_Copy.mono _ _ _ _ _ _)
      | (with_reducible exact LeO.refl _)
      | (with_reducible exact LeO.none _)
      | (with_reducible refine LeO.ite ?_ ?_)
      | (with_reducible refine LeO.bind ?_ (fun _ => ?_))
      | exact ih0 _ _ _ _ _ _
      | exact ih1 _ _ _ _ _ _
      | exact rotaref15_Copy.mono _ _ _ _ _ _
      | exact LeO.none _
      | refine LeO.ite ?_ ?_
      | refine LeO.bind ?_ (fun _ => ?_)
theorem rotaref15_Load.mono : ∀ a0 a1 a2 a3 a4 k, LeO (rotaref15_Load.f k a0 a1 a2 a3 a4) (rotaref15_Load.f (k + 1) a0 a1 a2 a3 a4) := by
  intro a0 a1 a2 a3 a4 k
  obtain ⟨ih0, ih1⟩ := rotaref15_Load.mono_l k
  unfold rotaref15_Load.f
  repeat' first
      | (with_reducible exact ih0 _ _ _ _ _ _)
      | (with_reducible exact ih1 _ _ _ _ _ _)
      | (with_reducible exact rotaref15_Copy.mono _ _ _ _ _ _)
      | (with_reducible exact LeO.refl _)
      | (with_reducible exact LeO.none _)
      | (with_reducible refine LeO.ite ?_ ?_)
      | (with_reducible refine LeO.bind ?_ (fun _ => ?_))
      | exact ih0 _ _ _ _ _ _
      | exact ih1 _ _ _ _ _ _
      | exact rotaref15_Copy.mono _ _ _ _ _ _
      | exact LeO.none _
      | refine LeO.ite ?_ ?_
      | refine LeO.bind ?_ (fun _ => ?_)

end Go.Proofs.Ytdienpcifklinaa.PPortOwn
