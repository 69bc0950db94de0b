-- what this claim does not use is left out
import Derived.Test.YtdienpcifklinaaPPortOwnx0
namespace Go.Proofs.Ytdienpcifklinaa.PPortOwn
open Go.RowKit Go.Proofs.YtdienpcifklinaaW.PrintWords Go.Proofs.YtdienpcifklinaaW.PrintLast Go.Proofs.YtdienpcifklinaaW.PrintMore
attribute [local go_sem] max2_int min2_int max_two min_two max_three min_three max_four min_four   -- for this text's walks alone
set_option linter.unusedVariables false
set_option linter.unusedSimpArgs false

/-! ### rotalaw15_spoil: function 22 -/
mutual
def rotalaw15_spoil.l0 : Nat → Int → Bool → Int → List Int → List (S68) → Int → Option (Unit)
  | 0, _, _, _, _, _, _ => none
  | k + 1, x2, x210000, x210001, x210002, x210003, x210004 => if x2 < (x210002.length : Int) then (if 0 ≤ x2 then (rotalaw15_spoil.l0 k (wrap64 (x2 + 1)) x210000 x210001 (x210002.set (x2 : Int).toNat (-77)) x210003 x210004) else (none)) else (rotalaw15_spoil.l1 k 0 x210000 x210001 x210002 x210003 x210004)
def rotalaw15_spoil.l1 : Nat → Int → Bool → Int → List Int → List (S68) → Int → Option (Unit)
  | 0, _, _, _, _, _, _ => none
  | k + 1, x3, x210000, x210001, x210002, x210003, x210004 => if x3 < (x210003.length : Int) then (if 0 ≤ x3 then (rotalaw15_spoil.l1 k (wrap64 (x3 + 1)) x210000 x210001 x210002 (x210003.set (x3 : Int).toNat (⟨(-77), (rd_T68 x210003 x3).f1⟩ : S68)) x210004) else (none)) else (rotalaw15_spoil.l2 k 0 x210000 x210001 x210002 x210003 x210004)
def rotalaw15_spoil.l2 : Nat → Int → Bool → Int → List Int → List (S68) → Int → Option (Unit)
  | 0, _, _, _, _, _, _ => none
  | k + 1, x4, x210000, x210001, x210002, x210003, x210004 => if x4 < 8 then (if x210002.length < 17592186044416 then (if x210003.length < 8796093022208 then (rotalaw15_spoil.l2 k (wrap64 (x4 + 1)) x210000 x210001 (x210002 ++ [(-78)]) (x210003 ++ [(⟨(-78), 0⟩ : S68)]) x210004) else (none)) else (none)) else (some ())
end
def rotalaw15_spoil.f (k : Nat) (a0_0 : Bool) (a0_1 : Int) (l0_2 : List Int) (l0_3 : List (S68)) (a0_4 : Int) : Option (Unit) := rotalaw15_spoil.l0 k 0 a0_0 a0_1 l0_2 l0_3 a0_4
theorem rotalaw15_spoil.mono_l : ∀ k, (∀ y0 y1 y2 y3 y4 y5, LeO (rotalaw15_spoil.l0 k y0 y1 y2 y3 y4 y5) (rotalaw15_spoil.l0 (k + 1) y0 y1 y2 y3 y4 y5)) ∧ (∀ y0 y1 y2 y3 y4 y5, LeO (rotalaw15_spoil.l1 k y0 y1 y2 y3 y4 y5) (rotalaw15_spoil.l1 (k + 1) y0 y1 y2 y3 y4 y5)) ∧ (∀ y0 y1 y2 y3 y4 y5, LeO (rotalaw15_spoil.l2 k y0 y1 y2 y3 y4 y5) (rotalaw15_spoil.l2 (k + 1) y0 y1 y2 y3 y4 y5))
  | 0 => ⟨fun _ _ _ _ _ _ r h => by simp [rotalaw15_spoil.l0] at h, fun _ _ _ _ _ _ r h => by simp [rotalaw15_spoil.l1] at h, fun _ _ _ _ _ _ r h => by simp [rotalaw15_spoil.l2] at h⟩
  | k + 1 => by
    obtain ⟨ih0, ih1, ih2⟩ := rotalaw15_spoil.mono_l k
    refine ⟨?_, ?_, ?_⟩
    · intro y0 y1 y2 y3 y4 y5
      unfold rotalaw15_spoil.l0
      repeat' first
      | (with_reducible exact ih0 _ _ _ _ _ _)
      | (with_reducible exact ih1 _ _ _ _ _ _)
      | (with_reducible exact ih2 _ _ _ _ _ _)
      | (with_reducible exact LeO.refl _)
      | (with_reducible exact LeO.none _)
      | (with_reducible refine LeO.ite ?_ ?_)
      | (with_reducible refine LeO.bind ?_ (fun _ => ?_))
      | exact ih0 _ _ _ _ _ _
      | exact ih1 _ _ _ _ _ _
      | exact ih2 _ _ _ _ _ _
      | exact LeO.none _
      | refine LeO.ite ?_ ?_
      | refine LeO.bind ?_ (fun _ => ?_)
    · intro y0 y1 y2 y3 y4 y5
      unfold rotalaw15_spoil.l1
      repeat' first
      | (with_reducible exact ih0 _ _ _ _ _ _)
      | (with_reducible exact ih1 _ _ _ _ _ _)
      | (with_reducible exact ih2 _ _ _ _ _ _)
      | (with_reducible exact LeO.refl _)
      | (with_reducible exact LeO.none _)
      | (with_reducible refine LeO.ite ?_ ?_)
      | (with_reducible refine LeO.bind ?_ (fun _ => ?_))
      | exact ih0 _ _ _ _ _ _
      | exact ih1 _ _ _ _ _ _
      | exact ih2 _ _ _ _ _ _
      | exact LeO.none _
      | refine LeO.ite ?_ ?_
      | refine LeO.bind ?_ (fun _ => ?_)
    · intro y0 y1 y2 y3 y4 y5
      unfold rotalaw15_spoil.l2
      repeat' first
      | (with_reducible exact ih0 _ _ _ _ _ _)
      | (with_reducible exact ih1 _ _ _ _ _ _)
      | (with_reducible exact ih2 _ _ _ _ _ _)
      | (with_reducible exact LeO.refl _)
      | (with_reducible exact LeO.none _)
      | (with_reducible refine LeO.ite ?_ ?_)
      | (with_reducible refine LeO.bind ?_ (fun _ => ?_))
      | exact ih0 _ _ _ _ _ _
      | exact ih1 _ _ _ _ _ _
      | exact ih2 _ _ _ _ _ _
      | exact LeO.none _
      | refine LeO.ite ?_ ?_
      | refine LeO.bind ?_ (fun _ => ?_)
theorem rotalaw15_spoil.mono : ∀ a0 a1 a2 a3 a4 k, LeO (rotalaw15_spoil.f k a0 a1 a2 a3 a4) (rotalaw15_spoil.f (k + 1) a0 a1 a2 a3 a4) := by
  intro a0 a1 a2 a3 a4 k
  obtain ⟨ih0, ih1, ih2⟩ := rotalaw15_spoil.mono_l k
  unfold rotalaw15_spoil.f
  repeat' first
      | (with_reducible exact ih0 _ _ _ _ _ _)
      | (with_reducible exact ih1 _ _ _ _ _ _)
      | (with_reducible exact ih2 _ _ _ _ _ _)
      | (with_reducible exact LeO.refl _)
      | (with_reducible exact LeO.none _)
      | (with_reducible refine LeO.ite ?_ ?_)
      | (with_reducible refine LeO.bind ?_ (fun _ => ?_))
      | exact ih0 _ _ _ _ _ _
      | exact ih1 _ _ _ _ _ _
      | exact ih2 _ _ _ _ _ _
      | exact LeO.none _
      | refine LeO.ite ?_ ?_
      | refine LeO.bind ?_ (fun _ => ?_)

-- NOT PRINTED: function 8 (rotalaw15_PortOwn)

end Go.Proofs.Ytdienpcifklinaa.PPortOwn
