-- what this claim does not use is left out
import Derived.Test.YtikoonomhojlkaaPFifoLoadsx0
import Derived.Test.YtikoonomhojlkaaPFifoLoadsx3
import Derived.Test.YtikoonomhojlkaaPFifoLoadsx4
namespace Go.Proofs.Ytikoonomhojlkaa.PFifoLoads
open Go.RowKit Go.Proofs.YtikoonomhojlkaaW.PrintWords Go.Proofs.YtikoonomhojlkaaW.PrintLast Go.Proofs.YtikoonomhojlkaaW.PrintMore
attribute [local go_sem] max2_int min2_int max_two min_two max_three min_three max_four min_four   -- for this text's walks alone
set_option linter.unusedVariables false
set_option linter.unusedSimpArgs false

-- NOT PRINTED: function 13 (fifo_Queue_Has)

-- NOT PRINTED: function 17 (fifo_Queue_All)

-- NOT PRINTED: function 21 (rotalaw03_told)

-- NOT PRINTED: function 22 (fifo_Queue_Drop)

/-! ### rotaref03_Take: function 31 -/
def rotaref03_Take.f (k : Nat) (l0 : List (S32)) : Option ((List (S32)) × Int × Int × Int × Int) := if (l0.length : Int) = 0 then (some (l0, 0, 0, 0, 31)) else ((rotaref03_without.f k l0 0).bind fun t185 => (if 0 < (l0.length : Int) then (some (t185, (rd_T32 l0 0).f0.f0, (rd_T32 l0 0).f0.f1, (rd_T32 l0 0).f1, 0)) else (none)))
theorem rotaref03_Take.mono : ∀ a0 k, LeO (rotaref03_Take.f k a0) (rotaref03_Take.f (k + 1) a0) := by
  intro a0 k
  unfold rotaref03_Take.f
  repeat' first
      | (with_reducible exact rotaref03_without.mono _ _ _)
      | (with_reducible exact LeO.refl _)
      | (with_reducible exact LeO.none _)
      | (with_reducible refine LeO.ite ?_ ?_)
      | (with_reducible refine LeO.bind ?_ (fun _ => ?_))
      | exact rotaref03_without.mono _ _ _
      | exact LeO.none _
      | refine LeO.ite ?_ ?_
      | refine LeO.bind ?_ (fun _ => ?_)

/-! ### rotaref03_Drop: function 32 -/
def rotaref03_Drop.f (k : Nat) (l0 : List (S32)) (a1_0 : Int) (a1_1 : Int) : Option ((List (S32)) × Int × Int × Int × Int) := (rotaref03_at.f k l0 a1_0 a1_1).bind fun t191 => (if t191 < 0 then (some (l0, 0, 0, 0, 31)) else ((rotaref03_without.f k l0 t191).bind fun t192 => (if 0 ≤ t191 then (if t191 < (l0.length : Int) then (some (t192, (rd_T32 l0 t191).f0.f0, (rd_T32 l0 t191).f0.f1, (rd_T32 l0 t191).f1, 0)) else (none)) else (none))))
theorem rotaref03_Drop.mono : ∀ a0 a1 a2 k, LeO (rotaref03_Drop.f k a0 a1 a2) (rotaref03_Drop.f (k + 1) a0 a1 a2) := by
  intro a0 a1 a2 k
  unfold rotaref03_Drop.f
  repeat' first
      | (with_reducible exact rotaref03_at.mono _ _ _ _)
      | (with_reducible exact rotaref03_without.mono _ _ _)
      | (with_reducible exact LeO.refl _)
      | (with_reducible exact LeO.none _)
      | (with_reducible refine LeO.ite ?_ ?_)
      | (with_reducible refine LeO.bind ?_ (fun _ => ?_))
      | exact rotaref03_at.mono _ _ _ _
      | exact rotaref03_without.mono _ _ _
      | exact LeO.none _
      | refine LeO.ite ?_ ?_
      | refine LeO.bind ?_ (fun _ => ?_)

-- NOT PRINTED: function 20 (rotalaw03_does)

-- NOT PRINTED: function 8 (rotalaw03_FifoLoads)

end Go.Proofs.Ytikoonomhojlkaa.PFifoLoads
