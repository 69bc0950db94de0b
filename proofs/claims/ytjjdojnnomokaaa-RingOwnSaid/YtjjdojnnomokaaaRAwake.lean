import Derived.Test.YtjjdojnnomokaaaRCom
set_option linter.unusedSimpArgs false
set_option linter.unusedVariables false
namespace Go.Proofs.Ytjjdojnnomokaaa
open Go.RowKit Go.ChangeShapes Go.WideShapes Go.ChangeAt Go.Proofs.YtjjdojnnomokaaaW.PrintWords Go.Proofs.YtjjdojnnomokaaaW.PrintMore Go.Proofs.YtjjdojnnomokaaaW.PrintLast
attribute [local go_sem high] PRingLoads.eqA27
/-! What the ring laws share, further: a list of one, awake. -/
theorem kW_KM {w w' : World} {base : Nat} {ok : Nat → Prop} (x : Wt) (cs : List Value) (h : kW.K w x cs) : kW.M w' base ok x cs := by
  obtain rfl := kW_open h
  exact kW_mkM _ _ _ _
set_option maxHeartbeats 4000000 in
theorem awake_any (w : World) : Calls Try.prog 17 #[] w fun e w' => e = .returned (.bool true) ∧ Below w.heap.size w w' := by
  go_enter Try.func17, Try.ntmps17
  go_wp2_with fail
  refine (new_any w).mono ?_
  rintro e w1 ⟨b, rfl, hb, hI, hB⟩
  have hA : Below w1.heap.size w1 (w1.alloc (.cells #[.int .i64 0, .int .i64 0, .int .u64 3] 27)) := below_al (Below.refl _ _) _
  have hx : (w1.alloc (.cells #[.int .i64 0, .int .i64 0, .int .u64 3] 27)).heap[w1.heap.size]? = some (.cells #[.int .i64 0, .int .i64 0, .int .u64 3] 27 (0, 0)) := blk_new _ _
  have hI1 := hI.below hA
  have hC1 := below_then hB hA
  have hbl := hI.lt
  clear hB hA
  go_wp2_with fail
  generalize w1.alloc (.cells #[.int .i64 0, .int .i64 0, .int .u64 3] 27) = W1 at *
  refine (put_any b Rg.new ⟨0, 0, 3⟩ W1 hI1).mono ?_
  have e1 : putE Rg.new ⟨0, 0, 3⟩ = 0 := rfl
  have e2 : putR Rg.new ⟨0, 0, 3⟩ = ⟨[⟨0, 0, 3⟩], false, Wt.zero⟩ := rfl
  rw [e1, e2]
  rintro e w2 ⟨v2, rfl, -, hI2, hK2⟩
  have hx2 := blk_keep hx hK2 (show ¬ w1.heap.size = b by omega)
  have hC2 := below_then_keep hC1 hC1.size hK2 (fun i hi => by subst hi; omega)
  clear e1 e2 hI hI1 hx hK2 hC1
  go_wp2_with fail
  refine (take_any b _ w2 hI2).mono ?_
  have e1 : takeW ⟨[⟨0, 0, 3⟩], false, Wt.zero⟩ = ⟨0, 0, 3⟩ := rfl
  have e3 : takeE ⟨[⟨0, 0, 3⟩], false, Wt.zero⟩ = 0 := rfl
  rw [e1, e3]
  rintro e w3 ⟨rfl, -, hK3⟩
  have hx3 := blk_keep hx2 hK3 (show ¬ w1.heap.size = b by omega)
  have hC3 := below_then_keep hC2 hC2.size hK3 (fun i hi => by subst hi; omega)
  obtain ⟨x0, x1, x2, -, -, -⟩ := blk3 hx3
  have hxl := lt_blk hx3
  clear e1 e3 hI2 hx2 hK3 hC2
  go_wp2
  go_ret
  exact ⟨rfl, (by repeat (first | (with_reducible exact hC3) | (with_reducible refine Below.drew ?_) | (with_reducible refine below_drewN ?_ _) | (with_reducible refine below_al ?_ _) | (with_reducible refine Below.alloc ?_ (by first | exact Nat.le_refl _ | omega | (simp; done) | (simp; omega)) _) | (with_reducible refine Below.setCell ?_ (by first | (simp only []; omega) | (simp; done) | (simp; omega)) _)))⟩
end Go.Proofs.Ytjjdojnnomokaaa
