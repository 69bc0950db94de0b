import Derived.Test.YtnglgjegkjfnaaaSlAA
namespace Go.Proofs.Ytnglgjegkjfnaaa
open Go.RowKit Go.ChangeShapes Go.WideShapes Go.ChangeAt Go.Proofs.YtnglgjegkjfnaaaW.PrintWords Go.Proofs.YtnglgjegkjfnaaaW.PrintMore Go.Proofs.YtnglgjegkjfnaaaW.PrintLast
/-! awake. -/
def awS : Sl := ⟨1, [1], [true], [[]], []⟩
theorem aw_wf : Wf awS := (take_some (x := 0) (p := 0) (new_wf (limit := 1) (procs := 1) rfl) (by decide) rfl).wf
set_option maxHeartbeats 2000000 in
theorem awake_any (w : World) : Calls Try.prog 20 #[] w fun e w' => e = .returned (.bool true) ∧ Below w.heap.size w w' := by
  go_enter Try.func20, Try.ntmps20
  go_wp2_with fail
  refine (snew_any 1 1 w).mono ?_
  rintro e w1 ⟨hB1, ⟨-, b, col, rfl, hS1, hc1⟩ | ⟨h0, -⟩⟩
  · have hO1 := (new_wf (limit := 1) (procs := 1) rfl).ok
    have h1s := hB1.size
    have HT := take_slab 0 w1 (by omega) hS1 hO1
    have e1 : takeS (newS 1 1) 0 = (awS, 0, 1, 0) := rfl
    have HB1 := Aside0.mk hB1
    go_wp2_with fail
    refine HT.mono ?_
    clear HT
    rintro e w2 ⟨col2, rfl, hS2, hN2⟩
    rw [e1] at hS2 ⊢
    have hA2 : Below w2.heap.size w2 (w2.alloc (.cells #[.int .i64 0, .int .i64 1] 48)) := below_al (Below.refl _ _) _
    have hT2 : (w2.alloc (.cells #[.int .i64 0, .int .i64 1] 48)).heap[w2.heap.size]? = some (.cells #[.int .i64 0, .int .i64 1] 48 (0, 0)) := blk_new _ _
    have hN3 := hN2.trans (Nx.of_below hA2)
    have hS3 := hS2.below hA2
    have hT0 : col2 w2.heap.size = 0 := hS2.z _ (Nat.le_refl _)
    have h3s := hN3.keep.size
    have HT := take_slab 0 _ (by omega) hS3 aw_wf.ok
    have e2 : takeS awS 0 = (awS, 0, 0, 2) := rfl
    have hTl := lt_blk hT2
    have HN3 := Aside0.mk hN3
    have HT2 := Aside0.mk hT2
    clear hS2 hN2 hN3 hT2
    go_wp2_with fail
    generalize w2.alloc (.cells #[.int .i64 0, .int .i64 1] 48) = W3 at *
    refine HT.mono ?_
    clear HT
    rintro e w4 ⟨col4, rfl, hS4, hN4⟩
    rw [e2] at hS4 ⊢
    have hA4 : Below w4.heap.size w4 (w4.alloc (.cells #[.int .i64 0, .int .i64 0] 48)) := below_al (Below.refl _ _) _
    have hN5 := (HN3.out.trans hN4).trans (Nx.of_below hA4)
    have hS5 := hS4.below hA4
    have hT5 := blk_below (blk_keep HT2.out hN4.keep (fun f => f hT0)) hA4
    have t0 := cell_blk hT5 0; have t1 := cell_blk hT5 1
    simp at t0 t1
    have hTl5 := lt_blk hT5
    have HN5 := Aside0.mk hN5
    have hT1 := alive_slab 0 1 _ hS5 (by decide) rfl
    have HS5 := Aside0.mk hS5
    have a1 : aliveS awS 0 1 = true := rfl
    have a2 : aliveS awS 0 2 = false := rfl
    rw [a1] at hT1
    clear hS4 hN4 hN5 hT5 hA2 hS3
    go_wp2_with fail
    generalize w4.alloc (.cells #[.int .i64 0, .int .i64 0] 48) = W5 at *
    refine hT1.mono ?_
    clear hT1
    rintro e w6 ⟨rfl, hB6⟩
    have hT1 := alive_slab 0 2 _ (HS5.out.below hB6) (by decide) rfl
    rw [a2] at hT1
    go_wp2_with fail
    refine hT1.mono ?_
    clear hT1
    rintro e w7 ⟨rfl, hB7⟩
    go_wp2
    go_ret
    have hN7 := (HN5.out.trans (Nx.of_below hB6)).trans (Nx.of_below hB7)
    exact ⟨rfl, below_then_keep HB1.out h1s hN7.keep (fun i hi => by
      rcases Nat.lt_or_ge i w.heap.size with h | h
      · exact absurd (hc1 i h) hi
      · exact h)⟩
  · cases h0
end Go.Proofs.Ytnglgjegkjfnaaa
