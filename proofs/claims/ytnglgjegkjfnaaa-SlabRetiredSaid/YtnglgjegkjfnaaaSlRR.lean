/- SlabRetired: a slot whose generation is the last one is not given again. No condition. -/
import Derived.Test.YtnglgjegkjfnaaaSlQQ
import Derived.Test.YtnglgjegkjfnaaaOpen
set_option linter.unusedSimpArgs false
set_option linter.unusedVariables false
namespace Go.Proofs.Ytnglgjegkjfnaaa
open Go.RowKit Go.ChangeShapes Go.WideShapes Go.ChangeAt Go.Proofs.YtnglgjegkjfnaaaW.PrintWords Go.Proofs.YtnglgjegkjfnaaaW.PrintMore Go.Proofs.YtnglgjegkjfnaaaW.PrintLast
/-! SlabRetired: printed by gen04q.py. -/
def rS0 : Sl := ⟨1, [2147483646], [false], [[], []], [0]⟩
def rS1 : Sl := ⟨1, [2147483647], [true], [[], []], []⟩
def rS2 : Sl := ⟨1, [2147483647], [false], [[], []], []⟩
theorem ok_c (g : Int) (a : Bool) (fr : List Int) (hg : 0 ≤ g ∧ g ≤ 2147483647) (hf : ∀ x ∈ fr, x = 0) (hl : fr.length ≤ 1) : Ok ⟨1, [g], [a], [[], []], fr⟩ := by
  refine ⟨show (0 : Int) < 1 by decide, show (1 : Int) ≤ 4096 by decide, by simp, by simp, by simp, rfl, fun x hx => ?_, ?_, fun c hc => ?_, fun x hx => ?_, fun c hc x hx => ?_⟩
  · rw [List.mem_singleton.1 hx]; exact hg
  · exact Nat.le_trans hl (by decide)
  · simp at hc; subst hc; simp
  · rw [hf x hx]; simp
  · simp at hc; subst hc; simp at hx
theorem ok_s0 : Ok rS0 := ok_c _ _ _ (by decide) (by simp) (by decide)
theorem ok_s1 : Ok rS1 := ok_c _ _ _ (by decide) (by simp) (by decide)
theorem ok_s2 : Ok rS2 := ok_c _ _ _ (by decide) (by simp) (by decide)
theorem bd_s0 : Bd rS0 := ok_s0.bd
theorem wf_s0 : Wf rS0 := by
  refine ⟨by decide, by decide, by decide, by decide, by decide, rfl, fun c hc => ?_, fun i hi _ => ?_, fun i hi => ?_, by decide, fun x hx => ⟨?_, fun h => h⟩, fun i hi _ _ => .inl ?_⟩
  · simp [rS0] at hc; subst hc; simp
  · obtain rfl : i = 0 := by simp [rS0] at hi; exact hi
    decide
  · obtain rfl : i = 0 := by simp [rS0] at hi; exact hi
    decide
  · obtain rfl : x = 0 := by simp [allS, rS0] at hx; exact hx
    exact ⟨by decide, by decide, by decide, by decide⟩
  · obtain rfl : i = 0 := by simp [rS0] at hi; exact hi
    decide
theorem rdf_cells {w : World} {g e : Nat} {cs : Array Value} {vals : List Value} (h : w.heap[g]? = some (.cells cs e (0, 0))) (hc : cs.toList = vals) (h1 : ∀ u ∈ vals, u.oneCell' = true) (hl : vals.length ≤ 100) : Rdf w (.slice (some ⟨g, 0, none⟩) vals.length vals.length) vals :=
  ⟨⟨_, _, rfl, Nat.le_refl _⟩, by omega, fun _ => ⟨g, 0, _, rfl, lt_blk h, fun j u hj => by rw [Nat.zero_add, cell_blk h, ← Array.getElem?_toList, hc]; exact hj⟩, h1⟩
set_option maxHeartbeats 8000000 in
set_option maxRecDepth 100000 in
theorem SlabRetired0.walk (w : World) (p : Int) : Calls Try.prog 10 #[.int .i64 p] w fun e w' => e = .returned (.bool true) ∧ Below w.heap.size w w' := by
  have hB1 : Below w.heap.size w (((((w.alloc (.cells #[.int .i64 2147483646] 3)).alloc (.cells #[.bool false] 4)).alloc (.cells #[.slice none 0 0, .slice none 0 0] 26)).alloc (.cells #[.int .i64 0] 3)).alloc (.cells #[.int .i64 1, .slice (some ⟨w.heap.size, 0, none⟩) 1 1, .slice (some ⟨w.heap.size + 1, 0, none⟩) 1 1, .slice (some ⟨w.heap.size + 1 + 1, 0, none⟩) 2 2, .slice (some ⟨w.heap.size + 1 + 1 + 1, 0, none⟩) 1 1] TT)) := (by repeat (first | (with_reducible exact Below.refl _ _) | (with_reducible refine Below.drew ?_) | (with_reducible refine below_drewN ?_ _) | (with_reducible refine below_al ?_ _) | (with_reducible refine Below.alloc ?_ (by first | exact Nat.le_refl _ | omega | (simp; done) | (simp; omega)) _) | (with_reducible refine Below.setCell ?_ (by first | (simp only []; omega) | (simp; done) | (simp; omega)) _)))
  have h0 : (((((w.alloc (.cells #[.int .i64 2147483646] 3)).alloc (.cells #[.bool false] 4)).alloc (.cells #[.slice none 0 0, .slice none 0 0] 26)).alloc (.cells #[.int .i64 0] 3)).alloc (.cells #[.int .i64 1, .slice (some ⟨w.heap.size, 0, none⟩) 1 1, .slice (some ⟨w.heap.size + 1, 0, none⟩) 1 1, .slice (some ⟨w.heap.size + 1 + 1, 0, none⟩) 2 2, .slice (some ⟨w.heap.size + 1 + 1 + 1, 0, none⟩) 1 1] TT)).heap[w.heap.size]? = some (.cells #[.int .i64 2147483646] 3 (0, 0)) := blk_alloc (blk_alloc (blk_alloc (blk_alloc (blk_new _ _))))
  have h1 : (((((w.alloc (.cells #[.int .i64 2147483646] 3)).alloc (.cells #[.bool false] 4)).alloc (.cells #[.slice none 0 0, .slice none 0 0] 26)).alloc (.cells #[.int .i64 0] 3)).alloc (.cells #[.int .i64 1, .slice (some ⟨w.heap.size, 0, none⟩) 1 1, .slice (some ⟨w.heap.size + 1, 0, none⟩) 1 1, .slice (some ⟨w.heap.size + 1 + 1, 0, none⟩) 2 2, .slice (some ⟨w.heap.size + 1 + 1 + 1, 0, none⟩) 1 1] TT)).heap[w.heap.size + 1]? = some (.cells #[.bool false] 4 (0, 0)) := blk_alloc (blk_alloc (blk_alloc (blk_new1 _ _ _)))
  have h2 : (((((w.alloc (.cells #[.int .i64 2147483646] 3)).alloc (.cells #[.bool false] 4)).alloc (.cells #[.slice none 0 0, .slice none 0 0] 26)).alloc (.cells #[.int .i64 0] 3)).alloc (.cells #[.int .i64 1, .slice (some ⟨w.heap.size, 0, none⟩) 1 1, .slice (some ⟨w.heap.size + 1, 0, none⟩) 1 1, .slice (some ⟨w.heap.size + 1 + 1, 0, none⟩) 2 2, .slice (some ⟨w.heap.size + 1 + 1 + 1, 0, none⟩) 1 1] TT)).heap[w.heap.size + 2]? = some (.cells #[.slice none 0 0, .slice none 0 0] 26 (0, 0)) := blk_alloc (blk_alloc (blk_new2 _ _ _ _))
  have h3 : (((((w.alloc (.cells #[.int .i64 2147483646] 3)).alloc (.cells #[.bool false] 4)).alloc (.cells #[.slice none 0 0, .slice none 0 0] 26)).alloc (.cells #[.int .i64 0] 3)).alloc (.cells #[.int .i64 1, .slice (some ⟨w.heap.size, 0, none⟩) 1 1, .slice (some ⟨w.heap.size + 1, 0, none⟩) 1 1, .slice (some ⟨w.heap.size + 1 + 1, 0, none⟩) 2 2, .slice (some ⟨w.heap.size + 1 + 1 + 1, 0, none⟩) 1 1] TT)).heap[w.heap.size + 3]? = some (.cells #[.int .i64 0] 3 (0, 0)) := blk_alloc (by
    have := blk_new (((w.alloc (.cells #[.int .i64 2147483646] 3)).alloc (.cells #[.bool false] 4)).alloc (.cells #[.slice none 0 0, .slice none 0 0] 26)) (.cells #[.int .i64 0] 3)
    simpa using this)
  have hR : SlR (((((w.alloc (.cells #[.int .i64 2147483646] 3)).alloc (.cells #[.bool false] 4)).alloc (.cells #[.slice none 0 0, .slice none 0 0] 26)).alloc (.cells #[.int .i64 0] 3)).alloc (.cells #[.int .i64 1, .slice (some ⟨w.heap.size, 0, none⟩) 1 1, .slice (some ⟨w.heap.size + 1, 0, none⟩) 1 1, .slice (some ⟨w.heap.size + 1 + 1, 0, none⟩) 2 2, .slice (some ⟨w.heap.size + 1 + 1 + 1, 0, none⟩) 1 1] TT)) rS0 (.slice (some ⟨w.heap.size, 0, none⟩) 1 1) (.slice (some ⟨w.heap.size + 1, 0, none⟩) 1 1) (.slice (some ⟨w.heap.size + 1 + 1, 0, none⟩) 2 2) (.slice (some ⟨w.heap.size + 1 + 1 + 1, 0, none⟩) 1 1) [.slice none 0 0, .slice none 0 0] :=
    ⟨rdf_cells h0 rfl (by simp [Value.oneCell']) (by simp), rdf_cells h1 rfl (by simp [Value.oneCell']) (by simp), rdf_cells h2 rfl (by simp [Value.oneCell']) (by simp), rdf_cells h3 rfl (by simp [Value.oneCell']) (by simp), rfl, fun i x hx => by
      have hi : i < 2 := (List.getElem?_eq_some_iff.1 hx).1
      have hn : x = [] := by
        rcases Nat.lt_or_ge i 1 with h | h
        · obtain rfl : i = 0 := by omega
          simpa [rS0] using hx.symm
        · obtain rfl : i = 1 := by omega
          simpa [rS0] using hx.symm
      subst hn
      refine ⟨.slice none 0 0, ?_, ⟨⟨none, 0, rfl, Nat.le_refl _⟩, by simp [ints], fun h => by simp [ints] at h, fun u hu => by simp [ints] at hu⟩⟩
      rcases Nat.lt_or_ge i 1 with h | h
      · obtain rfl : i = 0 := by omega
        rfl
      · obtain rfl : i = 1 := by omega
        rfl⟩
  have hL := slload_any _ hR bd_s0
  have HB1 := Aside0.mk hB1
  clear hB1 h0 h1 h2 h3 hR
  go_enter Try.func10, Try.ntmps10
  go_wp2_with fail
  refine hL.mono ?_
  clear hL
  generalize (((((w.alloc (.cells #[.int .i64 2147483646] 3)).alloc (.cells #[.bool false] 4)).alloc (.cells #[.slice none 0 0, .slice none 0 0] 26)).alloc (.cells #[.int .i64 0] 3)).alloc (.cells #[.int .i64 1, .slice (some ⟨w.heap.size, 0, none⟩) 1 1, .slice (some ⟨w.heap.size + 1, 0, none⟩) 1 1, .slice (some ⟨w.heap.size + 1 + 1, 0, none⟩) 2 2, .slice (some ⟨w.heap.size + 1 + 1 + 1, 0, none⟩) 1 1] TT)) = W0 at *
  rintro e w1 ⟨hB2, ⟨hk, -⟩ | ⟨-, -, b, col, rfl, hS, -⟩ | ⟨-, hw, -⟩⟩
  · exact absurd hk (by decide)
  · have HS := Aside0.mk hS
    have HB := Aside0.mk hB2
    clear hS hB2
    rcases (show p < 0 ∨ (¬ p < 0 ∧ 1 < p) ∨ p = 0 ∨ p = 1 by omega) with hp | ⟨hp, hp1⟩ | rfl | rfl
    · have hT := take_slab 1 w1 (HB.out.size) HS.out ok_s0
      unfold TakeP at hT
      rw [show takeS rS0 1 = (rS1, 0, 2147483647, 0) from by kernel_rfl] at hT
      go_wp2_with fail
      refine hT.mono ?_
      clear hT
      rintro e w3 ⟨col3, rfl, hS3, hN3⟩
      have HS4 := Aside0.mk (hS3.below (w' := w3.alloc (.cells #[.int .i64 0, .int .i64 2147483647] 48)) (below_al (Below.refl _ _) _))
      have HB4 := Aside0.mk (below_then (below_then_keep HB.out HB.out.size hN3.keep (fun i hi => HS.out.base_le i hi)) (below_al (Below.refl w3.heap.size w3) (.cells #[.int .i64 0, .int .i64 2147483647] 48)))
      have HY4 : Aside0 ((w3.alloc (.cells #[.int .i64 0, .int .i64 2147483647] 48)).heap[w3.heap.size]? = some (.cells #[.int .i64 0, .int .i64 2147483647] 48 (0, 0))) := ⟨blk_new _ _⟩
      have HY0 : Aside0 (col3 w3.heap.size = 0) := ⟨hS3.z _ (Nat.le_refl _)⟩
      have y0 := cell_blk HY4.out 0
      have y1 := cell_blk HY4.out 1
      have yl := lt_blk HY4.out
      simp only [List.getElem?_toArray, List.getElem?_cons_zero, List.getElem?_cons_succ] at y0 y1
      have hT := give_slab 0 0 2147483647 (w3.alloc (.cells #[.int .i64 0, .int .i64 2147483647] 48)) (HB4.out.size) HS4.out ok_s1 (fun c hc => by simp [rS1] at hc; subst hc; simp)
      unfold FlushP at hT
      rw [show giveS rS1 0 0 2147483647 = (rS2, 0) from by kernel_rfl] at hT
      clear hS3 hN3 HS HB
      go_wp2_with fail
      obtain ⟨Y, hY⟩ : ∃ d, w3.heap.size = d := ⟨_, rfl⟩
      have HY4' := HY4.out
      have HY0' := HY0.out
      rw [hY] at HY4' HY0' ⊢
      have HY5 := Aside0.mk HY4'
      have HY05 := Aside0.mk HY0'
      generalize (w3.alloc (.cells #[.int .i64 0, .int .i64 2147483647] 48)) = w4 at *
      clear y0 y1 yl hY HY4 HY0 HY4' HY0'
      refine hT.mono ?_
      clear hT
      rintro e w5 ⟨col5, rfl, hS5, hN5⟩
      have HS5 := Aside0.mk hS5
      have HB5 := Aside0.mk (below_then_keep HB4.out HB4.out.size hN5.keep (fun i hi => HS4.out.base_le i hi))
      have HY6 := Aside0.mk (blk_keep HY5.out hN5.keep (fun f => f HY05.out))
      have HY06 := Aside0.mk ((hN5.cols Y (lt_blk HY5.out)).trans HY05.out)
      have hT := take_slab 1 w5 (HB5.out.size) HS5.out ok_s2
      unfold TakeP at hT
      rw [show takeS rS2 1 = (rS2, 0, 0, 2) from by kernel_rfl] at hT
      clear hS5 hN5 HS4 HB4 HY5 HY05
      go_wp2_with fail
      refine hT.mono ?_
      clear hT
      rintro e w6 ⟨col6, rfl, hS6, hN6⟩
      have hB7 : Below w6.heap.size w6 (w6.alloc (.cells #[.int .i64 0, .int .i64 0] 48)) := below_al (Below.refl _ _) _
      have HS7 := Aside0.mk (hS6.below hB7)
      have HB7 := Aside0.mk (below_then (below_then_keep HB5.out HB5.out.size hN6.keep (fun i hi => HS5.out.base_le i hi)) hB7)
      have HY7 := Aside0.mk (blk_below (blk_keep HY6.out hN6.keep (fun f => f HY06.out)) hB7)
      have HY07 := Aside0.mk ((hN6.cols Y (lt_blk HY6.out)).trans HY06.out)
      have hT := take_slab 0 (w6.alloc (.cells #[.int .i64 0, .int .i64 0] 48)) (HB7.out.size) HS7.out ok_s2
      unfold TakeP at hT
      rw [show takeS rS2 0 = (rS2, 0, 0, 2) from by kernel_rfl] at hT
      clear hS6 hN6 hB7 HS5 HB5 HY6 HY06
      go_wp2_with fail
      generalize (w6.alloc (.cells #[.int .i64 0, .int .i64 0] 48)) = w7 at *
      refine hT.mono ?_
      clear hT
      rintro e w8 ⟨col8, rfl, hS8, hN8⟩
      have hB9 : Below w8.heap.size w8 (w8.alloc (.cells #[.int .i64 0, .int .i64 0] 48)) := below_al (Below.refl _ _) _
      have HS9 := Aside0.mk (hS8.below hB9)
      have HB9 := Aside0.mk (below_then (below_then_keep HB7.out HB7.out.size hN8.keep (fun i hi => HS7.out.base_le i hi)) hB9)
      have HY9 := Aside0.mk (blk_below (blk_keep HY7.out hN8.keep (fun f => f HY07.out)) hB9)
      have y0 := cell_blk HY9.out 0
      have y1 := cell_blk HY9.out 1
      have yl := lt_blk HY9.out
      simp only [List.getElem?_toArray, List.getElem?_cons_zero, List.getElem?_cons_succ] at y0 y1
      have hL := live_slab (w8.alloc (.cells #[.int .i64 0, .int .i64 0] 48)) HS9.out (by decide) (by decide)
      rw [show liveS rS2 = 0 from by kernel_rfl] at hL
      clear hS8 hN8 hB9 HS7 HB7 HY7 HY07
      go_wp2_with fail
      generalize (w8.alloc (.cells #[.int .i64 0, .int .i64 0] 48)) = w9 at *
      refine hL.mono ?_
      clear hL
      rintro e w10 ⟨rfl, hB10⟩
      have HS10 := Aside0.mk (HS9.out.below hB10)
      have HB10 := Aside0.mk (below_then HB9.out hB10)
      have hY10 := blk_below HY9.out hB10
      have HY10 := Aside0.mk hY10
      clear y0 y1 yl hB10 HS9 HB9 HY9
      have y0 := cell_blk hY10 0
      have y1 := cell_blk hY10 1
      have yl := lt_blk hY10
      simp only [List.getElem?_toArray, List.getElem?_cons_zero, List.getElem?_cons_succ] at y0 y1
      have hA := alive_slab 0 2147483647 w10 HS10.out (by decide) (by decide)
      clear hY10
      rw [show aliveS rS2 0 2147483647 = false from by kernel_rfl] at hA
      go_wp2_with fail
      refine hA.mono ?_
      clear hA
      rintro e w11 ⟨rfl, hB11⟩
      have HS11 := Aside0.mk (HS10.out.below hB11)
      have HB11 := Aside0.mk (below_then HB10.out hB11)
      have hY11 := blk_below HY10.out hB11
      clear y0 y1 yl hB11
      have y0 := cell_blk hY11 0
      have y1 := cell_blk hY11 1
      have yl := lt_blk hY11
      simp only [List.getElem?_toArray, List.getElem?_cons_zero, List.getElem?_cons_succ] at y0 y1
      have hT := give_slab 1 0 2147483647 w11 (HB11.out.size) HS11.out ok_s2 (fun c hc => by simp [rS2] at hc; subst hc; simp)
      unfold FlushP at hT
      rw [show giveS rS2 1 0 2147483647 = (rS2, 41) from by kernel_rfl] at hT
      clear hY11 HS10 HB10 HY10
      go_wp2_with fail
      refine hT.mono ?_
      clear hT
      rintro e w12 ⟨col12, rfl, hS12, hN12⟩
      have HB12 := Aside0.mk (below_then_keep HB11.out HB11.out.size hN12.keep (fun i hi => HS11.out.base_le i hi))
      clear hS12 hN12 y0 y1 yl
      go_wp2
      go_ret
      exact ⟨rfl, below_then HB1.out HB12.out⟩
    · have hT := take_slab 1 w1 (HB.out.size) HS.out ok_s0
      unfold TakeP at hT
      rw [show takeS rS0 1 = (rS1, 0, 2147483647, 0) from by kernel_rfl] at hT
      go_wp2_with fail
      refine hT.mono ?_
      clear hT
      rintro e w3 ⟨col3, rfl, hS3, hN3⟩
      have HS4 := Aside0.mk (hS3.below (w' := w3.alloc (.cells #[.int .i64 0, .int .i64 2147483647] 48)) (below_al (Below.refl _ _) _))
      have HB4 := Aside0.mk (below_then (below_then_keep HB.out HB.out.size hN3.keep (fun i hi => HS.out.base_le i hi)) (below_al (Below.refl w3.heap.size w3) (.cells #[.int .i64 0, .int .i64 2147483647] 48)))
      have HY4 : Aside0 ((w3.alloc (.cells #[.int .i64 0, .int .i64 2147483647] 48)).heap[w3.heap.size]? = some (.cells #[.int .i64 0, .int .i64 2147483647] 48 (0, 0))) := ⟨blk_new _ _⟩
      have HY0 : Aside0 (col3 w3.heap.size = 0) := ⟨hS3.z _ (Nat.le_refl _)⟩
      have y0 := cell_blk HY4.out 0
      have y1 := cell_blk HY4.out 1
      have yl := lt_blk HY4.out
      simp only [List.getElem?_toArray, List.getElem?_cons_zero, List.getElem?_cons_succ] at y0 y1
      have hT := give_slab 0 0 2147483647 (w3.alloc (.cells #[.int .i64 0, .int .i64 2147483647] 48)) (HB4.out.size) HS4.out ok_s1 (fun c hc => by simp [rS1] at hc; subst hc; simp)
      unfold FlushP at hT
      rw [show giveS rS1 0 0 2147483647 = (rS2, 0) from by kernel_rfl] at hT
      clear hS3 hN3 HS HB
      go_wp2_with fail
      obtain ⟨Y, hY⟩ : ∃ d, w3.heap.size = d := ⟨_, rfl⟩
      have HY4' := HY4.out
      have HY0' := HY0.out
      rw [hY] at HY4' HY0' ⊢
      have HY5 := Aside0.mk HY4'
      have HY05 := Aside0.mk HY0'
      generalize (w3.alloc (.cells #[.int .i64 0, .int .i64 2147483647] 48)) = w4 at *
      clear y0 y1 yl hY HY4 HY0 HY4' HY0'
      refine hT.mono ?_
      clear hT
      rintro e w5 ⟨col5, rfl, hS5, hN5⟩
      have HS5 := Aside0.mk hS5
      have HB5 := Aside0.mk (below_then_keep HB4.out HB4.out.size hN5.keep (fun i hi => HS4.out.base_le i hi))
      have HY6 := Aside0.mk (blk_keep HY5.out hN5.keep (fun f => f HY05.out))
      have HY06 := Aside0.mk ((hN5.cols Y (lt_blk HY5.out)).trans HY05.out)
      have hT := take_slab 1 w5 (HB5.out.size) HS5.out ok_s2
      unfold TakeP at hT
      rw [show takeS rS2 1 = (rS2, 0, 0, 2) from by kernel_rfl] at hT
      clear hS5 hN5 HS4 HB4 HY5 HY05
      go_wp2_with fail
      refine hT.mono ?_
      clear hT
      rintro e w6 ⟨col6, rfl, hS6, hN6⟩
      have hB7 : Below w6.heap.size w6 (w6.alloc (.cells #[.int .i64 0, .int .i64 0] 48)) := below_al (Below.refl _ _) _
      have HS7 := Aside0.mk (hS6.below hB7)
      have HB7 := Aside0.mk (below_then (below_then_keep HB5.out HB5.out.size hN6.keep (fun i hi => HS5.out.base_le i hi)) hB7)
      have HY7 := Aside0.mk (blk_below (blk_keep HY6.out hN6.keep (fun f => f HY06.out)) hB7)
      have HY07 := Aside0.mk ((hN6.cols Y (lt_blk HY6.out)).trans HY06.out)
      have hT := take_slab 0 (w6.alloc (.cells #[.int .i64 0, .int .i64 0] 48)) (HB7.out.size) HS7.out ok_s2
      unfold TakeP at hT
      rw [show takeS rS2 0 = (rS2, 0, 0, 2) from by kernel_rfl] at hT
      clear hS6 hN6 hB7 HS5 HB5 HY6 HY06
      go_wp2_with fail
      generalize (w6.alloc (.cells #[.int .i64 0, .int .i64 0] 48)) = w7 at *
      refine hT.mono ?_
      clear hT
      rintro e w8 ⟨col8, rfl, hS8, hN8⟩
      have hB9 : Below w8.heap.size w8 (w8.alloc (.cells #[.int .i64 0, .int .i64 0] 48)) := below_al (Below.refl _ _) _
      have HS9 := Aside0.mk (hS8.below hB9)
      have HB9 := Aside0.mk (below_then (below_then_keep HB7.out HB7.out.size hN8.keep (fun i hi => HS7.out.base_le i hi)) hB9)
      have HY9 := Aside0.mk (blk_below (blk_keep HY7.out hN8.keep (fun f => f HY07.out)) hB9)
      have y0 := cell_blk HY9.out 0
      have y1 := cell_blk HY9.out 1
      have yl := lt_blk HY9.out
      simp only [List.getElem?_toArray, List.getElem?_cons_zero, List.getElem?_cons_succ] at y0 y1
      have hL := live_slab (w8.alloc (.cells #[.int .i64 0, .int .i64 0] 48)) HS9.out (by decide) (by decide)
      rw [show liveS rS2 = 0 from by kernel_rfl] at hL
      clear hS8 hN8 hB9 HS7 HB7 HY7 HY07
      go_wp2_with fail
      generalize (w8.alloc (.cells #[.int .i64 0, .int .i64 0] 48)) = w9 at *
      refine hL.mono ?_
      clear hL
      rintro e w10 ⟨rfl, hB10⟩
      have HS10 := Aside0.mk (HS9.out.below hB10)
      have HB10 := Aside0.mk (below_then HB9.out hB10)
      have hY10 := blk_below HY9.out hB10
      have HY10 := Aside0.mk hY10
      clear y0 y1 yl hB10 HS9 HB9 HY9
      have y0 := cell_blk hY10 0
      have y1 := cell_blk hY10 1
      have yl := lt_blk hY10
      simp only [List.getElem?_toArray, List.getElem?_cons_zero, List.getElem?_cons_succ] at y0 y1
      have hA := alive_slab 0 2147483647 w10 HS10.out (by decide) (by decide)
      clear hY10
      rw [show aliveS rS2 0 2147483647 = false from by kernel_rfl] at hA
      go_wp2_with fail
      refine hA.mono ?_
      clear hA
      rintro e w11 ⟨rfl, hB11⟩
      have HS11 := Aside0.mk (HS10.out.below hB11)
      have HB11 := Aside0.mk (below_then HB10.out hB11)
      have hY11 := blk_below HY10.out hB11
      clear y0 y1 yl hB11
      have y0 := cell_blk hY11 0
      have y1 := cell_blk hY11 1
      have yl := lt_blk hY11
      simp only [List.getElem?_toArray, List.getElem?_cons_zero, List.getElem?_cons_succ] at y0 y1
      have hT := give_slab 1 0 2147483647 w11 (HB11.out.size) HS11.out ok_s2 (fun c hc => by simp [rS2] at hc; subst hc; simp)
      unfold FlushP at hT
      rw [show giveS rS2 1 0 2147483647 = (rS2, 41) from by kernel_rfl] at hT
      clear hY11 HS10 HB10 HY10
      go_wp2_with fail
      refine hT.mono ?_
      clear hT
      rintro e w12 ⟨col12, rfl, hS12, hN12⟩
      have HB12 := Aside0.mk (below_then_keep HB11.out HB11.out.size hN12.keep (fun i hi => HS11.out.base_le i hi))
      clear hS12 hN12 y0 y1 yl
      go_wp2
      go_ret
      exact ⟨rfl, below_then HB1.out HB12.out⟩
    · have hT := take_slab 0 w1 (HB.out.size) HS.out ok_s0
      unfold TakeP at hT
      rw [show takeS rS0 0 = (rS1, 0, 2147483647, 0) from by kernel_rfl] at hT
      go_wp2_with fail
      refine hT.mono ?_
      clear hT
      rintro e w3 ⟨col3, rfl, hS3, hN3⟩
      have HS4 := Aside0.mk (hS3.below (w' := w3.alloc (.cells #[.int .i64 0, .int .i64 2147483647] 48)) (below_al (Below.refl _ _) _))
      have HB4 := Aside0.mk (below_then (below_then_keep HB.out HB.out.size hN3.keep (fun i hi => HS.out.base_le i hi)) (below_al (Below.refl w3.heap.size w3) (.cells #[.int .i64 0, .int .i64 2147483647] 48)))
      have HY4 : Aside0 ((w3.alloc (.cells #[.int .i64 0, .int .i64 2147483647] 48)).heap[w3.heap.size]? = some (.cells #[.int .i64 0, .int .i64 2147483647] 48 (0, 0))) := ⟨blk_new _ _⟩
      have HY0 : Aside0 (col3 w3.heap.size = 0) := ⟨hS3.z _ (Nat.le_refl _)⟩
      have y0 := cell_blk HY4.out 0
      have y1 := cell_blk HY4.out 1
      have yl := lt_blk HY4.out
      simp only [List.getElem?_toArray, List.getElem?_cons_zero, List.getElem?_cons_succ] at y0 y1
      have hT := give_slab 1 0 2147483647 (w3.alloc (.cells #[.int .i64 0, .int .i64 2147483647] 48)) (HB4.out.size) HS4.out ok_s1 (fun c hc => by simp [rS1] at hc; subst hc; simp)
      unfold FlushP at hT
      rw [show giveS rS1 1 0 2147483647 = (rS2, 0) from by kernel_rfl] at hT
      clear hS3 hN3 HS HB
      go_wp2_with fail
      obtain ⟨Y, hY⟩ : ∃ d, w3.heap.size = d := ⟨_, rfl⟩
      have HY4' := HY4.out
      have HY0' := HY0.out
      rw [hY] at HY4' HY0' ⊢
      have HY5 := Aside0.mk HY4'
      have HY05 := Aside0.mk HY0'
      generalize (w3.alloc (.cells #[.int .i64 0, .int .i64 2147483647] 48)) = w4 at *
      clear y0 y1 yl hY HY4 HY0 HY4' HY0'
      refine hT.mono ?_
      clear hT
      rintro e w5 ⟨col5, rfl, hS5, hN5⟩
      have HS5 := Aside0.mk hS5
      have HB5 := Aside0.mk (below_then_keep HB4.out HB4.out.size hN5.keep (fun i hi => HS4.out.base_le i hi))
      have HY6 := Aside0.mk (blk_keep HY5.out hN5.keep (fun f => f HY05.out))
      have HY06 := Aside0.mk ((hN5.cols Y (lt_blk HY5.out)).trans HY05.out)
      have hT := take_slab 0 w5 (HB5.out.size) HS5.out ok_s2
      unfold TakeP at hT
      rw [show takeS rS2 0 = (rS2, 0, 0, 2) from by kernel_rfl] at hT
      clear hS5 hN5 HS4 HB4 HY5 HY05
      go_wp2_with fail
      refine hT.mono ?_
      clear hT
      rintro e w6 ⟨col6, rfl, hS6, hN6⟩
      have hB7 : Below w6.heap.size w6 (w6.alloc (.cells #[.int .i64 0, .int .i64 0] 48)) := below_al (Below.refl _ _) _
      have HS7 := Aside0.mk (hS6.below hB7)
      have HB7 := Aside0.mk (below_then (below_then_keep HB5.out HB5.out.size hN6.keep (fun i hi => HS5.out.base_le i hi)) hB7)
      have HY7 := Aside0.mk (blk_below (blk_keep HY6.out hN6.keep (fun f => f HY06.out)) hB7)
      have HY07 := Aside0.mk ((hN6.cols Y (lt_blk HY6.out)).trans HY06.out)
      have hT := take_slab 1 (w6.alloc (.cells #[.int .i64 0, .int .i64 0] 48)) (HB7.out.size) HS7.out ok_s2
      unfold TakeP at hT
      rw [show takeS rS2 1 = (rS2, 0, 0, 2) from by kernel_rfl] at hT
      clear hS6 hN6 hB7 HS5 HB5 HY6 HY06
      go_wp2_with fail
      generalize (w6.alloc (.cells #[.int .i64 0, .int .i64 0] 48)) = w7 at *
      refine hT.mono ?_
      clear hT
      rintro e w8 ⟨col8, rfl, hS8, hN8⟩
      have hB9 : Below w8.heap.size w8 (w8.alloc (.cells #[.int .i64 0, .int .i64 0] 48)) := below_al (Below.refl _ _) _
      have HS9 := Aside0.mk (hS8.below hB9)
      have HB9 := Aside0.mk (below_then (below_then_keep HB7.out HB7.out.size hN8.keep (fun i hi => HS7.out.base_le i hi)) hB9)
      have HY9 := Aside0.mk (blk_below (blk_keep HY7.out hN8.keep (fun f => f HY07.out)) hB9)
      have y0 := cell_blk HY9.out 0
      have y1 := cell_blk HY9.out 1
      have yl := lt_blk HY9.out
      simp only [List.getElem?_toArray, List.getElem?_cons_zero, List.getElem?_cons_succ] at y0 y1
      have hL := live_slab (w8.alloc (.cells #[.int .i64 0, .int .i64 0] 48)) HS9.out (by decide) (by decide)
      rw [show liveS rS2 = 0 from by kernel_rfl] at hL
      clear hS8 hN8 hB9 HS7 HB7 HY7 HY07
      go_wp2_with fail
      generalize (w8.alloc (.cells #[.int .i64 0, .int .i64 0] 48)) = w9 at *
      refine hL.mono ?_
      clear hL
      rintro e w10 ⟨rfl, hB10⟩
      have HS10 := Aside0.mk (HS9.out.below hB10)
      have HB10 := Aside0.mk (below_then HB9.out hB10)
      have hY10 := blk_below HY9.out hB10
      have HY10 := Aside0.mk hY10
      clear y0 y1 yl hB10 HS9 HB9 HY9
      have y0 := cell_blk hY10 0
      have y1 := cell_blk hY10 1
      have yl := lt_blk hY10
      simp only [List.getElem?_toArray, List.getElem?_cons_zero, List.getElem?_cons_succ] at y0 y1
      have hA := alive_slab 0 2147483647 w10 HS10.out (by decide) (by decide)
      clear hY10
      rw [show aliveS rS2 0 2147483647 = false from by kernel_rfl] at hA
      go_wp2_with fail
      refine hA.mono ?_
      clear hA
      rintro e w11 ⟨rfl, hB11⟩
      have HS11 := Aside0.mk (HS10.out.below hB11)
      have HB11 := Aside0.mk (below_then HB10.out hB11)
      have hY11 := blk_below HY10.out hB11
      clear y0 y1 yl hB11
      have y0 := cell_blk hY11 0
      have y1 := cell_blk hY11 1
      have yl := lt_blk hY11
      simp only [List.getElem?_toArray, List.getElem?_cons_zero, List.getElem?_cons_succ] at y0 y1
      have hT := give_slab 0 0 2147483647 w11 (HB11.out.size) HS11.out ok_s2 (fun c hc => by simp [rS2] at hc; subst hc; simp)
      unfold FlushP at hT
      rw [show giveS rS2 0 0 2147483647 = (rS2, 41) from by kernel_rfl] at hT
      clear hY11 HS10 HB10 HY10
      go_wp2_with fail
      refine hT.mono ?_
      clear hT
      rintro e w12 ⟨col12, rfl, hS12, hN12⟩
      have HB12 := Aside0.mk (below_then_keep HB11.out HB11.out.size hN12.keep (fun i hi => HS11.out.base_le i hi))
      clear hS12 hN12 y0 y1 yl
      go_wp2
      go_ret
      exact ⟨rfl, below_then HB1.out HB12.out⟩
    · have hT := take_slab 1 w1 (HB.out.size) HS.out ok_s0
      unfold TakeP at hT
      rw [show takeS rS0 1 = (rS1, 0, 2147483647, 0) from by kernel_rfl] at hT
      go_wp2_with fail
      refine hT.mono ?_
      clear hT
      rintro e w3 ⟨col3, rfl, hS3, hN3⟩
      have HS4 := Aside0.mk (hS3.below (w' := w3.alloc (.cells #[.int .i64 0, .int .i64 2147483647] 48)) (below_al (Below.refl _ _) _))
      have HB4 := Aside0.mk (below_then (below_then_keep HB.out HB.out.size hN3.keep (fun i hi => HS.out.base_le i hi)) (below_al (Below.refl w3.heap.size w3) (.cells #[.int .i64 0, .int .i64 2147483647] 48)))
      have HY4 : Aside0 ((w3.alloc (.cells #[.int .i64 0, .int .i64 2147483647] 48)).heap[w3.heap.size]? = some (.cells #[.int .i64 0, .int .i64 2147483647] 48 (0, 0))) := ⟨blk_new _ _⟩
      have HY0 : Aside0 (col3 w3.heap.size = 0) := ⟨hS3.z _ (Nat.le_refl _)⟩
      have y0 := cell_blk HY4.out 0
      have y1 := cell_blk HY4.out 1
      have yl := lt_blk HY4.out
      simp only [List.getElem?_toArray, List.getElem?_cons_zero, List.getElem?_cons_succ] at y0 y1
      have hT := give_slab 0 0 2147483647 (w3.alloc (.cells #[.int .i64 0, .int .i64 2147483647] 48)) (HB4.out.size) HS4.out ok_s1 (fun c hc => by simp [rS1] at hc; subst hc; simp)
      unfold FlushP at hT
      rw [show giveS rS1 0 0 2147483647 = (rS2, 0) from by kernel_rfl] at hT
      clear hS3 hN3 HS HB
      go_wp2_with fail
      obtain ⟨Y, hY⟩ : ∃ d, w3.heap.size = d := ⟨_, rfl⟩
      have HY4' := HY4.out
      have HY0' := HY0.out
      rw [hY] at HY4' HY0' ⊢
      have HY5 := Aside0.mk HY4'
      have HY05 := Aside0.mk HY0'
      generalize (w3.alloc (.cells #[.int .i64 0, .int .i64 2147483647] 48)) = w4 at *
      clear y0 y1 yl hY HY4 HY0 HY4' HY0'
      refine hT.mono ?_
      clear hT
      rintro e w5 ⟨col5, rfl, hS5, hN5⟩
      have HS5 := Aside0.mk hS5
      have HB5 := Aside0.mk (below_then_keep HB4.out HB4.out.size hN5.keep (fun i hi => HS4.out.base_le i hi))
      have HY6 := Aside0.mk (blk_keep HY5.out hN5.keep (fun f => f HY05.out))
      have HY06 := Aside0.mk ((hN5.cols Y (lt_blk HY5.out)).trans HY05.out)
      have hT := take_slab 1 w5 (HB5.out.size) HS5.out ok_s2
      unfold TakeP at hT
      rw [show takeS rS2 1 = (rS2, 0, 0, 2) from by kernel_rfl] at hT
      clear hS5 hN5 HS4 HB4 HY5 HY05
      go_wp2_with fail
      refine hT.mono ?_
      clear hT
      rintro e w6 ⟨col6, rfl, hS6, hN6⟩
      have hB7 : Below w6.heap.size w6 (w6.alloc (.cells #[.int .i64 0, .int .i64 0] 48)) := below_al (Below.refl _ _) _
      have HS7 := Aside0.mk (hS6.below hB7)
      have HB7 := Aside0.mk (below_then (below_then_keep HB5.out HB5.out.size hN6.keep (fun i hi => HS5.out.base_le i hi)) hB7)
      have HY7 := Aside0.mk (blk_below (blk_keep HY6.out hN6.keep (fun f => f HY06.out)) hB7)
      have HY07 := Aside0.mk ((hN6.cols Y (lt_blk HY6.out)).trans HY06.out)
      have hT := take_slab 0 (w6.alloc (.cells #[.int .i64 0, .int .i64 0] 48)) (HB7.out.size) HS7.out ok_s2
      unfold TakeP at hT
      rw [show takeS rS2 0 = (rS2, 0, 0, 2) from by kernel_rfl] at hT
      clear hS6 hN6 hB7 HS5 HB5 HY6 HY06
      go_wp2_with fail
      generalize (w6.alloc (.cells #[.int .i64 0, .int .i64 0] 48)) = w7 at *
      refine hT.mono ?_
      clear hT
      rintro e w8 ⟨col8, rfl, hS8, hN8⟩
      have hB9 : Below w8.heap.size w8 (w8.alloc (.cells #[.int .i64 0, .int .i64 0] 48)) := below_al (Below.refl _ _) _
      have HS9 := Aside0.mk (hS8.below hB9)
      have HB9 := Aside0.mk (below_then (below_then_keep HB7.out HB7.out.size hN8.keep (fun i hi => HS7.out.base_le i hi)) hB9)
      have HY9 := Aside0.mk (blk_below (blk_keep HY7.out hN8.keep (fun f => f HY07.out)) hB9)
      have y0 := cell_blk HY9.out 0
      have y1 := cell_blk HY9.out 1
      have yl := lt_blk HY9.out
      simp only [List.getElem?_toArray, List.getElem?_cons_zero, List.getElem?_cons_succ] at y0 y1
      have hL := live_slab (w8.alloc (.cells #[.int .i64 0, .int .i64 0] 48)) HS9.out (by decide) (by decide)
      rw [show liveS rS2 = 0 from by kernel_rfl] at hL
      clear hS8 hN8 hB9 HS7 HB7 HY7 HY07
      go_wp2_with fail
      generalize (w8.alloc (.cells #[.int .i64 0, .int .i64 0] 48)) = w9 at *
      refine hL.mono ?_
      clear hL
      rintro e w10 ⟨rfl, hB10⟩
      have HS10 := Aside0.mk (HS9.out.below hB10)
      have HB10 := Aside0.mk (below_then HB9.out hB10)
      have hY10 := blk_below HY9.out hB10
      have HY10 := Aside0.mk hY10
      clear y0 y1 yl hB10 HS9 HB9 HY9
      have y0 := cell_blk hY10 0
      have y1 := cell_blk hY10 1
      have yl := lt_blk hY10
      simp only [List.getElem?_toArray, List.getElem?_cons_zero, List.getElem?_cons_succ] at y0 y1
      have hA := alive_slab 0 2147483647 w10 HS10.out (by decide) (by decide)
      clear hY10
      rw [show aliveS rS2 0 2147483647 = false from by kernel_rfl] at hA
      go_wp2_with fail
      refine hA.mono ?_
      clear hA
      rintro e w11 ⟨rfl, hB11⟩
      have HS11 := Aside0.mk (HS10.out.below hB11)
      have HB11 := Aside0.mk (below_then HB10.out hB11)
      have hY11 := blk_below HY10.out hB11
      clear y0 y1 yl hB11
      have y0 := cell_blk hY11 0
      have y1 := cell_blk hY11 1
      have yl := lt_blk hY11
      simp only [List.getElem?_toArray, List.getElem?_cons_zero, List.getElem?_cons_succ] at y0 y1
      have hT := give_slab 1 0 2147483647 w11 (HB11.out.size) HS11.out ok_s2 (fun c hc => by simp [rS2] at hc; subst hc; simp)
      unfold FlushP at hT
      rw [show giveS rS2 1 0 2147483647 = (rS2, 41) from by kernel_rfl] at hT
      clear hY11 HS10 HB10 HY10
      go_wp2_with fail
      refine hT.mono ?_
      clear hT
      rintro e w12 ⟨col12, rfl, hS12, hN12⟩
      have HB12 := Aside0.mk (below_then_keep HB11.out HB11.out.size hN12.keep (fun i hi => HS11.out.base_le i hi))
      clear hS12 hN12 y0 y1 yl
      go_wp2
      go_ret
      exact ⟨rfl, below_then HB1.out HB12.out⟩
  · exact absurd wf_s0 hw
theorem slabRetired.walk (w : World) (p : Int) (_ : (Lit.int .i64 p).wf = true) : Calls Try.prog 10 #[.int .i64 p] w fun e w' => e = .returned (.bool true) ∧ Below w.heap.size w w' := SlabRetired0.walk w p
theorem slabRetired.own : ownKnob Try.prog.godebug = none := by kernel_rfl
theorem slabRetired.laidOut : laidOutB Try.prog = true := by kernel_rfl
set_option maxRecDepth 100000 in
set_option maxHeartbeats 1000000 in
theorem slabRetired.lifted (os : Os) (started : os.Started) (H : Type) (enc : TypeId × Value → H)
    : ReturnsInHanded {} Try.checked os 10 .any (Rows.slabRetiredSpec.pre6 enc Try.prog Try.f10 Rows.slabRetiredRow.domain false) (Rows.slabRetiredSpec.post enc Try.prog Try.f10 false true false false) := by
  refine returnsInHanded_of_change_sized (C := Try.checked) slabRetired.own started (by kernel_rfl) Try.func10
    (ChangeSpec.witness6 (enc := enc) (C := Try.checked) false ⟨#[], #[.int .i64 0], []⟩ 8 (by kernel_rfl) (by kernel_rfl) (by kernel_rfl) (by kernel_rfl)) ?_
  intro W base args ds gs before hval0 hW hcnd hsz0 _
  have hsz : (DataW.weightsEach Try.prog (Try.f10.params.toList ++ Rows.slabRetiredSpec.plain.varTypes Try.prog) (ds ++ gs)).all (· ≤ reachBytes) = true := hsz0
  have hval : ∀ (j : Nat) t v, Try.f10.params[j]? = some t → args[j]? = some v → Value.okWide Try.prog W .any base t v := hval0
  have hW' := hW
  obtain ⟨p, q, hA0, hV, rfl, hfz, hnd⟩ := hW
  have hA : DataW.TrodAll enc Try.prog W 0 (fun _ => true) true Try.f10.params.toList args.toList ds p := hA0
  rw [Try.params10] at hA hval hsz
  obtain ⟨v0, vs0, d0, ds0, p0, q0, hargs, rfl, rfl, h0, r0⟩ := trodAll_cons hA
  obtain ⟨rfl, rfl, rfl⟩ := trodAll_nil r0
  obtain rfl : args = #[v0] := by cases args; simp_all
  obtain ⟨rfl, rfl⟩ := trodVars_none hV
  have k0 := h0
  have lt0 : ∀ x ∈ p0, x.block < W.heap.size := by obtain ⟨m, hm⟩ := k0; exact DataW.trod_lt m _ _ _ hm
  have W0 := Op.weights_of hsz (j := 0) (t := 3) (d := d0) rfl rfl
  obtain ⟨n0, rfl⟩ := okWide_int Try.underlying3 (hval 0 3 v0 rfl rfl)
  obtain ⟨f0, hf0⟩ := h0
  obtain ⟨a0, hK0, hG0, hM0⟩ := Op.opens_int Try.underlying3 H enc W _ true f0 _ (d0, p0) hf0 W0
  obtain rfl : n0 = a0 := by have := hK0; simpa [Value.cells, Kd.int, Kd.scalar] using this
  clear hA0 hval0 hsz0 hsz
  refine (slabRetired.walk W n0 hG0).mono fun e W' ⟨he, bel⟩ => ?_
  subst he
  exact ⟨_, rfl, _, _, _, [], _, [], hW', trodAll_mk1 (shut_bool Try.underlying4 _), (trodAll_cons_mk (Below.trod slabRetired.laidOut (by kernel_rfl) (of_decide_eq_true (by kernel_rfl)) k0 bel lt0) trodAll_mk0), rfl, bel.frame _, fun h => by cases h⟩
theorem slabRetired_holds : Rows.SlabRetiredSaid :=
  OpenClaim.holds_of_wide 10 Try.f10 rfl rfl rfl rfl rfl rfl rfl ⟨rfl, rfl, rfl, rfl, rfl⟩ rfl rfl rfl rfl rfl (by kernel_rfl) Try.func10 (by kernel_rfl)
    (of_decide_eq_true (by kernel_rfl)) (by unfold Func.isWrapper; first | (rw [if_pos (by decide +kernel)]; kernel_rfl) | (rw [if_neg (by decide +kernel)]; exact ⟨rfl, rfl⟩))
    (fun os started H enc _ => slabRetired.lifted os started H enc)
#print axioms slabRetired_holds

end Go.Proofs.Ytnglgjegkjfnaaa
