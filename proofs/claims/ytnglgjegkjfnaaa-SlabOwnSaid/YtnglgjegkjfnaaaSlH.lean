import Derived.Test.YtnglgjegkjfnaaaSlG
import Derived.Deep.DrawnRows
set_option linter.unusedSimpArgs false
set_option linter.unusedVariables false
namespace Go.Proofs.Ytnglgjegkjfnaaa
open Go.RowKit Go.Proofs.YtnglgjegkjfnaaaW.PrintWords Go.Proofs.YtnglgjegkjfnaaaW.PrintMore Go.Proofs.YtnglgjegkjfnaaaW.PrintLast
/-! State: printed by gen04a.py. -/
def StateP (s : Sl) (w : World) (e : Ending) (w' : World) : Prop := ∃ vG vA vC vF vs col, e = .returned (.agg #[.int .i64 s.limit, vG, vA, vC, vF]) ∧ SlV w' w.heap.size col s vG vA vC vF vs ∧ (∀ k, k < w.heap.size → col k = 0) ∧ Below w.heap.size w w'
/-- Behind k caches. -/
def StI (W : World) (base b : Nat) (col : Nat → Nat) (s : Sl) (vG vA vC vF : Value) (vs : List Value) (B : Nat) (uG uA uF : Value) (k : Nat) (wr : World) : Prop := ∃ vC' vs' col', Below W.heap.size W wr ∧ SlB TS wr base b col s vG vA vC vF vs ∧ SlB TT wr W.heap.size B col' ⟨s.limit, s.gens, s.alive, s.caches.take k, s.free⟩ uG uA vC' uF vs' ∧ ∀ k, k < W.heap.size → col' k = 0
set_option maxRecDepth 100000 in
set_option maxHeartbeats 8000000 in
theorem state_slab {b : Nat} {s : Sl} {base : Nat} {col : Nat → Nat} (w : World) (h : IsSlab TS w base b col s) (hl : 0 < s.limit) (hBd : Bd s) : Calls Try.prog 19 #[.pointer (some ⟨b, 0, none⟩)] w (StateP s w) := by
  have hW : Below w.heap.size w (w.alloc (.cells #[.int .i64 0, .slice none 0 0, .slice none 0 0, .slice none 0 0, .slice none 0 0] 30)) := (by repeat (first | (with_reducible exact Below.refl _ _) | (with_reducible refine Below.drew ?_) | (with_reducible refine below_drewN ?_ _) | (with_reducible refine below_al ?_ _) | (with_reducible refine Below.alloc ?_ (by first | exact Nat.le_refl _ | omega | (simp; done) | (simp; omega)) _) | (with_reducible refine Below.setCell ?_ (by first | (simp only []; omega) | (simp; done) | (simp; omega)) _)))
  have hRes : (w.alloc (.cells #[.int .i64 0, .slice none 0 0, .slice none 0 0, .slice none 0 0, .slice none 0 0] 30)).heap[w.heap.size]? = some (.cells #[.int .i64 0, .slice none 0 0, .slice none 0 0, .slice none 0 0, .slice none 0 0] 30 (0, 0)) := blk_new _ _
  have H := Aside0.mk (h.below hW)
  obtain ⟨vG, vA, vC, vF, vs, h⟩ := h.below hW
  obtain ⟨AC, cC, rfl, -⟩ := h.r.c.slice
  have HP := Aside0.mk h
  have hW := Aside0.mk hW
  have hRes := Aside0.mk hRes
  clear h
  go_enter Try.func19, Try.ntmps19
  go_wp2_with fail
  refine (is_slab _ H.out hl).mono ?_
  rintro e w1 ⟨rfl, rfl⟩
  generalize (w.alloc (.cells #[.int .i64 0, .slice none 0 0, .slice none 0 0, .slice none 0 0, .slice none 0 0] 30)) = W at *
  have hbl := lt_blk HP.out.blk
  have hrl := lt_blk hRes.out
  go_wp2_with fail
  have HP0 : Aside0 (SlB TS W.drew base b col s vG vA (.slice AC vs.length cC) vF vs) := ⟨HP.out.below (Below.refl _ _).drew⟩
  have hWx : Aside0 (Below W.heap.size W W.drew) := ⟨(Below.refl _ _).drew⟩
  have hWs := hW.out.size
  have hvl : vs.length ≤ 10000000000000 := by rw [HP.out.r.l]; have := hBd.c; omega
  have hxs : W.heap.size ≤ W.drew.heap.size := hWx.out.size
  refine start_ (n := 22) (S := fun w' => w'.cell? ⟨b, 0, none⟩ = some (.int .i64 s.limit) ∧ w'.cell? ⟨b, 1, none⟩ = some (vG) ∧ w'.cell? ⟨b, 2, none⟩ = some (vA) ∧ w'.cell? ⟨b, 4, none⟩ = some (vF)) (ds := [21]) #[false, false, false, false, false, false, false, false, false, false, false, false, false, false, false, false, false, false, false, false, false, false] (by kernel_rfl) rfl rfl ⟨cell_blk HP0.out.blk 0, cell_blk HP0.out.blk 1, cell_blk HP0.out.blk 2, cell_blk HP0.out.blk 4⟩ (fun hHeld => ?_)
  generalize W.drew = x0 at *
  refine pure_ (i := 0) (N := some 10) (v := ?_) (a' := ?_) #[true, false, false, false, false, false, false, false, false, false, false, false, false, false, false, false, false, false, false, false, false, false] rfl rfl (by kernel_rfl) (fun _ _ _ h => h) (Or.inl ⟨by rfl, ?_⟩) ?_ ?_
  rotate_left
  · intro w'
    go_simp
    with_reducible rfl
  rotate_left
  · simp only [Act.put, List.setIfInBounds_toArray, List.set_cons_zero, List.set_cons_succ]
    rfl
  refine pure_ (i := 1) (N := some 11) (v := ?_) (a' := ?_) #[true, true, false, false, false, false, false, false, false, false, false, false, false, false, false, false, false, false, false, false, false, false] rfl rfl (by kernel_rfl) (fun _ _ _ h => h) (Or.inl ⟨by rfl, ?_⟩) ?_ ?_
  rotate_left
  · intro w'
    go_simp
    with_reducible rfl
  rotate_left
  · simp only [Act.put, List.setIfInBounds_toArray, List.set_cons_zero, List.set_cons_succ]
    rfl
  refine pure_ (i := 2) (N := some 12) (v := ?_) (a' := ?_) #[true, true, true, false, false, false, false, false, false, false, false, false, false, false, false, false, false, false, false, false, false, false] rfl rfl (by kernel_rfl) (fun _ _ _ h => h) (Or.inl ⟨by rfl, ?_⟩) ?_ ?_
  rotate_left
  · intro w'
    go_simp
    with_reducible rfl
  rotate_left
  · simp only [Act.put, List.setIfInBounds_toArray, List.set_cons_zero, List.set_cons_succ]
    rfl
  refine pure_ (i := 4) (N := some 14) (v := ?_) (a' := ?_) #[true, true, true, false, true, false, false, false, false, false, false, false, false, false, false, false, false, false, false, false, false, false] rfl rfl (by kernel_rfl) (fun _ _ _ h => h) (Or.inl ⟨by rfl, ?_⟩) ?_ ?_
  rotate_left
  · intro w'
    go_simp
    with_reducible rfl
  rotate_left
  · simp only [Act.put, List.setIfInBounds_toArray, List.set_cons_zero, List.set_cons_succ]
    rfl
  refine pure_ (i := 5) (N := some 15) (v := ?_) (a' := ?_) #[true, true, true, false, true, true, false, false, false, false, false, false, false, false, false, false, false, false, false, false, false, false] rfl rfl (by kernel_rfl) (fun _ _ _ h => h) (Or.inl ⟨by rfl, ?_⟩) ?_ ?_
  rotate_left
  · intro w'
    go_simp
    with_reducible rfl
  rotate_left
  · simp only [Act.put, List.setIfInBounds_toArray, List.set_cons_zero, List.set_cons_succ]
    rfl
  refine pure_ (i := 6) (N := some 16) (v := ?_) (a' := ?_) #[true, true, true, false, true, true, true, false, false, false, false, false, false, false, false, false, false, false, false, false, false, false] rfl rfl (by kernel_rfl) (fun _ _ _ h => h) (Or.inl ⟨by rfl, ?_⟩) ?_ ?_
  rotate_left
  · intro w'
    go_simp
    with_reducible rfl
  rotate_left
  · simp only [Act.put, List.setIfInBounds_toArray, List.set_cons_zero, List.set_cons_succ]
    rfl
  refine pure_ (i := 9) (N := some 19) (v := ?_) (a' := ?_) #[true, true, true, false, true, true, true, false, false, true, false, false, false, false, false, false, false, false, false, false, false, false] rfl rfl (by kernel_rfl) (fun _ _ _ h => h) (Or.inl ⟨by rfl, ?_⟩) ?_ ?_
  rotate_left
  · intro w'
    go_simp
    with_reducible rfl
  rotate_left
  · simp only [Act.put, List.setIfInBounds_toArray, List.set_cons_zero, List.set_cons_succ]
    rfl
  refine pure_ (i := 10) (N := some 20) (v := ?_) (a' := ?_) #[true, true, true, false, true, true, true, false, false, true, true, false, false, false, false, false, false, false, false, false, false, false] rfl rfl (by kernel_rfl) (fun _ _ _ h => h) (Or.inl ⟨by rfl, ?_⟩) ?_ ?_
  rotate_left
  · intro w'
    go_simp
    with_reducible rfl
  rotate_left
  · simp only [Act.put, List.setIfInBounds_toArray, List.set_cons_zero, List.set_cons_succ]
    rfl
  refine pure_ (i := 11) (N := some 21) (v := ?_) (a' := ?_) #[true, true, true, false, true, true, true, false, false, true, true, true, false, false, false, false, false, false, false, false, false, false] rfl rfl (by kernel_rfl) (fun _ _ _ h => h) (Or.inl ⟨by rfl, ?_⟩) ?_ ?_
  rotate_left
  · intro w'
    go_simp
    with_reducible rfl
  rotate_left
  · simp only [Act.put, List.setIfInBounds_toArray, List.set_cons_zero, List.set_cons_succ]
    rfl
  refine pure_ (i := 14) (N := some 24) (v := ?_) (a' := ?_) #[true, true, true, false, true, true, true, false, false, true, true, true, false, false, true, false, false, false, false, false, false, false] rfl rfl (by kernel_rfl) (fun _ _ _ h => h) (Or.inl ⟨by rfl, ?_⟩) ?_ ?_
  rotate_left
  · intro w'
    go_simp
    with_reducible rfl
  rotate_left
  · simp only [Act.put, List.setIfInBounds_toArray, List.set_cons_zero, List.set_cons_succ]
    rfl
  refine pure_ (i := 15) (N := some 25) (v := ?_) (a' := ?_) #[true, true, true, false, true, true, true, false, false, true, true, true, false, false, true, true, false, false, false, false, false, false] rfl rfl (by kernel_rfl) (fun _ _ _ h => h) (Or.inl ⟨by rfl, ?_⟩) ?_ ?_
  rotate_left
  · intro w'
    go_simp
    with_reducible rfl
  rotate_left
  · simp only [Act.put, List.setIfInBounds_toArray, List.set_cons_zero, List.set_cons_succ]
    rfl
  refine pure_ (i := 16) (N := some 26) (v := ?_) (a' := ?_) #[true, true, true, false, true, true, true, false, false, true, true, true, false, false, true, true, true, false, false, false, false, false] rfl rfl (by kernel_rfl) (fun _ _ _ h => h) (Or.inl ⟨by rfl, ?_⟩) ?_ ?_
  rotate_left
  · intro w'
    go_simp
    with_reducible rfl
  rotate_left
  · simp only [Act.put, List.setIfInBounds_toArray, List.set_cons_zero, List.set_cons_succ]
    rfl
  refine take_ (i := 3) (N := some 13) (v := ?_) (a' := ?_) #[true, true, true, true, true, true, true, false, false, true, true, true, false, false, true, true, true, false, false, false, false, false] rfl rfl (by kernel_rfl) (fun _ _ _ h => h) (Or.inl ⟨by rfl, ?_⟩) hHeld ?_ ?_
  rotate_left
  · rintro w' ⟨s0, s1, s2, s3⟩
    go_simp
    with_reducible rfl
  rotate_left
  · simp only [Act.put, List.setIfInBounds_toArray, List.set_cons_zero, List.set_cons_succ]
    rfl
  refine take_ (i := 7) (N := some 17) (v := ?_) (a' := ?_) #[true, true, true, true, true, true, true, true, false, true, true, true, false, false, true, true, true, false, false, false, false, false] rfl rfl (by kernel_rfl) (fun _ _ _ h => h) (Or.inl ⟨by rfl, ?_⟩) hHeld ?_ ?_
  rotate_left
  · rintro w' ⟨s0, s1, s2, s3⟩
    go_simp
    with_reducible rfl
  rotate_left
  · simp only [Act.put, List.setIfInBounds_toArray, List.set_cons_zero, List.set_cons_succ]
    rfl
  refine take_ (i := 12) (N := some 22) (v := ?_) (a' := ?_) #[true, true, true, true, true, true, true, true, false, true, true, true, true, false, true, true, true, false, false, false, false, false] rfl rfl (by kernel_rfl) (fun _ _ _ h => h) (Or.inl ⟨by rfl, ?_⟩) hHeld ?_ ?_
  rotate_left
  · rintro w' ⟨s0, s1, s2, s3⟩
    go_simp
    with_reducible rfl
  rotate_left
  · simp only [Act.put, List.setIfInBounds_toArray, List.set_cons_zero, List.set_cons_succ]
    rfl
  refine take_ (i := 17) (N := some 27) (v := ?_) (a' := ?_) #[true, true, true, true, true, true, true, true, false, true, true, true, true, false, true, true, true, true, false, false, false, false] rfl rfl (by kernel_rfl) (fun _ _ _ h => h) (Or.inl ⟨by rfl, ?_⟩) hHeld ?_ ?_
  rotate_left
  · rintro w' ⟨s0, s1, s2, s3⟩
    go_simp
    with_reducible rfl
  rotate_left
  · simp only [Act.put, List.setIfInBounds_toArray, List.set_cons_zero, List.set_cons_succ]
    rfl
  refine two_ (i := 8) (j := 20) (Ni := some 18) (Nj := some 3) #[true, true, true, true, true, true, true, true, true, true, true, true, true, false, true, true, true, true, false, false, false, false] #[true, true, true, true, true, true, true, true, false, true, true, true, true, false, true, true, true, true, false, false, true, false] rfl rfl rfl rfl (by kernel_rfl) (by decide) (by decide) (fun K hK => ?_) (fun K hK => ?_)
  · skip
    refine goes_ Try.func35 (by kernel_rfl) rfl #[vG] (by rfl) rfl rfl (by simp only [List.map_toArray, List.map_cons, List.map_nil]; rfl) ?_
    with_reducible refine (cloneI vG _ x0 HP0.out.r.g.reads (by rw [ints_len]; exact hBd.g)).mono ?_
    rintro e w1 ⟨uG, rfl, hRG, hS1⟩
    refine ⟨_, rfl, ?_⟩
    obtain ⟨AG, cG, rfl, -⟩ := hRG.slice
    have hB1 : Below x0.heap.size x0 w1 := hS1
    have hBlk1 := blk_below HP0.out.blk hB1
    refine hK.out _ _ ⟨cell_blk hBlk1 0, cell_blk hBlk1 1, cell_blk hBlk1 2, cell_blk hBlk1 4⟩ (fun hHeld => ?_)
    clear hK K
    refine norm_ (a' := ?_) ?_ ?_
    rotate_left
    · show Act.put _ (some 18) _ = _
      simp only [Act.put, List.setIfInBounds_toArray, List.set_cons_zero, List.set_cons_succ]
      rfl
    refine two_ (i := 13) (j := 20) (Ni := some 23) (Nj := some 3) #[true, true, true, true, true, true, true, true, true, true, true, true, true, true, true, true, true, true, false, false, false, false] #[true, true, true, true, true, true, true, true, true, true, true, true, true, false, true, true, true, true, false, false, true, false] rfl rfl rfl rfl (by kernel_rfl) (by decide) (by decide) (fun K hK => ?_) (fun K hK => ?_)
    · skip
      refine goes_ Try.func36 (by kernel_rfl) rfl #[vA] (by rfl) rfl rfl (by simp only [List.map_toArray, List.map_cons, List.map_nil]; rfl) ?_
      with_reducible refine (cloneB vA _ w1 (HP0.out.r.a.reads.below hB1) (by rw [bools_len]; exact hBd.a)).mono ?_
      rintro e w2 ⟨uA, rfl, hRA, hS2⟩
      refine ⟨_, rfl, ?_⟩
      obtain ⟨AA, cA, rfl, -⟩ := hRA.slice
      have hB2 : Below x0.heap.size x0 w2 := below_then hB1 hS2
      have hBlk2 := blk_below HP0.out.blk hB2
      refine hK.out _ _ ⟨cell_blk hBlk2 0, cell_blk hBlk2 1, cell_blk hBlk2 2, cell_blk hBlk2 4⟩ (fun hHeld => ?_)
      clear hK K
      refine norm_ (a' := ?_) ?_ ?_
      rotate_left
      · show Act.put _ (some 23) _ = _
        simp only [Act.put, List.setIfInBounds_toArray, List.set_cons_zero, List.set_cons_succ]
        rfl
      refine two_ (i := 18) (j := 20) (Ni := some 28) (Nj := some 3) #[true, true, true, true, true, true, true, true, true, true, true, true, true, true, true, true, true, true, true, false, false, false] #[true, true, true, true, true, true, true, true, true, true, true, true, true, true, true, true, true, true, false, false, true, false] rfl rfl rfl rfl (by kernel_rfl) (by decide) (by decide) (fun K hK => ?_) (fun K hK => ?_)
      · skip
        refine goes_ Try.func35 (by kernel_rfl) rfl #[vF] (by rfl) rfl rfl (by simp only [List.map_toArray, List.map_cons, List.map_nil]; rfl) ?_
        with_reducible refine (cloneI vF _ w2 (HP0.out.r.f.reads.below hB2) (by rw [ints_len]; exact hBd.f)).mono ?_
        rintro e w3 ⟨uF, rfl, hRF, hS3⟩
        refine ⟨_, rfl, ?_⟩
        obtain ⟨AF, cF, rfl, -⟩ := hRF.slice
        have hB3 : Below x0.heap.size x0 w3 := below_then hB2 hS3
        have hBlk3 := blk_below HP0.out.blk hB3
        refine hK.out _ _ ⟨cell_blk hBlk3 0, cell_blk hBlk3 1, cell_blk hBlk3 2, cell_blk hBlk3 4⟩ (fun hHeld => ?_)
        clear hK K
        refine norm_ (a' := ?_) ?_ ?_
        rotate_left
        · show Act.put _ (some 28) _ = _
          simp only [Act.put, List.setIfInBounds_toArray, List.set_cons_zero, List.set_cons_succ]
          rfl
        refine pure_ (i := 19) (N := some 29) (v := ?_) (a' := ?_) #[true, true, true, true, true, true, true, true, true, true, true, true, true, true, true, true, true, true, true, true, false, false] rfl rfl (by kernel_rfl) (fun _ _ _ h => h) (Or.inl ⟨by rfl, ?_⟩) ?_ ?_
        rotate_left
        · intro w'
          go_simp
          with_reducible rfl
        rotate_left
        · simp only [Act.put, List.setIfInBounds_toArray, List.set_cons_zero, List.set_cons_succ]
          rfl
        refine one_ (i := 20) (N := some 3) #[true, true, true, true, true, true, true, true, true, true, true, true, true, true, true, true, true, true, true, true, true, false] rfl rfl (by kernel_rfl) (by decide) (fun K hK => ?_)
        refine value_ (w1 := ?_) (v := ?_) (by rfl) rfl ?_ ?_
        rotate_left 2
        · go_simp
          constructor
          · rfl
          · rfl
        have hS4 : Below w3.heap.size w3 (w3.alloc (.cells #[.int .i64 0, .slice none 0 0, .slice none 0 0, .slice none 0 0, .slice none 0 0] 30)) := below_al (Below.refl _ _) _
        have hRO : (w3.alloc (.cells #[.int .i64 0, .slice none 0 0, .slice none 0 0, .slice none 0 0, .slice none 0 0] 30)).heap[w3.heap.size]? = some (.cells #[.int .i64 0, .slice none 0 0, .slice none 0 0, .slice none 0 0, .slice none 0 0] 30 (0, 0)) := blk_new _ _
        generalize w3.alloc (.cells #[.int .i64 0, .slice none 0 0, .slice none 0 0, .slice none 0 0, .slice none 0 0] 30) = w4 at *
        obtain ⟨B, hBB⟩ : ∃ B, B = w3.heap.size := ⟨_, rfl⟩
        have hgB : w3.heap.size ≤ B := by omega
        rw [← hBB] at hRO ⊢
        have hB4 : Below x0.heap.size x0 w4 := below_then hB3 hS4
        have hBlk4 := blk_below HP0.out.blk hB4
        clear hBB
        refine hK.out _ _ ⟨cell_blk hBlk4 0, cell_blk hBlk4 1, cell_blk hBlk4 2, cell_blk hBlk4 4⟩ (fun hHeld => ?_)
        clear hK K
        refine norm_ (a' := ?_) ?_ ?_
        rotate_left
        · show Act.put _ (some 3) _ = _
          simp only [Act.put, List.setIfInBounds_toArray, List.set_cons_zero, List.set_cons_succ]
          rfl
        refine last_ (i := 21) (N := none) #[true, true, true, true, true, true, true, true, true, true, true, true, true, true, true, true, true, true, true, true, true, true] rfl rfl (by kernel_rfl) (by decide) (fun K hK => ?_)
        have hz2 := hS2.size
        have hz3 := hS3.size
        have hz4 := hS4.size
        have hz1 := hS1.size
        have hrG : Row w4 W.heap.size (fun _ => True) _ (.slice AG _ cG) _ := (hRG.below (below_then (below_then hS2 hS3) hS4)).lower (by omega)
        have hrA : Row w4 W.heap.size (fun _ => True) _ (.slice AA _ cA) _ := (hRA.below (below_then hS3 hS4)).lower (by omega)
        have hrF : Row w4 W.heap.size (fun _ => True) _ (.slice AF _ cF) _ := (hRF.below hS4).lower (by omega)
        have hne : ∀ k, (Value.slice AG (ints s.gens).length cG).ownBlock = some k → (Value.slice AF (ints s.free).length cF).ownBlock = some k → False := fun k h1 h2 => by have := hRG.lt k h1; have := hRF.base_le k h2; omega
        have hO4 := hRO
        have hB4' := Aside0.mk (below_then hW.out (below_then hWx.out hB4))
        obtain ⟨f0, f1, f2, f3, f4⟩ : w4.cell? ⟨B, 0, none⟩ = some (.int .i64 0) ∧ w4.cell? ⟨B, 1, none⟩ = some (.slice none 0 0) ∧ w4.cell? ⟨B, 2, none⟩ = some (.slice none 0 0) ∧ w4.cell? ⟨B, 3, none⟩ = some (.slice none 0 0) ∧ w4.cell? ⟨B, 4, none⟩ = some (.slice none 0 0) := ⟨cell_blk hO4 0, cell_blk hO4 1, cell_blk hO4 2, cell_blk hO4 3, cell_blk hO4 4⟩
        have f5 := frozen_blk hO4 0; have f6 := frozen_blk hO4 1; have f7 := frozen_blk hO4 2; have f8 := frozen_blk hO4 3; have f9 := frozen_blk hO4 4
        have hBl := lt_blk hO4
        refine skip_ (w1 := ?_) (by rfl) rfl ?_ ?_
        rotate_left
        · go_simp
          first | with_reducible rfl | rfl
        refine hK.out _ _ ?_
        clear hK K
        refine done_ (by kernel_rfl) ?_
        have hT5 : ((((((w4.setCell ⟨B, 0, none⟩ (.int .i64 s.limit)).setCell ⟨B, 1, none⟩ (.slice AG (ints s.gens).length cG)).setCell ⟨B, 2, none⟩ (.slice AA (bools s.alive).length cA)).setCell ⟨B, 3, none⟩ (.slice none 0 0)).setCell ⟨B, 4, none⟩ (.slice AF (ints s.free).length cF))).heap[B]? = some (.cells #[.int .i64 s.limit, .slice AG (ints s.gens).length cG, .slice AA (bools s.alive).length cA, .slice none 0 0, .slice AF (ints s.free).length cF] TT (0, 0)) := blk_set5 hO4
        have hK5 : Keep (fun k => k = B) w4 ((((((w4.setCell ⟨B, 0, none⟩ (.int .i64 s.limit)).setCell ⟨B, 1, none⟩ (.slice AG (ints s.gens).length cG)).setCell ⟨B, 2, none⟩ (.slice AA (bools s.alive).length cA)).setCell ⟨B, 3, none⟩ (.slice none 0 0)).setCell ⟨B, 4, none⟩ (.slice AF (ints s.free).length cF))) := set5_keep _ _ _ _ _ _ _
        generalize (((((w4.setCell ⟨B, 0, none⟩ (.int .i64 s.limit)).setCell ⟨B, 1, none⟩ (.slice AG (ints s.gens).length cG)).setCell ⟨B, 2, none⟩ (.slice AA (bools s.alive).length cA)).setCell ⟨B, 3, none⟩ (.slice none 0 0)).setCell ⟨B, 4, none⟩ (.slice AF (ints s.free).length cF)) = W5 at *
        have HP5 := Aside0.mk ((HP0.out.below hB4).keep hK5 (fun k hk => by subst hk; exact HP0.out.r.z _ (by omega)))
        have hBW : W.heap.size ≤ B := by omega
        have HB5 := Aside0.mk (below_then_keep (below_then hWx.out hB4) (by have := hB4.size; omega) hK5 (fun i hi => by omega))
        obtain ⟨col1, hQ5, hcol1⟩ := slab_begun (by decide) (row_keepT hrG hO4 (by decide) hK5) (row_keepT hrA hO4 (by decide) hK5) (row_keepT hrF hO4 (by decide) hK5) hne hT5 hBW
        have HQ5 := Aside0.mk hQ5
        have HC5 := Aside0.mk hcol1
        have HPz : Aside0 (∀ k, W.heap.size ≤ k → col k = 0) := ⟨fun k hk => HP.out.r.z k hk⟩
        clear hQ5 hcol1 hrG hrA hrF hne hO4 hT5 hK5 hRG hRA hRF hB4 hB4' HP0 hHeld
        clear hS1 hS2 hS3 hS4 hB1 hB2 hB3 hBlk1 hBlk2 hBlk3 hBlk4
        clear f0 f1 f2 f3 f4 f5 f6 f7 f8 f9 hBl hRO hgB
        clear hz1 hz2 hz3 hz4 hxs
        obtain ⟨-, -, -, d3, -⟩ := cells5 HP5.out.blk
        have hbl5 := lt_blk HP5.out.blk
        go_wp2
        clear d3 hbl5
        go_loopw [35] (fun i wr => ∃ (k : Nat), k ≤ vs.length ∧ i = .int .i64 k ∧ Aside0 (StI W base b col s vG vA (.slice AC vs.length cC) vF vs B (.slice AG (ints s.gens).length cG) (.slice AA (bools s.alive).length cA) (.slice AF (ints s.free).length cF) k wr)) (fun i _ => vs.length - (intOf i).toNat)
        case atStart => exact ⟨0, by omega, rfl, ⟨_, [], col1, HB5.out, HP5.out, HQ5.out, HC5.out⟩⟩
        case round =>
          clear HP5 HB5 HQ5 HC5
          obtain ⟨k, hk, rfl, ⟨vC', vs', col', hB, hPr, hQ, hC⟩⟩ := hrel
          obtain ⟨AC', cC', rfl, -⟩ := hQ.r.c.slice
          have HB := Aside0.mk hB
          have HPr := Aside0.mk hPr
          have HQ := Aside0.mk hQ
          have HC := Aside0.mk hC
          clear hB hPr hQ hC
          have hws := HB.out.size
          by_cases hlt : k < vs.length
          · obtain ⟨gC, oC, cC2, he, hgC, -, hat⟩ := HPr.out.r.c.form (by omega)
            injection he with he1 he2 he3
            subst he1; subst he3
            have hkc : k < s.caches.length := by rw [← HPr.out.r.l]; exact hlt
            obtain ⟨y, hy⟩ : ∃ y, s.caches[k]? = some y := ⟨_, List.getElem?_eq_getElem hkc⟩
            obtain ⟨v, hv, hvrow⟩ := HPr.out.r.v k y hy
            have hcell := (hat k).1 _ hv
            have hxb : y.length * 8 ≤ 140737488355328 := hBd.e y (List.mem_of_getElem? hy)
            have HT := Aside0.mk (take_snocI hy)
            have HVR := Aside0.mk hvrow.reads
            obtain ⟨Av, cv, rfl, -⟩ := hvrow.slice
            have hcb : (vs'.length + 1) * 24 ≤ 140737488355328 := by
              have h1 := HQ.out.r.l
              have h2 : (s.caches.take k).length = k := by rw [List.length_take]; omega
              have h3 := hBd.c
              simp only at h1
              rw [h1, h2]
              omega
            clear hat hv hy hvrow
            go_wp2_with fail
            have hx1 : Below wr.heap.size wr wr.drew := (Below.refl _ _).drew
            have HP1 := Aside0.mk (HPr.out.below hx1)
            have HQ1 := Aside0.mk (HQ.out.below hx1)
            have hvr := HVR.out.below hx1
            have hQ0 := HQ1.out
            have hxs1 := hx1.size
            refine start_ (n := 8) (S := fun w' => w'.cell? ⟨B, 3, none⟩ = some (.slice AC' vs'.length cC')) (ds := [5, 7]) #[false, false, false, false, false, false, false, false] (by kernel_rfl) rfl rfl ((cells5 HQ1.out.blk).2.2.2.1) (fun hHeld => ?_)
            generalize wr.drew = x1 at *
            refine pure_ (i := 0) (N := some 39) (v := ?_) (a' := ?_) #[true, false, false, false, false, false, false, false] rfl rfl (by kernel_rfl) (fun _ _ _ h => h) (Or.inl ⟨by rfl, ?_⟩) ?_ ?_
            rotate_left
            · intro w'
              go_simp
              with_reducible rfl
            rotate_left
            · simp only [Act.put, List.setIfInBounds_toArray, List.set_cons_zero, List.set_cons_succ]
              rfl
            refine pure_ (i := 2) (N := some 41) (v := ?_) (a' := ?_) #[true, false, true, false, false, false, false, false] rfl rfl (by kernel_rfl) (fun _ _ _ h => h) (Or.inl ⟨by rfl, ?_⟩) ?_ ?_
            rotate_left
            · intro w'
              go_simp
              with_reducible rfl
            rotate_left
            · simp only [Act.put, List.setIfInBounds_toArray, List.set_cons_zero, List.set_cons_succ]
              rfl
            refine take_ (i := 1) (N := some 40) (v := ?_) (a' := ?_) #[true, true, true, false, false, false, false, false] rfl rfl (by kernel_rfl) (fun _ _ _ h => h) (Or.inl ⟨by rfl, ?_⟩) hHeld ?_ ?_
            rotate_left
            · intro w' s0
              go_simp
              with_reducible rfl
            rotate_left
            · simp only [Act.put, List.setIfInBounds_toArray, List.set_cons_zero, List.set_cons_succ]
              rfl
            refine one_ (i := 3) (N := some 42) #[true, true, true, true, false, false, false, false] rfl rfl (by kernel_rfl) (by decide) (fun K hK => ?_)
            refine goes_ Try.func35 (by kernel_rfl) rfl #[.slice Av (ints y).length cv] (by rfl) rfl rfl (by simp only [List.map_toArray, List.map_cons, List.map_nil]; rfl) ?_
            with_reducible refine (cloneI (.slice Av (ints y).length cv) _ x1 hvr (by rw [ints_len]; exact hxb)).mono ?_
            rintro e wA ⟨ux, rfl, hRx, hSA⟩
            refine ⟨_, rfl, ?_⟩
            obtain ⟨Ax, cx, rfl, -⟩ := hRx.slice
            have hQA := HQ1.out.below hSA
            refine hK.out _ _ ((cells5 hQA.blk).2.2.2.1) (fun hHeld => ?_)
            clear hK K
            refine norm_ (a' := ?_) ?_ ?_
            rotate_left
            · show Act.put _ (some 42) _ = _
              simp only [Act.put, List.setIfInBounds_toArray, List.set_cons_zero, List.set_cons_succ]
              rfl
            refine one_ (i := 4) (N := some 43) #[true, true, true, true, true, false, false, false] rfl rfl (by kernel_rfl) (by decide) (fun K hK => ?_)
            refine value_ (w1 := ?_) (v := ?_) (by rfl) rfl ?_ ?_
            rotate_left 2
            · go_simp
              constructor
              · rfl
              · rfl
            have hSB : Below wA.heap.size wA (wA.alloc (.cells #[.slice Ax (ints y).length cx] 26)) := below_al (Below.refl _ _) _
            have hbox : (wA.alloc (.cells #[.slice Ax (ints y).length cx] 26)).heap[wA.heap.size]? = some (.cells #[.slice Ax (ints y).length cx] 26 (0, 0)) := blk_new _ _
            generalize wA.alloc (.cells #[.slice Ax (ints y).length cx] 26) = wB at *
            have hQB := hQA.below hSB
            have hBB : Below x1.heap.size x1 wB := below_then hSA hSB
            have hsB := hBB.size
            obtain ⟨v5, w5, hr5, hrow5, hg5⟩ := row_append (P := Try.prog) (t := 28) Try.underlying28 infoSl rfl (by omega) hQB.r.c (some ⟨wA.heap.size, 0, none⟩) 1 1 [.slice Ax (ints y).length cx] rfl (fun _ => ⟨_, rfl, fun j u hj => by match j, hj with | 0, hj => (obtain rfl : Value.slice Ax (ints y).length cx = u := by simpa using hj); rw [adds]; exact cell_blk hbox 0⟩) (fun u hu => by rw [List.mem_singleton.1 hu]; rfl) hcb (by omega)
            refine hK.out _ _ ((cells5 hQB.blk).2.2.2.1) (fun hHeld => ?_)
            clear hK K
            refine norm_ (a' := ?_) ?_ ?_
            rotate_left
            · show Act.put _ (some 43) _ = _
              simp only [Act.put, List.setIfInBounds_toArray, List.set_cons_zero, List.set_cons_succ]
              rfl
            refine last_ (i := 5) (N := some 44) #[true, true, true, true, true, true, false, false] rfl rfl (by kernel_rfl) (by decide) (fun K hK => ?_)
            refine app_ (.tmp 40) (.tmp 43) 28 (by rfl) rfl rfl rfl rfl hr5 ?_
            have hK5 := grown_keep hg5 hQB.r.c.own
            obtain ⟨A5, c5, he5, -⟩ := hrow5.slice
            rw [List.length_append, List.length_singleton] at he5
            subst he5
            have hO5 := blk_keep hQB.blk hK5 (by have := hQB.one; show ¬ _ = 4; omega)
            obtain ⟨f0, f1, f2, f3, f4⟩ := cells5 hO5
            obtain ⟨g0, g1, g2, g3, g4⟩ := froz5 hO5
            have hBl5 := lt_blk hO5
            refine hK.out _ _ ?_
            clear hK K
            refine norm_ (a' := ?_) ?_ ?_
            rotate_left
            · show Act.put _ (some 44) _ = _
              simp only [Act.put, List.setIfInBounds_toArray, List.set_cons_zero, List.set_cons_succ]
              rfl
            refine pure_ (i := 6) (N := some 45) (v := ?_) (a' := ?_) #[true, true, true, true, true, true, true, false] rfl rfl (by kernel_rfl) (fun _ _ _ h => h) (Or.inl ⟨by rfl, ?_⟩) ?_ ?_
            rotate_left
            · intro w'
              go_simp
              with_reducible rfl
            rotate_left
            · simp only [Act.put, List.setIfInBounds_toArray, List.set_cons_zero, List.set_cons_succ]
              rfl
            refine last_ (i := 7) (N := none) #[true, true, true, true, true, true, true, true] rfl rfl (by kernel_rfl) (by decide) (fun K hK => ?_)
            refine skip_ (w1 := ?_) (by rfl) rfl ?_ ?_
            rotate_left
            · go_simp
              first | with_reducible rfl | rfl
            refine hK.out _ _ ?_
            clear hK K
            refine done_ (by kernel_rfl) ?_
            obtain ⟨col2, hQ2, hN2⟩ := hQ0.push (by omega) hBB (hRx.below hSB) hK5 hrow5
            have hN3 : Keep (fun k => col' k ≠ 0) wr (w5.setCell ⟨B, 3, none⟩ (.slice A5 (vs'.length + 1) c5)) := (Keep.of_below hx1).trans hN2.keep
            have HP2 := Aside0.mk (HP1.out.keep hN2.keep (fun i hi => HPz.out i (hQ0.r.b i hi)))
            have HB2 := Aside0.mk (below_then_keep HB.out (by have := HB.out.size; omega) hN3 (fun i hi => hQ0.r.b i hi))
            have HQ2 := Aside0.mk hQ2
            have hc2 : ∀ k, k < W.heap.size → col2 k = 0 := fun k hk => (hN2.cols k (by omega)).trans (HC.out k hk)
            have HC2 := Aside0.mk hc2
            go_wp2
            go_roundw
            case rel => exact ⟨k + 1, by omega, by go_num, ⟨⟨_, vs' ++ [Value.slice Ax (ints y).length cx], col2, HB2.out, HP2.out, by rw [HT.out]; exact HQ2.out, HC2.out⟩⟩⟩
            case measure => simp [intOf]; omega
          · obtain rfl : k = vs.length := by omega
            obtain ⟨q0, q1, q2, q3, q4⟩ := cells5 HQ.out.blk
            have hR := blk_below hRes.out HB.out
            obtain ⟨r0, r1, r2, r3, r4⟩ := cells5 hR
            obtain ⟨p0, p1, p2, p3, p4⟩ := froz5 hR
            have hRl := lt_blk hR
            have hQl := lt_blk HQ.out.blk
            have hne : B ≠ w.heap.size := by omega
            have HR := Aside0.mk hR
            clear hR
            go_wp2
            have hk6 : Keep (fun i => i = w.heap.size) wr (((((wr.setCell ⟨w.heap.size, 0, none⟩ (.int .i64 s.limit)).setCell ⟨w.heap.size, 1, none⟩ (.slice AG (ints s.gens).length cG)).setCell ⟨w.heap.size, 2, none⟩ (.slice AA (bools s.alive).length cA)).setCell ⟨w.heap.size, 3, none⟩ (.slice AC' vs'.length cC')).setCell ⟨w.heap.size, 4, none⟩ (.slice AF (ints s.free).length cF)) := set5_keep _ _ _ _ _ _ _
            have h5 := blk_set5 (u0 := .int .i64 s.limit) (u1 := .slice AG (ints s.gens).length cG) (u2 := .slice AA (bools s.alive).length cA) (u3 := .slice AC' vs'.length cC') (u4 := .slice AF (ints s.free).length cF) HR.out
            obtain ⟨z0, z1, z2, z3, z4⟩ := cells5 h5
            have hQ := HQ.out
            have hle : s.caches.take vs.length = s.caches := by rw [HPr.out.r.l, List.take_length]
            rw [hle] at hQ
            have hcz : col' w.heap.size = 0 := HC.out _ (by omega)
            refine bodyPost_ret (v := .agg #[.int .i64 s.limit, .slice AG (ints s.gens).length cG, .slice AA (bools s.alive).length cA, .slice AC' vs'.length cC', .slice AF (ints s.free).length cF]) (by simp [results, Try.results19, go_sem, z0, z1, z2, z3, z4]) rfl ⟨_, _, _, _, vs', col', rfl, (hQ.r.keep hk6 (fun i hi => by subst hi; rw [hcz]; omega)).lower hW.out.size, fun i hi => HC.out i (by omega), (by repeat (first | (with_reducible exact hW.out.trans (HB.out.mono hW.out.size)) | (with_reducible refine Below.drew ?_) | (with_reducible refine below_drewN ?_ _) | (with_reducible refine below_al ?_ _) | (with_reducible refine Below.alloc ?_ (by first | exact Nat.le_refl _ | omega | (simp; done) | (simp; omega)) _) | (with_reducible refine Below.setCell ?_ (by first | (simp only []; omega) | (simp; done) | (simp; omega)) _)))⟩
      · skip
        refine value_ (w1 := ?_) (v := ?_) (by rfl) rfl ?_ ?_
        rotate_left 2
        · go_simp
          constructor
          · rfl
          · rfl
        have hS3 : Below w2.heap.size w2 (w2.alloc (.cells #[.int .i64 0, .slice none 0 0, .slice none 0 0, .slice none 0 0, .slice none 0 0] 30)) := below_al (Below.refl _ _) _
        have hRO : (w2.alloc (.cells #[.int .i64 0, .slice none 0 0, .slice none 0 0, .slice none 0 0, .slice none 0 0] 30)).heap[w2.heap.size]? = some (.cells #[.int .i64 0, .slice none 0 0, .slice none 0 0, .slice none 0 0, .slice none 0 0] 30 (0, 0)) := blk_new _ _
        generalize w2.alloc (.cells #[.int .i64 0, .slice none 0 0, .slice none 0 0, .slice none 0 0, .slice none 0 0] 30) = w3 at *
        obtain ⟨B, hBB⟩ : ∃ B, B = w2.heap.size := ⟨_, rfl⟩
        have hgB : w2.heap.size ≤ B := by omega
        rw [← hBB] at hRO ⊢
        have hB3 : Below x0.heap.size x0 w3 := below_then hB2 hS3
        have hBlk3 := blk_below HP0.out.blk hB3
        clear hBB
        refine hK.out _ _ ⟨cell_blk hBlk3 0, cell_blk hBlk3 1, cell_blk hBlk3 2, cell_blk hBlk3 4⟩ (fun hHeld => ?_)
        clear hK K
        refine norm_ (a' := ?_) ?_ ?_
        rotate_left
        · show Act.put _ (some 3) _ = _
          simp only [Act.put, List.setIfInBounds_toArray, List.set_cons_zero, List.set_cons_succ]
          rfl
        refine one_ (i := 18) (N := some 28) #[true, true, true, true, true, true, true, true, true, true, true, true, true, true, true, true, true, true, true, false, true, false] rfl rfl (by kernel_rfl) (by decide) (fun K hK => ?_)
        refine goes_ Try.func35 (by kernel_rfl) rfl #[vF] (by rfl) rfl rfl (by simp only [List.map_toArray, List.map_cons, List.map_nil]; rfl) ?_
        with_reducible refine (cloneI vF _ w3 (HP0.out.r.f.reads.below hB3) (by rw [ints_len]; exact hBd.f)).mono ?_
        rintro e w4 ⟨uF, rfl, hRF, hS4⟩
        refine ⟨_, rfl, ?_⟩
        obtain ⟨AF, cF, rfl, -⟩ := hRF.slice
        have hB4 : Below x0.heap.size x0 w4 := below_then hB3 hS4
        have hBlk4 := blk_below HP0.out.blk hB4
        refine hK.out _ _ ⟨cell_blk hBlk4 0, cell_blk hBlk4 1, cell_blk hBlk4 2, cell_blk hBlk4 4⟩ (fun hHeld => ?_)
        clear hK K
        refine norm_ (a' := ?_) ?_ ?_
        rotate_left
        · show Act.put _ (some 28) _ = _
          simp only [Act.put, List.setIfInBounds_toArray, List.set_cons_zero, List.set_cons_succ]
          rfl
        refine pure_ (i := 19) (N := some 29) (v := ?_) (a' := ?_) #[true, true, true, true, true, true, true, true, true, true, true, true, true, true, true, true, true, true, true, true, true, false] rfl rfl (by kernel_rfl) (fun _ _ _ h => h) (Or.inl ⟨by rfl, ?_⟩) ?_ ?_
        rotate_left
        · intro w'
          go_simp
          with_reducible rfl
        rotate_left
        · simp only [Act.put, List.setIfInBounds_toArray, List.set_cons_zero, List.set_cons_succ]
          rfl
        refine last_ (i := 21) (N := none) #[true, true, true, true, true, true, true, true, true, true, true, true, true, true, true, true, true, true, true, true, true, true] rfl rfl (by kernel_rfl) (by decide) (fun K hK => ?_)
        have hz2 := hS2.size
        have hz3 := hS3.size
        have hz4 := hS4.size
        have hz1 := hS1.size
        have hrG : Row w4 W.heap.size (fun _ => True) _ (.slice AG _ cG) _ := (hRG.below (below_then (below_then hS2 hS3) hS4)).lower (by omega)
        have hrA : Row w4 W.heap.size (fun _ => True) _ (.slice AA _ cA) _ := (hRA.below (below_then hS3 hS4)).lower (by omega)
        have hrF : Row w4 W.heap.size (fun _ => True) _ (.slice AF _ cF) _ := hRF.lower (by omega)
        have hne : ∀ k, (Value.slice AG (ints s.gens).length cG).ownBlock = some k → (Value.slice AF (ints s.free).length cF).ownBlock = some k → False := fun k h1 h2 => by have := hRG.lt k h1; have := hRF.base_le k h2; omega
        have hO4 := blk_below hRO hS4
        have hB4' := Aside0.mk (below_then hW.out (below_then hWx.out hB4))
        obtain ⟨f0, f1, f2, f3, f4⟩ : w4.cell? ⟨B, 0, none⟩ = some (.int .i64 0) ∧ w4.cell? ⟨B, 1, none⟩ = some (.slice none 0 0) ∧ w4.cell? ⟨B, 2, none⟩ = some (.slice none 0 0) ∧ w4.cell? ⟨B, 3, none⟩ = some (.slice none 0 0) ∧ w4.cell? ⟨B, 4, none⟩ = some (.slice none 0 0) := ⟨cell_blk hO4 0, cell_blk hO4 1, cell_blk hO4 2, cell_blk hO4 3, cell_blk hO4 4⟩
        have f5 := frozen_blk hO4 0; have f6 := frozen_blk hO4 1; have f7 := frozen_blk hO4 2; have f8 := frozen_blk hO4 3; have f9 := frozen_blk hO4 4
        have hBl := lt_blk hO4
        refine skip_ (w1 := ?_) (by rfl) rfl ?_ ?_
        rotate_left
        · go_simp
          first | with_reducible rfl | rfl
        refine hK.out _ _ ?_
        clear hK K
        refine done_ (by kernel_rfl) ?_
        have hT5 : ((((((w4.setCell ⟨B, 0, none⟩ (.int .i64 s.limit)).setCell ⟨B, 1, none⟩ (.slice AG (ints s.gens).length cG)).setCell ⟨B, 2, none⟩ (.slice AA (bools s.alive).length cA)).setCell ⟨B, 3, none⟩ (.slice none 0 0)).setCell ⟨B, 4, none⟩ (.slice AF (ints s.free).length cF))).heap[B]? = some (.cells #[.int .i64 s.limit, .slice AG (ints s.gens).length cG, .slice AA (bools s.alive).length cA, .slice none 0 0, .slice AF (ints s.free).length cF] TT (0, 0)) := blk_set5 hO4
        have hK5 : Keep (fun k => k = B) w4 ((((((w4.setCell ⟨B, 0, none⟩ (.int .i64 s.limit)).setCell ⟨B, 1, none⟩ (.slice AG (ints s.gens).length cG)).setCell ⟨B, 2, none⟩ (.slice AA (bools s.alive).length cA)).setCell ⟨B, 3, none⟩ (.slice none 0 0)).setCell ⟨B, 4, none⟩ (.slice AF (ints s.free).length cF))) := set5_keep _ _ _ _ _ _ _
        generalize (((((w4.setCell ⟨B, 0, none⟩ (.int .i64 s.limit)).setCell ⟨B, 1, none⟩ (.slice AG (ints s.gens).length cG)).setCell ⟨B, 2, none⟩ (.slice AA (bools s.alive).length cA)).setCell ⟨B, 3, none⟩ (.slice none 0 0)).setCell ⟨B, 4, none⟩ (.slice AF (ints s.free).length cF)) = W5 at *
        have HP5 := Aside0.mk ((HP0.out.below hB4).keep hK5 (fun k hk => by subst hk; exact HP0.out.r.z _ (by omega)))
        have hBW : W.heap.size ≤ B := by omega
        have HB5 := Aside0.mk (below_then_keep (below_then hWx.out hB4) (by have := hB4.size; omega) hK5 (fun i hi => by omega))
        obtain ⟨col1, hQ5, hcol1⟩ := slab_begun (by decide) (row_keepT hrG hO4 (by decide) hK5) (row_keepT hrA hO4 (by decide) hK5) (row_keepT hrF hO4 (by decide) hK5) hne hT5 hBW
        have HQ5 := Aside0.mk hQ5
        have HC5 := Aside0.mk hcol1
        have HPz : Aside0 (∀ k, W.heap.size ≤ k → col k = 0) := ⟨fun k hk => HP.out.r.z k hk⟩
        clear hQ5 hcol1 hrG hrA hrF hne hO4 hT5 hK5 hRG hRA hRF hB4 hB4' HP0 hHeld
        clear hS1 hS2 hS3 hS4 hB1 hB2 hB3 hBlk1 hBlk2 hBlk3 hBlk4
        clear f0 f1 f2 f3 f4 f5 f6 f7 f8 f9 hBl hRO hgB
        clear hz1 hz2 hz3 hz4 hxs
        obtain ⟨-, -, -, d3, -⟩ := cells5 HP5.out.blk
        have hbl5 := lt_blk HP5.out.blk
        go_wp2
        clear d3 hbl5
        go_loopw [35] (fun i wr => ∃ (k : Nat), k ≤ vs.length ∧ i = .int .i64 k ∧ Aside0 (StI W base b col s vG vA (.slice AC vs.length cC) vF vs B (.slice AG (ints s.gens).length cG) (.slice AA (bools s.alive).length cA) (.slice AF (ints s.free).length cF) k wr)) (fun i _ => vs.length - (intOf i).toNat)
        case atStart => exact ⟨0, by omega, rfl, ⟨_, [], col1, HB5.out, HP5.out, HQ5.out, HC5.out⟩⟩
        case round =>
          clear HP5 HB5 HQ5 HC5
          obtain ⟨k, hk, rfl, ⟨vC', vs', col', hB, hPr, hQ, hC⟩⟩ := hrel
          obtain ⟨AC', cC', rfl, -⟩ := hQ.r.c.slice
          have HB := Aside0.mk hB
          have HPr := Aside0.mk hPr
          have HQ := Aside0.mk hQ
          have HC := Aside0.mk hC
          clear hB hPr hQ hC
          have hws := HB.out.size
          by_cases hlt : k < vs.length
          · obtain ⟨gC, oC, cC2, he, hgC, -, hat⟩ := HPr.out.r.c.form (by omega)
            injection he with he1 he2 he3
            subst he1; subst he3
            have hkc : k < s.caches.length := by rw [← HPr.out.r.l]; exact hlt
            obtain ⟨y, hy⟩ : ∃ y, s.caches[k]? = some y := ⟨_, List.getElem?_eq_getElem hkc⟩
            obtain ⟨v, hv, hvrow⟩ := HPr.out.r.v k y hy
            have hcell := (hat k).1 _ hv
            have hxb : y.length * 8 ≤ 140737488355328 := hBd.e y (List.mem_of_getElem? hy)
            have HT := Aside0.mk (take_snocI hy)
            have HVR := Aside0.mk hvrow.reads
            obtain ⟨Av, cv, rfl, -⟩ := hvrow.slice
            have hcb : (vs'.length + 1) * 24 ≤ 140737488355328 := by
              have h1 := HQ.out.r.l
              have h2 : (s.caches.take k).length = k := by rw [List.length_take]; omega
              have h3 := hBd.c
              simp only at h1
              rw [h1, h2]
              omega
            clear hat hv hy hvrow
            go_wp2_with fail
            have hx1 : Below wr.heap.size wr wr.drew := (Below.refl _ _).drew
            have HP1 := Aside0.mk (HPr.out.below hx1)
            have HQ1 := Aside0.mk (HQ.out.below hx1)
            have hvr := HVR.out.below hx1
            have hQ0 := HQ1.out
            have hxs1 := hx1.size
            refine start_ (n := 8) (S := fun w' => w'.cell? ⟨B, 3, none⟩ = some (.slice AC' vs'.length cC')) (ds := [5, 7]) #[false, false, false, false, false, false, false, false] (by kernel_rfl) rfl rfl ((cells5 HQ1.out.blk).2.2.2.1) (fun hHeld => ?_)
            generalize wr.drew = x1 at *
            refine pure_ (i := 0) (N := some 39) (v := ?_) (a' := ?_) #[true, false, false, false, false, false, false, false] rfl rfl (by kernel_rfl) (fun _ _ _ h => h) (Or.inl ⟨by rfl, ?_⟩) ?_ ?_
            rotate_left
            · intro w'
              go_simp
              with_reducible rfl
            rotate_left
            · simp only [Act.put, List.setIfInBounds_toArray, List.set_cons_zero, List.set_cons_succ]
              rfl
            refine pure_ (i := 2) (N := some 41) (v := ?_) (a' := ?_) #[true, false, true, false, false, false, false, false] rfl rfl (by kernel_rfl) (fun _ _ _ h => h) (Or.inl ⟨by rfl, ?_⟩) ?_ ?_
            rotate_left
            · intro w'
              go_simp
              with_reducible rfl
            rotate_left
            · simp only [Act.put, List.setIfInBounds_toArray, List.set_cons_zero, List.set_cons_succ]
              rfl
            refine take_ (i := 1) (N := some 40) (v := ?_) (a' := ?_) #[true, true, true, false, false, false, false, false] rfl rfl (by kernel_rfl) (fun _ _ _ h => h) (Or.inl ⟨by rfl, ?_⟩) hHeld ?_ ?_
            rotate_left
            · intro w' s0
              go_simp
              with_reducible rfl
            rotate_left
            · simp only [Act.put, List.setIfInBounds_toArray, List.set_cons_zero, List.set_cons_succ]
              rfl
            refine one_ (i := 3) (N := some 42) #[true, true, true, true, false, false, false, false] rfl rfl (by kernel_rfl) (by decide) (fun K hK => ?_)
            refine goes_ Try.func35 (by kernel_rfl) rfl #[.slice Av (ints y).length cv] (by rfl) rfl rfl (by simp only [List.map_toArray, List.map_cons, List.map_nil]; rfl) ?_
            with_reducible refine (cloneI (.slice Av (ints y).length cv) _ x1 hvr (by rw [ints_len]; exact hxb)).mono ?_
            rintro e wA ⟨ux, rfl, hRx, hSA⟩
            refine ⟨_, rfl, ?_⟩
            obtain ⟨Ax, cx, rfl, -⟩ := hRx.slice
            have hQA := HQ1.out.below hSA
            refine hK.out _ _ ((cells5 hQA.blk).2.2.2.1) (fun hHeld => ?_)
            clear hK K
            refine norm_ (a' := ?_) ?_ ?_
            rotate_left
            · show Act.put _ (some 42) _ = _
              simp only [Act.put, List.setIfInBounds_toArray, List.set_cons_zero, List.set_cons_succ]
              rfl
            refine one_ (i := 4) (N := some 43) #[true, true, true, true, true, false, false, false] rfl rfl (by kernel_rfl) (by decide) (fun K hK => ?_)
            refine value_ (w1 := ?_) (v := ?_) (by rfl) rfl ?_ ?_
            rotate_left 2
            · go_simp
              constructor
              · rfl
              · rfl
            have hSB : Below wA.heap.size wA (wA.alloc (.cells #[.slice Ax (ints y).length cx] 26)) := below_al (Below.refl _ _) _
            have hbox : (wA.alloc (.cells #[.slice Ax (ints y).length cx] 26)).heap[wA.heap.size]? = some (.cells #[.slice Ax (ints y).length cx] 26 (0, 0)) := blk_new _ _
            generalize wA.alloc (.cells #[.slice Ax (ints y).length cx] 26) = wB at *
            have hQB := hQA.below hSB
            have hBB : Below x1.heap.size x1 wB := below_then hSA hSB
            have hsB := hBB.size
            obtain ⟨v5, w5, hr5, hrow5, hg5⟩ := row_append (P := Try.prog) (t := 28) Try.underlying28 infoSl rfl (by omega) hQB.r.c (some ⟨wA.heap.size, 0, none⟩) 1 1 [.slice Ax (ints y).length cx] rfl (fun _ => ⟨_, rfl, fun j u hj => by match j, hj with | 0, hj => (obtain rfl : Value.slice Ax (ints y).length cx = u := by simpa using hj); rw [adds]; exact cell_blk hbox 0⟩) (fun u hu => by rw [List.mem_singleton.1 hu]; rfl) hcb (by omega)
            refine hK.out _ _ ((cells5 hQB.blk).2.2.2.1) (fun hHeld => ?_)
            clear hK K
            refine norm_ (a' := ?_) ?_ ?_
            rotate_left
            · show Act.put _ (some 43) _ = _
              simp only [Act.put, List.setIfInBounds_toArray, List.set_cons_zero, List.set_cons_succ]
              rfl
            refine last_ (i := 5) (N := some 44) #[true, true, true, true, true, true, false, false] rfl rfl (by kernel_rfl) (by decide) (fun K hK => ?_)
            refine app_ (.tmp 40) (.tmp 43) 28 (by rfl) rfl rfl rfl rfl hr5 ?_
            have hK5 := grown_keep hg5 hQB.r.c.own
            obtain ⟨A5, c5, he5, -⟩ := hrow5.slice
            rw [List.length_append, List.length_singleton] at he5
            subst he5
            have hO5 := blk_keep hQB.blk hK5 (by have := hQB.one; show ¬ _ = 4; omega)
            obtain ⟨f0, f1, f2, f3, f4⟩ := cells5 hO5
            obtain ⟨g0, g1, g2, g3, g4⟩ := froz5 hO5
            have hBl5 := lt_blk hO5
            refine hK.out _ _ ?_
            clear hK K
            refine norm_ (a' := ?_) ?_ ?_
            rotate_left
            · show Act.put _ (some 44) _ = _
              simp only [Act.put, List.setIfInBounds_toArray, List.set_cons_zero, List.set_cons_succ]
              rfl
            refine pure_ (i := 6) (N := some 45) (v := ?_) (a' := ?_) #[true, true, true, true, true, true, true, false] rfl rfl (by kernel_rfl) (fun _ _ _ h => h) (Or.inl ⟨by rfl, ?_⟩) ?_ ?_
            rotate_left
            · intro w'
              go_simp
              with_reducible rfl
            rotate_left
            · simp only [Act.put, List.setIfInBounds_toArray, List.set_cons_zero, List.set_cons_succ]
              rfl
            refine last_ (i := 7) (N := none) #[true, true, true, true, true, true, true, true] rfl rfl (by kernel_rfl) (by decide) (fun K hK => ?_)
            refine skip_ (w1 := ?_) (by rfl) rfl ?_ ?_
            rotate_left
            · go_simp
              first | with_reducible rfl | rfl
            refine hK.out _ _ ?_
            clear hK K
            refine done_ (by kernel_rfl) ?_
            obtain ⟨col2, hQ2, hN2⟩ := hQ0.push (by omega) hBB (hRx.below hSB) hK5 hrow5
            have hN3 : Keep (fun k => col' k ≠ 0) wr (w5.setCell ⟨B, 3, none⟩ (.slice A5 (vs'.length + 1) c5)) := (Keep.of_below hx1).trans hN2.keep
            have HP2 := Aside0.mk (HP1.out.keep hN2.keep (fun i hi => HPz.out i (hQ0.r.b i hi)))
            have HB2 := Aside0.mk (below_then_keep HB.out (by have := HB.out.size; omega) hN3 (fun i hi => hQ0.r.b i hi))
            have HQ2 := Aside0.mk hQ2
            have hc2 : ∀ k, k < W.heap.size → col2 k = 0 := fun k hk => (hN2.cols k (by omega)).trans (HC.out k hk)
            have HC2 := Aside0.mk hc2
            go_wp2
            go_roundw
            case rel => exact ⟨k + 1, by omega, by go_num, ⟨⟨_, vs' ++ [Value.slice Ax (ints y).length cx], col2, HB2.out, HP2.out, by rw [HT.out]; exact HQ2.out, HC2.out⟩⟩⟩
            case measure => simp [intOf]; omega
          · obtain rfl : k = vs.length := by omega
            obtain ⟨q0, q1, q2, q3, q4⟩ := cells5 HQ.out.blk
            have hR := blk_below hRes.out HB.out
            obtain ⟨r0, r1, r2, r3, r4⟩ := cells5 hR
            obtain ⟨p0, p1, p2, p3, p4⟩ := froz5 hR
            have hRl := lt_blk hR
            have hQl := lt_blk HQ.out.blk
            have hne : B ≠ w.heap.size := by omega
            have HR := Aside0.mk hR
            clear hR
            go_wp2
            have hk6 : Keep (fun i => i = w.heap.size) wr (((((wr.setCell ⟨w.heap.size, 0, none⟩ (.int .i64 s.limit)).setCell ⟨w.heap.size, 1, none⟩ (.slice AG (ints s.gens).length cG)).setCell ⟨w.heap.size, 2, none⟩ (.slice AA (bools s.alive).length cA)).setCell ⟨w.heap.size, 3, none⟩ (.slice AC' vs'.length cC')).setCell ⟨w.heap.size, 4, none⟩ (.slice AF (ints s.free).length cF)) := set5_keep _ _ _ _ _ _ _
            have h5 := blk_set5 (u0 := .int .i64 s.limit) (u1 := .slice AG (ints s.gens).length cG) (u2 := .slice AA (bools s.alive).length cA) (u3 := .slice AC' vs'.length cC') (u4 := .slice AF (ints s.free).length cF) HR.out
            obtain ⟨z0, z1, z2, z3, z4⟩ := cells5 h5
            have hQ := HQ.out
            have hle : s.caches.take vs.length = s.caches := by rw [HPr.out.r.l, List.take_length]
            rw [hle] at hQ
            have hcz : col' w.heap.size = 0 := HC.out _ (by omega)
            refine bodyPost_ret (v := .agg #[.int .i64 s.limit, .slice AG (ints s.gens).length cG, .slice AA (bools s.alive).length cA, .slice AC' vs'.length cC', .slice AF (ints s.free).length cF]) (by simp [results, Try.results19, go_sem, z0, z1, z2, z3, z4]) rfl ⟨_, _, _, _, vs', col', rfl, (hQ.r.keep hk6 (fun i hi => by subst hi; rw [hcz]; omega)).lower hW.out.size, fun i hi => HC.out i (by omega), (by repeat (first | (with_reducible exact hW.out.trans (HB.out.mono hW.out.size)) | (with_reducible refine Below.drew ?_) | (with_reducible refine below_drewN ?_ _) | (with_reducible refine below_al ?_ _) | (with_reducible refine Below.alloc ?_ (by first | exact Nat.le_refl _ | omega | (simp; done) | (simp; omega)) _) | (with_reducible refine Below.setCell ?_ (by first | (simp only []; omega) | (simp; done) | (simp; omega)) _)))⟩
    · skip
      refine value_ (w1 := ?_) (v := ?_) (by rfl) rfl ?_ ?_
      rotate_left 2
      · go_simp
        constructor
        · rfl
        · rfl
      have hS2 : Below w1.heap.size w1 (w1.alloc (.cells #[.int .i64 0, .slice none 0 0, .slice none 0 0, .slice none 0 0, .slice none 0 0] 30)) := below_al (Below.refl _ _) _
      have hRO : (w1.alloc (.cells #[.int .i64 0, .slice none 0 0, .slice none 0 0, .slice none 0 0, .slice none 0 0] 30)).heap[w1.heap.size]? = some (.cells #[.int .i64 0, .slice none 0 0, .slice none 0 0, .slice none 0 0, .slice none 0 0] 30 (0, 0)) := blk_new _ _
      generalize w1.alloc (.cells #[.int .i64 0, .slice none 0 0, .slice none 0 0, .slice none 0 0, .slice none 0 0] 30) = w2 at *
      obtain ⟨B, hBB⟩ : ∃ B, B = w1.heap.size := ⟨_, rfl⟩
      have hgB : w1.heap.size ≤ B := by omega
      rw [← hBB] at hRO ⊢
      have hB2 : Below x0.heap.size x0 w2 := below_then hB1 hS2
      have hBlk2 := blk_below HP0.out.blk hB2
      clear hBB
      refine hK.out _ _ ⟨cell_blk hBlk2 0, cell_blk hBlk2 1, cell_blk hBlk2 2, cell_blk hBlk2 4⟩ (fun hHeld => ?_)
      clear hK K
      refine norm_ (a' := ?_) ?_ ?_
      rotate_left
      · show Act.put _ (some 3) _ = _
        simp only [Act.put, List.setIfInBounds_toArray, List.set_cons_zero, List.set_cons_succ]
        rfl
      refine one_ (i := 13) (N := some 23) #[true, true, true, true, true, true, true, true, true, true, true, true, true, true, true, true, true, true, false, false, true, false] rfl rfl (by kernel_rfl) (by decide) (fun K hK => ?_)
      refine goes_ Try.func36 (by kernel_rfl) rfl #[vA] (by rfl) rfl rfl (by simp only [List.map_toArray, List.map_cons, List.map_nil]; rfl) ?_
      with_reducible refine (cloneB vA _ w2 (HP0.out.r.a.reads.below hB2) (by rw [bools_len]; exact hBd.a)).mono ?_
      rintro e w3 ⟨uA, rfl, hRA, hS3⟩
      refine ⟨_, rfl, ?_⟩
      obtain ⟨AA, cA, rfl, -⟩ := hRA.slice
      have hB3 : Below x0.heap.size x0 w3 := below_then hB2 hS3
      have hBlk3 := blk_below HP0.out.blk hB3
      refine hK.out _ _ ⟨cell_blk hBlk3 0, cell_blk hBlk3 1, cell_blk hBlk3 2, cell_blk hBlk3 4⟩ (fun hHeld => ?_)
      clear hK K
      refine norm_ (a' := ?_) ?_ ?_
      rotate_left
      · show Act.put _ (some 23) _ = _
        simp only [Act.put, List.setIfInBounds_toArray, List.set_cons_zero, List.set_cons_succ]
        rfl
      refine one_ (i := 18) (N := some 28) #[true, true, true, true, true, true, true, true, true, true, true, true, true, true, true, true, true, true, true, false, true, false] rfl rfl (by kernel_rfl) (by decide) (fun K hK => ?_)
      refine goes_ Try.func35 (by kernel_rfl) rfl #[vF] (by rfl) rfl rfl (by simp only [List.map_toArray, List.map_cons, List.map_nil]; rfl) ?_
      with_reducible refine (cloneI vF _ w3 (HP0.out.r.f.reads.below hB3) (by rw [ints_len]; exact hBd.f)).mono ?_
      rintro e w4 ⟨uF, rfl, hRF, hS4⟩
      refine ⟨_, rfl, ?_⟩
      obtain ⟨AF, cF, rfl, -⟩ := hRF.slice
      have hB4 : Below x0.heap.size x0 w4 := below_then hB3 hS4
      have hBlk4 := blk_below HP0.out.blk hB4
      refine hK.out _ _ ⟨cell_blk hBlk4 0, cell_blk hBlk4 1, cell_blk hBlk4 2, cell_blk hBlk4 4⟩ (fun hHeld => ?_)
      clear hK K
      refine norm_ (a' := ?_) ?_ ?_
      rotate_left
      · show Act.put _ (some 28) _ = _
        simp only [Act.put, List.setIfInBounds_toArray, List.set_cons_zero, List.set_cons_succ]
        rfl
      refine pure_ (i := 19) (N := some 29) (v := ?_) (a' := ?_) #[true, true, true, true, true, true, true, true, true, true, true, true, true, true, true, true, true, true, true, true, true, false] rfl rfl (by kernel_rfl) (fun _ _ _ h => h) (Or.inl ⟨by rfl, ?_⟩) ?_ ?_
      rotate_left
      · intro w'
        go_simp
        with_reducible rfl
      rotate_left
      · simp only [Act.put, List.setIfInBounds_toArray, List.set_cons_zero, List.set_cons_succ]
        rfl
      refine last_ (i := 21) (N := none) #[true, true, true, true, true, true, true, true, true, true, true, true, true, true, true, true, true, true, true, true, true, true] rfl rfl (by kernel_rfl) (by decide) (fun K hK => ?_)
      have hz2 := hS2.size
      have hz3 := hS3.size
      have hz4 := hS4.size
      have hz1 := hS1.size
      have hrG : Row w4 W.heap.size (fun _ => True) _ (.slice AG _ cG) _ := (hRG.below (below_then (below_then hS2 hS3) hS4)).lower (by omega)
      have hrA : Row w4 W.heap.size (fun _ => True) _ (.slice AA _ cA) _ := (hRA.below hS4).lower (by omega)
      have hrF : Row w4 W.heap.size (fun _ => True) _ (.slice AF _ cF) _ := hRF.lower (by omega)
      have hne : ∀ k, (Value.slice AG (ints s.gens).length cG).ownBlock = some k → (Value.slice AF (ints s.free).length cF).ownBlock = some k → False := fun k h1 h2 => by have := hRG.lt k h1; have := hRF.base_le k h2; omega
      have hO4 := blk_below hRO (below_then hS3 hS4)
      have hB4' := Aside0.mk (below_then hW.out (below_then hWx.out hB4))
      obtain ⟨f0, f1, f2, f3, f4⟩ : w4.cell? ⟨B, 0, none⟩ = some (.int .i64 0) ∧ w4.cell? ⟨B, 1, none⟩ = some (.slice none 0 0) ∧ w4.cell? ⟨B, 2, none⟩ = some (.slice none 0 0) ∧ w4.cell? ⟨B, 3, none⟩ = some (.slice none 0 0) ∧ w4.cell? ⟨B, 4, none⟩ = some (.slice none 0 0) := ⟨cell_blk hO4 0, cell_blk hO4 1, cell_blk hO4 2, cell_blk hO4 3, cell_blk hO4 4⟩
      have f5 := frozen_blk hO4 0; have f6 := frozen_blk hO4 1; have f7 := frozen_blk hO4 2; have f8 := frozen_blk hO4 3; have f9 := frozen_blk hO4 4
      have hBl := lt_blk hO4
      refine skip_ (w1 := ?_) (by rfl) rfl ?_ ?_
      rotate_left
      · go_simp
        first | with_reducible rfl | rfl
      refine hK.out _ _ ?_
      clear hK K
      refine done_ (by kernel_rfl) ?_
      have hT5 : ((((((w4.setCell ⟨B, 0, none⟩ (.int .i64 s.limit)).setCell ⟨B, 1, none⟩ (.slice AG (ints s.gens).length cG)).setCell ⟨B, 2, none⟩ (.slice AA (bools s.alive).length cA)).setCell ⟨B, 3, none⟩ (.slice none 0 0)).setCell ⟨B, 4, none⟩ (.slice AF (ints s.free).length cF))).heap[B]? = some (.cells #[.int .i64 s.limit, .slice AG (ints s.gens).length cG, .slice AA (bools s.alive).length cA, .slice none 0 0, .slice AF (ints s.free).length cF] TT (0, 0)) := blk_set5 hO4
      have hK5 : Keep (fun k => k = B) w4 ((((((w4.setCell ⟨B, 0, none⟩ (.int .i64 s.limit)).setCell ⟨B, 1, none⟩ (.slice AG (ints s.gens).length cG)).setCell ⟨B, 2, none⟩ (.slice AA (bools s.alive).length cA)).setCell ⟨B, 3, none⟩ (.slice none 0 0)).setCell ⟨B, 4, none⟩ (.slice AF (ints s.free).length cF))) := set5_keep _ _ _ _ _ _ _
      generalize (((((w4.setCell ⟨B, 0, none⟩ (.int .i64 s.limit)).setCell ⟨B, 1, none⟩ (.slice AG (ints s.gens).length cG)).setCell ⟨B, 2, none⟩ (.slice AA (bools s.alive).length cA)).setCell ⟨B, 3, none⟩ (.slice none 0 0)).setCell ⟨B, 4, none⟩ (.slice AF (ints s.free).length cF)) = W5 at *
      have HP5 := Aside0.mk ((HP0.out.below hB4).keep hK5 (fun k hk => by subst hk; exact HP0.out.r.z _ (by omega)))
      have hBW : W.heap.size ≤ B := by omega
      have HB5 := Aside0.mk (below_then_keep (below_then hWx.out hB4) (by have := hB4.size; omega) hK5 (fun i hi => by omega))
      obtain ⟨col1, hQ5, hcol1⟩ := slab_begun (by decide) (row_keepT hrG hO4 (by decide) hK5) (row_keepT hrA hO4 (by decide) hK5) (row_keepT hrF hO4 (by decide) hK5) hne hT5 hBW
      have HQ5 := Aside0.mk hQ5
      have HC5 := Aside0.mk hcol1
      have HPz : Aside0 (∀ k, W.heap.size ≤ k → col k = 0) := ⟨fun k hk => HP.out.r.z k hk⟩
      clear hQ5 hcol1 hrG hrA hrF hne hO4 hT5 hK5 hRG hRA hRF hB4 hB4' HP0 hHeld
      clear hS1 hS2 hS3 hS4 hB1 hB2 hB3 hBlk1 hBlk2 hBlk3 hBlk4
      clear f0 f1 f2 f3 f4 f5 f6 f7 f8 f9 hBl hRO hgB
      clear hz1 hz2 hz3 hz4 hxs
      obtain ⟨-, -, -, d3, -⟩ := cells5 HP5.out.blk
      have hbl5 := lt_blk HP5.out.blk
      go_wp2
      clear d3 hbl5
      go_loopw [35] (fun i wr => ∃ (k : Nat), k ≤ vs.length ∧ i = .int .i64 k ∧ Aside0 (StI W base b col s vG vA (.slice AC vs.length cC) vF vs B (.slice AG (ints s.gens).length cG) (.slice AA (bools s.alive).length cA) (.slice AF (ints s.free).length cF) k wr)) (fun i _ => vs.length - (intOf i).toNat)
      case atStart => exact ⟨0, by omega, rfl, ⟨_, [], col1, HB5.out, HP5.out, HQ5.out, HC5.out⟩⟩
      case round =>
        clear HP5 HB5 HQ5 HC5
        obtain ⟨k, hk, rfl, ⟨vC', vs', col', hB, hPr, hQ, hC⟩⟩ := hrel
        obtain ⟨AC', cC', rfl, -⟩ := hQ.r.c.slice
        have HB := Aside0.mk hB
        have HPr := Aside0.mk hPr
        have HQ := Aside0.mk hQ
        have HC := Aside0.mk hC
        clear hB hPr hQ hC
        have hws := HB.out.size
        by_cases hlt : k < vs.length
        · obtain ⟨gC, oC, cC2, he, hgC, -, hat⟩ := HPr.out.r.c.form (by omega)
          injection he with he1 he2 he3
          subst he1; subst he3
          have hkc : k < s.caches.length := by rw [← HPr.out.r.l]; exact hlt
          obtain ⟨y, hy⟩ : ∃ y, s.caches[k]? = some y := ⟨_, List.getElem?_eq_getElem hkc⟩
          obtain ⟨v, hv, hvrow⟩ := HPr.out.r.v k y hy
          have hcell := (hat k).1 _ hv
          have hxb : y.length * 8 ≤ 140737488355328 := hBd.e y (List.mem_of_getElem? hy)
          have HT := Aside0.mk (take_snocI hy)
          have HVR := Aside0.mk hvrow.reads
          obtain ⟨Av, cv, rfl, -⟩ := hvrow.slice
          have hcb : (vs'.length + 1) * 24 ≤ 140737488355328 := by
            have h1 := HQ.out.r.l
            have h2 : (s.caches.take k).length = k := by rw [List.length_take]; omega
            have h3 := hBd.c
            simp only at h1
            rw [h1, h2]
            omega
          clear hat hv hy hvrow
          go_wp2_with fail
          have hx1 : Below wr.heap.size wr wr.drew := (Below.refl _ _).drew
          have HP1 := Aside0.mk (HPr.out.below hx1)
          have HQ1 := Aside0.mk (HQ.out.below hx1)
          have hvr := HVR.out.below hx1
          have hQ0 := HQ1.out
          have hxs1 := hx1.size
          refine start_ (n := 8) (S := fun w' => w'.cell? ⟨B, 3, none⟩ = some (.slice AC' vs'.length cC')) (ds := [5, 7]) #[false, false, false, false, false, false, false, false] (by kernel_rfl) rfl rfl ((cells5 HQ1.out.blk).2.2.2.1) (fun hHeld => ?_)
          generalize wr.drew = x1 at *
          refine pure_ (i := 0) (N := some 39) (v := ?_) (a' := ?_) #[true, false, false, false, false, false, false, false] rfl rfl (by kernel_rfl) (fun _ _ _ h => h) (Or.inl ⟨by rfl, ?_⟩) ?_ ?_
          rotate_left
          · intro w'
            go_simp
            with_reducible rfl
          rotate_left
          · simp only [Act.put, List.setIfInBounds_toArray, List.set_cons_zero, List.set_cons_succ]
            rfl
          refine pure_ (i := 2) (N := some 41) (v := ?_) (a' := ?_) #[true, false, true, false, false, false, false, false] rfl rfl (by kernel_rfl) (fun _ _ _ h => h) (Or.inl ⟨by rfl, ?_⟩) ?_ ?_
          rotate_left
          · intro w'
            go_simp
            with_reducible rfl
          rotate_left
          · simp only [Act.put, List.setIfInBounds_toArray, List.set_cons_zero, List.set_cons_succ]
            rfl
          refine take_ (i := 1) (N := some 40) (v := ?_) (a' := ?_) #[true, true, true, false, false, false, false, false] rfl rfl (by kernel_rfl) (fun _ _ _ h => h) (Or.inl ⟨by rfl, ?_⟩) hHeld ?_ ?_
          rotate_left
          · intro w' s0
            go_simp
            with_reducible rfl
          rotate_left
          · simp only [Act.put, List.setIfInBounds_toArray, List.set_cons_zero, List.set_cons_succ]
            rfl
          refine one_ (i := 3) (N := some 42) #[true, true, true, true, false, false, false, false] rfl rfl (by kernel_rfl) (by decide) (fun K hK => ?_)
          refine goes_ Try.func35 (by kernel_rfl) rfl #[.slice Av (ints y).length cv] (by rfl) rfl rfl (by simp only [List.map_toArray, List.map_cons, List.map_nil]; rfl) ?_
          with_reducible refine (cloneI (.slice Av (ints y).length cv) _ x1 hvr (by rw [ints_len]; exact hxb)).mono ?_
          rintro e wA ⟨ux, rfl, hRx, hSA⟩
          refine ⟨_, rfl, ?_⟩
          obtain ⟨Ax, cx, rfl, -⟩ := hRx.slice
          have hQA := HQ1.out.below hSA
          refine hK.out _ _ ((cells5 hQA.blk).2.2.2.1) (fun hHeld => ?_)
          clear hK K
          refine norm_ (a' := ?_) ?_ ?_
          rotate_left
          · show Act.put _ (some 42) _ = _
            simp only [Act.put, List.setIfInBounds_toArray, List.set_cons_zero, List.set_cons_succ]
            rfl
          refine one_ (i := 4) (N := some 43) #[true, true, true, true, true, false, false, false] rfl rfl (by kernel_rfl) (by decide) (fun K hK => ?_)
          refine value_ (w1 := ?_) (v := ?_) (by rfl) rfl ?_ ?_
          rotate_left 2
          · go_simp
            constructor
            · rfl
            · rfl
          have hSB : Below wA.heap.size wA (wA.alloc (.cells #[.slice Ax (ints y).length cx] 26)) := below_al (Below.refl _ _) _
          have hbox : (wA.alloc (.cells #[.slice Ax (ints y).length cx] 26)).heap[wA.heap.size]? = some (.cells #[.slice Ax (ints y).length cx] 26 (0, 0)) := blk_new _ _
          generalize wA.alloc (.cells #[.slice Ax (ints y).length cx] 26) = wB at *
          have hQB := hQA.below hSB
          have hBB : Below x1.heap.size x1 wB := below_then hSA hSB
          have hsB := hBB.size
          obtain ⟨v5, w5, hr5, hrow5, hg5⟩ := row_append (P := Try.prog) (t := 28) Try.underlying28 infoSl rfl (by omega) hQB.r.c (some ⟨wA.heap.size, 0, none⟩) 1 1 [.slice Ax (ints y).length cx] rfl (fun _ => ⟨_, rfl, fun j u hj => by match j, hj with | 0, hj => (obtain rfl : Value.slice Ax (ints y).length cx = u := by simpa using hj); rw [adds]; exact cell_blk hbox 0⟩) (fun u hu => by rw [List.mem_singleton.1 hu]; rfl) hcb (by omega)
          refine hK.out _ _ ((cells5 hQB.blk).2.2.2.1) (fun hHeld => ?_)
          clear hK K
          refine norm_ (a' := ?_) ?_ ?_
          rotate_left
          · show Act.put _ (some 43) _ = _
            simp only [Act.put, List.setIfInBounds_toArray, List.set_cons_zero, List.set_cons_succ]
            rfl
          refine last_ (i := 5) (N := some 44) #[true, true, true, true, true, true, false, false] rfl rfl (by kernel_rfl) (by decide) (fun K hK => ?_)
          refine app_ (.tmp 40) (.tmp 43) 28 (by rfl) rfl rfl rfl rfl hr5 ?_
          have hK5 := grown_keep hg5 hQB.r.c.own
          obtain ⟨A5, c5, he5, -⟩ := hrow5.slice
          rw [List.length_append, List.length_singleton] at he5
          subst he5
          have hO5 := blk_keep hQB.blk hK5 (by have := hQB.one; show ¬ _ = 4; omega)
          obtain ⟨f0, f1, f2, f3, f4⟩ := cells5 hO5
          obtain ⟨g0, g1, g2, g3, g4⟩ := froz5 hO5
          have hBl5 := lt_blk hO5
          refine hK.out _ _ ?_
          clear hK K
          refine norm_ (a' := ?_) ?_ ?_
          rotate_left
          · show Act.put _ (some 44) _ = _
            simp only [Act.put, List.setIfInBounds_toArray, List.set_cons_zero, List.set_cons_succ]
            rfl
          refine pure_ (i := 6) (N := some 45) (v := ?_) (a' := ?_) #[true, true, true, true, true, true, true, false] rfl rfl (by kernel_rfl) (fun _ _ _ h => h) (Or.inl ⟨by rfl, ?_⟩) ?_ ?_
          rotate_left
          · intro w'
            go_simp
            with_reducible rfl
          rotate_left
          · simp only [Act.put, List.setIfInBounds_toArray, List.set_cons_zero, List.set_cons_succ]
            rfl
          refine last_ (i := 7) (N := none) #[true, true, true, true, true, true, true, true] rfl rfl (by kernel_rfl) (by decide) (fun K hK => ?_)
          refine skip_ (w1 := ?_) (by rfl) rfl ?_ ?_
          rotate_left
          · go_simp
            first | with_reducible rfl | rfl
          refine hK.out _ _ ?_
          clear hK K
          refine done_ (by kernel_rfl) ?_
          obtain ⟨col2, hQ2, hN2⟩ := hQ0.push (by omega) hBB (hRx.below hSB) hK5 hrow5
          have hN3 : Keep (fun k => col' k ≠ 0) wr (w5.setCell ⟨B, 3, none⟩ (.slice A5 (vs'.length + 1) c5)) := (Keep.of_below hx1).trans hN2.keep
          have HP2 := Aside0.mk (HP1.out.keep hN2.keep (fun i hi => HPz.out i (hQ0.r.b i hi)))
          have HB2 := Aside0.mk (below_then_keep HB.out (by have := HB.out.size; omega) hN3 (fun i hi => hQ0.r.b i hi))
          have HQ2 := Aside0.mk hQ2
          have hc2 : ∀ k, k < W.heap.size → col2 k = 0 := fun k hk => (hN2.cols k (by omega)).trans (HC.out k hk)
          have HC2 := Aside0.mk hc2
          go_wp2
          go_roundw
          case rel => exact ⟨k + 1, by omega, by go_num, ⟨⟨_, vs' ++ [Value.slice Ax (ints y).length cx], col2, HB2.out, HP2.out, by rw [HT.out]; exact HQ2.out, HC2.out⟩⟩⟩
          case measure => simp [intOf]; omega
        · obtain rfl : k = vs.length := by omega
          obtain ⟨q0, q1, q2, q3, q4⟩ := cells5 HQ.out.blk
          have hR := blk_below hRes.out HB.out
          obtain ⟨r0, r1, r2, r3, r4⟩ := cells5 hR
          obtain ⟨p0, p1, p2, p3, p4⟩ := froz5 hR
          have hRl := lt_blk hR
          have hQl := lt_blk HQ.out.blk
          have hne : B ≠ w.heap.size := by omega
          have HR := Aside0.mk hR
          clear hR
          go_wp2
          have hk6 : Keep (fun i => i = w.heap.size) wr (((((wr.setCell ⟨w.heap.size, 0, none⟩ (.int .i64 s.limit)).setCell ⟨w.heap.size, 1, none⟩ (.slice AG (ints s.gens).length cG)).setCell ⟨w.heap.size, 2, none⟩ (.slice AA (bools s.alive).length cA)).setCell ⟨w.heap.size, 3, none⟩ (.slice AC' vs'.length cC')).setCell ⟨w.heap.size, 4, none⟩ (.slice AF (ints s.free).length cF)) := set5_keep _ _ _ _ _ _ _
          have h5 := blk_set5 (u0 := .int .i64 s.limit) (u1 := .slice AG (ints s.gens).length cG) (u2 := .slice AA (bools s.alive).length cA) (u3 := .slice AC' vs'.length cC') (u4 := .slice AF (ints s.free).length cF) HR.out
          obtain ⟨z0, z1, z2, z3, z4⟩ := cells5 h5
          have hQ := HQ.out
          have hle : s.caches.take vs.length = s.caches := by rw [HPr.out.r.l, List.take_length]
          rw [hle] at hQ
          have hcz : col' w.heap.size = 0 := HC.out _ (by omega)
          refine bodyPost_ret (v := .agg #[.int .i64 s.limit, .slice AG (ints s.gens).length cG, .slice AA (bools s.alive).length cA, .slice AC' vs'.length cC', .slice AF (ints s.free).length cF]) (by simp [results, Try.results19, go_sem, z0, z1, z2, z3, z4]) rfl ⟨_, _, _, _, vs', col', rfl, (hQ.r.keep hk6 (fun i hi => by subst hi; rw [hcz]; omega)).lower hW.out.size, fun i hi => HC.out i (by omega), (by repeat (first | (with_reducible exact hW.out.trans (HB.out.mono hW.out.size)) | (with_reducible refine Below.drew ?_) | (with_reducible refine below_drewN ?_ _) | (with_reducible refine below_al ?_ _) | (with_reducible refine Below.alloc ?_ (by first | exact Nat.le_refl _ | omega | (simp; done) | (simp; omega)) _) | (with_reducible refine Below.setCell ?_ (by first | (simp only []; omega) | (simp; done) | (simp; omega)) _)))⟩
  · skip
    refine value_ (w1 := ?_) (v := ?_) (by rfl) rfl ?_ ?_
    rotate_left 2
    · go_simp
      constructor
      · rfl
      · rfl
    have hS1 : Below x0.heap.size x0 (x0.alloc (.cells #[.int .i64 0, .slice none 0 0, .slice none 0 0, .slice none 0 0, .slice none 0 0] 30)) := below_al (Below.refl _ _) _
    have hRO : (x0.alloc (.cells #[.int .i64 0, .slice none 0 0, .slice none 0 0, .slice none 0 0, .slice none 0 0] 30)).heap[x0.heap.size]? = some (.cells #[.int .i64 0, .slice none 0 0, .slice none 0 0, .slice none 0 0, .slice none 0 0] 30 (0, 0)) := blk_new _ _
    generalize x0.alloc (.cells #[.int .i64 0, .slice none 0 0, .slice none 0 0, .slice none 0 0, .slice none 0 0] 30) = w1 at *
    obtain ⟨B, hBB⟩ : ∃ B, B = x0.heap.size := ⟨_, rfl⟩
    have hgB : x0.heap.size ≤ B := by omega
    rw [← hBB] at hRO ⊢
    have hB1 : Below x0.heap.size x0 w1 := hS1
    have hBlk1 := blk_below HP0.out.blk hB1
    clear hBB
    refine hK.out _ _ ⟨cell_blk hBlk1 0, cell_blk hBlk1 1, cell_blk hBlk1 2, cell_blk hBlk1 4⟩ (fun hHeld => ?_)
    clear hK K
    refine norm_ (a' := ?_) ?_ ?_
    rotate_left
    · show Act.put _ (some 3) _ = _
      simp only [Act.put, List.setIfInBounds_toArray, List.set_cons_zero, List.set_cons_succ]
      rfl
    refine one_ (i := 8) (N := some 18) #[true, true, true, true, true, true, true, true, true, true, true, true, true, false, true, true, true, true, false, false, true, false] rfl rfl (by kernel_rfl) (by decide) (fun K hK => ?_)
    refine goes_ Try.func35 (by kernel_rfl) rfl #[vG] (by rfl) rfl rfl (by simp only [List.map_toArray, List.map_cons, List.map_nil]; rfl) ?_
    with_reducible refine (cloneI vG _ w1 (HP0.out.r.g.reads.below hB1) (by rw [ints_len]; exact hBd.g)).mono ?_
    rintro e w2 ⟨uG, rfl, hRG, hS2⟩
    refine ⟨_, rfl, ?_⟩
    obtain ⟨AG, cG, rfl, -⟩ := hRG.slice
    have hB2 : Below x0.heap.size x0 w2 := below_then hB1 hS2
    have hBlk2 := blk_below HP0.out.blk hB2
    refine hK.out _ _ ⟨cell_blk hBlk2 0, cell_blk hBlk2 1, cell_blk hBlk2 2, cell_blk hBlk2 4⟩ (fun hHeld => ?_)
    clear hK K
    refine norm_ (a' := ?_) ?_ ?_
    rotate_left
    · show Act.put _ (some 18) _ = _
      simp only [Act.put, List.setIfInBounds_toArray, List.set_cons_zero, List.set_cons_succ]
      rfl
    refine one_ (i := 13) (N := some 23) #[true, true, true, true, true, true, true, true, true, true, true, true, true, true, true, true, true, true, false, false, true, false] rfl rfl (by kernel_rfl) (by decide) (fun K hK => ?_)
    refine goes_ Try.func36 (by kernel_rfl) rfl #[vA] (by rfl) rfl rfl (by simp only [List.map_toArray, List.map_cons, List.map_nil]; rfl) ?_
    with_reducible refine (cloneB vA _ w2 (HP0.out.r.a.reads.below hB2) (by rw [bools_len]; exact hBd.a)).mono ?_
    rintro e w3 ⟨uA, rfl, hRA, hS3⟩
    refine ⟨_, rfl, ?_⟩
    obtain ⟨AA, cA, rfl, -⟩ := hRA.slice
    have hB3 : Below x0.heap.size x0 w3 := below_then hB2 hS3
    have hBlk3 := blk_below HP0.out.blk hB3
    refine hK.out _ _ ⟨cell_blk hBlk3 0, cell_blk hBlk3 1, cell_blk hBlk3 2, cell_blk hBlk3 4⟩ (fun hHeld => ?_)
    clear hK K
    refine norm_ (a' := ?_) ?_ ?_
    rotate_left
    · show Act.put _ (some 23) _ = _
      simp only [Act.put, List.setIfInBounds_toArray, List.set_cons_zero, List.set_cons_succ]
      rfl
    refine one_ (i := 18) (N := some 28) #[true, true, true, true, true, true, true, true, true, true, true, true, true, true, true, true, true, true, true, false, true, false] rfl rfl (by kernel_rfl) (by decide) (fun K hK => ?_)
    refine goes_ Try.func35 (by kernel_rfl) rfl #[vF] (by rfl) rfl rfl (by simp only [List.map_toArray, List.map_cons, List.map_nil]; rfl) ?_
    with_reducible refine (cloneI vF _ w3 (HP0.out.r.f.reads.below hB3) (by rw [ints_len]; exact hBd.f)).mono ?_
    rintro e w4 ⟨uF, rfl, hRF, hS4⟩
    refine ⟨_, rfl, ?_⟩
    obtain ⟨AF, cF, rfl, -⟩ := hRF.slice
    have hB4 : Below x0.heap.size x0 w4 := below_then hB3 hS4
    have hBlk4 := blk_below HP0.out.blk hB4
    refine hK.out _ _ ⟨cell_blk hBlk4 0, cell_blk hBlk4 1, cell_blk hBlk4 2, cell_blk hBlk4 4⟩ (fun hHeld => ?_)
    clear hK K
    refine norm_ (a' := ?_) ?_ ?_
    rotate_left
    · show Act.put _ (some 28) _ = _
      simp only [Act.put, List.setIfInBounds_toArray, List.set_cons_zero, List.set_cons_succ]
      rfl
    refine pure_ (i := 19) (N := some 29) (v := ?_) (a' := ?_) #[true, true, true, true, true, true, true, true, true, true, true, true, true, true, true, true, true, true, true, true, true, false] rfl rfl (by kernel_rfl) (fun _ _ _ h => h) (Or.inl ⟨by rfl, ?_⟩) ?_ ?_
    rotate_left
    · intro w'
      go_simp
      with_reducible rfl
    rotate_left
    · simp only [Act.put, List.setIfInBounds_toArray, List.set_cons_zero, List.set_cons_succ]
      rfl
    refine last_ (i := 21) (N := none) #[true, true, true, true, true, true, true, true, true, true, true, true, true, true, true, true, true, true, true, true, true, true] rfl rfl (by kernel_rfl) (by decide) (fun K hK => ?_)
    have hz2 := hS2.size
    have hz3 := hS3.size
    have hz4 := hS4.size
    have hz1 := hS1.size
    have hrG : Row w4 W.heap.size (fun _ => True) _ (.slice AG _ cG) _ := (hRG.below (below_then hS3 hS4)).lower (by omega)
    have hrA : Row w4 W.heap.size (fun _ => True) _ (.slice AA _ cA) _ := (hRA.below hS4).lower (by omega)
    have hrF : Row w4 W.heap.size (fun _ => True) _ (.slice AF _ cF) _ := hRF.lower (by omega)
    have hne : ∀ k, (Value.slice AG (ints s.gens).length cG).ownBlock = some k → (Value.slice AF (ints s.free).length cF).ownBlock = some k → False := fun k h1 h2 => by have := hRG.lt k h1; have := hRF.base_le k h2; omega
    have hO4 := blk_below hRO (below_then (below_then hS2 hS3) hS4)
    have hB4' := Aside0.mk (below_then hW.out (below_then hWx.out hB4))
    obtain ⟨f0, f1, f2, f3, f4⟩ : w4.cell? ⟨B, 0, none⟩ = some (.int .i64 0) ∧ w4.cell? ⟨B, 1, none⟩ = some (.slice none 0 0) ∧ w4.cell? ⟨B, 2, none⟩ = some (.slice none 0 0) ∧ w4.cell? ⟨B, 3, none⟩ = some (.slice none 0 0) ∧ w4.cell? ⟨B, 4, none⟩ = some (.slice none 0 0) := ⟨cell_blk hO4 0, cell_blk hO4 1, cell_blk hO4 2, cell_blk hO4 3, cell_blk hO4 4⟩
    have f5 := frozen_blk hO4 0; have f6 := frozen_blk hO4 1; have f7 := frozen_blk hO4 2; have f8 := frozen_blk hO4 3; have f9 := frozen_blk hO4 4
    have hBl := lt_blk hO4
    refine skip_ (w1 := ?_) (by rfl) rfl ?_ ?_
    rotate_left
    · go_simp
      first | with_reducible rfl | rfl
    refine hK.out _ _ ?_
    clear hK K
    refine done_ (by kernel_rfl) ?_
    have hT5 : ((((((w4.setCell ⟨B, 0, none⟩ (.int .i64 s.limit)).setCell ⟨B, 1, none⟩ (.slice AG (ints s.gens).length cG)).setCell ⟨B, 2, none⟩ (.slice AA (bools s.alive).length cA)).setCell ⟨B, 3, none⟩ (.slice none 0 0)).setCell ⟨B, 4, none⟩ (.slice AF (ints s.free).length cF))).heap[B]? = some (.cells #[.int .i64 s.limit, .slice AG (ints s.gens).length cG, .slice AA (bools s.alive).length cA, .slice none 0 0, .slice AF (ints s.free).length cF] TT (0, 0)) := blk_set5 hO4
    have hK5 : Keep (fun k => k = B) w4 ((((((w4.setCell ⟨B, 0, none⟩ (.int .i64 s.limit)).setCell ⟨B, 1, none⟩ (.slice AG (ints s.gens).length cG)).setCell ⟨B, 2, none⟩ (.slice AA (bools s.alive).length cA)).setCell ⟨B, 3, none⟩ (.slice none 0 0)).setCell ⟨B, 4, none⟩ (.slice AF (ints s.free).length cF))) := set5_keep _ _ _ _ _ _ _
    generalize (((((w4.setCell ⟨B, 0, none⟩ (.int .i64 s.limit)).setCell ⟨B, 1, none⟩ (.slice AG (ints s.gens).length cG)).setCell ⟨B, 2, none⟩ (.slice AA (bools s.alive).length cA)).setCell ⟨B, 3, none⟩ (.slice none 0 0)).setCell ⟨B, 4, none⟩ (.slice AF (ints s.free).length cF)) = W5 at *
    have HP5 := Aside0.mk ((HP0.out.below hB4).keep hK5 (fun k hk => by subst hk; exact HP0.out.r.z _ (by omega)))
    have hBW : W.heap.size ≤ B := by omega
    have HB5 := Aside0.mk (below_then_keep (below_then hWx.out hB4) (by have := hB4.size; omega) hK5 (fun i hi => by omega))
    obtain ⟨col1, hQ5, hcol1⟩ := slab_begun (by decide) (row_keepT hrG hO4 (by decide) hK5) (row_keepT hrA hO4 (by decide) hK5) (row_keepT hrF hO4 (by decide) hK5) hne hT5 hBW
    have HQ5 := Aside0.mk hQ5
    have HC5 := Aside0.mk hcol1
    have HPz : Aside0 (∀ k, W.heap.size ≤ k → col k = 0) := ⟨fun k hk => HP.out.r.z k hk⟩
    clear hQ5 hcol1 hrG hrA hrF hne hO4 hT5 hK5 hRG hRA hRF hB4 hB4' HP0 hHeld
    clear hS1 hS2 hS3 hS4 hB1 hB2 hB3 hBlk1 hBlk2 hBlk3 hBlk4
    clear f0 f1 f2 f3 f4 f5 f6 f7 f8 f9 hBl hRO hgB
    clear hz1 hz2 hz3 hz4 hxs
    obtain ⟨-, -, -, d3, -⟩ := cells5 HP5.out.blk
    have hbl5 := lt_blk HP5.out.blk
    go_wp2
    clear d3 hbl5
    go_loopw [35] (fun i wr => ∃ (k : Nat), k ≤ vs.length ∧ i = .int .i64 k ∧ Aside0 (StI W base b col s vG vA (.slice AC vs.length cC) vF vs B (.slice AG (ints s.gens).length cG) (.slice AA (bools s.alive).length cA) (.slice AF (ints s.free).length cF) k wr)) (fun i _ => vs.length - (intOf i).toNat)
    case atStart => exact ⟨0, by omega, rfl, ⟨_, [], col1, HB5.out, HP5.out, HQ5.out, HC5.out⟩⟩
    case round =>
      clear HP5 HB5 HQ5 HC5
      obtain ⟨k, hk, rfl, ⟨vC', vs', col', hB, hPr, hQ, hC⟩⟩ := hrel
      obtain ⟨AC', cC', rfl, -⟩ := hQ.r.c.slice
      have HB := Aside0.mk hB
      have HPr := Aside0.mk hPr
      have HQ := Aside0.mk hQ
      have HC := Aside0.mk hC
      clear hB hPr hQ hC
      have hws := HB.out.size
      by_cases hlt : k < vs.length
      · obtain ⟨gC, oC, cC2, he, hgC, -, hat⟩ := HPr.out.r.c.form (by omega)
        injection he with he1 he2 he3
        subst he1; subst he3
        have hkc : k < s.caches.length := by rw [← HPr.out.r.l]; exact hlt
        obtain ⟨y, hy⟩ : ∃ y, s.caches[k]? = some y := ⟨_, List.getElem?_eq_getElem hkc⟩
        obtain ⟨v, hv, hvrow⟩ := HPr.out.r.v k y hy
        have hcell := (hat k).1 _ hv
        have hxb : y.length * 8 ≤ 140737488355328 := hBd.e y (List.mem_of_getElem? hy)
        have HT := Aside0.mk (take_snocI hy)
        have HVR := Aside0.mk hvrow.reads
        obtain ⟨Av, cv, rfl, -⟩ := hvrow.slice
        have hcb : (vs'.length + 1) * 24 ≤ 140737488355328 := by
          have h1 := HQ.out.r.l
          have h2 : (s.caches.take k).length = k := by rw [List.length_take]; omega
          have h3 := hBd.c
          simp only at h1
          rw [h1, h2]
          omega
        clear hat hv hy hvrow
        go_wp2_with fail
        have hx1 : Below wr.heap.size wr wr.drew := (Below.refl _ _).drew
        have HP1 := Aside0.mk (HPr.out.below hx1)
        have HQ1 := Aside0.mk (HQ.out.below hx1)
        have hvr := HVR.out.below hx1
        have hQ0 := HQ1.out
        have hxs1 := hx1.size
        refine start_ (n := 8) (S := fun w' => w'.cell? ⟨B, 3, none⟩ = some (.slice AC' vs'.length cC')) (ds := [5, 7]) #[false, false, false, false, false, false, false, false] (by kernel_rfl) rfl rfl ((cells5 HQ1.out.blk).2.2.2.1) (fun hHeld => ?_)
        generalize wr.drew = x1 at *
        refine pure_ (i := 0) (N := some 39) (v := ?_) (a' := ?_) #[true, false, false, false, false, false, false, false] rfl rfl (by kernel_rfl) (fun _ _ _ h => h) (Or.inl ⟨by rfl, ?_⟩) ?_ ?_
        rotate_left
        · intro w'
          go_simp
          with_reducible rfl
        rotate_left
        · simp only [Act.put, List.setIfInBounds_toArray, List.set_cons_zero, List.set_cons_succ]
          rfl
        refine pure_ (i := 2) (N := some 41) (v := ?_) (a' := ?_) #[true, false, true, false, false, false, false, false] rfl rfl (by kernel_rfl) (fun _ _ _ h => h) (Or.inl ⟨by rfl, ?_⟩) ?_ ?_
        rotate_left
        · intro w'
          go_simp
          with_reducible rfl
        rotate_left
        · simp only [Act.put, List.setIfInBounds_toArray, List.set_cons_zero, List.set_cons_succ]
          rfl
        refine take_ (i := 1) (N := some 40) (v := ?_) (a' := ?_) #[true, true, true, false, false, false, false, false] rfl rfl (by kernel_rfl) (fun _ _ _ h => h) (Or.inl ⟨by rfl, ?_⟩) hHeld ?_ ?_
        rotate_left
        · intro w' s0
          go_simp
          with_reducible rfl
        rotate_left
        · simp only [Act.put, List.setIfInBounds_toArray, List.set_cons_zero, List.set_cons_succ]
          rfl
        refine one_ (i := 3) (N := some 42) #[true, true, true, true, false, false, false, false] rfl rfl (by kernel_rfl) (by decide) (fun K hK => ?_)
        refine goes_ Try.func35 (by kernel_rfl) rfl #[.slice Av (ints y).length cv] (by rfl) rfl rfl (by simp only [List.map_toArray, List.map_cons, List.map_nil]; rfl) ?_
        with_reducible refine (cloneI (.slice Av (ints y).length cv) _ x1 hvr (by rw [ints_len]; exact hxb)).mono ?_
        rintro e wA ⟨ux, rfl, hRx, hSA⟩
        refine ⟨_, rfl, ?_⟩
        obtain ⟨Ax, cx, rfl, -⟩ := hRx.slice
        have hQA := HQ1.out.below hSA
        refine hK.out _ _ ((cells5 hQA.blk).2.2.2.1) (fun hHeld => ?_)
        clear hK K
        refine norm_ (a' := ?_) ?_ ?_
        rotate_left
        · show Act.put _ (some 42) _ = _
          simp only [Act.put, List.setIfInBounds_toArray, List.set_cons_zero, List.set_cons_succ]
          rfl
        refine one_ (i := 4) (N := some 43) #[true, true, true, true, true, false, false, false] rfl rfl (by kernel_rfl) (by decide) (fun K hK => ?_)
        refine value_ (w1 := ?_) (v := ?_) (by rfl) rfl ?_ ?_
        rotate_left 2
        · go_simp
          constructor
          · rfl
          · rfl
        have hSB : Below wA.heap.size wA (wA.alloc (.cells #[.slice Ax (ints y).length cx] 26)) := below_al (Below.refl _ _) _
        have hbox : (wA.alloc (.cells #[.slice Ax (ints y).length cx] 26)).heap[wA.heap.size]? = some (.cells #[.slice Ax (ints y).length cx] 26 (0, 0)) := blk_new _ _
        generalize wA.alloc (.cells #[.slice Ax (ints y).length cx] 26) = wB at *
        have hQB := hQA.below hSB
        have hBB : Below x1.heap.size x1 wB := below_then hSA hSB
        have hsB := hBB.size
        obtain ⟨v5, w5, hr5, hrow5, hg5⟩ := row_append (P := Try.prog) (t := 28) Try.underlying28 infoSl rfl (by omega) hQB.r.c (some ⟨wA.heap.size, 0, none⟩) 1 1 [.slice Ax (ints y).length cx] rfl (fun _ => ⟨_, rfl, fun j u hj => by match j, hj with | 0, hj => (obtain rfl : Value.slice Ax (ints y).length cx = u := by simpa using hj); rw [adds]; exact cell_blk hbox 0⟩) (fun u hu => by rw [List.mem_singleton.1 hu]; rfl) hcb (by omega)
        refine hK.out _ _ ((cells5 hQB.blk).2.2.2.1) (fun hHeld => ?_)
        clear hK K
        refine norm_ (a' := ?_) ?_ ?_
        rotate_left
        · show Act.put _ (some 43) _ = _
          simp only [Act.put, List.setIfInBounds_toArray, List.set_cons_zero, List.set_cons_succ]
          rfl
        refine last_ (i := 5) (N := some 44) #[true, true, true, true, true, true, false, false] rfl rfl (by kernel_rfl) (by decide) (fun K hK => ?_)
        refine app_ (.tmp 40) (.tmp 43) 28 (by rfl) rfl rfl rfl rfl hr5 ?_
        have hK5 := grown_keep hg5 hQB.r.c.own
        obtain ⟨A5, c5, he5, -⟩ := hrow5.slice
        rw [List.length_append, List.length_singleton] at he5
        subst he5
        have hO5 := blk_keep hQB.blk hK5 (by have := hQB.one; show ¬ _ = 4; omega)
        obtain ⟨f0, f1, f2, f3, f4⟩ := cells5 hO5
        obtain ⟨g0, g1, g2, g3, g4⟩ := froz5 hO5
        have hBl5 := lt_blk hO5
        refine hK.out _ _ ?_
        clear hK K
        refine norm_ (a' := ?_) ?_ ?_
        rotate_left
        · show Act.put _ (some 44) _ = _
          simp only [Act.put, List.setIfInBounds_toArray, List.set_cons_zero, List.set_cons_succ]
          rfl
        refine pure_ (i := 6) (N := some 45) (v := ?_) (a' := ?_) #[true, true, true, true, true, true, true, false] rfl rfl (by kernel_rfl) (fun _ _ _ h => h) (Or.inl ⟨by rfl, ?_⟩) ?_ ?_
        rotate_left
        · intro w'
          go_simp
          with_reducible rfl
        rotate_left
        · simp only [Act.put, List.setIfInBounds_toArray, List.set_cons_zero, List.set_cons_succ]
          rfl
        refine last_ (i := 7) (N := none) #[true, true, true, true, true, true, true, true] rfl rfl (by kernel_rfl) (by decide) (fun K hK => ?_)
        refine skip_ (w1 := ?_) (by rfl) rfl ?_ ?_
        rotate_left
        · go_simp
          first | with_reducible rfl | rfl
        refine hK.out _ _ ?_
        clear hK K
        refine done_ (by kernel_rfl) ?_
        obtain ⟨col2, hQ2, hN2⟩ := hQ0.push (by omega) hBB (hRx.below hSB) hK5 hrow5
        have hN3 : Keep (fun k => col' k ≠ 0) wr (w5.setCell ⟨B, 3, none⟩ (.slice A5 (vs'.length + 1) c5)) := (Keep.of_below hx1).trans hN2.keep
        have HP2 := Aside0.mk (HP1.out.keep hN2.keep (fun i hi => HPz.out i (hQ0.r.b i hi)))
        have HB2 := Aside0.mk (below_then_keep HB.out (by have := HB.out.size; omega) hN3 (fun i hi => hQ0.r.b i hi))
        have HQ2 := Aside0.mk hQ2
        have hc2 : ∀ k, k < W.heap.size → col2 k = 0 := fun k hk => (hN2.cols k (by omega)).trans (HC.out k hk)
        have HC2 := Aside0.mk hc2
        go_wp2
        go_roundw
        case rel => exact ⟨k + 1, by omega, by go_num, ⟨⟨_, vs' ++ [Value.slice Ax (ints y).length cx], col2, HB2.out, HP2.out, by rw [HT.out]; exact HQ2.out, HC2.out⟩⟩⟩
        case measure => simp [intOf]; omega
      · obtain rfl : k = vs.length := by omega
        obtain ⟨q0, q1, q2, q3, q4⟩ := cells5 HQ.out.blk
        have hR := blk_below hRes.out HB.out
        obtain ⟨r0, r1, r2, r3, r4⟩ := cells5 hR
        obtain ⟨p0, p1, p2, p3, p4⟩ := froz5 hR
        have hRl := lt_blk hR
        have hQl := lt_blk HQ.out.blk
        have hne : B ≠ w.heap.size := by omega
        have HR := Aside0.mk hR
        clear hR
        go_wp2
        have hk6 : Keep (fun i => i = w.heap.size) wr (((((wr.setCell ⟨w.heap.size, 0, none⟩ (.int .i64 s.limit)).setCell ⟨w.heap.size, 1, none⟩ (.slice AG (ints s.gens).length cG)).setCell ⟨w.heap.size, 2, none⟩ (.slice AA (bools s.alive).length cA)).setCell ⟨w.heap.size, 3, none⟩ (.slice AC' vs'.length cC')).setCell ⟨w.heap.size, 4, none⟩ (.slice AF (ints s.free).length cF)) := set5_keep _ _ _ _ _ _ _
        have h5 := blk_set5 (u0 := .int .i64 s.limit) (u1 := .slice AG (ints s.gens).length cG) (u2 := .slice AA (bools s.alive).length cA) (u3 := .slice AC' vs'.length cC') (u4 := .slice AF (ints s.free).length cF) HR.out
        obtain ⟨z0, z1, z2, z3, z4⟩ := cells5 h5
        have hQ := HQ.out
        have hle : s.caches.take vs.length = s.caches := by rw [HPr.out.r.l, List.take_length]
        rw [hle] at hQ
        have hcz : col' w.heap.size = 0 := HC.out _ (by omega)
        refine bodyPost_ret (v := .agg #[.int .i64 s.limit, .slice AG (ints s.gens).length cG, .slice AA (bools s.alive).length cA, .slice AC' vs'.length cC', .slice AF (ints s.free).length cF]) (by simp [results, Try.results19, go_sem, z0, z1, z2, z3, z4]) rfl ⟨_, _, _, _, vs', col', rfl, (hQ.r.keep hk6 (fun i hi => by subst hi; rw [hcz]; omega)).lower hW.out.size, fun i hi => HC.out i (by omega), (by repeat (first | (with_reducible exact hW.out.trans (HB.out.mono hW.out.size)) | (with_reducible refine Below.drew ?_) | (with_reducible refine below_drewN ?_ _) | (with_reducible refine below_al ?_ _) | (with_reducible refine Below.alloc ?_ (by first | exact Nat.le_refl _ | omega | (simp; done) | (simp; omega)) _) | (with_reducible refine Below.setCell ?_ (by first | (simp only []; omega) | (simp; done) | (simp; omega)) _)))⟩
end Go.Proofs.Ytnglgjegkjfnaaa
