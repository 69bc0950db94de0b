import Derived.Test.YtnglgjegkjfnaaaSlOO
import Derived.Test.YtnglgjegkjfnaaaSlRd
import Derived.Deep.DrawnRows
import Derived.Deep.DeepCutAuto
set_option linter.unusedSimpArgs false
set_option linter.unusedVariables false
namespace Go.Proofs.Ytnglgjegkjfnaaa
open Go.RowKit Go.ChangeShapes Go.WideShapes Go.ChangeAt Go.Proofs.YtnglgjegkjfnaaaW.PrintWords Go.Proofs.YtnglgjegkjfnaaaW.PrintMore Go.Proofs.YtnglgjegkjfnaaaW.PrintLast
/-! Copy of a state that is only read: printed by gen04r.py. -/
structure SlX (w0 wr : World) (P : Nat) (s : Sl) (vG vA vC vF : Value) (vs : List Value) : Prop where
  r0 : SlR w0 s vG vA vC vF vs
  b : Below w0.heap.size w0 wr
  blk : wr.heap[P]? = some (.cells #[.int .i64 s.limit, vG, vA, vC, vF] TT (0, 0))
section
variable {w0 wr w' : World} {P : Nat} {s : Sl} {vG vA vC vF : Value} {vs : List Value} {F : Nat → Prop}
theorem SlX.r (h : SlX w0 wr P s vG vA vC vF vs) : SlR wr s vG vA vC vF vs := h.r0.below h.b
theorem SlX.below (h : SlX w0 wr P s vG vA vC vF vs) (hB : Below wr.heap.size wr w') : SlX w0 w' P s vG vA vC vF vs := ⟨h.r0, below_then h.b hB, blk_below h.blk hB⟩
theorem SlX.keep (h : SlX w0 wr P s vG vA vC vF vs) (hk : Keep F wr w') (hF : ∀ k, F k → w0.heap.size ≤ k ∧ k ≠ P) : SlX w0 w' P s vG vA vC vF vs := ⟨h.r0, below_then_keep h.b h.b.size hk (fun i hi => (hF i hi).1), blk_keep h.blk hk (fun f => (hF P f).2 rfl)⟩
end
/-- Behind the first region of Copy. -/
structure CqA (w0 W wr : World) (P B : Nat) (s : Sl) (vG vA vC vF : Value) (vs : List Value) (uG uF : Value) : Prop where
  below : Below W.heap.size W wr
  p : SlX w0 wr P s vG vA vC vF vs
  g : Row wr W.heap.size (fun _ => True) 3 uG (ints s.gens)
  f : Row wr W.heap.size (fun _ => True) 3 uF (ints s.free)
  ne : ∀ k, uG.ownBlock = some k → uF.ownBlock = some k → False
  b : wr.heap[B]? = some (.cells #[.int .i64 s.limit, uG, .slice none 0 0, .slice none 0 0, uF] TT (0, 0))
  bb : W.heap.size ≤ B
def CqE (w0 W wr : World) (P B : Nat) (s : Sl) (vG vA vC vF : Value) (vs : List Value) : Prop := ∃ uG uF, CqA w0 W wr P B s vG vA vC vF vs uG uF
/-- Behind k caches. -/
def CqI (w0 W : World) (P : Nat) (s : Sl) (vG vA vC vF : Value) (vs : List Value) (B : Nat) (uG uA uF : Value) (k : Nat) (wr : World) : Prop := ∃ vC' vs' col', Below W.heap.size W wr ∧ SlX w0 wr P s vG vA vC vF vs ∧ SlB TT wr W.heap.size B col' ⟨s.limit, s.gens, s.alive, s.caches.take k, s.free⟩ uG uA vC' uF vs' ∧ ∀ k, k < W.heap.size → col' k = 0
set_option maxRecDepth 100000 in
set_option maxHeartbeats 8000000 in
theorem copy_rd {s : Sl} {vG vA vC vF : Value} {vs : List Value} (w : World) (h : SlR w s vG vA vC vF vs) (hBd : Bd s) : Calls Try.prog 29 #[.agg #[.int .i64 s.limit, vG, vA, vC, vF]] w (StateP s w) := by
  obtain ⟨AC, cC, rfl, -⟩ := h.c.slice
  have hW : Below w.heap.size w ((w.alloc (.cells #[.int .i64 s.limit, vG, vA, .slice AC vs.length cC, vF] TT)).alloc (.cells #[.int .i64 0, .slice none 0 0, .slice none 0 0, .slice none 0 0, .slice none 0 0] 30)) := (by repeat (first | (with_reducible exact Below.refl _ _) | (with_reducible refine Below.drew ?_) | (with_reducible refine below_drewN ?_ _) | (with_reducible refine below_al ?_ _) | (with_reducible refine Below.alloc ?_ (by first | exact Nat.le_refl _ | omega | (simp; done) | (simp; omega)) _) | (with_reducible refine Below.setCell ?_ (by first | (simp only []; omega) | (simp; done) | (simp; omega)) _)))
  have hA1 : Below (w.alloc (.cells #[.int .i64 s.limit, vG, vA, .slice AC vs.length cC, vF] TT)).heap.size (w.alloc (.cells #[.int .i64 s.limit, vG, vA, .slice AC vs.length cC, vF] TT)) ((w.alloc (.cells #[.int .i64 s.limit, vG, vA, .slice AC vs.length cC, vF] TT)).alloc (.cells #[.int .i64 0, .slice none 0 0, .slice none 0 0, .slice none 0 0, .slice none 0 0] 30)) := below_al (Below.refl _ _) _
  have HP : Aside0 (SlX w ((w.alloc (.cells #[.int .i64 s.limit, vG, vA, .slice AC vs.length cC, vF] TT)).alloc (.cells #[.int .i64 0, .slice none 0 0, .slice none 0 0, .slice none 0 0, .slice none 0 0] 30)) w.heap.size s vG vA (.slice AC vs.length cC) vF vs) := ⟨⟨h, hW, blk_alloc (blk_new _ _)⟩⟩
  have hRes : Aside0 (((w.alloc (.cells #[.int .i64 s.limit, vG, vA, .slice AC vs.length cC, vF] TT)).alloc (.cells #[.int .i64 0, .slice none 0 0, .slice none 0 0, .slice none 0 0, .slice none 0 0] 30)).heap[w.heap.size + 1]? = some (.cells #[.int .i64 0, .slice none 0 0, .slice none 0 0, .slice none 0 0, .slice none 0 0] 30 (0, 0))) := ⟨blk_new1 _ _ _⟩
  have hW := Aside0.mk hW
  have hWz : ((w.alloc (.cells #[.int .i64 s.limit, vG, vA, .slice AC vs.length cC, vF] TT)).alloc (.cells #[.int .i64 0, .slice none 0 0, .slice none 0 0, .slice none 0 0, .slice none 0 0] 30)).heap.size = w.heap.size + 2 := by simp
  clear h hA1
  go_enter Try.func29, Try.ntmps29
  go_upto_region 1 with fail
  generalize ((w.alloc (.cells #[.int .i64 s.limit, vG, vA, .slice AC vs.length cC, vF] TT)).alloc (.cells #[.int .i64 0, .slice none 0 0, .slice none 0 0, .slice none 0 0, .slice none 0 0] 30)) = W at *
  have hbl := lt_blk HP.out.blk
  have hrl := lt_blk hRes.out
  have hWs := hW.out.size
  have hvl : vs.length ≤ 10000000000000 := by rw [HP.out.r.l]; have := hBd.c; omega
  go_cut [3] (fun s3 wx => ∃ B : Nat, s3 = .pointer (some ⟨B, 0, none⟩) ∧ Aside0 (CqE w W wx w.heap.size B s vG vA (.slice AC vs.length cC) vF vs))
  case first =>
    have HP0 : Aside0 (SlX w W.drew w.heap.size s vG vA (.slice AC vs.length cC) vF vs) := ⟨HP.out.below (Below.refl _ _).drew⟩
    have hWx : Aside0 (Below W.heap.size W W.drew) := ⟨(Below.refl _ _).drew⟩
    have hxs : W.heap.size ≤ W.drew.heap.size := hWx.out.size
    refine start_ (n := 11) (S := fun w' => w'.cell? ⟨w.heap.size, 0, none⟩ = some (.int .i64 s.limit) ∧ w'.cell? ⟨w.heap.size, 1, none⟩ = some (vG) ∧ w'.cell? ⟨w.heap.size, 4, none⟩ = some (vF)) (ds := [10]) #[false, false, false, false, false, false, false, false, false, false, false] (by kernel_rfl) rfl rfl ⟨cell_blk HP0.out.blk 0, cell_blk HP0.out.blk 1, cell_blk HP0.out.blk 4⟩ (fun hHeld => ?_)
    generalize W.drew = x0 at *
    refine pure_ (i := 0) (N := some 5) (v := ?_) (a' := ?_) #[true, false, false, false, false, false, false, false, false, false, false] rfl rfl (by kernel_rfl) (fun _ _ _ h => h) (Or.inl ⟨by rfl, ?_⟩) ?_ ?_
    rotate_left
    · intro w'
      go_simp
      with_reducible rfl
    rotate_left
    · simp only [Act.put, List.setIfInBounds_toArray, List.set_cons_zero, List.set_cons_succ, i64_w, i32_w]
      rfl
    refine pure_ (i := 2) (N := some 7) (v := ?_) (a' := ?_) #[true, false, true, false, false, false, false, false, false, false, false] rfl rfl (by kernel_rfl) (fun _ _ _ h => h) (Or.inl ⟨by rfl, ?_⟩) ?_ ?_
    rotate_left
    · intro w'
      go_simp
      with_reducible rfl
    rotate_left
    · simp only [Act.put, List.setIfInBounds_toArray, List.set_cons_zero, List.set_cons_succ, i64_w, i32_w]
      rfl
    refine pure_ (i := 5) (N := some 10) (v := ?_) (a' := ?_) #[true, false, true, false, false, true, false, false, false, false, false] rfl rfl (by kernel_rfl) (fun _ _ _ h => h) (Or.inl ⟨by rfl, ?_⟩) ?_ ?_
    rotate_left
    · intro w'
      go_simp
      with_reducible rfl
    rotate_left
    · simp only [Act.put, List.setIfInBounds_toArray, List.set_cons_zero, List.set_cons_succ, i64_w, i32_w]
      rfl
    refine take_ (i := 1) (N := some 6) (v := ?_) (a' := ?_) #[true, true, true, false, false, true, false, false, false, false, false] rfl rfl (by kernel_rfl) (fun _ _ _ h => h) (Or.inl ⟨by rfl, ?_⟩) hHeld ?_ ?_
    rotate_left
    · rintro w' ⟨s0, s1, s2⟩
      go_simp
      with_reducible rfl
    rotate_left
    · simp only [Act.put, List.setIfInBounds_toArray, List.set_cons_zero, List.set_cons_succ, i64_w, i32_w]
      rfl
    refine take_ (i := 3) (N := some 8) (v := ?_) (a' := ?_) #[true, true, true, true, false, true, false, false, false, false, false] rfl rfl (by kernel_rfl) (fun _ _ _ h => h) (Or.inl ⟨by rfl, ?_⟩) hHeld ?_ ?_
    rotate_left
    · rintro w' ⟨s0, s1, s2⟩
      go_simp
      with_reducible rfl
    rotate_left
    · simp only [Act.put, List.setIfInBounds_toArray, List.set_cons_zero, List.set_cons_succ, i64_w, i32_w]
      rfl
    refine take_ (i := 6) (N := some 11) (v := ?_) (a' := ?_) #[true, true, true, true, false, true, true, false, false, false, false] rfl rfl (by kernel_rfl) (fun _ _ _ h => h) (Or.inl ⟨by rfl, ?_⟩) hHeld ?_ ?_
    rotate_left
    · rintro w' ⟨s0, s1, s2⟩
      go_simp
      with_reducible rfl
    rotate_left
    · simp only [Act.put, List.setIfInBounds_toArray, List.set_cons_zero, List.set_cons_succ, i64_w, i32_w]
      rfl
    refine two_ (i := 4) (j := 9) (Ni := some 9) (Nj := some 3) #[true, true, true, true, true, true, true, false, false, false, false] #[true, true, true, true, false, true, true, false, false, true, false] rfl rfl rfl rfl (by kernel_rfl) (by decide) (by decide) (fun K hK => ?_) (fun K hK => ?_)
    · skip
      refine goes_ Try.func47 (by kernel_rfl) rfl #[vG] (by rfl) rfl rfl (by simp only [List.map_toArray, List.map_cons, List.map_nil]; rfl) ?_
      with_reducible refine (ints_ref vG _ x0 HP0.out.r.g.reads hBd.g).mono ?_
      rintro e w1 ⟨uG, rfl, hRG, hS1⟩
      refine ⟨_, rfl, ?_⟩
      obtain ⟨AG, cG, rfl, -⟩ := hRG.slice
      have hB1 : Below x0.heap.size x0 w1 := hS1
      have hBlk1 := blk_below HP0.out.blk hB1
      refine hK.out _ _ ⟨cell_blk hBlk1 0, cell_blk hBlk1 1, cell_blk hBlk1 4⟩ (fun hHeld => ?_)
      clear hK K
      refine norm_ (a' := ?_) ?_ ?_
      rotate_left
      · show Act.put _ (some 9) _ = _
        simp only [Act.put, List.setIfInBounds_toArray, List.set_cons_zero, List.set_cons_succ, i64_w, i32_w]
        rfl
      refine two_ (i := 7) (j := 9) (Ni := some 12) (Nj := some 3) #[true, true, true, true, true, true, true, true, false, false, false] #[true, true, true, true, true, true, true, false, false, true, false] rfl rfl rfl rfl (by kernel_rfl) (by decide) (by decide) (fun K hK => ?_) (fun K hK => ?_)
      · skip
        refine goes_ Try.func47 (by kernel_rfl) rfl #[vF] (by rfl) rfl rfl (by simp only [List.map_toArray, List.map_cons, List.map_nil]; rfl) ?_
        with_reducible refine (ints_ref vF _ w1 (HP0.out.r.f.reads.below hB1) hBd.f).mono ?_
        rintro e w2 ⟨uF, rfl, hRF, hS2⟩
        refine ⟨_, rfl, ?_⟩
        obtain ⟨AF, cF, rfl, -⟩ := hRF.slice
        have hB2 : Below x0.heap.size x0 w2 := below_then hB1 hS2
        have hBlk2 := blk_below HP0.out.blk hB2
        refine hK.out _ _ ⟨cell_blk hBlk2 0, cell_blk hBlk2 1, cell_blk hBlk2 4⟩ (fun hHeld => ?_)
        clear hK K
        refine norm_ (a' := ?_) ?_ ?_
        rotate_left
        · show Act.put _ (some 12) _ = _
          simp only [Act.put, List.setIfInBounds_toArray, List.set_cons_zero, List.set_cons_succ, i64_w, i32_w]
          rfl
        refine pure_ (i := 8) (N := some 13) (v := ?_) (a' := ?_) #[true, true, true, true, true, true, true, true, true, false, false] rfl rfl (by kernel_rfl) (fun _ _ _ h => h) (Or.inl ⟨by rfl, ?_⟩) ?_ ?_
        rotate_left
        · intro w'
          go_simp
          with_reducible rfl
        rotate_left
        · simp only [Act.put, List.setIfInBounds_toArray, List.set_cons_zero, List.set_cons_succ, i64_w, i32_w]
          rfl
        refine one_ (i := 9) (N := some 3) #[true, true, true, true, true, true, true, true, true, true, false] rfl rfl (by kernel_rfl) (by decide) (fun K hK => ?_)
        refine value_ (w1 := ?_) (v := ?_) (by rfl) rfl ?_ ?_
        rotate_left 2
        · go_simp
          constructor
          · rfl
          · rfl
        have hS3 : Below w2.heap.size w2 (w2.alloc (.cells #[.int .i64 0, .slice none 0 0, .slice none 0 0, .slice none 0 0, .slice none 0 0] 30)) := below_al (Below.refl _ _) _
        have hRO : (w2.alloc (.cells #[.int .i64 0, .slice none 0 0, .slice none 0 0, .slice none 0 0, .slice none 0 0] 30)).heap[w2.heap.size]? = some (.cells #[.int .i64 0, .slice none 0 0, .slice none 0 0, .slice none 0 0, .slice none 0 0] 30 (0, 0)) := blk_new _ _
        generalize w2.alloc (.cells #[.int .i64 0, .slice none 0 0, .slice none 0 0, .slice none 0 0, .slice none 0 0] 30) = w3 at *
        obtain ⟨B, hBB⟩ : ∃ B, B = w2.heap.size := ⟨_, rfl⟩
        have hgB : w2.heap.size ≤ B := by omega
        rw [← hBB] at hRO ⊢
        have hB3 : Below x0.heap.size x0 w3 := below_then hB2 hS3
        have hBlk3 := blk_below HP0.out.blk hB3
        clear hBB
        refine hK.out _ _ ⟨cell_blk hBlk3 0, cell_blk hBlk3 1, cell_blk hBlk3 4⟩ (fun hHeld => ?_)
        clear hK K
        refine norm_ (a' := ?_) ?_ ?_
        rotate_left
        · show Act.put _ (some 3) _ = _
          simp only [Act.put, List.setIfInBounds_toArray, List.set_cons_zero, List.set_cons_succ, i64_w, i32_w]
          rfl
        refine last_ (i := 10) (N := none) #[true, true, true, true, true, true, true, true, true, true, true] rfl rfl (by kernel_rfl) (by decide) (fun K hK => ?_)
        have hz1 := hS1.size
        have hz2 := hS2.size
        have hz3 := hS3.size
        have hrG : Row w3 W.heap.size (fun _ => True) _ (.slice AG _ cG) _ := (hRG.below (below_then hS2 hS3)).lower (by omega)
        have hrF : Row w3 W.heap.size (fun _ => True) _ (.slice AF _ cF) _ := (hRF.below hS3).lower (by omega)
        have hne : ∀ k, (Value.slice AG (ints s.gens).length cG).ownBlock = some k → (Value.slice AF (ints s.free).length cF).ownBlock = some k → False := fun k h1 h2 => by have := hRG.lt k h1; have := hRF.base_le k h2; omega
        have hO := hRO
        obtain ⟨f0, f1, f2, f3, f4⟩ := cells5 hO
        obtain ⟨g0, g1, g2, g3, g4⟩ := froz5 hO
        have hBl := lt_blk hO
        refine skip_ (w1 := ?_) (by rfl) rfl ?_ ?_
        rotate_left
        · go_simp
          first | with_reducible rfl | rfl
        refine hK.out _ _ ?_
        clear hK K
        refine done_ (by kernel_rfl) ?_
        have hT5 : ((((((w3.setCell ⟨B, 0, none⟩ (.int .i64 s.limit)).setCell ⟨B, 1, none⟩ (.slice AG (ints s.gens).length cG)).setCell ⟨B, 2, none⟩ (.slice none 0 0)).setCell ⟨B, 3, none⟩ (.slice none 0 0)).setCell ⟨B, 4, none⟩ (.slice AF (ints s.free).length cF))).heap[B]? = some (.cells #[.int .i64 s.limit, .slice AG (ints s.gens).length cG, .slice none 0 0, .slice none 0 0, .slice AF (ints s.free).length cF] TT (0, 0)) := blk_set5 hO
        have hK5 : Keep (fun k => k = B) w3 ((((((w3.setCell ⟨B, 0, none⟩ (.int .i64 s.limit)).setCell ⟨B, 1, none⟩ (.slice AG (ints s.gens).length cG)).setCell ⟨B, 2, none⟩ (.slice none 0 0)).setCell ⟨B, 3, none⟩ (.slice none 0 0)).setCell ⟨B, 4, none⟩ (.slice AF (ints s.free).length cF))) := set5_keep _ _ _ _ _ _ _
        generalize (((((w3.setCell ⟨B, 0, none⟩ (.int .i64 s.limit)).setCell ⟨B, 1, none⟩ (.slice AG (ints s.gens).length cG)).setCell ⟨B, 2, none⟩ (.slice none 0 0)).setCell ⟨B, 3, none⟩ (.slice none 0 0)).setCell ⟨B, 4, none⟩ (.slice AF (ints s.free).length cF)) = W5 at *
        have HP5 := (HP0.out.below hB3).keep hK5 (fun k hk => by subst hk; exact ⟨by omega, by omega⟩)
        have HB5 := below_then_keep (below_then hWx.out hB3) (by have := hB3.size; omega) hK5 (fun i hi => by omega)
        have HE : Aside0 (CqE w W W5 w.heap.size B s vG vA (.slice AC vs.length cC) vF vs) := ⟨⟨_, _, HB5, HP5, row_keepT hrG hO (by decide) hK5, row_keepT hrF hO (by decide) hK5, hne, hT5, by omega⟩⟩
        clear hrG hrF hne hO hT5 hK5 hRG hRF HP5 HB5 hHeld hS1 hS2 hS3 hB1 hB2 hB3 hBlk1 hBlk2 hBlk3 f0 f1 f2 f3 f4 g0 g1 g2 g3 g4 hBl hRO hgB hz1 hz2 hz3
        go_wp2_with fail
        go_meet
        exact ⟨B, rfl, HE⟩
      · skip
        refine value_ (w1 := ?_) (v := ?_) (by rfl) rfl ?_ ?_
        rotate_left 2
        · go_simp
          constructor
          · rfl
          · rfl
        have hS2 : Below w1.heap.size w1 (w1.alloc (.cells #[.int .i64 0, .slice none 0 0, .slice none 0 0, .slice none 0 0, .slice none 0 0] 30)) := below_al (Below.refl _ _) _
        have hRO : (w1.alloc (.cells #[.int .i64 0, .slice none 0 0, .slice none 0 0, .slice none 0 0, .slice none 0 0] 30)).heap[w1.heap.size]? = some (.cells #[.int .i64 0, .slice none 0 0, .slice none 0 0, .slice none 0 0, .slice none 0 0] 30 (0, 0)) := blk_new _ _
        generalize w1.alloc (.cells #[.int .i64 0, .slice none 0 0, .slice none 0 0, .slice none 0 0, .slice none 0 0] 30) = w2 at *
        obtain ⟨B, hBB⟩ : ∃ B, B = w1.heap.size := ⟨_, rfl⟩
        have hgB : w1.heap.size ≤ B := by omega
        rw [← hBB] at hRO ⊢
        have hB2 : Below x0.heap.size x0 w2 := below_then hB1 hS2
        have hBlk2 := blk_below HP0.out.blk hB2
        clear hBB
        refine hK.out _ _ ⟨cell_blk hBlk2 0, cell_blk hBlk2 1, cell_blk hBlk2 4⟩ (fun hHeld => ?_)
        clear hK K
        refine norm_ (a' := ?_) ?_ ?_
        rotate_left
        · show Act.put _ (some 3) _ = _
          simp only [Act.put, List.setIfInBounds_toArray, List.set_cons_zero, List.set_cons_succ, i64_w, i32_w]
          rfl
        refine one_ (i := 7) (N := some 12) #[true, true, true, true, true, true, true, true, false, true, false] rfl rfl (by kernel_rfl) (by decide) (fun K hK => ?_)
        refine goes_ Try.func47 (by kernel_rfl) rfl #[vF] (by rfl) rfl rfl (by simp only [List.map_toArray, List.map_cons, List.map_nil]; rfl) ?_
        with_reducible refine (ints_ref vF _ w2 (HP0.out.r.f.reads.below hB2) hBd.f).mono ?_
        rintro e w3 ⟨uF, rfl, hRF, hS3⟩
        refine ⟨_, rfl, ?_⟩
        obtain ⟨AF, cF, rfl, -⟩ := hRF.slice
        have hB3 : Below x0.heap.size x0 w3 := below_then hB2 hS3
        have hBlk3 := blk_below HP0.out.blk hB3
        refine hK.out _ _ ⟨cell_blk hBlk3 0, cell_blk hBlk3 1, cell_blk hBlk3 4⟩ (fun hHeld => ?_)
        clear hK K
        refine norm_ (a' := ?_) ?_ ?_
        rotate_left
        · show Act.put _ (some 12) _ = _
          simp only [Act.put, List.setIfInBounds_toArray, List.set_cons_zero, List.set_cons_succ, i64_w, i32_w]
          rfl
        refine pure_ (i := 8) (N := some 13) (v := ?_) (a' := ?_) #[true, true, true, true, true, true, true, true, true, true, false] rfl rfl (by kernel_rfl) (fun _ _ _ h => h) (Or.inl ⟨by rfl, ?_⟩) ?_ ?_
        rotate_left
        · intro w'
          go_simp
          with_reducible rfl
        rotate_left
        · simp only [Act.put, List.setIfInBounds_toArray, List.set_cons_zero, List.set_cons_succ, i64_w, i32_w]
          rfl
        refine last_ (i := 10) (N := none) #[true, true, true, true, true, true, true, true, true, true, true] rfl rfl (by kernel_rfl) (by decide) (fun K hK => ?_)
        have hz1 := hS1.size
        have hz2 := hS2.size
        have hz3 := hS3.size
        have hrG : Row w3 W.heap.size (fun _ => True) _ (.slice AG _ cG) _ := (hRG.below (below_then hS2 hS3)).lower (by omega)
        have hrF : Row w3 W.heap.size (fun _ => True) _ (.slice AF _ cF) _ := hRF.lower (by omega)
        have hne : ∀ k, (Value.slice AG (ints s.gens).length cG).ownBlock = some k → (Value.slice AF (ints s.free).length cF).ownBlock = some k → False := fun k h1 h2 => by have := hRG.lt k h1; have := hRF.base_le k h2; omega
        have hO := blk_below hRO hS3
        obtain ⟨f0, f1, f2, f3, f4⟩ := cells5 hO
        obtain ⟨g0, g1, g2, g3, g4⟩ := froz5 hO
        have hBl := lt_blk hO
        refine skip_ (w1 := ?_) (by rfl) rfl ?_ ?_
        rotate_left
        · go_simp
          first | with_reducible rfl | rfl
        refine hK.out _ _ ?_
        clear hK K
        refine done_ (by kernel_rfl) ?_
        have hT5 : ((((((w3.setCell ⟨B, 0, none⟩ (.int .i64 s.limit)).setCell ⟨B, 1, none⟩ (.slice AG (ints s.gens).length cG)).setCell ⟨B, 2, none⟩ (.slice none 0 0)).setCell ⟨B, 3, none⟩ (.slice none 0 0)).setCell ⟨B, 4, none⟩ (.slice AF (ints s.free).length cF))).heap[B]? = some (.cells #[.int .i64 s.limit, .slice AG (ints s.gens).length cG, .slice none 0 0, .slice none 0 0, .slice AF (ints s.free).length cF] TT (0, 0)) := blk_set5 hO
        have hK5 : Keep (fun k => k = B) w3 ((((((w3.setCell ⟨B, 0, none⟩ (.int .i64 s.limit)).setCell ⟨B, 1, none⟩ (.slice AG (ints s.gens).length cG)).setCell ⟨B, 2, none⟩ (.slice none 0 0)).setCell ⟨B, 3, none⟩ (.slice none 0 0)).setCell ⟨B, 4, none⟩ (.slice AF (ints s.free).length cF))) := set5_keep _ _ _ _ _ _ _
        generalize (((((w3.setCell ⟨B, 0, none⟩ (.int .i64 s.limit)).setCell ⟨B, 1, none⟩ (.slice AG (ints s.gens).length cG)).setCell ⟨B, 2, none⟩ (.slice none 0 0)).setCell ⟨B, 3, none⟩ (.slice none 0 0)).setCell ⟨B, 4, none⟩ (.slice AF (ints s.free).length cF)) = W5 at *
        have HP5 := (HP0.out.below hB3).keep hK5 (fun k hk => by subst hk; exact ⟨by omega, by omega⟩)
        have HB5 := below_then_keep (below_then hWx.out hB3) (by have := hB3.size; omega) hK5 (fun i hi => by omega)
        have HE : Aside0 (CqE w W W5 w.heap.size B s vG vA (.slice AC vs.length cC) vF vs) := ⟨⟨_, _, HB5, HP5, row_keepT hrG hO (by decide) hK5, row_keepT hrF hO (by decide) hK5, hne, hT5, by omega⟩⟩
        clear hrG hrF hne hO hT5 hK5 hRG hRF HP5 HB5 hHeld hS1 hS2 hS3 hB1 hB2 hB3 hBlk1 hBlk2 hBlk3 f0 f1 f2 f3 f4 g0 g1 g2 g3 g4 hBl hRO hgB hz1 hz2 hz3
        go_wp2_with fail
        go_meet
        exact ⟨B, rfl, HE⟩
    · skip
      refine value_ (w1 := ?_) (v := ?_) (by rfl) rfl ?_ ?_
      rotate_left 2
      · go_simp
        constructor
        · rfl
        · rfl
      have hS1 : Below x0.heap.size x0 (x0.alloc (.cells #[.int .i64 0, .slice none 0 0, .slice none 0 0, .slice none 0 0, .slice none 0 0] 30)) := below_al (Below.refl _ _) _
      have hRO : (x0.alloc (.cells #[.int .i64 0, .slice none 0 0, .slice none 0 0, .slice none 0 0, .slice none 0 0] 30)).heap[x0.heap.size]? = some (.cells #[.int .i64 0, .slice none 0 0, .slice none 0 0, .slice none 0 0, .slice none 0 0] 30 (0, 0)) := blk_new _ _
      generalize x0.alloc (.cells #[.int .i64 0, .slice none 0 0, .slice none 0 0, .slice none 0 0, .slice none 0 0] 30) = w1 at *
      obtain ⟨B, hBB⟩ : ∃ B, B = x0.heap.size := ⟨_, rfl⟩
      have hgB : x0.heap.size ≤ B := by omega
      rw [← hBB] at hRO ⊢
      have hB1 : Below x0.heap.size x0 w1 := hS1
      have hBlk1 := blk_below HP0.out.blk hB1
      clear hBB
      refine hK.out _ _ ⟨cell_blk hBlk1 0, cell_blk hBlk1 1, cell_blk hBlk1 4⟩ (fun hHeld => ?_)
      clear hK K
      refine norm_ (a' := ?_) ?_ ?_
      rotate_left
      · show Act.put _ (some 3) _ = _
        simp only [Act.put, List.setIfInBounds_toArray, List.set_cons_zero, List.set_cons_succ, i64_w, i32_w]
        rfl
      refine one_ (i := 4) (N := some 9) #[true, true, true, true, true, true, true, false, false, true, false] rfl rfl (by kernel_rfl) (by decide) (fun K hK => ?_)
      refine goes_ Try.func47 (by kernel_rfl) rfl #[vG] (by rfl) rfl rfl (by simp only [List.map_toArray, List.map_cons, List.map_nil]; rfl) ?_
      with_reducible refine (ints_ref vG _ w1 (HP0.out.r.g.reads.below hB1) hBd.g).mono ?_
      rintro e w2 ⟨uG, rfl, hRG, hS2⟩
      refine ⟨_, rfl, ?_⟩
      obtain ⟨AG, cG, rfl, -⟩ := hRG.slice
      have hB2 : Below x0.heap.size x0 w2 := below_then hB1 hS2
      have hBlk2 := blk_below HP0.out.blk hB2
      refine hK.out _ _ ⟨cell_blk hBlk2 0, cell_blk hBlk2 1, cell_blk hBlk2 4⟩ (fun hHeld => ?_)
      clear hK K
      refine norm_ (a' := ?_) ?_ ?_
      rotate_left
      · show Act.put _ (some 9) _ = _
        simp only [Act.put, List.setIfInBounds_toArray, List.set_cons_zero, List.set_cons_succ, i64_w, i32_w]
        rfl
      refine one_ (i := 7) (N := some 12) #[true, true, true, true, true, true, true, true, false, true, false] rfl rfl (by kernel_rfl) (by decide) (fun K hK => ?_)
      refine goes_ Try.func47 (by kernel_rfl) rfl #[vF] (by rfl) rfl rfl (by simp only [List.map_toArray, List.map_cons, List.map_nil]; rfl) ?_
      with_reducible refine (ints_ref vF _ w2 (HP0.out.r.f.reads.below hB2) hBd.f).mono ?_
      rintro e w3 ⟨uF, rfl, hRF, hS3⟩
      refine ⟨_, rfl, ?_⟩
      obtain ⟨AF, cF, rfl, -⟩ := hRF.slice
      have hB3 : Below x0.heap.size x0 w3 := below_then hB2 hS3
      have hBlk3 := blk_below HP0.out.blk hB3
      refine hK.out _ _ ⟨cell_blk hBlk3 0, cell_blk hBlk3 1, cell_blk hBlk3 4⟩ (fun hHeld => ?_)
      clear hK K
      refine norm_ (a' := ?_) ?_ ?_
      rotate_left
      · show Act.put _ (some 12) _ = _
        simp only [Act.put, List.setIfInBounds_toArray, List.set_cons_zero, List.set_cons_succ, i64_w, i32_w]
        rfl
      refine pure_ (i := 8) (N := some 13) (v := ?_) (a' := ?_) #[true, true, true, true, true, true, true, true, true, true, false] rfl rfl (by kernel_rfl) (fun _ _ _ h => h) (Or.inl ⟨by rfl, ?_⟩) ?_ ?_
      rotate_left
      · intro w'
        go_simp
        with_reducible rfl
      rotate_left
      · simp only [Act.put, List.setIfInBounds_toArray, List.set_cons_zero, List.set_cons_succ, i64_w, i32_w]
        rfl
      refine last_ (i := 10) (N := none) #[true, true, true, true, true, true, true, true, true, true, true] rfl rfl (by kernel_rfl) (by decide) (fun K hK => ?_)
      have hz1 := hS1.size
      have hz2 := hS2.size
      have hz3 := hS3.size
      have hrG : Row w3 W.heap.size (fun _ => True) _ (.slice AG _ cG) _ := (hRG.below hS3).lower (by omega)
      have hrF : Row w3 W.heap.size (fun _ => True) _ (.slice AF _ cF) _ := hRF.lower (by omega)
      have hne : ∀ k, (Value.slice AG (ints s.gens).length cG).ownBlock = some k → (Value.slice AF (ints s.free).length cF).ownBlock = some k → False := fun k h1 h2 => by have := hRG.lt k h1; have := hRF.base_le k h2; omega
      have hO := blk_below hRO (below_then hS2 hS3)
      obtain ⟨f0, f1, f2, f3, f4⟩ := cells5 hO
      obtain ⟨g0, g1, g2, g3, g4⟩ := froz5 hO
      have hBl := lt_blk hO
      refine skip_ (w1 := ?_) (by rfl) rfl ?_ ?_
      rotate_left
      · go_simp
        first | with_reducible rfl | rfl
      refine hK.out _ _ ?_
      clear hK K
      refine done_ (by kernel_rfl) ?_
      have hT5 : ((((((w3.setCell ⟨B, 0, none⟩ (.int .i64 s.limit)).setCell ⟨B, 1, none⟩ (.slice AG (ints s.gens).length cG)).setCell ⟨B, 2, none⟩ (.slice none 0 0)).setCell ⟨B, 3, none⟩ (.slice none 0 0)).setCell ⟨B, 4, none⟩ (.slice AF (ints s.free).length cF))).heap[B]? = some (.cells #[.int .i64 s.limit, .slice AG (ints s.gens).length cG, .slice none 0 0, .slice none 0 0, .slice AF (ints s.free).length cF] TT (0, 0)) := blk_set5 hO
      have hK5 : Keep (fun k => k = B) w3 ((((((w3.setCell ⟨B, 0, none⟩ (.int .i64 s.limit)).setCell ⟨B, 1, none⟩ (.slice AG (ints s.gens).length cG)).setCell ⟨B, 2, none⟩ (.slice none 0 0)).setCell ⟨B, 3, none⟩ (.slice none 0 0)).setCell ⟨B, 4, none⟩ (.slice AF (ints s.free).length cF))) := set5_keep _ _ _ _ _ _ _
      generalize (((((w3.setCell ⟨B, 0, none⟩ (.int .i64 s.limit)).setCell ⟨B, 1, none⟩ (.slice AG (ints s.gens).length cG)).setCell ⟨B, 2, none⟩ (.slice none 0 0)).setCell ⟨B, 3, none⟩ (.slice none 0 0)).setCell ⟨B, 4, none⟩ (.slice AF (ints s.free).length cF)) = W5 at *
      have HP5 := (HP0.out.below hB3).keep hK5 (fun k hk => by subst hk; exact ⟨by omega, by omega⟩)
      have HB5 := below_then_keep (below_then hWx.out hB3) (by have := hB3.size; omega) hK5 (fun i hi => by omega)
      have HE : Aside0 (CqE w W W5 w.heap.size B s vG vA (.slice AC vs.length cC) vF vs) := ⟨⟨_, _, HB5, HP5, row_keepT hrG hO (by decide) hK5, row_keepT hrF hO (by decide) hK5, hne, hT5, by omega⟩⟩
      clear hrG hrF hne hO hT5 hK5 hRG hRF HP5 HB5 hHeld hS1 hS2 hS3 hB1 hB2 hB3 hBlk1 hBlk2 hBlk3 f0 f1 f2 f3 f4 g0 g1 g2 g3 g4 hBl hRO hgB hz1 hz2 hz3
      go_wp2_with fail
      go_meet
      exact ⟨B, rfl, HE⟩

  case rest =>
    obtain ⟨B, rfl, ⟨uG, uF, hE⟩⟩ := hcut
    have HE := Aside0.mk hE
    clear hE
    obtain ⟨AA, cA, hvA, -⟩ := HE.out.p.r.a.slice
    rw [bools_len] at hvA
    subst hvA
    obtain ⟨AG6, cG6, hvG6, -⟩ := HE.out.g.slice
    obtain ⟨AF6, cF6, hvF6, -⟩ := HE.out.f.slice
    subst hvG6 hvF6
    obtain ⟨d0, d1, d2, d3, d4⟩ := cells5 HE.out.b
    obtain ⟨f0, f1, f2, f3, f4⟩ := froz5 HE.out.b
    obtain ⟨p0, p1, p2, p3, p4⟩ := cells5 HE.out.p.blk
    have hBl := lt_blk HE.out.b
    have hPl := lt_blk HE.out.p.blk
    

    obtain ⟨_, _, _, hRA0, hRA1, hRA2, hRA3, hRA4, hRA5⟩ := HE.out.p.r.a.reads
    injection hRA0 with e1 e2 e3
    subst e1 e2 e3
    obtain ⟨v6, w6, hr6, hrow6, hg6⟩ := row_append (P := Try.prog) (t := 27) Try.underlying27 infoBo rfl (by omega) (Row.nil wc W.heap.size (fun _ => True) 4) AA s.alive.length cA (bools s.alive) hRA1 hRA4 hRA5 (by have := hBd.a; simpa using this) HE.out.below.size
    have hB6 : Below wc.heap.size wc w6 := (grown_keep (ok := fun _ => False) hg6 (fun k hk => by simp [Value.ownBlock] at hk)).below (fun _ _ f => f)
    have hE6 := blk_below HE.out.b hB6
    have hSt : Keep (fun k => k = B) w6 (w6.setCell ⟨B, 2, none⟩ v6) := (by repeat (first | (with_reducible exact Keep.refl _ _) | (with_reducible refine Keep.drewN ?_ _) | (with_reducible refine Keep.drew ?_) | (with_reducible refine Keep.setCell ?_ _ _ (by first | (right; with_reducible rfl) | (left; simp; done) | (left; simp; omega) | (right; simp; done) | (right; assumption))) | (with_reducible refine Keep.alloc ?_ _)))
    have hT6 : (w6.setCell ⟨B, 2, none⟩ v6).heap[B]? = some (.cells #[.int .i64 s.limit, (.slice AG6 (ints s.gens).length cG6), v6, .slice none 0 0, (.slice AF6 (ints s.free).length cF6)] TT (0, 0)) := by
      have := blk_set (i := 2) (u := v6) hE6
      simpa using this
    have hB7 : Below W.heap.size W (w6.setCell ⟨B, 2, none⟩ v6) := below_then_keep (below_then HE.out.below hB6) (below_then HE.out.below hB6).size hSt (fun i hi => by subst hi; exact HE.out.bb)
    rw [List.nil_append] at hrow6
    have HP7 := Aside0.mk ((HE.out.p.below hB6).keep hSt (fun k hk => by subst hk; exact ⟨by have := HE.out.bb; omega, by have := HE.out.bb; omega⟩))
    obtain ⟨col1, hQ7, hcol1⟩ := slab_begun (by decide) (row_keepT (HE.out.g.below hB6) hE6 (by decide) hSt) (row_keepT hrow6 hE6 (by decide) hSt) (row_keepT (HE.out.f.below hB6) hE6 (by decide) hSt) HE.out.ne hT6 HE.out.bb
    have HQ7 := Aside0.mk hQ7
    have HC7 := Aside0.mk hcol1
    have HB7 := Aside0.mk hB7
    have hBW := HE.out.bb
    obtain ⟨AA6, cA6, hv6, -⟩ := hrow6.slice
    obtain ⟨q0, q1, q2, q3, q4⟩ := cells5 hE6
    obtain ⟨g0, g1, g2, g3, g4⟩ := froz5 hE6
    have hBl6 := lt_blk hE6
    clear hQ7 hcol1 hB7 hrow6 hg6 hB6 hE6 hSt hT6 hRA1 hRA2 hRA3 hRA4 hRA5 HE
    subst hv6
    go_wp2_with (first | ((with_reducible refine gate_builtin (b := .append) (xs := #[.tmp 15, .tmp 17]) rfl ?_); at_builtin; refine appL_ rfl (.tmp 15) (.tmp 17) 27 rfl rfl rfl hr6 ?_))
    clear d0 d1 d2 d3 d4 f0 f1 f2 f3 f4 p0 p1 p2 p3 p4 hBl hPl q0 q1 q2 q3 q4 g0 g1 g2 g3 g4 hBl6 hr6
    go_loopw [4] (fun i wr => ∃ (k : Nat), k ≤ vs.length ∧ i = .int .i64 k ∧ Aside0 (CqI w W w.heap.size s vG (.slice AA s.alive.length cA) (.slice AC vs.length cC) vF vs B (.slice AG6 (ints s.gens).length cG6) (.slice AA6 (bools s.alive).length cA6) (.slice AF6 (ints s.free).length cF6) k wr)) (fun i _ => vs.length - (intOf i).toNat)
    case atStart => exact ⟨0, by omega, rfl, ⟨_, [], col1, HB7.out, HP7.out, HQ7.out, HC7.out⟩⟩
    case round =>
      clear HP7 HB7 HQ7 HC7
      obtain ⟨k, hk, rfl, ⟨vC', vs', col', hB, hPr, hQ, hC⟩⟩ := hrel
      obtain ⟨AC', cC', rfl, -⟩ := hQ.r.c.slice
      have HB := Aside0.mk hB
      have HPr := Aside0.mk hPr
      have HQ := Aside0.mk hQ
      have HC := Aside0.mk hC
      have y3 := (cells5 hPr.blk).2.2.2.1
      have hyl := lt_blk hPr.blk
      clear hB hPr hQ hC
      have hws := HB.out.size
      by_cases hlt : k < vs.length
      · obtain ⟨gC, oC, cC2, he, hgC, -, hat⟩ := HPr.out.r.c.form (by omega)
        injection he with he1 he2 he3
        subst he1; subst he3
        have hkc : k < s.caches.length := by rw [← HPr.out.r.l]; exact hlt
        obtain ⟨y, hy⟩ : ∃ y, s.caches[k]? = some y := ⟨_, List.getElem?_eq_getElem hkc⟩
        obtain ⟨v, hv, hvrow⟩ := HPr.out.r.v k y hy
        have hcell := (hat k).1 _ hv
        have hxb : y.length * 8 ≤ 140737488355328 := hBd.e y (List.mem_of_getElem? hy)
        have HT := Aside0.mk (take_snocI hy)
        have HVR := Aside0.mk hvrow.reads
        obtain ⟨Av, cv, rfl, -⟩ := hvrow.slice
        have hcb : (vs'.length + 1) * 24 ≤ 140737488355328 := by
          have h1 := HQ.out.r.l
          have h2 : (s.caches.take k).length = k := by rw [List.length_take]; omega
          have h3 := hBd.c
          simp only at h1
          rw [h1, h2]
          omega
        clear hat hv hy hvrow
        go_wp2_with fail
        have hx1 : Below wr.heap.size wr wr.drew := (Below.refl _ _).drew
        have HP1 := Aside0.mk (HPr.out.below hx1)
        have HQ1 := Aside0.mk (HQ.out.below hx1)
        have hvr := HVR.out.below hx1
        have hQ0 := HQ1.out
        have hxs1 := hx1.size
        have hcell1 := pw_cell_below hx1 hcell
        refine start_ (n := 12) (S := fun w' => w'.cell? ⟨B, 3, none⟩ = some (.slice AC' vs'.length cC') ∧ w'.cell? ⟨w.heap.size, 3, none⟩ = some (.slice (some ⟨gC, oC, none⟩) vs.length cC) ∧ w'.cell? ⟨gC, oC + k, none⟩ = some (.slice Av (ints y).length cv)) (ds := [9, 11]) #[false, false, false, false, false, false, false, false, false, false, false, false] (by kernel_rfl) rfl rfl ⟨(cells5 HQ1.out.blk).2.2.2.1, (cells5 HP1.out.blk).2.2.2.1, hcell1⟩ (fun hHeld => ?_)
        generalize wr.drew = x1 at *
        refine pure_ (i := 0) (N := some 27) (v := ?_) (a' := ?_) #[true, false, false, false, false, false, false, false, false, false, false, false] rfl rfl (by kernel_rfl) (fun _ _ _ h => h) (Or.inl ⟨by rfl, ?_⟩) ?_ ?_
        rotate_left
        · intro w'
          go_simp
          with_reducible rfl
        rotate_left
        · simp only [Act.put, List.setIfInBounds_toArray, List.set_cons_zero, List.set_cons_succ, i64_w, i32_w]
          rfl
        refine pure_ (i := 2) (N := some 29) (v := ?_) (a' := ?_) #[true, false, true, false, false, false, false, false, false, false, false, false] rfl rfl (by kernel_rfl) (fun _ _ _ h => h) (Or.inl ⟨by rfl, ?_⟩) ?_ ?_
        rotate_left
        · intro w'
          go_simp
          with_reducible rfl
        rotate_left
        · simp only [Act.put, List.setIfInBounds_toArray, List.set_cons_zero, List.set_cons_succ, i64_w, i32_w]
          rfl
        refine pure_ (i := 4) (N := some 31) (v := ?_) (a' := ?_) #[true, false, true, false, true, false, false, false, false, false, false, false] rfl rfl (by kernel_rfl) (fun _ _ _ h => h) (Or.inl ⟨by rfl, ?_⟩) ?_ ?_
        rotate_left
        · intro w'
          go_simp
          with_reducible rfl
        rotate_left
        · simp only [Act.put, List.setIfInBounds_toArray, List.set_cons_zero, List.set_cons_succ, i64_w, i32_w]
          rfl
        refine take_ (i := 1) (N := some 28) (v := ?_) (a' := ?_) #[true, true, true, false, true, false, false, false, false, false, false, false] rfl rfl (by kernel_rfl) (fun _ _ _ h => h) (Or.inl ⟨by rfl, ?_⟩) hHeld ?_ ?_
        rotate_left
        · rintro w' ⟨s0, s1, s2⟩
          go_simp
          with_reducible rfl
        rotate_left
        · simp only [Act.put, List.setIfInBounds_toArray, List.set_cons_zero, List.set_cons_succ, i64_w, i32_w]
          rfl
        refine take_ (i := 3) (N := some 30) (v := ?_) (a' := ?_) #[true, true, true, true, true, false, false, false, false, false, false, false] rfl rfl (by kernel_rfl) (fun _ _ _ h => h) (Or.inl ⟨by rfl, ?_⟩) hHeld ?_ ?_
        rotate_left
        · rintro w' ⟨s0, s1, s2⟩
          go_simp
          with_reducible rfl
        rotate_left
        · simp only [Act.put, List.setIfInBounds_toArray, List.set_cons_zero, List.set_cons_succ, i64_w, i32_w]
          rfl
        refine pure_ (i := 5) (N := some 32) (v := ?_) (a' := ?_) #[true, true, true, true, true, true, false, false, false, false, false, false] rfl rfl (by kernel_rfl) (fun _ _ _ h => h) (Or.inl ⟨by rfl, ?_⟩) ?_ ?_
        rotate_left
        · intro w'
          go_simp
          with_reducible rfl
        rotate_left
        · simp only [Act.put, List.setIfInBounds_toArray, List.set_cons_zero, List.set_cons_succ, i64_w, i32_w]
          rfl
        refine take_ (i := 6) (N := some 33) (v := ?_) (a' := ?_) #[true, true, true, true, true, true, true, false, false, false, false, false] rfl rfl (by kernel_rfl) (fun _ _ _ h => h) (Or.inl ⟨by rfl, ?_⟩) hHeld ?_ ?_
        rotate_left
        · rintro w' ⟨s0, s1, s2⟩
          go_simp
          with_reducible rfl
        rotate_left
        · simp only [Act.put, List.setIfInBounds_toArray, List.set_cons_zero, List.set_cons_succ, i64_w, i32_w]
          rfl
        refine one_ (i := 7) (N := some 34) #[true, true, true, true, true, true, true, true, false, false, false, false] rfl rfl (by kernel_rfl) (by decide) (fun K hK => ?_)
        refine goes_ Try.func47 (by kernel_rfl) rfl #[.slice Av (ints y).length cv] (by rfl) rfl rfl (by simp only [List.map_toArray, List.map_cons, List.map_nil]; rfl) ?_
        with_reducible refine (ints_ref (.slice Av (ints y).length cv) _ x1 hvr hxb).mono ?_
        rintro e wA ⟨ux, rfl, hRx, hSA⟩
        refine ⟨_, rfl, ?_⟩
        obtain ⟨Ax, cx, rfl, -⟩ := hRx.slice
        have hQA := HQ1.out.below hSA
        refine hK.out _ _ ⟨(cells5 hQA.blk).2.2.2.1, (cells5 (blk_below HP1.out.blk hSA)).2.2.2.1, (pw_cell_below hSA hcell1)⟩ (fun hHeld => ?_)
        clear hK K
        refine norm_ (a' := ?_) ?_ ?_
        rotate_left
        · show Act.put _ (some 34) _ = _
          simp only [Act.put, List.setIfInBounds_toArray, List.set_cons_zero, List.set_cons_succ, i64_w, i32_w]
          rfl
        refine one_ (i := 8) (N := some 35) #[true, true, true, true, true, true, true, true, true, false, false, false] rfl rfl (by kernel_rfl) (by decide) (fun K hK => ?_)
        refine value_ (w1 := ?_) (v := ?_) (by rfl) rfl ?_ ?_
        rotate_left 2
        · go_simp
          constructor
          · rfl
          · rfl
        have hSB : Below wA.heap.size wA (wA.alloc (.cells #[.slice Ax (ints y).length cx] 26)) := below_al (Below.refl _ _) _
        have hbox : (wA.alloc (.cells #[.slice Ax (ints y).length cx] 26)).heap[wA.heap.size]? = some (.cells #[.slice Ax (ints y).length cx] 26 (0, 0)) := blk_new _ _
        generalize wA.alloc (.cells #[.slice Ax (ints y).length cx] 26) = wB at *
        have hQB := hQA.below hSB
        have hBB : Below x1.heap.size x1 wB := below_then hSA hSB
        have hsB := hBB.size
        obtain ⟨v5, w5, hr5, hrow5, hg5⟩ := row_append (P := Try.prog) (t := 28) Try.underlying28 infoSl rfl (by omega) hQB.r.c (some ⟨wA.heap.size, 0, none⟩) 1 1 [.slice Ax (ints y).length cx] rfl (fun _ => ⟨_, rfl, fun j u hj => by match j, hj with | 0, hj => (obtain rfl : Value.slice Ax (ints y).length cx = u := by simpa using hj); rw [adds]; exact cell_blk hbox 0⟩) (fun u hu => by rw [List.mem_singleton.1 hu]; rfl) hcb (by omega)
        refine hK.out _ _ ⟨(cells5 hQB.blk).2.2.2.1, (cells5 (blk_below HP1.out.blk hBB)).2.2.2.1, (pw_cell_below hBB hcell1)⟩ (fun hHeld => ?_)
        clear hK K
        refine norm_ (a' := ?_) ?_ ?_
        rotate_left
        · show Act.put _ (some 35) _ = _
          simp only [Act.put, List.setIfInBounds_toArray, List.set_cons_zero, List.set_cons_succ, i64_w, i32_w]
          rfl
        refine last_ (i := 9) (N := some 36) #[true, true, true, true, true, true, true, true, true, true, false, false] rfl rfl (by kernel_rfl) (by decide) (fun K hK => ?_)
        refine app_ (.tmp 28) (.tmp 35) 28 (by rfl) rfl rfl rfl rfl hr5 ?_
        have hK5 := grown_keep hg5 hQB.r.c.own
        obtain ⟨A5, c5, he5, -⟩ := hrow5.slice
        rw [List.length_append, List.length_singleton] at he5
        subst he5
        have hO5 := blk_keep hQB.blk hK5 (by have := hQB.one; show ¬ _ = 4; omega)
        obtain ⟨f0, f1, f2, f3, f4⟩ := cells5 hO5
        obtain ⟨g0, g1, g2, g3, g4⟩ := froz5 hO5
        have hBl5 := lt_blk hO5
        refine hK.out _ _ ?_
        clear hK K
        refine norm_ (a' := ?_) ?_ ?_
        rotate_left
        · show Act.put _ (some 36) _ = _
          simp only [Act.put, List.setIfInBounds_toArray, List.set_cons_zero, List.set_cons_succ, i64_w, i32_w]
          rfl
        refine pure_ (i := 10) (N := some 37) (v := ?_) (a' := ?_) #[true, true, true, true, true, true, true, true, true, true, true, false] rfl rfl (by kernel_rfl) (fun _ _ _ h => h) (Or.inl ⟨by rfl, ?_⟩) ?_ ?_
        rotate_left
        · intro w'
          go_simp
          with_reducible rfl
        rotate_left
        · simp only [Act.put, List.setIfInBounds_toArray, List.set_cons_zero, List.set_cons_succ, i64_w, i32_w]
          rfl
        refine last_ (i := 11) (N := none) #[true, true, true, true, true, true, true, true, true, true, true, true] rfl rfl (by kernel_rfl) (by decide) (fun K hK => ?_)
        refine skip_ (w1 := ?_) (by rfl) rfl ?_ ?_
        rotate_left
        · go_simp
          first | with_reducible rfl | rfl
        refine hK.out _ _ ?_
        clear hK K
        refine done_ (by kernel_rfl) ?_
        obtain ⟨col2, hQ2, hN2⟩ := hQ0.push (by omega) hBB (hRx.below hSB) hK5 hrow5
        have hN3 : Keep (fun k => col' k ≠ 0) wr (w5.setCell ⟨B, 3, none⟩ (.slice A5 (vs'.length + 1) c5)) := (Keep.of_below hx1).trans hN2.keep
        have HP2 := Aside0.mk (HP1.out.keep hN2.keep (fun i hi => ⟨by have := hQ0.r.b i hi; omega, by have := hQ0.r.b i hi; omega⟩))
        have HB2 := Aside0.mk (below_then_keep HB.out (by have := HB.out.size; omega) hN3 (fun i hi => hQ0.r.b i hi))
        have HQ2 := Aside0.mk hQ2
        have hc2 : ∀ k, k < W.heap.size → col2 k = 0 := fun k hk => (hN2.cols k (by omega)).trans (HC.out k hk)
        have HC2 := Aside0.mk hc2
        go_wp2
        go_roundw
        case rel => exact ⟨k + 1, by omega, by go_num, ⟨⟨_, vs' ++ [Value.slice Ax (ints y).length cx], col2, HB2.out, HP2.out, by rw [HT.out]; exact HQ2.out, HC2.out⟩⟩⟩
        case measure => simp [intOf]; omega
      · obtain rfl : k = vs.length := by omega
        obtain ⟨q0, q1, q2, q3, q4⟩ := cells5 HQ.out.blk
        have hR := blk_below hRes.out HB.out
        obtain ⟨r0, r1, r2, r3, r4⟩ := cells5 hR
        obtain ⟨p0, p1, p2, p3, p4⟩ := froz5 hR
        have hRl := lt_blk hR
        have hQl := lt_blk HQ.out.blk
        have hne : B ≠ w.heap.size + 1 := by omega
        have HR := Aside0.mk hR
        clear hR
        go_wp2
        have hk6 : Keep (fun i => i = w.heap.size + 1) wr (((((wr.setCell ⟨w.heap.size + 1, 0, none⟩ (.int .i64 s.limit)).setCell ⟨w.heap.size + 1, 1, none⟩ (.slice AG6 (ints s.gens).length cG6)).setCell ⟨w.heap.size + 1, 2, none⟩ (.slice AA6 (bools s.alive).length cA6)).setCell ⟨w.heap.size + 1, 3, none⟩ (.slice AC' vs'.length cC')).setCell ⟨w.heap.size + 1, 4, none⟩ (.slice AF6 (ints s.free).length cF6)) := set5_keep _ _ _ _ _ _ _
        have h5 := blk_set5 (u0 := .int .i64 s.limit) (u1 := (.slice AG6 (ints s.gens).length cG6)) (u2 := .slice AA6 (bools s.alive).length cA6) (u3 := .slice AC' vs'.length cC') (u4 := (.slice AF6 (ints s.free).length cF6)) HR.out
        obtain ⟨z0, z1, z2, z3, z4⟩ := cells5 h5
        have hQ := HQ.out
        have hle : s.caches.take vs.length = s.caches := by rw [HPr.out.r.l, List.take_length]
        rw [hle] at hQ
        have hcz : col' (w.heap.size + 1) = 0 := HC.out _ (by omega)
        refine bodyPost_ret (v := .agg #[.int .i64 s.limit, (.slice AG6 (ints s.gens).length cG6), .slice AA6 (bools s.alive).length cA6, .slice AC' vs'.length cC', (.slice AF6 (ints s.free).length cF6)]) (by simp [results, Try.results29, go_sem, z0, z1, z2, z3, z4]) rfl ⟨_, _, _, _, vs', col', rfl, (hQ.r.keep hk6 (fun i hi => by subst hi; rw [hcz]; omega)).lower hW.out.size, fun i hi => HC.out i (by omega), (by repeat (first | (with_reducible exact hW.out.trans (HB.out.mono hW.out.size)) | (with_reducible refine Below.drew ?_) | (with_reducible refine below_drewN ?_ _) | (with_reducible refine below_al ?_ _) | (with_reducible refine Below.alloc ?_ (by first | exact Nat.le_refl _ | omega | (simp; done) | (simp; omega)) _) | (with_reducible refine Below.setCell ?_ (by first | (simp only []; omega) | (simp; done) | (simp; omega)) _)))⟩
end Go.Proofs.Ytnglgjegkjfnaaa
