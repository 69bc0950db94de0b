/- PortOneWay: what puts answer does not hang on gets: the same puts and deliveries without any answer the same, and leave the same. No condition. -/
import Derived.Test.YtdienpcifklinaaPtF
namespace Go.Proofs.Ytdienpcifklinaa
open Go.RowKit Go.ChangeShapes Go.WideShapes Go.ChangeAt Go.Proofs.YtdienpcifklinaaW.PrintWords Go.Proofs.YtdienpcifklinaaW.PrintMore Go.Proofs.YtdienpcifklinaaW.PrintLast
theorem field_out : ∀ (a : Bool) (b l : Int) (o i : Value) (w : World), (Instr.field TZ (.agg #[.bool a, .int .i64 b, o, i, .int .i64 l]) 2).run Try.prog w = .ok o w := fun _ _ _ _ _ _ => by kernel_rfl
set_option maxRecDepth 100000 in
set_option maxHeartbeats 8000000 in
theorem PortOneWay0.walk (w : World) (q : Bool) (cap : Int) (A : Option Addr) (c : Nat) (acts : List Ac) (hC : kAc.C w A acts.length acts) (hc : acts.length ≤ c) (hl : acts.length ≤ 140737488355328) :
    Calls Try.prog 5 #[.agg #[.bool q, .int .i64 cap], .slice A acts.length c] w fun e w' => e = .returned (.bool true) ∧ Below w.heap.size w w' := by
  have HC := Aside0.mk hC
  have hA : Below w.heap.size w (w.alloc (.cells #[.bool q, .int .i64 cap] 23)) := below_al (Below.refl _ _) _
  have hX0 : Aside0 ((w.alloc (.cells #[.bool q, .int .i64 cap] 23)).drew.heap[w.heap.size]? = some (.cells #[.bool q, .int .i64 cap] 23 (0, 0))) := ⟨blk_drew (blk_new _ _)⟩
  have HB0 : Aside0 (Below w.heap.size w (w.alloc (.cells #[.bool q, .int .i64 cap] 23)).drew) := ⟨hA.drew⟩
  clear hC
  clear hA
  go_enter Try.func5, Try.ntmps5
  go_wp2_with fail
  refine start_ (n := 6) (S := fun w' => w'.cell? ⟨w.heap.size, 0, none⟩ = some (.bool q) ∧ w'.cell? ⟨w.heap.size, 1, none⟩ = some (.int .i64 cap)) (ds := []) #[false, false, false, false, false, false] (by kernel_rfl) rfl rfl ⟨cell_blk hX0.out 0, cell_blk hX0.out 1⟩ (fun hHeld => ?_)
  generalize (w.alloc (.cells #[.bool q, .int .i64 cap] 23)).drew = x0 at *
  refine take_ (i := 0) (N := some 11) (v := ?_) (a' := ?_) #[true, false, false, false, false, false] rfl rfl (by kernel_rfl) (fun _ _ _ h => h) (Or.inl ⟨by rfl, ?_⟩) hHeld ?_ ?_
  rotate_left
  · rintro w' ⟨s0, s1⟩
    go_simp
    with_reducible rfl
  rotate_left
  · simp only [Act.put, List.setIfInBounds_toArray, List.set_cons_zero, List.set_cons_succ, i64_w, i32_w]
    rfl
  refine take_ (i := 2) (N := some 13) (v := ?_) (a' := ?_) #[true, false, true, false, false, false] rfl rfl (by kernel_rfl) (fun _ _ _ h => h) (Or.inl ⟨by rfl, ?_⟩) hHeld ?_ ?_
  rotate_left
  · rintro w' ⟨s0, s1⟩
    go_simp
    with_reducible rfl
  rotate_left
  · simp only [Act.put, List.setIfInBounds_toArray, List.set_cons_zero, List.set_cons_succ, i64_w, i32_w]
    rfl
  refine one_ (i := 1) (N := some 12) #[true, true, true, false, false, false] rfl rfl (by kernel_rfl) (by decide) (fun K hK => ?_)
  refine goes_ Try.func9 (by kernel_rfl) rfl #[.agg #[.bool q, .int .i64 cap]] (by rfl) rfl rfl (by simp only [List.map_toArray, List.map_cons, List.map_nil]; rfl) ?_
  with_reducible refine (made_any q cap x0).mono ?_
  rintro e w1 ⟨pa, okp, rfl, hP1, hB1⟩
  refine ⟨_, rfl, ?_⟩
  have hX1 := blk_below hX0.out hB1
  refine hK.out _ _ ⟨cell_blk hX1 0, cell_blk hX1 1⟩ (fun hHeld => ?_)
  clear hK K
  refine norm_ (a' := ?_) ?_ ?_
  rotate_left
  · show Act.put _ (some 12) _ = _
    simp only [Act.put, List.setIfInBounds_toArray, List.set_cons_zero, List.set_cons_succ, i64_w, i32_w]
    rfl
  refine one_ (i := 3) (N := some 14) #[true, true, true, true, false, false] rfl rfl (by kernel_rfl) (by decide) (fun K hK => ?_)
  refine goes_ Try.func9 (by kernel_rfl) rfl #[.agg #[.bool q, .int .i64 cap]] (by rfl) rfl rfl (by simp only [List.map_toArray, List.map_cons, List.map_nil]; rfl) ?_
  with_reducible refine (made_any q cap w1).mono ?_
  rintro e w2 ⟨pb, okq, rfl, hP2, hB2⟩
  refine ⟨_, rfl, ?_⟩
  have hX2 := blk_below hX1 hB2
  refine hK.out _ _ ⟨cell_blk hX2 0, cell_blk hX2 1⟩ (fun hHeld => ?_)
  clear hK K
  refine norm_ (a' := ?_) ?_ ?_
  rotate_left
  · show Act.put _ (some 14) _ = _
    simp only [Act.put, List.setIfInBounds_toArray, List.set_cons_zero, List.set_cons_succ, i64_w, i32_w]
    rfl
  refine pure_ (i := 4) (N := some 5) (v := ?_) (a' := ?_) #[true, true, true, true, true, false] rfl rfl (by kernel_rfl) (fun _ _ _ h => h) (Or.inl ⟨by rfl, ?_⟩) ?_ ?_
  rotate_left
  · intro w'
    go_simp
    with_reducible rfl
  rotate_left
  · simp only [Act.put, List.setIfInBounds_toArray, List.set_cons_zero, List.set_cons_succ, i64_w, i32_w]
    rfl
  refine pure_ (i := 5) (N := some 6) (v := ?_) (a' := ?_) #[true, true, true, true, true, true] rfl rfl (by kernel_rfl) (fun _ _ _ h => h) (Or.inl ⟨by rfl, ?_⟩) ?_ ?_
  rotate_left
  · intro w'
    go_simp
    with_reducible rfl
  rotate_left
  · simp only [Act.put, List.setIfInBounds_toArray, List.set_cons_zero, List.set_cons_succ, i64_w, i32_w]
    rfl
  refine done_ (by kernel_rfl) ?_
  have hz1 := hB1.size
  have hz0 := HB0.out.size
  have H2 : Aside0 (Two w pa pb (newP q (capOk q cap)) (newP q (capOk q cap)) w2) := ⟨⟨okp, okq, (hP1.below hB2).lower hz0, hP2.lower (by omega), fun k h1 h2 => by have := (hP1.z k h1).2; have := (hP2.z k h2).1; omega, below_then HB0.out (below_then hB1 hB2)⟩⟩
  have hXb := Aside0.mk (blk_below (blk_below hX0.out hB1) hB2)
  clear hP1 hP2 hB1 hB2 hX1 hX2 hz1 hHeld
  have hq1 := peq_some pa
  have hq2 := peq_some pb
  generalize newP q (capOk q cap) = s0 at *
  go_wp2_with fail
  refine (lives_any w2).mono ?_
  rintro e w3 ⟨rfl, hB3⟩
  have H3 := Aside0.mk (H2.out.then hB3)
  clear hB3 H2 hXb hz0 hX0 HB0
  go_wp2_with fail
  go_loopw [7] (fun i wr => ∃ (k : Nat) (s t : Pt), k ≤ acts.length ∧ i = .int .i64 k ∧ SameOut s t ∧ Aside0 (Two w pa pb s t wr)) (fun i _ => acts.length - (intOf i).toNat)
  case atStart => exact ⟨0, s0, s0, by omega, rfl, ⟨rfl, rfl, rfl⟩, H3⟩
  case round =>
    clear H3
    obtain ⟨k, s, t, hk, rfl, hS, HT⟩ := hrel
    by_cases hlt : k < acts.length
    · obtain ⟨ab, off, rfl, hab⟩ := C_form HC.out (by omega) (by decide)
      obtain ⟨⟨d, v⟩, ha, e0, e1⟩ := act_at HC.out k hlt
      simp only at e0 e1
      have hBr := Aside0.mk HT.out.below
      have y0 := (hBr.out.cell (p := ⟨ab, off + k * 2, none⟩) hab).trans e0
      have y1 := (hBr.out.cell (p := ⟨ab, off + k * 2 + 1, none⟩) hab).trans e1
      have hki : (0 : Int) ≤ (k : Int) := by omega
      have hkl : (k : Int) < (acts.length : Int) := by omega
      have E1 := Aside0.mk e1
      have HS := Aside0.mk hS
      clear ha e0 e1
      rcases (show d = 0 ∨ d = 1 ∨ d = 2 ∨ (d ≠ 0 ∧ d ≠ 1 ∧ d ≠ 2) by omega) with rfl | rfl | rfl | ⟨hd, hd', hd''⟩
      · go_wp2_with fail
        have H0 := Aside0.mk (HT.out.then (Below.refl _ _).drew)
        have y1 : wr.drew.cell? ⟨ab, off + k * 2 + 1, none⟩ = some (.int .i64 v) := y1
        refine start_ (n := 15) (S := fun w' => w'.cell? ⟨ab, off + k * 2 + 1, none⟩ = some (.int .i64 v)) (ds := []) #[false, false, false, false, false, false, false, false, false, false, false, false, false, false, false] (by kernel_rfl) rfl rfl (y1) (fun hHeld => ?_)
        generalize wr.drew = x0 at *
        refine pure_ (i := 0) (N := some 38) (v := ?_) (a' := ?_) #[true, false, false, false, false, false, false, false, false, false, false, false, false, false, false] rfl rfl (by kernel_rfl) (fun _ _ _ h => h) (Or.inl ⟨by rfl, ?_⟩) ?_ ?_
        rotate_left
        · intro w'
          go_simp
          with_reducible rfl
        rotate_left
        · simp only [Act.put, List.setIfInBounds_toArray, List.set_cons_zero, List.set_cons_succ, i64_w, i32_w]
          rfl
        refine pure_ (i := 1) (N := some 39) (v := ?_) (a' := ?_) #[true, true, false, false, false, false, false, false, false, false, false, false, false, false, false] rfl rfl (by kernel_rfl) (fun _ _ _ h => h) (Or.inl ⟨by rfl, ?_⟩) ?_ ?_
        rotate_left
        · intro w'
          go_simp
          with_reducible rfl
        rotate_left
        · simp only [Act.put, List.setIfInBounds_toArray, List.set_cons_zero, List.set_cons_succ, i64_w, i32_w]
          rfl
        refine pure_ (i := 2) (N := some 40) (v := ?_) (a' := ?_) #[true, true, true, false, false, false, false, false, false, false, false, false, false, false, false] rfl rfl (by kernel_rfl) (fun _ _ _ h => h) (Or.inl ⟨by rfl, ?_⟩) ?_ ?_
        rotate_left
        · intro w'
          go_simp
          with_reducible rfl
        rotate_left
        · simp only [Act.put, List.setIfInBounds_toArray, List.set_cons_zero, List.set_cons_succ, i64_w, i32_w]
          rfl
        refine pure_ (i := 3) (N := some 41) (v := ?_) (a' := ?_) #[true, true, true, true, false, false, false, false, false, false, false, false, false, false, false] rfl rfl (by kernel_rfl) (fun _ _ _ h => h) (Or.inl ⟨by rfl, ?_⟩) ?_ ?_
        rotate_left
        · intro w'
          go_simp
          with_reducible rfl
        rotate_left
        · simp only [Act.put, List.setIfInBounds_toArray, List.set_cons_zero, List.set_cons_succ, i64_w, i32_w]
          rfl
        refine pure_ (i := 4) (N := some 42) (v := ?_) (a' := ?_) #[true, true, true, true, true, false, false, false, false, false, false, false, false, false, false] rfl rfl (by kernel_rfl) (fun _ _ _ h => h) (Or.inl ⟨by rfl, ?_⟩) ?_ ?_
        rotate_left
        · intro w'
          go_simp
          with_reducible rfl
        rotate_left
        · simp only [Act.put, List.setIfInBounds_toArray, List.set_cons_zero, List.set_cons_succ, i64_w, i32_w]
          rfl
        refine pure_ (i := 7) (N := some 45) (v := ?_) (a' := ?_) #[true, true, true, true, true, false, false, true, false, false, false, false, false, false, false] rfl rfl (by kernel_rfl) (fun _ _ _ h => h) (Or.inl ⟨by rfl, ?_⟩) ?_ ?_
        rotate_left
        · intro w'
          go_simp
          with_reducible rfl
        rotate_left
        · simp only [Act.put, List.setIfInBounds_toArray, List.set_cons_zero, List.set_cons_succ, i64_w, i32_w]
          rfl
        refine pure_ (i := 8) (N := some 46) (v := ?_) (a' := ?_) #[true, true, true, true, true, false, false, true, true, false, false, false, false, false, false] rfl rfl (by kernel_rfl) (fun _ _ _ h => h) (Or.inl ⟨by rfl, ?_⟩) ?_ ?_
        rotate_left
        · intro w'
          go_simp
          with_reducible rfl
        rotate_left
        · simp only [Act.put, List.setIfInBounds_toArray, List.set_cons_zero, List.set_cons_succ, i64_w, i32_w]
          rfl
        refine pure_ (i := 9) (N := some 47) (v := ?_) (a' := ?_) #[true, true, true, true, true, false, false, true, true, true, false, false, false, false, false] rfl rfl (by kernel_rfl) (fun _ _ _ h => h) (Or.inl ⟨by rfl, ?_⟩) ?_ ?_
        rotate_left
        · intro w'
          go_simp
          with_reducible rfl
        rotate_left
        · simp only [Act.put, List.setIfInBounds_toArray, List.set_cons_zero, List.set_cons_succ, i64_w, i32_w]
          rfl
        refine pure_ (i := 10) (N := some 48) (v := ?_) (a' := ?_) #[true, true, true, true, true, false, false, true, true, true, true, false, false, false, false] rfl rfl (by kernel_rfl) (fun _ _ _ h => h) (Or.inl ⟨by rfl, ?_⟩) ?_ ?_
        rotate_left
        · intro w'
          go_simp
          with_reducible rfl
        rotate_left
        · simp only [Act.put, List.setIfInBounds_toArray, List.set_cons_zero, List.set_cons_succ, i64_w, i32_w]
          rfl
        refine pure_ (i := 11) (N := some 49) (v := ?_) (a' := ?_) #[true, true, true, true, true, false, false, true, true, true, true, true, false, false, false] rfl rfl (by kernel_rfl) (fun _ _ _ h => h) (Or.inl ⟨by rfl, ?_⟩) ?_ ?_
        rotate_left
        · intro w'
          go_simp
          with_reducible rfl
        rotate_left
        · simp only [Act.put, List.setIfInBounds_toArray, List.set_cons_zero, List.set_cons_succ, i64_w, i32_w]
          rfl
        refine take_ (i := 5) (N := some 43) (v := ?_) (a' := ?_) #[true, true, true, true, true, true, false, true, true, true, true, true, false, false, false] rfl rfl (by kernel_rfl) (fun _ _ _ h => h) (Or.inl ⟨by rfl, ?_⟩) hHeld ?_ ?_
        rotate_left
        · intro w' s0
          go_simp
          with_reducible rfl
        rotate_left
        · simp only [Act.put, List.setIfInBounds_toArray, List.set_cons_zero, List.set_cons_succ, i64_w, i32_w]
          rfl
        refine take_ (i := 12) (N := some 50) (v := ?_) (a' := ?_) #[true, true, true, true, true, true, false, true, true, true, true, true, true, false, false] rfl rfl (by kernel_rfl) (fun _ _ _ h => h) (Or.inl ⟨by rfl, ?_⟩) hHeld ?_ ?_
        rotate_left
        · intro w' s0
          go_simp
          with_reducible rfl
        rotate_left
        · simp only [Act.put, List.setIfInBounds_toArray, List.set_cons_zero, List.set_cons_succ, i64_w, i32_w]
          rfl
        refine one_ (i := 6) (N := some 44) #[true, true, true, true, true, true, true, true, true, true, true, true, true, false, false] rfl rfl (by kernel_rfl) (by decide) (fun K hK => ?_)
        refine goes_ Try.func11 (by kernel_rfl) rfl #[.pointer (some ⟨pa, 0, none⟩), .int .i64 v] (by rfl) rfl rfl (by simp only [List.map_toArray, List.map_cons, List.map_nil]; rfl) ?_
        with_reducible refine (two_put H0.out v).mono ?_
        rintro e w4 ⟨rfl, h4⟩
        refine ⟨_, rfl, ?_⟩
        have y4 := (h4.below.cell (p := ⟨ab, off + k * 2 + 1, none⟩) hab).trans E1.out
        refine hK.out _ _ (y4) (fun hHeld => ?_)
        clear hK K
        refine norm_ (a' := ?_) ?_ ?_
        rotate_left
        · show Act.put _ (some 44) _ = _
          simp only [Act.put, List.setIfInBounds_toArray, List.set_cons_zero, List.set_cons_succ, i64_w, i32_w]
          rfl
        refine one_ (i := 13) (N := some 51) #[true, true, true, true, true, true, true, true, true, true, true, true, true, true, false] rfl rfl (by kernel_rfl) (by decide) (fun K hK => ?_)
        refine goes_ Try.func11 (by kernel_rfl) rfl #[.pointer (some ⟨pb, 0, none⟩), .int .i64 v] (by rfl) rfl rfl (by simp only [List.map_toArray, List.map_cons, List.map_nil]; rfl) ?_
        with_reducible refine (two_put h4.swap v).mono ?_
        rintro e w5 ⟨rfl, h5⟩
        refine ⟨_, rfl, ?_⟩
        have y5 := (h5.below.cell (p := ⟨ab, off + k * 2 + 1, none⟩) hab).trans E1.out
        refine hK.out _ _ (y5) (fun hHeld => ?_)
        clear hK K
        refine norm_ (a' := ?_) ?_ ?_
        rotate_left
        · show Act.put _ (some 51) _ = _
          simp only [Act.put, List.setIfInBounds_toArray, List.set_cons_zero, List.set_cons_succ, i64_w, i32_w]
          rfl
        refine pure_ (i := 14) (N := some 52) (v := ?_) (a' := ?_) #[true, true, true, true, true, true, true, true, true, true, true, true, true, true, true] rfl rfl (by kernel_rfl) (fun _ _ _ h => h) (Or.inl ⟨by rfl, ?_⟩) ?_ ?_
        rotate_left
        · intro w'
          go_simp
          with_reducible rfl
        rotate_left
        · simp only [Act.put, List.setIfInBounds_toArray, List.set_cons_zero, List.set_cons_succ, i64_w, i32_w]
          rfl
        refine done_ (by kernel_rfl) ?_
        obtain ⟨hv, hS5⟩ := hS.put v
        have H5 := Aside0.mk h5.swap
        have HS5 := Aside0.mk hS5
        clear h4 h5 hS5 y4 y5 hHeld y1
        rw [← hv]
        clear hv
        generalize putP s v = r1 at *
        generalize putP t v = r2 at *
        obtain ⟨ra, rb⟩ := r1
        simp only at H5 HS5 ⊢
        cases rb with
        | true =>
          go_wp2
          go_roundw
          case rel => exact ⟨k + 1, _, _, by omega, by go_num, HS5.out, H5⟩
          case measure => simp [intOf]; omega
        | false =>
          go_wp2
          go_roundw
          case rel => exact ⟨k + 1, _, _, by omega, by go_num, HS5.out, H5⟩
          case measure => simp [intOf]; omega
      · have hT := two_get HT.out
        go_wp2_with fail
        refine hT.mono ?_
        clear hT y0 y1
        rintro e w4 ⟨rfl, h4⟩
        have H4 := Aside0.mk h4
        have HS4 := Aside0.mk HS.out.get
        clear h4
        go_wp2
        go_roundw
        case rel => exact ⟨k + 1, _, _, by omega, by go_num, HS4.out, H4⟩
        case measure => simp [intOf]; omega
      · have hT := two_deliver HT.out
        go_wp2_with fail
        refine hT.mono ?_
        clear hT y0 y1
        rintro e w4 ⟨rfl, h4⟩
        have hT := two_deliver h4.swap
        clear h4
        go_wp2_with fail
        refine hT.mono ?_
        clear hT
        rintro e w5 ⟨rfl, h5⟩
        have H5 := Aside0.mk h5.swap
        have HS5 := Aside0.mk HS.out.deliver
        clear h5
        go_wp2
        go_roundw
        case rel => exact ⟨k + 1, _, _, by omega, by go_num, HS5.out, H5⟩
        case measure => simp [intOf]; omega
      · go_wp2
        go_roundw
        case rel => exact ⟨k + 1, s, t, by omega, by go_num, HS.out, HT⟩
        case measure => simp [intOf]; omega
    · obtain rfl : k = acts.length := by omega
      have hT := two_state HT.out
      have hfo := field_out
      have hO := Aside0.mk hS.o
      have hout : Aside0 (s.out.length ≤ 140737488355328) := ⟨by obtain ⟨okp, okq, h1, -⟩ := HT.out; have := h1.good.o; have := h1.good.c1; omega⟩
      clear hS
      go_wp2_with fail
      refine hT.mono ?_
      clear hT
      rintro e w4 ⟨vO, vI, rfl, hR1, -, hB4⟩
      have hT := two_state (HT.out.then hB4).swap
      have HR1 := Aside0.mk hR1
      have HB4 := Aside0.mk (below_then HT.out.below hB4)
      clear hR1 hB4
      go_wp2_with fail
      refine hT.mono ?_
      clear hT
      rintro e w5 ⟨vO2, vI2, rfl, hR2, -, hB5⟩
      have HR1 := Aside0.mk (Kd.R_below HR1.out hB5)
      have HR2 := Aside0.mk hR2
      have HB5 := Aside0.mk (below_then HB4.out hB5)
      obtain ⟨A1, c1, rfl, -, -⟩ := Kd.R_reads HR1.out
      obtain ⟨A2, c2, rfl, -, -⟩ := Kd.R_reads HR2.out
      rw [← hO.out] at *
      clear hR2 hB5 HB4
      generalize s.out = l at *
      have hll : l.length ≤ 140737488355328 := hout.out
      go_wp2_with fail
      go_loopw [10] (fun i wr => ∃ k : Nat, k ≤ l.length ∧ i = .int .i64 k ∧ Aside0 (Below w5.heap.size w5 wr)) (fun i _ => l.length - (intOf i).toNat)
      case atStart => exact ⟨0, by omega, rfl, ⟨Below.refl _ _⟩⟩
      case round =>
        obtain ⟨k, hk, rfl, HB6⟩ := hrel
        by_cases hlt : k < l.length
        · obtain ⟨_, _, he, -, hC1⟩ := Kd.R_reads (Kd.R_below HR1.out HB6.out)
          injection he with he1 he2 he3
          subst he1 he3
          obtain ⟨_, _, he, -, hC2⟩ := Kd.R_reads (Kd.R_below HR2.out HB6.out)
          injection he with he1 he2 he3
          subst he1 he3
          obtain ⟨g1, o1, rfl, hg1⟩ := C_form hC1 (by omega) (by decide)
          obtain ⟨g2, o2, rfl, hg2⟩ := C_form hC2 (by omega) (by decide)
          have y1 := ints_at hC1 k hlt
          have y2 := ints_at hC2 k hlt
          have hki : (0 : Int) ≤ (k : Int) := by omega
          have hkl : (k : Int) < (l.length : Int) := by omega
          generalize rd l (k : Int) = v at *
          clear hC1 hC2
          go_wp2_with fail
          go_region
          go_wp2
          go_roundw
          case rel => exact ⟨k + 1, by omega, by go_num, ⟨HB6.out.drew⟩⟩
          case measure => simp [intOf]; omega
        · obtain rfl : k = l.length := by omega
          go_wp2
          go_ret
          exact ⟨rfl, below_then HB5.out HB6.out⟩
theorem portOneWay.walk (w : World) (cs : Array Value) (x : Bool × Int) (hK : kSh.K w x cs.toList) (_ : True) (A : Option Addr) (c : Nat) (acts : List Ac) (hc : acts.length ≤ c) (hC : kAc.C w A acts.length acts) (hG : acts.length * Try.prog.bytesOf 30 ≤ reachBytes ∧ acts.length ≤ 9223372036854775807 ∧ ∀ x ∈ acts, True) :
    Calls Try.prog 5 #[.agg cs, .slice A acts.length c] w fun e w' => e = .returned (.bool true) ∧ Below w.heap.size w w' := by
  have h1 : Try.prog.bytesOf 30 = 16 := by kernel_rfl
  rw [h1] at hG
  obtain rfl : cs = #[.bool x.1, .int .i64 x.2] := Array.toList_inj.1 (kSh_open hK)
  have hg := hG.1
  unfold reachBytes at hg
  exact PortOneWay0.walk w x.1 x.2 A c acts hC hc (by omega)
theorem portOneWay.own : ownKnob Try.prog.godebug = none := by kernel_rfl
theorem portOneWay.laidOut : laidOutB Try.prog = true := by kernel_rfl
set_option maxRecDepth 100000 in
set_option maxHeartbeats 1000000 in
theorem portOneWay.lifted (os : Os) (started : os.Started) (H : Type) (enc : TypeId × Value → H)
    : ReturnsInHanded {} Try.checked os 5 .any (Rows.portOneWaySpec.pre6 enc Try.prog Try.f5 Rows.portOneWayRow.domain false) (Rows.portOneWaySpec.post enc Try.prog Try.f5 false true false false) := by
  refine returnsInHanded_of_change_sized (C := Try.checked) portOneWay.own started (by kernel_rfl) Try.func5
    (ChangeSpec.witness6 (enc := enc) (C := Try.checked) false ⟨#[], #[.agg #[.bool false, .int .i64 0], .slice none 0 0], []⟩ 8 (by kernel_rfl) (by kernel_rfl) (by kernel_rfl) (by kernel_rfl)) ?_
  intro W base args ds gs before hval0 hW hcnd hsz0 _
  have hsz : (DataW.weightsEach Try.prog (Try.f5.params.toList ++ Rows.portOneWaySpec.plain.varTypes Try.prog) (ds ++ gs)).all (· ≤ reachBytes) = true := hsz0
  have hval : ∀ (j : Nat) t v, Try.f5.params[j]? = some t → args[j]? = some v → Value.okWide Try.prog W .any base t v := hval0
  have hW' := hW
  obtain ⟨p, q, hA0, hV, rfl, hfz, hnd⟩ := hW
  have hA : DataW.TrodAll enc Try.prog W 0 (fun _ => true) true Try.f5.params.toList args.toList ds p := hA0
  rw [Try.params5] at hA hval hsz
  obtain ⟨v0, vs0, d0, ds0, p0, q0, hargs, rfl, rfl, h0, r0⟩ := trodAll_cons hA
  obtain ⟨v1, vs1, d1, ds1, p1, q1, rfl, rfl, rfl, h1, r1⟩ := trodAll_cons r0
  obtain ⟨rfl, rfl, rfl⟩ := trodAll_nil r1
  obtain rfl : args = #[v0, v1] := by cases args; simp_all
  obtain ⟨rfl, rfl⟩ := trodVars_none hV
  have k0 := h0
  have lt0 : ∀ x ∈ p0, x.block < W.heap.size := by obtain ⟨m, hm⟩ := k0; exact DataW.trod_lt m _ _ _ hm
  have W0 := Op.weights_of hsz (j := 0) (t := 23) (d := d0) rfl rfl
  obtain ⟨cs0, rfl, sz0⟩ := okWide_struct Try.underlying23 (hval 0 23 v0 rfl rfl)
  obtain ⟨f0, hf0⟩ := h0
  obtain ⟨a0, hK0, hG0, hM0⟩ := opensSh H enc W _ true f0 _ (d0, p0) hf0 W0
  have k1 := h1
  have lt1 : ∀ x ∈ p1, x.block < W.heap.size := by obtain ⟨m, hm⟩ := k1; exact DataW.trod_lt m _ _ _ hm
  have W1 := Op.weights_of hsz (j := 1) (t := 24) (d := d1) rfl rfl
  obtain ⟨A1, len1, cap1, rfl⟩ := okWide_slice Try.underlying24 (hval 1 24 v1 rfl rfl)
  obtain ⟨f1, hf1⟩ := h1
  obtain ⟨a1, hK1, hG1, hM1⟩ := opensActs H enc W _ true f1 _ (d1, p1) hf1 W1
  obtain ⟨A', c', he1, hc1, hC1⟩ := hK1
  obtain ⟨rfl, rfl, rfl⟩ : A1 = A' ∧ len1 = a1.length ∧ cap1 = c' := by simpa [Value.cells] using he1
  clear hA0 hval0 hsz0 hsz
  refine (portOneWay.walk W cs0 a0 hK0 hG0 A1 cap1 a1 hc1 hC1 hG1).mono fun e W' ⟨he, bel⟩ => ?_
  subst he
  exact ⟨_, rfl, _, _, _, [], _, [], hW', trodAll_mk1 (shut_bool Try.underlying4 _), (trodAll_cons_mk (Below.trod portOneWay.laidOut (by kernel_rfl) (of_decide_eq_true (by kernel_rfl)) k0 bel lt0) (trodAll_cons_mk (Below.trod portOneWay.laidOut (by kernel_rfl) (of_decide_eq_true (by kernel_rfl)) k1 bel lt1) trodAll_mk0)), rfl, bel.frame _, fun h => by cases h⟩
theorem portOneWay_holds : Rows.PortOneWaySaid :=
  OpenClaim.holds_of_wide 5 Try.f5 rfl rfl rfl rfl rfl rfl rfl ⟨rfl, rfl, rfl, rfl, rfl⟩ rfl rfl rfl rfl rfl (by kernel_rfl) Try.func5 (by kernel_rfl)
    (of_decide_eq_true (by kernel_rfl)) (by unfold Func.isWrapper; first | (rw [if_pos (by decide +kernel)]; kernel_rfl) | (rw [if_neg (by decide +kernel)]; exact ⟨rfl, rfl⟩))
    (fun os started H enc _ => portOneWay.lifted os started H enc)
#print axioms portOneWay_holds

end Go.Proofs.Ytdienpcifklinaa
