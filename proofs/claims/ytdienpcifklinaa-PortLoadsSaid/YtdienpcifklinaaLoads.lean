/- PortLoads: Load of any state, and calls behind it. No condition. -/
import Derived.Test.YtdienpcifklinaaPtZ
set_option linter.unusedSimpArgs false
set_option linter.unusedVariables false
namespace Go.Proofs.Ytdienpcifklinaa
open Go.RowKit Go.ChangeShapes Go.WideShapes Go.ChangeAt Go.Proofs.YtdienpcifklinaaW.PrintWords Go.Proofs.YtdienpcifklinaaW.PrintMore Go.Proofs.YtdienpcifklinaaW.PrintLast PPortOwn
/-! PortLoads: printed by gen15g.py. -/
set_option maxRecDepth 100000 in
set_option maxHeartbeats 8000000 in
theorem PortLoads0.walk (w : World) (s : Pt) (vO vI : Value) (hR : SttR w s vO vI) (hi : s.inn.length ≤ 8796093022208) (ho : s.out.length ≤ 17592186044416) (A : Option Addr) (c : Nat) (acts : List Ac) (hC : kAc.C w A acts.length acts) (hc : acts.length ≤ c) (hl : acts.length ≤ 140737488355328) :
    Calls Try.prog 7 #[.agg #[.bool s.q, .int .i64 s.cap, vO, vI, .int .i64 s.lost], .slice A acts.length c] w fun e w' => e = .returned (.bool true) ∧ Below w.heap.size w w' := by
  have HC := Aside0.mk hC
  have HR := Aside0.mk hR
  obtain ⟨AO, cO, AI, cI, rfl, rfl, -, -, -, -⟩ := hR
  have HB0 : Aside0 (Below w.heap.size w (w.alloc (.cells #[.bool s.q, .int .i64 s.cap, .slice AO s.out.length cO, .slice AI s.inn.length cI, .int .i64 s.lost] TZ))) := ⟨below_al (Below.refl _ _) _⟩
  have hX0 : Aside0 ((w.alloc (.cells #[.bool s.q, .int .i64 s.cap, .slice AO s.out.length cO, .slice AI s.inn.length cI, .int .i64 s.lost] TZ)).heap[w.heap.size]? = some (.cells #[.bool s.q, .int .i64 s.cap, .slice AO s.out.length cO, .slice AI s.inn.length cI, .int .i64 s.lost] TZ (0, 0))) := ⟨blk_new _ _⟩
  clear hC
  go_enter Try.func7, Try.ntmps7
  go_wp2_with fail
  generalize (w.alloc (.cells #[.bool s.q, .int .i64 s.cap, .slice AO s.out.length cO, .slice AI s.inn.length cI, .int .i64 s.lost] TZ)) = W at *
  refine (copy_c (HR.out.below HB0.out) hi ho).mono ?_
  rintro e w1 ⟨vO1, vI1, rfl, hS1, hB1⟩
  obtain ⟨A1, c1, A2, c2, rfl, rfl, -, -, -, -⟩ := stt_reads hS1
  have HB1 := Aside0.mk (below_then HB0.out (hB1.mono (Nat.le_refl _)))
  have hX1 := blk_below hX0.out hB1
  have HX1 := Aside0.mk hX1
  have HS1 := Aside0.mk hS1.rd
  clear hS1 hB1 hX1 hX0 HB0
  go_wp2_with fail
  refine (port_load HS1.out hi ho).mono ?_
  rintro e w2 ⟨hB2, ⟨hm, b, ok, rfl, hP⟩ | ⟨hm, rfl⟩⟩
  · have hX2 := blk_below HX1.out hB2
    obtain ⟨x0, x1, x2, x3, x4⟩ := cells5 hX2
    have hP2 := hP.lower HB1.out.size
    have HB2 := Aside0.mk (below_then HB1.out (hB2.mono (Nat.le_refl _)))
    have HP2 := Aside0.mk hP2
    clear hX2 hB2 hP hP2
    go_wp2_with fail
    refine (rload_yes (HR.out.below HB2.out) hi ho hm).mono ?_
    rintro e w3 ⟨vO3, vI3, rfl, hS3, hB3⟩
    obtain ⟨A3, c3, A4, c4, rfl, rfl, -, -, -, -⟩ := stt_reads hS3
    have H3 : Aside0 (Plays w b w3.heap.size s (w3.alloc (.cells #[.bool s.q, .int .i64 s.cap, .slice A3 s.out.length c3, .slice A4 s.inn.length c4, .int .i64 s.lost] TZ))) := ⟨plays_new HB2.out HP2.out hS3 hB3 (below_al (Below.refl _ _) _) (Nat.le_refl _) (blk_new _ _)⟩
    have hpn := pne_some b
    have hpe := peq_some b
    clear hS3 hB3 x0 x1 x2 x3 x4
    go_wp2_with fail
    refine (lives_any (w3.alloc (.cells #[.bool s.q, .int .i64 s.cap, .slice A3 s.out.length c3, .slice A4 s.inn.length c4, .int .i64 s.lost] TZ))).mono ?_
    rintro e w4 ⟨rfl, hB4⟩
    have H4 := Aside0.mk (H3.out.then hB4)
    obtain ⟨L, hL⟩ : ∃ L, w3.heap.size = L := ⟨_, rfl⟩
    rw [hL] at H4 ⊢
    clear hB4 H3 hL HP2 HB2 HB1 HX1 HS1
    obtain ⟨ok, P, vO, vI, hPL⟩ := H4.out
    obtain ⟨AO, cO, AI, cI, rfl, rfl⟩ := hPL.cut
    have HD := Aside0.mk (hPL.then (Below.refl _ _).drew)
    clear hPL H4
    go_wp2_with fail
    refine start_ (n := 5) (S := fun w' => w'.cell? ⟨L, 0, none⟩ = some (.bool s.q) ∧ w'.cell? ⟨L, 1, none⟩ = some (.int .i64 s.cap) ∧ w'.cell? ⟨L, 2, none⟩ = some (.slice AO s.out.length cO) ∧ w'.cell? ⟨L, 3, none⟩ = some (.slice AI s.inn.length cI) ∧ w'.cell? ⟨L, 4, none⟩ = some (.int .i64 s.lost)) (ds := []) #[false, false, false, false, false] (by kernel_rfl) rfl rfl ⟨cell_blk HD.out.blk 0, cell_blk HD.out.blk 1, cell_blk HD.out.blk 2, cell_blk HD.out.blk 3, cell_blk HD.out.blk 4⟩ (fun hHeld => ?_)
    generalize w4.drew = x0 at *
    refine pure_ (i := 0) (N := some 38) (v := ?_) (a' := ?_) #[true, false, false, false, false] rfl rfl (by kernel_rfl) (fun _ _ _ h => h) (Or.inl ⟨by rfl, ?_⟩) ?_ ?_
    rotate_left
    · intro w'
      go_simp
      with_reducible rfl
    rotate_left
    · simp only [Act.put, List.setIfInBounds_toArray, List.set_cons_zero, List.set_cons_succ, i64_w, i32_w]
      rfl
    refine take_ (i := 2) (N := some 40) (v := ?_) (a' := ?_) #[true, false, true, false, false] rfl rfl (by kernel_rfl) (fun _ _ _ h => h) (Or.inl ⟨by rfl, ?_⟩) hHeld ?_ ?_
    rotate_left
    · rintro w' ⟨s0, s1, s2, s3, s4⟩
      go_simp
      with_reducible rfl
    rotate_left
    · simp only [Act.put, List.setIfInBounds_toArray, List.set_cons_zero, List.set_cons_succ, i64_w, i32_w]
      rfl
    refine one_ (i := 1) (N := some 39) #[true, true, true, false, false] rfl rfl (by kernel_rfl) (by decide) (fun K hK => ?_)
    refine goes_ Try.func18 (by kernel_rfl) rfl #[.pointer (some ⟨b, 0, none⟩)] (by rfl) rfl rfl (by simp only [List.map_toArray, List.map_cons, List.map_nil]; rfl) ?_
    with_reducible refine (port_state HD.out.d.port).mono ?_
    rintro e w3 ⟨vO1, vI1, rfl, hR1, hR2, hB3⟩
    refine ⟨_, rfl, ?_⟩
    obtain ⟨A1, c1, rfl⟩ := Kd.R_slice hR1
    obtain ⟨A2, c2, rfl⟩ := Kd.R_slice hR2
    have hX3 := blk_below HD.out.blk hB3
    refine hK.out _ _ ⟨cell_blk hX3 0, cell_blk hX3 1, cell_blk hX3 2, cell_blk hX3 3, cell_blk hX3 4⟩ (fun hHeld => ?_)
    clear hK K
    refine norm_ (a' := ?_) ?_ ?_
    rotate_left
    · show Act.put _ (some 39) _ = _
      simp only [Act.put, List.setIfInBounds_toArray, List.set_cons_zero, List.set_cons_succ, i64_w, i32_w]
      rfl
    refine one_ (i := 3) (N := some 41) #[true, true, true, true, false] rfl rfl (by kernel_rfl) (by decide) (fun K hK => ?_)
    refine goes_ Try.func17 (by kernel_rfl) rfl #[.agg #[.bool s.q, .int .i64 s.cap, .slice A1 s.out.length c1, .slice A2 s.inn.length c2, .int .i64 s.lost], .agg #[.bool s.q, .int .i64 s.cap, .slice AO s.out.length cO, .slice AI s.inn.length cI, .int .i64 s.lost]] (by rfl) rfl rfl (by simp only [List.map_toArray, List.map_cons, List.map_nil]; rfl) ?_
    with_reducible refine (same_any ⟨hR1, hR2⟩ (HD.out.d.st.below hB3) HD.out.d.port.good).mono ?_
    rintro e w4 ⟨rfl, hB4⟩
    refine ⟨_, rfl, ?_⟩
    have hX4 := blk_below hX3 hB4
    refine hK.out _ _ ⟨cell_blk hX4 0, cell_blk hX4 1, cell_blk hX4 2, cell_blk hX4 3, cell_blk hX4 4⟩ (fun hHeld => ?_)
    clear hK K
    refine norm_ (a' := ?_) ?_ ?_
    rotate_left
    · show Act.put _ (some 41) _ = _
      simp only [Act.put, List.setIfInBounds_toArray, List.set_cons_zero, List.set_cons_succ, i64_w, i32_w]
      rfl
    refine pure_ (i := 4) (N := some 9) (v := ?_) (a' := ?_) #[true, true, true, true, true] rfl rfl (by kernel_rfl) (fun _ _ _ h => h) (Or.inl ⟨by rfl, ?_⟩) ?_ ?_
    rotate_left
    · intro w'
      go_simp
      with_reducible rfl
    rotate_left
    · simp only [Act.put, List.setIfInBounds_toArray, List.set_cons_zero, List.set_cons_succ, i64_w, i32_w]
      rfl
    refine done_ (by kernel_rfl) ?_
    have H4 := Aside0.mk ((HD.out.then hB3).then hB4)
    clear hX3 hX4 hHeld hR1 hR2 hB3 hB4
    have H5 : Aside0 (Plays w b L s w4) := ⟨_, _, _, _, H4.out⟩
    clear H4 HD
    go_wp2_with fail
    go_loopw [9, 10] (fun a i wr => ∃ (k : Nat) (s : Pt), k ≤ acts.length ∧ a = .bool true ∧ i = .int .i64 k ∧ Aside0 (Plays w b L s wr)) (fun _ i _ => acts.length - (intOf i).toNat)
    case atStart => exact ⟨0, s, by omega, rfl, rfl, H5⟩
    case round =>
      clear H5
      obtain ⟨k, s, hk, rfl, rfl, HT⟩ := hrel
      by_cases hlt : k < acts.length
      · skip
        obtain ⟨ab, off, rfl, hab⟩ := C_form HC.out (by omega) (by decide)
        obtain ⟨⟨d, v⟩, ha, e0, e1⟩ := act_at HC.out k hlt
        simp only at e0 e1
        have E0 := Aside0.mk e0
        have E1 := Aside0.mk e1
        clear ha e0 e1
        obtain ⟨ok, P, vO, vI, hPL⟩ := HT.out
        obtain ⟨AO, cO, AI, cI, rfl, rfl⟩ := hPL.cut
        have HD := Aside0.mk (hPL.then (Below.refl _ _).drew)
        have hki : (0 : Int) ≤ (k : Int) := by omega
        have hkl : (k : Int) < (acts.length : Int) := by omega
        clear hPL
        go_wp2_with fail
        have x0c := (HD.out.d.below.cell (p := ⟨ab, off + k * 2, none⟩) hab).trans E0.out
        have x1c := (HD.out.d.below.cell (p := ⟨ab, off + k * 2 + 1, none⟩) hab).trans E1.out
        refine start_ (n := 12) (S := fun w' => w'.cell? ⟨L, 0, none⟩ = some (.bool s.q) ∧ w'.cell? ⟨L, 1, none⟩ = some (.int .i64 s.cap) ∧ w'.cell? ⟨L, 2, none⟩ = some (.slice AO s.out.length cO) ∧ w'.cell? ⟨L, 3, none⟩ = some (.slice AI s.inn.length cI) ∧ w'.cell? ⟨L, 4, none⟩ = some (.int .i64 s.lost) ∧ w'.cell? ⟨ab, off + k * 2, none⟩ = some (.int .i64 d) ∧ w'.cell? ⟨ab, off + k * 2 + 1, none⟩ = some (.int .i64 v)) (ds := [10]) #[false, false, false, false, false, false, false, false, false, false, false, false] (by kernel_rfl) rfl rfl ⟨cell_blk HD.out.blk 0, cell_blk HD.out.blk 1, cell_blk HD.out.blk 2, cell_blk HD.out.blk 3, cell_blk HD.out.blk 4, x0c, x1c⟩ (fun hHeld => ?_)
        generalize wr.drew = x0 at *
        refine pure_ (i := 0) (N := some 52) (v := ?_) (a' := ?_) #[true, false, false, false, false, false, false, false, false, false, false, false] rfl rfl (by kernel_rfl) (fun _ _ _ h => h) (Or.inl ⟨by rfl, ?_⟩) ?_ ?_
        rotate_left
        · intro w'
          go_simp
          with_reducible rfl
        rotate_left
        · simp only [Act.put, List.setIfInBounds_toArray, List.set_cons_zero, List.set_cons_succ, i64_w, i32_w]
          rfl
        refine pure_ (i := 2) (N := some 54) (v := ?_) (a' := ?_) #[true, false, true, false, false, false, false, false, false, false, false, false] rfl rfl (by kernel_rfl) (fun _ _ _ h => h) (Or.inl ⟨by rfl, ?_⟩) ?_ ?_
        rotate_left
        · intro w'
          go_simp
          with_reducible rfl
        rotate_left
        · simp only [Act.put, List.setIfInBounds_toArray, List.set_cons_zero, List.set_cons_succ, i64_w, i32_w]
          rfl
        refine pure_ (i := 3) (N := some 55) (v := ?_) (a' := ?_) #[true, false, true, true, false, false, false, false, false, false, false, false] rfl rfl (by kernel_rfl) (fun _ _ _ h => h) (Or.inl ⟨by rfl, ?_⟩) ?_ ?_
        rotate_left
        · intro w'
          go_simp
          with_reducible rfl
        rotate_left
        · simp only [Act.put, List.setIfInBounds_toArray, List.set_cons_zero, List.set_cons_succ, i64_w, i32_w]
          rfl
        refine pure_ (i := 4) (N := some 56) (v := ?_) (a' := ?_) #[true, false, true, true, true, false, false, false, false, false, false, false] rfl rfl (by kernel_rfl) (fun _ _ _ h => h) (Or.inl ⟨by rfl, ?_⟩) ?_ ?_
        rotate_left
        · intro w'
          go_simp
          with_reducible rfl
        rotate_left
        · simp only [Act.put, List.setIfInBounds_toArray, List.set_cons_zero, List.set_cons_succ, i64_w, i32_w]
          rfl
        refine take_ (i := 1) (N := some 53) (v := ?_) (a' := ?_) #[true, true, true, true, true, false, false, false, false, false, false, false] rfl rfl (by kernel_rfl) (fun _ _ _ h => h) (Or.inl ⟨by rfl, ?_⟩) hHeld ?_ ?_
        rotate_left
        · rintro w' ⟨s0, s1, s2, s3, s4, s5, s6⟩
          go_simp
          with_reducible rfl
        rotate_left
        · simp only [Act.put, List.setIfInBounds_toArray, List.set_cons_zero, List.set_cons_succ, i64_w, i32_w]
          rfl
        refine take_ (i := 5) (N := some 57) (v := ?_) (a' := ?_) #[true, true, true, true, true, true, false, false, false, false, false, false] rfl rfl (by kernel_rfl) (fun _ _ _ h => h) (Or.inl ⟨by rfl, ?_⟩) hHeld ?_ ?_
        rotate_left
        · rintro w' ⟨s0, s1, s2, s3, s4, s5, s6⟩
          go_simp
          with_reducible rfl
        rotate_left
        · simp only [Act.put, List.setIfInBounds_toArray, List.set_cons_zero, List.set_cons_succ, i64_w, i32_w]
          rfl
        refine one_ (i := 6) (N := some 58) #[true, true, true, true, true, true, true, false, false, false, false, false] rfl rfl (by kernel_rfl) (by decide) (fun K hK => ?_)
        refine goes_ Try.func16 (by kernel_rfl) rfl #[.pointer (some ⟨b, 0, none⟩), .agg #[.bool s.q, .int .i64 s.cap, .slice AO s.out.length cO, .slice AI s.inn.length cI, .int .i64 s.lost], .agg #[.int .i64 d, .int .i64 v]] (by rfl) rfl rfl (by simp only [List.map_toArray, List.map_cons, List.map_nil]; rfl) ?_
        with_reducible refine (does_any (d, v) HD.out.d).mono ?_
        rintro e w4 ⟨vO1, vI1, ok1, P1, rfl, hD4, hg1, hg2, hk4⟩
        refine ⟨_, rfl, ?_⟩
        obtain ⟨A1, c1, A2, c2, rfl, rfl, -, -, -, -⟩ := stt_reads hD4.st
        have hL4 := blk_keep HD.out.blk hk4 (fun h => h.elim HD.out.nok HD.out.nP)
        have y0 := (hD4.below.cell (p := ⟨ab, off + k * 2, none⟩) hab).trans E0.out
        have y1 := (hD4.below.cell (p := ⟨ab, off + k * 2 + 1, none⟩) hab).trans E1.out
        refine hK.out _ _ ⟨cell_blk hL4 0, cell_blk hL4 1, cell_blk hL4 2, cell_blk hL4 3, cell_blk hL4 4, y0, y1⟩ (fun hHeld => ?_)
        clear hK K
        refine norm_ (a' := ?_) ?_ ?_
        rotate_left
        · show Act.put _ (some 58) _ = _
          simp only [Act.put, List.setIfInBounds_toArray, List.set_cons_zero, List.set_cons_succ, i64_w, i32_w]
          rfl
        refine pure_ (i := 7) (N := some 51) (v := ?_) (a' := ?_) #[true, true, true, true, true, true, true, true, false, false, false, false] rfl rfl (by kernel_rfl) (fun _ _ _ h => h) (Or.inl ⟨by rfl, ?_⟩) ?_ ?_
        rotate_left
        · intro w'
          go_simp
          with_reducible rfl
        rotate_left
        · simp only [Act.put, List.setIfInBounds_toArray, List.set_cons_zero, List.set_cons_succ, i64_w, i32_w]
          rfl
        refine pure_ (i := 8) (N := some 59) (v := ?_) (a' := ?_) #[true, true, true, true, true, true, true, true, true, false, false, false] rfl rfl (by kernel_rfl) (fun _ _ _ h => h) (Or.inl ⟨by rfl, ?_⟩) ?_ ?_
        rotate_left
        · intro w'
          go_simp
          with_reducible rfl
        rotate_left
        · simp only [Act.put, List.setIfInBounds_toArray, List.set_cons_zero, List.set_cons_succ, i64_w, i32_w]
          rfl
        refine pure_ (i := 9) (N := some 60) (v := ?_) (a' := ?_) #[true, true, true, true, true, true, true, true, true, true, false, false] rfl rfl (by kernel_rfl) (fun _ _ _ h => h) (Or.inl ⟨by rfl, ?_⟩) ?_ ?_
        rotate_left
        · intro w'
          go_simp
          with_reducible rfl
        rotate_left
        · simp only [Act.put, List.setIfInBounds_toArray, List.set_cons_zero, List.set_cons_succ, i64_w, i32_w]
          rfl
        refine last_ (i := 10) (N := none) #[true, true, true, true, true, true, true, true, true, true, true, false] rfl rfl (by kernel_rfl) (by decide) (fun K hK => ?_)
        obtain ⟨z0, z1, z2, z3, z4⟩ := cells5 hL4
        obtain ⟨z5, z6, z7, z8, z9⟩ := froz5 hL4
        have hZl := lt_blk hL4
        refine skip_ (w1 := ?_) (by rfl) rfl ?_ ?_
        rotate_left
        · go_simp
          first | with_reducible rfl | rfl
        refine hK.out _ _ ?_
        clear hK K
        refine pure_ (i := 11) (N := some 9) (v := ?_) (a' := ?_) #[true, true, true, true, true, true, true, true, true, true, true, true] rfl rfl (by kernel_rfl) (fun _ _ _ h => h) (Or.inl ⟨by rfl, ?_⟩) ?_ ?_
        rotate_left
        · intro w'
          go_simp
          with_reducible rfl
        rotate_left
        · simp only [Act.put, List.setIfInBounds_toArray, List.set_cons_zero, List.set_cons_succ, i64_w, i32_w]
          rfl
        refine done_ (by kernel_rfl) ?_
        have H5 : Aside0 (Plays w b L (doP s (d, v)) _) := ⟨⟨_, _, _, _, HD.out.store hD4 hg1 hg2 hk4⟩⟩
        generalize doP s (d, v) = s1 at *
        clear z0 z1 z2 z3 z4 z5 z6 z7 z8 z9 hL4 hD4 hg1 hg2 hk4 hHeld y0 y1 hZl
        go_wp2
        go_roundw
        case rel => exact ⟨k + 1, _, by omega, rfl, by go_num, H5⟩
        case measure => simp [intOf]; omega
      · obtain rfl : k = acts.length := by omega
        obtain ⟨ok, P, vO, vI, hPL⟩ := HT.out
        obtain ⟨AO, cO, AI, cI, rfl, rfl⟩ := hPL.cut
        have HD := Aside0.mk (hPL.then (Below.refl _ _).drew)
        clear hPL
        go_wp2_with fail
        refine start_ (n := 8) (S := fun w' => w'.cell? ⟨L, 0, none⟩ = some (.bool s.q) ∧ w'.cell? ⟨L, 1, none⟩ = some (.int .i64 s.cap) ∧ w'.cell? ⟨L, 2, none⟩ = some (.slice AO s.out.length cO) ∧ w'.cell? ⟨L, 3, none⟩ = some (.slice AI s.inn.length cI) ∧ w'.cell? ⟨L, 4, none⟩ = some (.int .i64 s.lost)) (ds := []) #[false, false, false, false, false, false, false, false] (by kernel_rfl) rfl rfl ⟨cell_blk HD.out.blk 0, cell_blk HD.out.blk 1, cell_blk HD.out.blk 2, cell_blk HD.out.blk 3, cell_blk HD.out.blk 4⟩ (fun hHeld => ?_)
        generalize wr.drew = x0 at *
        refine pure_ (i := 0) (N := some 61) (v := ?_) (a' := ?_) #[true, false, false, false, false, false, false, false] rfl rfl (by kernel_rfl) (fun _ _ _ h => h) (Or.inl ⟨by rfl, ?_⟩) ?_ ?_
        rotate_left
        · intro w'
          go_simp
          with_reducible rfl
        rotate_left
        · simp only [Act.put, List.setIfInBounds_toArray, List.set_cons_zero, List.set_cons_succ, i64_w, i32_w]
          rfl
        refine pure_ (i := 1) (N := some 62) (v := ?_) (a' := ?_) #[true, true, false, false, false, false, false, false] rfl rfl (by kernel_rfl) (fun _ _ _ h => h) (Or.inl ⟨by rfl, ?_⟩) ?_ ?_
        rotate_left
        · intro w'
          go_simp
          with_reducible rfl
        rotate_left
        · simp only [Act.put, List.setIfInBounds_toArray, List.set_cons_zero, List.set_cons_succ, i64_w, i32_w]
          rfl
        refine pure_ (i := 2) (N := some 63) (v := ?_) (a' := ?_) #[true, true, true, false, false, false, false, false] rfl rfl (by kernel_rfl) (fun _ _ _ h => h) (Or.inl ⟨by rfl, ?_⟩) ?_ ?_
        rotate_left
        · intro w'
          go_simp
          with_reducible rfl
        rotate_left
        · simp only [Act.put, List.setIfInBounds_toArray, List.set_cons_zero, List.set_cons_succ, i64_w, i32_w]
          rfl
        refine take_ (i := 4) (N := some 65) (v := ?_) (a' := ?_) #[true, true, true, false, true, false, false, false] rfl rfl (by kernel_rfl) (fun _ _ _ h => h) (Or.inl ⟨by rfl, ?_⟩) hHeld ?_ ?_
        rotate_left
        · rintro w' ⟨s0, s1, s2, s3, s4⟩
          go_simp
          with_reducible rfl
        rotate_left
        · simp only [Act.put, List.setIfInBounds_toArray, List.set_cons_zero, List.set_cons_succ, i64_w, i32_w]
          rfl
        refine one_ (i := 3) (N := some 64) #[true, true, true, true, true, false, false, false] rfl rfl (by kernel_rfl) (by decide) (fun K hK => ?_)
        refine goes_ Try.func18 (by kernel_rfl) rfl #[.pointer (some ⟨b, 0, none⟩)] (by rfl) rfl rfl (by simp only [List.map_toArray, List.map_cons, List.map_nil]; rfl) ?_
        with_reducible refine (port_state HD.out.d.port).mono ?_
        rintro e w3 ⟨vO1, vI1, rfl, hR1, hR2, hB3⟩
        refine ⟨_, rfl, ?_⟩
        obtain ⟨A1, c1, rfl⟩ := Kd.R_slice hR1
        obtain ⟨A2, c2, rfl⟩ := Kd.R_slice hR2
        have hX3 := blk_below HD.out.blk hB3
        refine hK.out _ _ ⟨cell_blk hX3 0, cell_blk hX3 1, cell_blk hX3 2, cell_blk hX3 3, cell_blk hX3 4⟩ (fun hHeld => ?_)
        clear hK K
        refine norm_ (a' := ?_) ?_ ?_
        rotate_left
        · show Act.put _ (some 64) _ = _
          simp only [Act.put, List.setIfInBounds_toArray, List.set_cons_zero, List.set_cons_succ, i64_w, i32_w]
          rfl
        refine one_ (i := 5) (N := some 66) #[true, true, true, true, true, true, false, false] rfl rfl (by kernel_rfl) (by decide) (fun K hK => ?_)
        refine goes_ Try.func17 (by kernel_rfl) rfl #[.agg #[.bool s.q, .int .i64 s.cap, .slice A1 s.out.length c1, .slice A2 s.inn.length c2, .int .i64 s.lost], .agg #[.bool s.q, .int .i64 s.cap, .slice AO s.out.length cO, .slice AI s.inn.length cI, .int .i64 s.lost]] (by rfl) rfl rfl (by simp only [List.map_toArray, List.map_cons, List.map_nil]; rfl) ?_
        with_reducible refine (same_any ⟨hR1, hR2⟩ (HD.out.d.st.below hB3) HD.out.d.port.good).mono ?_
        rintro e w4 ⟨rfl, hB4⟩
        refine ⟨_, rfl, ?_⟩
        have hX4 := blk_below hX3 hB4
        refine hK.out _ _ ⟨cell_blk hX4 0, cell_blk hX4 1, cell_blk hX4 2, cell_blk hX4 3, cell_blk hX4 4⟩ (fun hHeld => ?_)
        clear hK K
        refine norm_ (a' := ?_) ?_ ?_
        rotate_left
        · show Act.put _ (some 66) _ = _
          simp only [Act.put, List.setIfInBounds_toArray, List.set_cons_zero, List.set_cons_succ, i64_w, i32_w]
          rfl
        refine pure_ (i := 6) (N := some 67) (v := ?_) (a' := ?_) #[true, true, true, true, true, true, true, false] rfl rfl (by kernel_rfl) (fun _ _ _ h => h) (Or.inl ⟨by rfl, ?_⟩) ?_ ?_
        rotate_left
        · intro w'
          go_simp
          with_reducible rfl
        rotate_left
        · simp only [Act.put, List.setIfInBounds_toArray, List.set_cons_zero, List.set_cons_succ, i64_w, i32_w]
          rfl
        refine pure_ (i := 7) (N := some 4) (v := ?_) (a' := ?_) #[true, true, true, true, true, true, true, true] rfl rfl (by kernel_rfl) (fun _ _ _ h => h) (Or.inl ⟨by rfl, ?_⟩) ?_ ?_
        rotate_left
        · intro w'
          go_simp
          with_reducible rfl
        rotate_left
        · simp only [Act.put, List.setIfInBounds_toArray, List.set_cons_zero, List.set_cons_succ, i64_w, i32_w]
          rfl
        refine done_ (by kernel_rfl) ?_
        have H4 := Aside0.mk ((HD.out.then hB3).then hB4)
        clear hX3 hX4 hHeld hR1 hR2 hB3 hB4
        go_wp2
        go_ret
        exact ⟨rfl, H4.out.d.below⟩
  · have hX2 := blk_below HX1.out hB2
    obtain ⟨x0, x1, x2, x3, x4⟩ := cells5 hX2
    have HB2 := Aside0.mk (below_then HB1.out (hB2.mono (Nat.le_refl _)))
    clear hX2 hB2
    go_wp2_with fail
    refine (rload_no (HR.out.below HB2.out) hi ho hm).mono ?_
    rintro e w3 ⟨A3, c3, A4, c4, rfl, hB3⟩
    have hpn := pne_none
    have hpe := peq_none
    have HB3 := Aside0.mk (below_then HB2.out hB3)
    clear hB3 x0 x1 x2 x3 x4
    go_wp2_with fail
    refine (lives_any _).mono ?_
    rintro e w4 ⟨rfl, hB4⟩
    have HB4 := Aside0.mk (below_then HB3.out (Below.trans (below_al (Below.refl _ _) _) (hB4.mono (by simp))))
    clear hB4 HB3 HB2
    go_wp2
    go_ret
    exact ⟨rfl, HB4.out⟩
theorem portLoads.walk (w : World) (cs : Array Value) (s : Pt) (hK : kZ.K w s cs.toList) (hG1 : s.out.length * 8 ≤ reachBytes ∧ s.inn.length * 16 ≤ reachBytes) (A : Option Addr) (c : Nat) (acts : List Ac) (hc : acts.length ≤ c) (hC : kAc.C w A acts.length acts) (hG : acts.length * Try.prog.bytesOf 30 ≤ reachBytes ∧ acts.length ≤ 9223372036854775807 ∧ ∀ x ∈ acts, True) :
    Calls Try.prog 7 #[.agg cs, .slice A acts.length c] w fun e w' => e = .returned (.bool true) ∧ Below w.heap.size w w' := by
  have h1 : Try.prog.bytesOf 30 = 16 := by kernel_rfl
  rw [h1] at hG
  obtain ⟨vO, vI, hcs, hR⟩ := kZ_open hK
  obtain rfl : cs = #[.bool s.q, .int .i64 s.cap, vO, vI, .int .i64 s.lost] := Array.toList_inj.1 hcs
  have hg := hG.1
  have hg1 := hG1.1
  have hg2 := hG1.2
  unfold reachBytes at hg hg1 hg2
  exact PortLoads0.walk w s vO vI hR (by omega) (by omega) A c acts hC hc (by omega)
theorem portLoads.own : ownKnob Try.prog.godebug = none := by kernel_rfl
theorem portLoads.laidOut : laidOutB Try.prog = true := by kernel_rfl
set_option maxRecDepth 100000 in
set_option maxHeartbeats 1000000 in
theorem portLoads.lifted (os : Os) (started : os.Started) (H : Type) (enc : TypeId × Value → H)
    : ReturnsInHanded {} Try.checked os 7 .any (Rows.portLoadsSpec.pre6 enc Try.prog Try.f7 Rows.portLoadsRow.domain false) (Rows.portLoadsSpec.post enc Try.prog Try.f7 false true false false) := by
  refine returnsInHanded_of_change_sized (C := Try.checked) portLoads.own started (by kernel_rfl) Try.func7
    (ChangeSpec.witness6 (enc := enc) (C := Try.checked) false ⟨#[], #[.agg #[.bool false, .int .i64 0, .slice none 0 0, .slice none 0 0, .int .i64 0], .slice none 0 0], []⟩ 8 (by kernel_rfl) (by kernel_rfl) (by kernel_rfl) (by kernel_rfl)) ?_
  intro W base args ds gs before hval0 hW hcnd hsz0 _
  have hsz : (DataW.weightsEach Try.prog (Try.f7.params.toList ++ Rows.portLoadsSpec.plain.varTypes Try.prog) (ds ++ gs)).all (· ≤ reachBytes) = true := hsz0
  have hval : ∀ (j : Nat) t v, Try.f7.params[j]? = some t → args[j]? = some v → Value.okWide Try.prog W .any base t v := hval0
  have hW' := hW
  obtain ⟨p, q, hA0, hV, rfl, hfz, hnd⟩ := hW
  have hA : DataW.TrodAll enc Try.prog W 0 (fun _ => true) true Try.f7.params.toList args.toList ds p := hA0
  rw [Try.params7] at hA hval hsz
  obtain ⟨v0, vs0, d0, ds0, p0, q0, hargs, rfl, rfl, h0, r0⟩ := trodAll_cons hA
  obtain ⟨v1, vs1, d1, ds1, p1, q1, rfl, rfl, rfl, h1, r1⟩ := trodAll_cons r0
  obtain ⟨rfl, rfl, rfl⟩ := trodAll_nil r1
  obtain rfl : args = #[v0, v1] := by cases args; simp_all
  obtain ⟨rfl, rfl⟩ := trodVars_none hV
  have k0 := h0
  have lt0 : ∀ x ∈ p0, x.block < W.heap.size := by obtain ⟨m, hm⟩ := k0; exact DataW.trod_lt m _ _ _ hm
  have W0 := Op.weights_of hsz (j := 0) (t := 40) (d := d0) rfl rfl
  obtain ⟨cs0, rfl, sz0⟩ := okWide_struct Try.underlying40 (hval 0 40 v0 rfl rfl)
  obtain ⟨f0, hf0⟩ := h0
  obtain ⟨a0, hK0, hG0, hM0⟩ := opensZ H enc W _ true f0 _ (d0, p0) hf0 W0
  have k1 := h1
  have lt1 : ∀ x ∈ p1, x.block < W.heap.size := by obtain ⟨m, hm⟩ := k1; exact DataW.trod_lt m _ _ _ hm
  have W1 := Op.weights_of hsz (j := 1) (t := 24) (d := d1) rfl rfl
  obtain ⟨A1, len1, cap1, rfl⟩ := okWide_slice Try.underlying24 (hval 1 24 v1 rfl rfl)
  obtain ⟨f1, hf1⟩ := h1
  obtain ⟨a1, hK1, hG1, hM1⟩ := opensActs H enc W _ true f1 _ (d1, p1) hf1 W1
  obtain ⟨A', c', he1, hc1, hC1⟩ := hK1
  obtain ⟨rfl, rfl, rfl⟩ : A1 = A' ∧ len1 = a1.length ∧ cap1 = c' := by simpa [Value.cells] using he1
  clear hA0 hval0 hsz0 hsz
  refine (portLoads.walk W cs0 a0 hK0 hG0 A1 cap1 a1 hc1 hC1 hG1).mono fun e W' ⟨he, bel⟩ => ?_
  subst he
  exact ⟨_, rfl, _, _, _, [], _, [], hW', trodAll_mk1 (shut_bool Try.underlying4 _), (trodAll_cons_mk (Below.trod portLoads.laidOut (by kernel_rfl) (of_decide_eq_true (by kernel_rfl)) k0 bel lt0) (trodAll_cons_mk (Below.trod portLoads.laidOut (by kernel_rfl) (of_decide_eq_true (by kernel_rfl)) k1 bel lt1) trodAll_mk0)), rfl, bel.frame _, fun h => by cases h⟩
theorem portLoads_holds : Rows.PortLoadsSaid :=
  OpenClaim.holds_of_wide 7 Try.f7 rfl rfl rfl rfl rfl rfl rfl ⟨rfl, rfl, rfl, rfl, rfl⟩ rfl rfl rfl rfl rfl (by kernel_rfl) Try.func7 (by kernel_rfl)
    (of_decide_eq_true (by kernel_rfl)) (by unfold Func.isWrapper; first | (rw [if_pos (by decide +kernel)]; kernel_rfl) | (rw [if_neg (by decide +kernel)]; exact ⟨rfl, rfl⟩))
    (fun os started H enc _ => portLoads.lifted os started H enc)
#print axioms portLoads_holds

end Go.Proofs.Ytdienpcifklinaa
