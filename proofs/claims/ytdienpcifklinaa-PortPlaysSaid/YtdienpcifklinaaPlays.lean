/- PortPlays: New of any shape, and every script of calls, answer by answer. No condition. -/
import Derived.Test.YtdienpcifklinaaPtY
set_option linter.unusedSimpArgs false
set_option linter.unusedVariables false
namespace Go.Proofs.Ytdienpcifklinaa
open Go.RowKit Go.ChangeShapes Go.WideShapes Go.ChangeAt Go.Proofs.YtdienpcifklinaaW.PrintWords Go.Proofs.YtdienpcifklinaaW.PrintMore Go.Proofs.YtdienpcifklinaaW.PrintLast PPortOwn
/-! PortPlays: printed by gen15g.py. -/
set_option maxRecDepth 100000 in
set_option maxHeartbeats 8000000 in
theorem PortPlays0.walk (w : World) (q : Bool) (cap : Int) (A : Option Addr) (c : Nat) (acts : List Ac) (hC : kAc.C w A acts.length acts) (hc : acts.length ≤ c) (hl : acts.length ≤ 140737488355328) :
    Calls Try.prog 4 #[.agg #[.bool q, .int .i64 cap], .slice A acts.length c] w fun e w' => e = .returned (.bool true) ∧ Below w.heap.size w w' := by
  have HC := Aside0.mk hC
  have HB0 : Aside0 (Below w.heap.size w (w.alloc (.cells #[.bool q, .int .i64 cap] 23))) := ⟨below_al (Below.refl _ _) _⟩
  have hX0 : Aside0 ((w.alloc (.cells #[.bool q, .int .i64 cap] 23)).heap[w.heap.size]? = some (.cells #[.bool q, .int .i64 cap] 23 (0, 0))) := ⟨blk_new _ _⟩
  clear hC
  go_enter Try.func4, Try.ntmps4
  go_wp2_with fail
  generalize (w.alloc (.cells #[.bool q, .int .i64 cap] 23)) = W at *
  refine (port_new q cap W).mono ?_
  rintro e w1 ⟨hB1, ⟨hs, b, ok, rfl, hP⟩ | ⟨hs, rfl⟩⟩
  · have hX1 := blk_below hX0.out hB1
    have y0 := cell_blk hX1 0
    have y1 := cell_blk hX1 1
    simp only [List.getElem?_toArray, List.getElem?_cons_zero, List.getElem?_cons_succ] at y0 y1
    have HB1 := Aside0.mk hB1
    clear hX1 hB1
    go_wp2_with fail
    refine (newr_any q cap w1 hs).mono ?_
    rintro e w2 ⟨vO, vI, rfl, hS, hB2⟩
    have hP1 := hP.lower HB0.out.size
    generalize newP q cap = s at *
    obtain ⟨AO, cO, AI, cI, rfl, rfl, -, -, -, -⟩ := stt_reads hS
    have H3 : Aside0 (Plays w b w2.heap.size s (w2.alloc (.cells #[.bool s.q, .int .i64 s.cap, .slice AO s.out.length cO, .slice AI s.inn.length cI, .int .i64 s.lost] TZ))) := ⟨plays_new (below_then HB0.out (HB1.out.mono (Nat.le_refl _))) hP1 hS hB2 (below_al (Below.refl _ _) _) (Nat.le_refl _) (blk_new _ _)⟩
    have hpn := pne_some b
    have hpe := peq_some b
    have HLs : Aside0 (w.heap.size ≤ w2.heap.size) := ⟨by have := HB0.out.size; have := HB1.out.size; have := hB2.size; omega⟩
    clear hS hB2 hP1 hP y0 y1
    go_wp2_with fail
    refine (lives_any (w2.alloc (.cells #[.bool s.q, .int .i64 s.cap, .slice AO s.out.length cO, .slice AI s.inn.length cI, .int .i64 s.lost] TZ))).mono ?_
    rintro e w3 ⟨rfl, hB3⟩
    have H4 := Aside0.mk (H3.out.then hB3)
    obtain ⟨L, hL⟩ : ∃ L, w2.heap.size = L := ⟨_, rfl⟩
    rw [hL] at H4 ⊢
    clear hB3 H3 hL hX0
    clear HLs HB0 HB1
    go_wp2_with fail
    go_loopw [9, 10] (fun a i wr => ∃ (k : Nat) (s : Pt), k ≤ acts.length ∧ i = .int .i64 k ∧ Aside0 (Plays w b L s wr)) (fun _ i _ => acts.length - (intOf i).toNat)
    case atStart => exact ⟨0, s, by omega, rfl, H4⟩
    case round =>
      clear H4
      obtain ⟨k, s, hk, rfl, HT⟩ := hrel
      by_cases hlt : k < acts.length
      · skip
        obtain ⟨ab, off, rfl, hab⟩ := C_form HC.out (by omega) (by decide)
        obtain ⟨⟨d, v⟩, ha, e0, e1⟩ := act_at HC.out k hlt
        simp only at e0 e1
        have E0 := Aside0.mk e0
        have E1 := Aside0.mk e1
        clear ha e0 e1
        obtain ⟨ok, P, vO, vI, hPL⟩ := HT.out
        obtain ⟨AO, cO, AI, cI, rfl, rfl⟩ := hPL.cut
        have HD := Aside0.mk (hPL.then (Below.refl _ _).drew)
        have hki : (0 : Int) ≤ (k : Int) := by omega
        have hkl : (k : Int) < (acts.length : Int) := by omega
        clear hPL
        go_wp2_with fail
        have x0c := (HD.out.d.below.cell (p := ⟨ab, off + k * 2, none⟩) hab).trans E0.out
        have x1c := (HD.out.d.below.cell (p := ⟨ab, off + k * 2 + 1, none⟩) hab).trans E1.out
        refine start_ (n := 12) (S := fun w' => w'.cell? ⟨L, 0, none⟩ = some (.bool s.q) ∧ w'.cell? ⟨L, 1, none⟩ = some (.int .i64 s.cap) ∧ w'.cell? ⟨L, 2, none⟩ = some (.slice AO s.out.length cO) ∧ w'.cell? ⟨L, 3, none⟩ = some (.slice AI s.inn.length cI) ∧ w'.cell? ⟨L, 4, none⟩ = some (.int .i64 s.lost) ∧ w'.cell? ⟨ab, off + k * 2, none⟩ = some (.int .i64 d) ∧ w'.cell? ⟨ab, off + k * 2 + 1, none⟩ = some (.int .i64 v)) (ds := [10]) #[false, false, false, false, false, false, false, false, false, false, false, false] (by kernel_rfl) rfl rfl ⟨cell_blk HD.out.blk 0, cell_blk HD.out.blk 1, cell_blk HD.out.blk 2, cell_blk HD.out.blk 3, cell_blk HD.out.blk 4, x0c, x1c⟩ (fun hHeld => ?_)
        generalize wr.drew = x0 at *
        refine pure_ (i := 0) (N := some 50) (v := ?_) (a' := ?_) #[true, false, false, false, false, false, false, false, false, false, false, false] rfl rfl (by kernel_rfl) (fun _ _ _ h => h) (Or.inl ⟨by rfl, ?_⟩) ?_ ?_
        rotate_left
        · intro w'
          go_simp
          with_reducible rfl
        rotate_left
        · simp only [Act.put, List.setIfInBounds_toArray, List.set_cons_zero, List.set_cons_succ, i64_w, i32_w]
          rfl
        refine pure_ (i := 2) (N := some 52) (v := ?_) (a' := ?_) #[true, false, true, false, false, false, false, false, false, false, false, false] rfl rfl (by kernel_rfl) (fun _ _ _ h => h) (Or.inl ⟨by rfl, ?_⟩) ?_ ?_
        rotate_left
        · intro w'
          go_simp
          with_reducible rfl
        rotate_left
        · simp only [Act.put, List.setIfInBounds_toArray, List.set_cons_zero, List.set_cons_succ, i64_w, i32_w]
          rfl
        refine pure_ (i := 3) (N := some 53) (v := ?_) (a' := ?_) #[true, false, true, true, false, false, false, false, false, false, false, false] rfl rfl (by kernel_rfl) (fun _ _ _ h => h) (Or.inl ⟨by rfl, ?_⟩) ?_ ?_
        rotate_left
        · intro w'
          go_simp
          with_reducible rfl
        rotate_left
        · simp only [Act.put, List.setIfInBounds_toArray, List.set_cons_zero, List.set_cons_succ, i64_w, i32_w]
          rfl
        refine pure_ (i := 4) (N := some 54) (v := ?_) (a' := ?_) #[true, false, true, true, true, false, false, false, false, false, false, false] rfl rfl (by kernel_rfl) (fun _ _ _ h => h) (Or.inl ⟨by rfl, ?_⟩) ?_ ?_
        rotate_left
        · intro w'
          go_simp
          with_reducible rfl
        rotate_left
        · simp only [Act.put, List.setIfInBounds_toArray, List.set_cons_zero, List.set_cons_succ, i64_w, i32_w]
          rfl
        refine take_ (i := 1) (N := some 51) (v := ?_) (a' := ?_) #[true, true, true, true, true, false, false, false, false, false, false, false] rfl rfl (by kernel_rfl) (fun _ _ _ h => h) (Or.inl ⟨by rfl, ?_⟩) hHeld ?_ ?_
        rotate_left
        · rintro w' ⟨s0, s1, s2, s3, s4, s5, s6⟩
          go_simp
          with_reducible rfl
        rotate_left
        · simp only [Act.put, List.setIfInBounds_toArray, List.set_cons_zero, List.set_cons_succ, i64_w, i32_w]
          rfl
        refine take_ (i := 5) (N := some 55) (v := ?_) (a' := ?_) #[true, true, true, true, true, true, false, false, false, false, false, false] rfl rfl (by kernel_rfl) (fun _ _ _ h => h) (Or.inl ⟨by rfl, ?_⟩) hHeld ?_ ?_
        rotate_left
        · rintro w' ⟨s0, s1, s2, s3, s4, s5, s6⟩
          go_simp
          with_reducible rfl
        rotate_left
        · simp only [Act.put, List.setIfInBounds_toArray, List.set_cons_zero, List.set_cons_succ, i64_w, i32_w]
          rfl
        refine one_ (i := 6) (N := some 56) #[true, true, true, true, true, true, true, false, false, false, false, false] rfl rfl (by kernel_rfl) (by decide) (fun K hK => ?_)
        refine goes_ Try.func16 (by kernel_rfl) rfl #[.pointer (some ⟨b, 0, none⟩), .agg #[.bool s.q, .int .i64 s.cap, .slice AO s.out.length cO, .slice AI s.inn.length cI, .int .i64 s.lost], .agg #[.int .i64 d, .int .i64 v]] (by rfl) rfl rfl (by simp only [List.map_toArray, List.map_cons, List.map_nil]; rfl) ?_
        with_reducible refine (does_any (d, v) HD.out.d).mono ?_
        rintro e w4 ⟨vO1, vI1, ok1, P1, rfl, hD4, hg1, hg2, hk4⟩
        refine ⟨_, rfl, ?_⟩
        obtain ⟨A1, c1, A2, c2, rfl, rfl, -, -, -, -⟩ := stt_reads hD4.st
        have hL4 := blk_keep HD.out.blk hk4 (fun h => h.elim HD.out.nok HD.out.nP)
        have y0 := (hD4.below.cell (p := ⟨ab, off + k * 2, none⟩) hab).trans E0.out
        have y1 := (hD4.below.cell (p := ⟨ab, off + k * 2 + 1, none⟩) hab).trans E1.out
        refine hK.out _ _ ⟨cell_blk hL4 0, cell_blk hL4 1, cell_blk hL4 2, cell_blk hL4 3, cell_blk hL4 4, y0, y1⟩ (fun hHeld => ?_)
        clear hK K
        refine norm_ (a' := ?_) ?_ ?_
        rotate_left
        · show Act.put _ (some 56) _ = _
          simp only [Act.put, List.setIfInBounds_toArray, List.set_cons_zero, List.set_cons_succ, i64_w, i32_w]
          rfl
        refine pure_ (i := 7) (N := some 49) (v := ?_) (a' := ?_) #[true, true, true, true, true, true, true, true, false, false, false, false] rfl rfl (by kernel_rfl) (fun _ _ _ h => h) (Or.inl ⟨by rfl, ?_⟩) ?_ ?_
        rotate_left
        · intro w'
          go_simp
          with_reducible rfl
        rotate_left
        · simp only [Act.put, List.setIfInBounds_toArray, List.set_cons_zero, List.set_cons_succ, i64_w, i32_w]
          rfl
        refine pure_ (i := 8) (N := some 57) (v := ?_) (a' := ?_) #[true, true, true, true, true, true, true, true, true, false, false, false] rfl rfl (by kernel_rfl) (fun _ _ _ h => h) (Or.inl ⟨by rfl, ?_⟩) ?_ ?_
        rotate_left
        · intro w'
          go_simp
          with_reducible rfl
        rotate_left
        · simp only [Act.put, List.setIfInBounds_toArray, List.set_cons_zero, List.set_cons_succ, i64_w, i32_w]
          rfl
        refine pure_ (i := 9) (N := some 58) (v := ?_) (a' := ?_) #[true, true, true, true, true, true, true, true, true, true, false, false] rfl rfl (by kernel_rfl) (fun _ _ _ h => h) (Or.inl ⟨by rfl, ?_⟩) ?_ ?_
        rotate_left
        · intro w'
          go_simp
          with_reducible rfl
        rotate_left
        · simp only [Act.put, List.setIfInBounds_toArray, List.set_cons_zero, List.set_cons_succ, i64_w, i32_w]
          rfl
        refine last_ (i := 10) (N := none) #[true, true, true, true, true, true, true, true, true, true, true, false] rfl rfl (by kernel_rfl) (by decide) (fun K hK => ?_)
        obtain ⟨z0, z1, z2, z3, z4⟩ := cells5 hL4
        obtain ⟨z5, z6, z7, z8, z9⟩ := froz5 hL4
        have hZl := lt_blk hL4
        refine skip_ (w1 := ?_) (by rfl) rfl ?_ ?_
        rotate_left
        · go_simp
          first | with_reducible rfl | rfl
        refine hK.out _ _ ?_
        clear hK K
        refine pure_ (i := 11) (N := some 9) (v := ?_) (a' := ?_) #[true, true, true, true, true, true, true, true, true, true, true, true] rfl rfl (by kernel_rfl) (fun _ _ _ h => h) (Or.inl ⟨by rfl, ?_⟩) ?_ ?_
        rotate_left
        · intro w'
          go_simp
          with_reducible rfl
        rotate_left
        · simp only [Act.put, List.setIfInBounds_toArray, List.set_cons_zero, List.set_cons_succ, i64_w, i32_w]
          rfl
        refine done_ (by kernel_rfl) ?_
        have H5 : Aside0 (Plays w b L (doP s (d, v)) _) := ⟨⟨_, _, _, _, HD.out.store hD4 hg1 hg2 hk4⟩⟩
        generalize doP s (d, v) = s1 at *
        clear z0 z1 z2 z3 z4 z5 z6 z7 z8 z9 hL4 hD4 hg1 hg2 hk4 hHeld y0 y1 hZl
        go_wp2
        go_roundw
        case rel => exact ⟨k + 1, _, by omega, by go_num, H5⟩
        case measure => simp [intOf]; omega
      · obtain rfl : k = acts.length := by omega
        obtain ⟨ok, P, vO, vI, hPL⟩ := HT.out
        obtain ⟨AO, cO, AI, cI, rfl, rfl⟩ := hPL.cut
        have HD := Aside0.mk (hPL.then (Below.refl _ _).drew)
        clear hPL
        go_wp2_with fail
        refine start_ (n := 5) (S := fun w' => w'.cell? ⟨L, 0, none⟩ = some (.bool s.q) ∧ w'.cell? ⟨L, 1, none⟩ = some (.int .i64 s.cap) ∧ w'.cell? ⟨L, 2, none⟩ = some (.slice AO s.out.length cO) ∧ w'.cell? ⟨L, 3, none⟩ = some (.slice AI s.inn.length cI) ∧ w'.cell? ⟨L, 4, none⟩ = some (.int .i64 s.lost)) (ds := []) #[false, false, false, false, false] (by kernel_rfl) rfl rfl ⟨cell_blk HD.out.blk 0, cell_blk HD.out.blk 1, cell_blk HD.out.blk 2, cell_blk HD.out.blk 3, cell_blk HD.out.blk 4⟩ (fun hHeld => ?_)
        generalize wr.drew = x0 at *
        refine pure_ (i := 0) (N := some 61) (v := ?_) (a' := ?_) #[true, false, false, false, false] rfl rfl (by kernel_rfl) (fun _ _ _ h => h) (Or.inl ⟨by rfl, ?_⟩) ?_ ?_
        rotate_left
        · intro w'
          go_simp
          with_reducible rfl
        rotate_left
        · simp only [Act.put, List.setIfInBounds_toArray, List.set_cons_zero, List.set_cons_succ, i64_w, i32_w]
          rfl
        refine take_ (i := 2) (N := some 63) (v := ?_) (a' := ?_) #[true, false, true, false, false] rfl rfl (by kernel_rfl) (fun _ _ _ h => h) (Or.inl ⟨by rfl, ?_⟩) hHeld ?_ ?_
        rotate_left
        · rintro w' ⟨s0, s1, s2, s3, s4⟩
          go_simp
          with_reducible rfl
        rotate_left
        · simp only [Act.put, List.setIfInBounds_toArray, List.set_cons_zero, List.set_cons_succ, i64_w, i32_w]
          rfl
        refine one_ (i := 1) (N := some 62) #[true, true, true, false, false] rfl rfl (by kernel_rfl) (by decide) (fun K hK => ?_)
        refine goes_ Try.func18 (by kernel_rfl) rfl #[.pointer (some ⟨b, 0, none⟩)] (by rfl) rfl rfl (by simp only [List.map_toArray, List.map_cons, List.map_nil]; rfl) ?_
        with_reducible refine (port_state HD.out.d.port).mono ?_
        rintro e w3 ⟨vO1, vI1, rfl, hR1, hR2, hB3⟩
        refine ⟨_, rfl, ?_⟩
        obtain ⟨A1, c1, rfl⟩ := Kd.R_slice hR1
        obtain ⟨A2, c2, rfl⟩ := Kd.R_slice hR2
        have hX3 := blk_below HD.out.blk hB3
        refine hK.out _ _ ⟨cell_blk hX3 0, cell_blk hX3 1, cell_blk hX3 2, cell_blk hX3 3, cell_blk hX3 4⟩ (fun hHeld => ?_)
        clear hK K
        refine norm_ (a' := ?_) ?_ ?_
        rotate_left
        · show Act.put _ (some 62) _ = _
          simp only [Act.put, List.setIfInBounds_toArray, List.set_cons_zero, List.set_cons_succ, i64_w, i32_w]
          rfl
        refine one_ (i := 3) (N := some 64) #[true, true, true, true, false] rfl rfl (by kernel_rfl) (by decide) (fun K hK => ?_)
        refine goes_ Try.func17 (by kernel_rfl) rfl #[.agg #[.bool s.q, .int .i64 s.cap, .slice A1 s.out.length c1, .slice A2 s.inn.length c2, .int .i64 s.lost], .agg #[.bool s.q, .int .i64 s.cap, .slice AO s.out.length cO, .slice AI s.inn.length cI, .int .i64 s.lost]] (by rfl) rfl rfl (by simp only [List.map_toArray, List.map_cons, List.map_nil]; rfl) ?_
        with_reducible refine (same_any ⟨hR1, hR2⟩ (HD.out.d.st.below hB3) HD.out.d.port.good).mono ?_
        rintro e w4 ⟨rfl, hB4⟩
        refine ⟨_, rfl, ?_⟩
        have hX4 := blk_below hX3 hB4
        refine hK.out _ _ ⟨cell_blk hX4 0, cell_blk hX4 1, cell_blk hX4 2, cell_blk hX4 3, cell_blk hX4 4⟩ (fun hHeld => ?_)
        clear hK K
        refine norm_ (a' := ?_) ?_ ?_
        rotate_left
        · show Act.put _ (some 64) _ = _
          simp only [Act.put, List.setIfInBounds_toArray, List.set_cons_zero, List.set_cons_succ, i64_w, i32_w]
          rfl
        refine pure_ (i := 4) (N := some 4) (v := ?_) (a' := ?_) #[true, true, true, true, true] rfl rfl (by kernel_rfl) (fun _ _ _ h => h) (Or.inl ⟨by rfl, ?_⟩) ?_ ?_
        rotate_left
        · intro w'
          go_simp
          with_reducible rfl
        rotate_left
        · simp only [Act.put, List.setIfInBounds_toArray, List.set_cons_zero, List.set_cons_succ, i64_w, i32_w]
          rfl
        refine done_ (by kernel_rfl) ?_
        have H4 := Aside0.mk ((HD.out.then hB3).then hB4)
        clear hX3 hX4 hHeld hR1 hR2 hB3 hB4
        go_wp2
        go_ret
        exact ⟨rfl, H4.out.d.below⟩
  · have hX1 := blk_below hX0.out hB1
    have y0 := cell_blk hX1 0
    have y1 := cell_blk hX1 1
    simp only [List.getElem?_toArray, List.getElem?_cons_zero, List.getElem?_cons_succ] at y0 y1
    have HB1 := Aside0.mk (below_then HB0.out (hB1.mono (Nat.le_refl _)))
    clear hX1 hB1
    go_wp2_with fail
    refine (newr_no q cap w1 hs).mono ?_
    rintro e w2 ⟨A1, c1, A2, c2, rfl, hB2⟩
    have hpn := pne_none
    have hpe := peq_none
    have HB2 := Aside0.mk (below_then HB1.out hB2)
    clear hB2
    go_wp2_with fail
    refine (lives_any _).mono ?_
    rintro e w3 ⟨rfl, hB3⟩
    have HB3 := Aside0.mk (below_then HB2.out (Below.trans (below_al (Below.refl _ _) _) (hB3.mono (by simp))))
    clear hB3 HB2 HB1
    go_wp2
    go_ret
    exact ⟨rfl, HB3.out⟩
theorem portPlays.walk (w : World) (cs : Array Value) (x : Bool × Int) (hK : kSh.K w x cs.toList) (_ : True) (A : Option Addr) (c : Nat) (acts : List Ac) (hc : acts.length ≤ c) (hC : kAc.C w A acts.length acts) (hG : acts.length * Try.prog.bytesOf 30 ≤ reachBytes ∧ acts.length ≤ 9223372036854775807 ∧ ∀ x ∈ acts, True) :
    Calls Try.prog 4 #[.agg cs, .slice A acts.length c] w fun e w' => e = .returned (.bool true) ∧ Below w.heap.size w w' := by
  have h1 : Try.prog.bytesOf 30 = 16 := by kernel_rfl
  rw [h1] at hG
  obtain rfl : cs = #[.bool x.1, .int .i64 x.2] := Array.toList_inj.1 (kSh_open hK)
  have hg := hG.1
  unfold reachBytes at hg
  exact PortPlays0.walk w x.1 x.2 A c acts hC hc (by omega)
theorem portPlays.own : ownKnob Try.prog.godebug = none := by kernel_rfl
theorem portPlays.laidOut : laidOutB Try.prog = true := by kernel_rfl
set_option maxRecDepth 100000 in
set_option maxHeartbeats 1000000 in
theorem portPlays.lifted (os : Os) (started : os.Started) (H : Type) (enc : TypeId × Value → H)
    : ReturnsInHanded {} Try.checked os 4 .any (Rows.portPlaysSpec.pre6 enc Try.prog Try.f4 Rows.portPlaysRow.domain false) (Rows.portPlaysSpec.post enc Try.prog Try.f4 false true false false) := by
  refine returnsInHanded_of_change_sized (C := Try.checked) portPlays.own started (by kernel_rfl) Try.func4
    (ChangeSpec.witness6 (enc := enc) (C := Try.checked) false ⟨#[], #[.agg #[.bool false, .int .i64 0], .slice none 0 0], []⟩ 8 (by kernel_rfl) (by kernel_rfl) (by kernel_rfl) (by kernel_rfl)) ?_
  intro W base args ds gs before hval0 hW hcnd hsz0 _
  have hsz : (DataW.weightsEach Try.prog (Try.f4.params.toList ++ Rows.portPlaysSpec.plain.varTypes Try.prog) (ds ++ gs)).all (· ≤ reachBytes) = true := hsz0
  have hval : ∀ (j : Nat) t v, Try.f4.params[j]? = some t → args[j]? = some v → Value.okWide Try.prog W .any base t v := hval0
  have hW' := hW
  obtain ⟨p, q, hA0, hV, rfl, hfz, hnd⟩ := hW
  have hA : DataW.TrodAll enc Try.prog W 0 (fun _ => true) true Try.f4.params.toList args.toList ds p := hA0
  rw [Try.params4] at hA hval hsz
  obtain ⟨v0, vs0, d0, ds0, p0, q0, hargs, rfl, rfl, h0, r0⟩ := trodAll_cons hA
  obtain ⟨v1, vs1, d1, ds1, p1, q1, rfl, rfl, rfl, h1, r1⟩ := trodAll_cons r0
  obtain ⟨rfl, rfl, rfl⟩ := trodAll_nil r1
  obtain rfl : args = #[v0, v1] := by cases args; simp_all
  obtain ⟨rfl, rfl⟩ := trodVars_none hV
  have k0 := h0
  have lt0 : ∀ x ∈ p0, x.block < W.heap.size := by obtain ⟨m, hm⟩ := k0; exact DataW.trod_lt m _ _ _ hm
  have W0 := Op.weights_of hsz (j := 0) (t := 23) (d := d0) rfl rfl
  obtain ⟨cs0, rfl, sz0⟩ := okWide_struct Try.underlying23 (hval 0 23 v0 rfl rfl)
  obtain ⟨f0, hf0⟩ := h0
  obtain ⟨a0, hK0, hG0, hM0⟩ := opensSh H enc W _ true f0 _ (d0, p0) hf0 W0
  have k1 := h1
  have lt1 : ∀ x ∈ p1, x.block < W.heap.size := by obtain ⟨m, hm⟩ := k1; exact DataW.trod_lt m _ _ _ hm
  have W1 := Op.weights_of hsz (j := 1) (t := 24) (d := d1) rfl rfl
  obtain ⟨A1, len1, cap1, rfl⟩ := okWide_slice Try.underlying24 (hval 1 24 v1 rfl rfl)
  obtain ⟨f1, hf1⟩ := h1
  obtain ⟨a1, hK1, hG1, hM1⟩ := opensActs H enc W _ true f1 _ (d1, p1) hf1 W1
  obtain ⟨A', c', he1, hc1, hC1⟩ := hK1
  obtain ⟨rfl, rfl, rfl⟩ : A1 = A' ∧ len1 = a1.length ∧ cap1 = c' := by simpa [Value.cells] using he1
  clear hA0 hval0 hsz0 hsz
  refine (portPlays.walk W cs0 a0 hK0 hG0 A1 cap1 a1 hc1 hC1 hG1).mono fun e W' ⟨he, bel⟩ => ?_
  subst he
  exact ⟨_, rfl, _, _, _, [], _, [], hW', trodAll_mk1 (shut_bool Try.underlying4 _), (trodAll_cons_mk (Below.trod portPlays.laidOut (by kernel_rfl) (of_decide_eq_true (by kernel_rfl)) k0 bel lt0) (trodAll_cons_mk (Below.trod portPlays.laidOut (by kernel_rfl) (of_decide_eq_true (by kernel_rfl)) k1 bel lt1) trodAll_mk0)), rfl, bel.frame _, fun h => by cases h⟩
theorem portPlays_holds : Rows.PortPlaysSaid :=
  OpenClaim.holds_of_wide 4 Try.f4 rfl rfl rfl rfl rfl rfl rfl ⟨rfl, rfl, rfl, rfl, rfl⟩ rfl rfl rfl rfl rfl (by kernel_rfl) Try.func4 (by kernel_rfl)
    (of_decide_eq_true (by kernel_rfl)) (by unfold Func.isWrapper; first | (rw [if_pos (by decide +kernel)]; kernel_rfl) | (rw [if_neg (by decide +kernel)]; exact ⟨rfl, rfl⟩))
    (fun os started H enc _ => portPlays.lifted os started H enc)
#print axioms portPlays_holds

end Go.Proofs.Ytdienpcifklinaa
