import Derived.Test.YtdienpcifklinaaPtW
set_option linter.unusedSimpArgs false
set_option linter.unusedVariables false
namespace Go.Proofs.Ytdienpcifklinaa
open Go.RowKit Go.Proofs.YtdienpcifklinaaW.PrintWords Go.Proofs.YtdienpcifklinaaW.PrintMore Go.Proofs.YtdienpcifklinaaW.PrintLast PPortOwn
/-! does: put: printed by gen15g.py. -/
set_option maxRecDepth 100000 in
set_option maxHeartbeats 4000000 in
theorem does_put {w0 w : World} {b : Nat} {s : Pt} {vO vI : Value} {ok P : Nat → Prop} (v : Int) (h : DW w0 b s s vO vI ok P w) : Calls Try.prog 16 #[.pointer (some ⟨b, 0, none⟩), .agg #[.bool s.q, .int .i64 s.cap, vO, vI, .int .i64 s.lost], .agg #[.int .i64 0, .int .i64 v]] w (DoesP w0 w b ok P ((putP s v).1)) := by
  obtain ⟨AO, cO, AI, cI, rfl, rfl, -, -, -, -⟩ := stt_reads h.st
  have hg := h.port.good
  have hA : Below w.heap.size w (((w.alloc (.cells #[.bool s.q, .int .i64 s.cap, (.slice AO s.out.length cO), (.slice AI s.inn.length cI), .int .i64 s.lost] TZ)).alloc (.cells #[.int .i64 0, .int .i64 v] 30)).alloc (.cells #[.bool false, .int .i64 0, .slice none 0 0, .slice none 0 0, .int .i64 0] TZ)) := (by repeat (first | (with_reducible exact Below.refl _ _) | (with_reducible refine Below.drew ?_) | (with_reducible refine below_drewN ?_ _) | (with_reducible refine below_al ?_ _) | (with_reducible refine Below.alloc ?_ (by first | exact Nat.le_refl _ | omega | (simp; done) | (simp; omega)) _) | (with_reducible refine Below.setCell ?_ (by first | (simp only []; omega) | (simp; done) | (simp; omega)) _)))
  have hX : (((w.alloc (.cells #[.bool s.q, .int .i64 s.cap, (.slice AO s.out.length cO), (.slice AI s.inn.length cI), .int .i64 s.lost] TZ)).alloc (.cells #[.int .i64 0, .int .i64 v] 30)).alloc (.cells #[.bool false, .int .i64 0, .slice none 0 0, .slice none 0 0, .int .i64 0] TZ)).heap[w.heap.size]? = some (.cells #[.bool s.q, .int .i64 s.cap, (.slice AO s.out.length cO), (.slice AI s.inn.length cI), .int .i64 s.lost] TZ (0, 0)) := blk_alloc (blk_alloc (blk_new _ _))
  have hY : (((w.alloc (.cells #[.bool s.q, .int .i64 s.cap, (.slice AO s.out.length cO), (.slice AI s.inn.length cI), .int .i64 s.lost] TZ)).alloc (.cells #[.int .i64 0, .int .i64 v] 30)).alloc (.cells #[.bool false, .int .i64 0, .slice none 0 0, .slice none 0 0, .int .i64 0] TZ)).heap[w.heap.size + 1]? = some (.cells #[.int .i64 0, .int .i64 v] 30 (0, 0)) := blk_alloc (blk_new1 _ _ _)
  have hZ0 : (((w.alloc (.cells #[.bool s.q, .int .i64 s.cap, (.slice AO s.out.length cO), (.slice AI s.inn.length cI), .int .i64 s.lost] TZ)).alloc (.cells #[.int .i64 0, .int .i64 v] 30)).alloc (.cells #[.bool false, .int .i64 0, .slice none 0 0, .slice none 0 0, .int .i64 0] TZ)).heap[w.heap.size + 2]? = some (.cells #[.bool false, .int .i64 0, .slice none 0 0, .slice none 0 0, .int .i64 0] TZ (0, 0)) := by
    have := blk_new ((w.alloc (.cells #[.bool s.q, .int .i64 s.cap, (.slice AO s.out.length cO), (.slice AI s.inn.length cI), .int .i64 s.lost] TZ)).alloc (.cells #[.int .i64 0, .int .i64 v] 30)) (.cells #[.bool false, .int .i64 0, .slice none 0 0, .slice none 0 0, .int .i64 0] TZ)
    simpa using this
  have hZ : (((w.alloc (.cells #[.bool s.q, .int .i64 s.cap, (.slice AO s.out.length cO), (.slice AI s.inn.length cI), .int .i64 s.lost] TZ)).alloc (.cells #[.int .i64 0, .int .i64 v] 30)).alloc (.cells #[.bool false, .int .i64 0, .slice none 0 0, .slice none 0 0, .int .i64 0] TZ)).heap[w.heap.size + 1 + 1]? = some (.cells #[.bool false, .int .i64 0, .slice none 0 0, .slice none 0 0, .int .i64 0] TZ (0, 0)) := hZ0
  clear hZ0
  have HX := Aside0.mk hX
  have HY := Aside0.mk hY
  have HZ := Aside0.mk hZ
  have H := Aside0.mk (h.then hA)
  have Hok := Aside0.mk h.port.z
  have HP := Aside0.mk h.zp
  have hws := Aside0.mk h.below.size
  have HK : Aside0 (Keep (fun k => ok k ∨ P k) w (((w.alloc (.cells #[.bool s.q, .int .i64 s.cap, (.slice AO s.out.length cO), (.slice AI s.inn.length cI), .int .i64 s.lost] TZ)).alloc (.cells #[.int .i64 0, .int .i64 v] 30)).alloc (.cells #[.bool false, .int .i64 0, .slice none 0 0, .slice none 0 0, .int .i64 0] TZ))) := ⟨Keep.of_below hA⟩
  have HWs : Aside0 ((((w.alloc (.cells #[.bool s.q, .int .i64 s.cap, (.slice AO s.out.length cO), (.slice AI s.inn.length cI), .int .i64 s.lost] TZ)).alloc (.cells #[.int .i64 0, .int .i64 v] 30)).alloc (.cells #[.bool false, .int .i64 0, .slice none 0 0, .slice none 0 0, .int .i64 0] TZ)).heap.size = w.heap.size + 3) := ⟨by simp⟩
  clear hX hY hZ hA h
  go_enter Try.func16, Try.ntmps16
  go_wp2_with fail
  generalize (((w.alloc (.cells #[.bool s.q, .int .i64 s.cap, (.slice AO s.out.length cO), (.slice AI s.inn.length cI), .int .i64 s.lost] TZ)).alloc (.cells #[.int .i64 0, .int .i64 v] 30)).alloc (.cells #[.bool false, .int .i64 0, .slice none 0 0, .slice none 0 0, .int .i64 0] TZ)) = W at *
  refine (put_any v H.out.st hg H.out.below.size).mono ?_
  rintro e w1 ⟨vO1, vI1, rfl, hS1, hB1⟩
  obtain ⟨A1, c1, A2, c2, rfl, rfl, -, -, -, -⟩ := stt_reads hS1
  have H1 := Aside0.mk (H.out.stStep hS1 (Keep.of_below hB1))
  obtain ⟨⟨r1, r2⟩, hr⟩ : ∃ r, putP s v = r := ⟨_, rfl⟩
  have HR := Aside0.mk hr
  rw [hr] at hS1 H1 ⊢
  simp only at hS1 H1 ⊢
  clear hr hS1
  have hX1 := blk_below HX.out hB1
  have hY1 := blk_below HY.out hB1
  have hZ1 := blk_below HZ.out hB1
  have hW1 := hB1.size
  have HK1 := Aside0.mk (HK.out.trans (Keep.of_below hB1))
  have HY1 := Aside0.mk hY1
  have HZ1 := Aside0.mk hZ1
  clear hX1 hY1 hZ1 hB1
  go_wp2_with fail
  have HL2 : Aside0 ((w1.alloc (.cells #[.bool r1.q, .int .i64 r1.cap, .slice A1 r1.out.length c1, .slice A2 r1.inn.length c2, .int .i64 r1.lost] TZ)).drew.heap[w1.heap.size]? = some (.cells #[.bool r1.q, .int .i64 r1.cap, .slice A1 r1.out.length c1, .slice A2 r1.inn.length c2, .int .i64 r1.lost] TZ (0, 0))) := ⟨blk_drew (blk_new _ _)⟩
  have HY2 : Aside0 ((w1.alloc (.cells #[.bool r1.q, .int .i64 r1.cap, .slice A1 r1.out.length c1, .slice A2 r1.inn.length c2, .int .i64 r1.lost] TZ)).drew.heap[w.heap.size + 1]? = some _) := ⟨blk_drew (blk_alloc HY1.out)⟩
  have HZ2 : Aside0 ((w1.alloc (.cells #[.bool r1.q, .int .i64 r1.cap, .slice A1 r1.out.length c1, .slice A2 r1.inn.length c2, .int .i64 r1.lost] TZ)).drew.heap[w.heap.size + 1 + 1]? = some _) := ⟨blk_drew (blk_alloc HZ1.out)⟩
  have HB2 : Below w1.heap.size w1 (w1.alloc (.cells #[.bool r1.q, .int .i64 r1.cap, .slice A1 r1.out.length c1, .slice A2 r1.inn.length c2, .int .i64 r1.lost] TZ)).drew := (below_al (Below.refl _ _) _).drew
  have H2 := Aside0.mk (H1.out.then HB2)
  have HK2 : Aside0 (Keep (fun k => ok k ∨ P k) w (w1.alloc (.cells #[.bool r1.q, .int .i64 r1.cap, .slice A1 r1.out.length c1, .slice A2 r1.inn.length c2, .int .i64 r1.lost] TZ)).drew) := ⟨HK1.out.trans (Keep.of_below HB2)⟩
  have HLs : Aside0 (w.heap.size + 3 ≤ w1.heap.size) := ⟨by have := HWs.out; omega⟩
  have HXs : Aside0 (w1.heap.size < (w1.alloc (.cells #[.bool r1.q, .int .i64 r1.cap, .slice A1 r1.out.length c1, .slice A2 r1.inn.length c2, .int .i64 r1.lost] TZ)).drew.heap.size) := ⟨lt_blk HL2.out⟩
  clear HB2 hW1
  obtain ⟨L, hL⟩ : ∃ L, w1.heap.size = L := ⟨_, rfl⟩
  rw [hL] at HL2 HLs HXs ⊢
  clear hL
  refine start_ (n := 9) (S := fun w' => w'.cell? ⟨L, 0, none⟩ = some (.bool r1.q) ∧ w'.cell? ⟨L, 1, none⟩ = some (.int .i64 r1.cap) ∧ w'.cell? ⟨L, 2, none⟩ = some (.slice A1 r1.out.length c1) ∧ w'.cell? ⟨L, 3, none⟩ = some (.slice A2 r1.inn.length c2) ∧ w'.cell? ⟨L, 4, none⟩ = some (.int .i64 r1.lost) ∧ w'.cell? ⟨w.heap.size + 1, 1, none⟩ = some (.int .i64 v)) (ds := [7]) #[false, false, false, false, false, false, false, false, false] (by kernel_rfl) rfl rfl ⟨cell_blk HL2.out 0, cell_blk HL2.out 1, cell_blk HL2.out 2, cell_blk HL2.out 3, cell_blk HL2.out 4, cell_blk HY2.out 1⟩ (fun hHeld => ?_)
  generalize (w1.alloc (.cells #[.bool r1.q, .int .i64 r1.cap, .slice A1 r1.out.length c1, .slice A2 r1.inn.length c2, .int .i64 r1.lost] TZ)).drew = x0 at *
  refine pure_ (i := 1) (N := some 27) (v := ?_) (a' := ?_) #[false, true, false, false, false, false, false, false, false] rfl rfl (by kernel_rfl) (fun _ _ _ h => h) (Or.inl ⟨by rfl, ?_⟩) ?_ ?_
  rotate_left
  · intro w'
    go_simp
    with_reducible rfl
  rotate_left
  · simp only [Act.put, List.setIfInBounds_toArray, List.set_cons_zero, List.set_cons_succ, i64_w, i32_w]
    rfl
  refine pure_ (i := 2) (N := some 28) (v := ?_) (a' := ?_) #[false, true, true, false, false, false, false, false, false] rfl rfl (by kernel_rfl) (fun _ _ _ h => h) (Or.inl ⟨by rfl, ?_⟩) ?_ ?_
  rotate_left
  · intro w'
    go_simp
    with_reducible rfl
  rotate_left
  · simp only [Act.put, List.setIfInBounds_toArray, List.set_cons_zero, List.set_cons_succ, i64_w, i32_w]
    rfl
  refine pure_ (i := 5) (N := some 31) (v := ?_) (a' := ?_) #[false, true, true, false, false, true, false, false, false] rfl rfl (by kernel_rfl) (fun _ _ _ h => h) (Or.inl ⟨by rfl, ?_⟩) ?_ ?_
  rotate_left
  · intro w'
    go_simp
    with_reducible rfl
  rotate_left
  · simp only [Act.put, List.setIfInBounds_toArray, List.set_cons_zero, List.set_cons_succ, i64_w, i32_w]
    rfl
  refine take_ (i := 0) (N := some 26) (v := ?_) (a' := ?_) #[true, true, true, false, false, true, false, false, false] rfl rfl (by kernel_rfl) (fun _ _ _ h => h) (Or.inl ⟨by rfl, ?_⟩) hHeld ?_ ?_
  rotate_left
  · rintro w' ⟨s0, s1, s2, s3, s4, s5⟩
    go_simp
    with_reducible rfl
  rotate_left
  · simp only [Act.put, List.setIfInBounds_toArray, List.set_cons_zero, List.set_cons_succ, i64_w, i32_w]
    rfl
  refine take_ (i := 3) (N := some 29) (v := ?_) (a' := ?_) #[true, true, true, true, false, true, false, false, false] rfl rfl (by kernel_rfl) (fun _ _ _ h => h) (Or.inl ⟨by rfl, ?_⟩) hHeld ?_ ?_
  rotate_left
  · rintro w' ⟨s0, s1, s2, s3, s4, s5⟩
    go_simp
    with_reducible rfl
  rotate_left
  · simp only [Act.put, List.setIfInBounds_toArray, List.set_cons_zero, List.set_cons_succ, i64_w, i32_w]
    rfl
  refine one_ (i := 4) (N := some 30) #[true, true, true, true, true, true, false, false, false] rfl rfl (by kernel_rfl) (by decide) (fun K hK => ?_)
  refine goes_ Try.func11 (by kernel_rfl) rfl #[.pointer (some ⟨b, 0, none⟩), .int .i64 v] (by rfl) rfl rfl (by simp only [List.map_toArray, List.map_cons, List.map_nil]; rfl) ?_
  with_reducible refine (port_put v H2.out.port).mono ?_
  rintro e w3 ⟨rfl, hP3, hk3⟩
  refine ⟨_, rfl, ?_⟩
  rw [HR.out] at hP3
  rw [HR.out]
  have hL3 := blk_keep HL2.out hk3 (fun h => by have := (Hok.out _ h).2; have := HLs.out; omega)
  have hY3 := blk_keep HY2.out hk3 (fun h => by have := (Hok.out _ h).2; omega)
  have hZ3 := blk_keep HZ2.out hk3 (fun h => by have := (Hok.out _ h).2; omega)
  refine hK.out _ _ ⟨cell_blk hL3 0, cell_blk hL3 1, cell_blk hL3 2, cell_blk hL3 3, cell_blk hL3 4, cell_blk hY3 1⟩ (fun hHeld => ?_)
  clear hK K
  refine norm_ (a' := ?_) ?_ ?_
  rotate_left
  · show Act.put _ (some 30) _ = _
    simp only [Act.put, List.setIfInBounds_toArray, List.set_cons_zero, List.set_cons_succ, i64_w, i32_w]
    rfl
  refine pure_ (i := 6) (N := some 32) (v := ?_) (a' := ?_) #[true, true, true, true, true, true, true, false, false] rfl rfl (by kernel_rfl) (fun _ _ _ h => h) (Or.inl ⟨by rfl, ?_⟩) ?_ ?_
  rotate_left
  · intro w'
    go_simp
    with_reducible rfl
  rotate_left
  · simp only [Act.put, List.setIfInBounds_toArray, List.set_cons_zero, List.set_cons_succ, i64_w, i32_w]
    rfl
  refine last_ (i := 7) (N := none) #[true, true, true, true, true, true, true, true, false] rfl rfl (by kernel_rfl) (by decide) (fun K hK => ?_)
  obtain ⟨z0, z1, z2, z3, z4⟩ := cells5 hZ3
  obtain ⟨z5, z6, z7, z8, z9⟩ := froz5 hZ3
  have hZl := lt_blk hZ3
  refine skip_ (w1 := ?_) (by rfl) rfl ?_ ?_
  rotate_left
  · go_simp
    first | with_reducible rfl | rfl
  refine hK.out _ _ ?_
  clear hK K
  refine pure_ (i := 8) (N := some 7) (v := ?_) (a' := ?_) #[true, true, true, true, true, true, true, true, true] rfl rfl (by kernel_rfl) (fun _ _ _ h => h) (Or.inl ⟨by rfl, ?_⟩) ?_ ?_
  rotate_left
  · intro w'
    go_simp
    with_reducible rfl
  rotate_left
  · simp only [Act.put, List.setIfInBounds_toArray, List.set_cons_zero, List.set_cons_succ, i64_w, i32_w]
    rfl
  refine done_ (by kernel_rfl) ?_
  have H3 := Aside0.mk (H2.out.portStep hP3 hk3)
  have HK3 := Aside0.mk (HK2.out.trans (hk3.mono (fun _ _ h => .inl h)))
  have hZs := hZ3
  clear z0 z1 z2 z3 z4 z5 z6 z7 z8 z9 hP3 hk3 hL3 hY3 hHeld
  simp only [beq_self_eq_true] at *
  go_wp2
  rw [HR.out]
  have h5 := blk_set5 (u0 := .bool r1.q) (u1 := .int .i64 r1.cap) (u2 := .slice A1 r1.out.length c1) (u3 := .slice A2 r1.inn.length c2) (u4 := .int .i64 r1.lost) hZs
  obtain ⟨y0, y1, y2, y3, y4⟩ := cells5 h5
  refine bodyPost_ret (v := .tuple #[.agg #[.bool r1.q, .int .i64 r1.cap, .slice A1 r1.out.length c1, .slice A2 r1.inn.length c2, .int .i64 r1.lost], .bool true]) (by simp [results, Try.results16, go_sem, y0, y1, y2, y3, y4]) rfl ⟨_, _, _, _, rfl, H3.out.set5 (by have := hws.out; omega) ?_ ?_, ?_, ?_, (HK3.out).trans' (set5_keep _ _ _ _ _ _ _) (fun i hi e => by omega)⟩
  · rintro (h | h)
    · have := (Hok.out _ h).2; omega
    · have := HXs.out; have := HLs.out; omega
  · rintro (h | h)
    · have := (HP.out _ h).2.1; omega
    · have := HWs.out; omega
  · rintro k (h | h)
    · exact .inl h
    · right; have := HXs.out; have := HLs.out; omega
  · rintro k (h | h)
    · exact .inl h
    · right; have := HWs.out; omega
end Go.Proofs.Ytdienpcifklinaa
