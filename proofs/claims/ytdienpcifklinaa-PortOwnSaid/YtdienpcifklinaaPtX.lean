import Derived.Test.YtdienpcifklinaaPtW
set_option linter.unusedSimpArgs false
set_option linter.unusedVariables false
namespace Go.Proofs.Ytdienpcifklinaa
open Go.RowKit Go.Proofs.YtdienpcifklinaaW.PrintWords Go.Proofs.YtdienpcifklinaaW.PrintMore Go.Proofs.YtdienpcifklinaaW.PrintLast PPortOwn
/-! does: put: printed by gen15g.py. -/
set_option maxRecDepth 100000 in
set_option maxHeartbeats 4000000 in
theorem does_put {w0 w : World} {b : Nat} {s : Pt} {vO vI : Value} {ok P : Nat → Prop} (v : Int) (h : DW w0 b s s vO vI ok P w) : Calls Try.prog 16 #[.pointer (some ⟨b, 0, none⟩), .agg #[.bool s.q, .int .i64 s.cap, vO, vI, .int .i64 s.lost], .agg #[.int .i64 0, .int .i64 v]] w (DoesP w0 w b ok P ((putP s v).1)) := by
  obtain ⟨AO, cO, AI, cI, rfl, rfl, -, -, -, -⟩ := stt_reads h.st
  have hg := h.port.good
  have hA : Below w.heap.size w (((w.alloc (.cells #[.bool s.q, .int .i64 s.cap, (.slice AO s.out.length cO), (.slice AI s.inn.length cI), .int .i64 s.lost] TZ)).alloc (.cells #[.int .i64 0, .int .i64 v] 30)).alloc (.cells #[.bool false, .int .i64 0, .slice none 0 0, .slice none 0 0, .int .i64 0] TZ)) := (by repeat (first | (with_reducible exact Below.refl _ _) | (with_reducible refine Below.drew ?_) | (with_reducible refine below_drewN ?_ _) | (with_reducible refine below_al ?_ _) | (with_reducible refine Below.alloc ?_ (by first | exact Nat.le_refl _ | omega | (simp; done) | (simp; omega)) _) | (with_reducible refine Below.setCell ?_ (by first | (simp only []; omega) | (simp; done) | (simp; omega)) _)))
  have hX : (((w.alloc (.cells #[.bool s.q, .int .i64 s.cap, (.slice AO s.out.length cO), (.slice AI s.inn.length cI), .int .i64 s.lost] TZ)).alloc (.cells #[.int .i64 0, .int .i64 v] 30)).alloc (.cells #[.bool false, .int .i64 0, .slice none 0 0, .slice none 0 0, .int .i64 0] TZ)).heap[w.heap.size]? = some (.cells #[.bool s.q, .int .i64 s.cap, (.slice AO s.out.length cO), (.slice AI s.inn.length cI), .int .i64 s.lost] TZ (0, 0)) := blk_alloc (blk_alloc (blk_new _ _))
  have hY : (((w.alloc (.cells #[.bool s.q, .int .i64 s.cap, (.slice AO s.out.length cO), (.slice AI s.inn.length cI), .int .i64 s.lost] TZ)).alloc (.cells #[.int .i64 0, .int .i64 v] 30)).alloc (.cells #[.bool false, .int .i64 0, .slice none 0 0, .slice none 0 0, .int .i64 0] TZ)).heap[w.heap.size + 1]? = some (.cells #[.int .i64 0, .int .i64 v] 30 (0, 0)) := blk_alloc (blk_new1 _ _ _)
  have hZ0 : (((w.alloc (.cells #[.bool s.q, .int .i64 s.cap, (.slice AO s.out.length cO), (.slice AI s.inn.length cI), .int .i64 s.lost] TZ)).alloc (.cells #[.int .i64 0, .int .i64 v] 30)).alloc (.cells #[.bool false, .int .i64 0, .slice none 0 0, .slice none 0 0, .int .i64 0] TZ)).heap[w.heap.size + 2]? = some (.cells #[.bool false, .int .i64 0, .slice none 0 0, .slice none 0 0, .int .i64 0] TZ (0, 0)) := by
    have := blk_new ((w.alloc (.cells #[.bool s.q, .int .i64 s.cap, (.slice AO s.out.length cO), (.slice AI s.inn.length cI), .int .i64 s.lost] TZ)).alloc (.cells #[.int .i64 0, .int .i64 v] 30)) (.cells #[.bool false, .int .i64 0, .slice none 0 0, .slice none 0 0, .int .i64 0] TZ)
    simpa using this
  have hZ : (((w.alloc (.cells #[.bool s.q, .int .i64 s.cap, (.slice AO s.out.length cO), (.slice AI s.inn.length cI), .int .i64 s.lost] TZ)).alloc (.cells #[.int .i64 0, .int .i64 v] 30)).alloc (.cells #[.bool false, .int .i64 0, .slice none 0 0, .slice none 0 0, .int .i64 0] TZ)).heap[w.heap.size + 1 + 1]? = some (.cells #[.bool false, .int .i64 0, .slice none 0 0, .slice none 0 0, .int .i64 0] TZ (0, 0)) := hZ0
  clear hZ0
  have HX := Aside0.mk hX
  have HY := Aside0.mk hY
  have HZ := Aside0.mk hZ
  have H := Aside0.mk (h.then hA)
  have Hok := Aside0.mk h.port.z
  have HP := Aside0.mk h.zp
  have hws := Aside0.mk h.below.size
  have HK : Aside0 (Keep (fun k => ok k ∨ P k) w (((w.alloc (.cells #[.bool s.q, .int .i64 s.cap, (.slice AO s.out.length cO), (.slice AI s.inn.length cI), .int .i64 s.lost] TZ)).alloc (.cells #[.int .i64 0, .int .i64 v] 30)).alloc (.cells #[.bool false, .int .i64 0, .slice none 0 0, .slice none 0 0, .int .i64 0] TZ))) := ⟨Keep.of_below hA⟩
  have HWs : Aside0 ((((w.alloc (.cells #[.bool s.q, .int .i64 s.cap, (.slice AO s.out.length cO), (.slice AI s.inn.length cI), .int .i64 s.lost] TZ)).alloc (.cells #[.int .i64 0, .int .i64 v] 30)).alloc (.cells #[.bool false, .int .i64 0, .slice none 0 0, .slice none 0 0, .int .i64 0] TZ)).heap.size = w.heap.size + 3) := ⟨by simp⟩
  clear hX hY hZ hA h
  go_enter Try.func16, Try.ntmps16
  go_wp2_with fail
  generalize (((w.alloc (.cells #[.bool s.q, .int .i64 s.cap, (.slice AO s.out.length cO), (.slice AI s.inn.length cI), .int .i64 s.lost] TZ)).alloc (.cells #[.int .i64 0, .int .i64 v] 30)).alloc (.cells #[.bool false, .int .i64 0, .slice none 0 0, .slice none 0 0, .int .i64 0] TZ)) = W at *
  refine (put_any v H.out.st hg H.out.below.size).mono ?_
  rintro e w1 ⟨vO1, vI1, rfl, hS1, hB1⟩
  obtain ⟨A1, c1, A2, c2, rfl, rfl, -, -, -, -⟩ := stt_reads hS1
  have H1 := Aside0.mk (H.out.stStep hS1 (Keep.of_below hB1))
  obtain ⟨⟨r1, r2⟩, hr⟩ : ∃ r, putP s v = r := ⟨_, rfl⟩
  have HR := Aside0.mk hr
  rw [hr] at hS1 H1 ⊢
  simp only at hS1 H1 ⊢
  clear hr hS1
  have hX1 := blk_below HX.out hB1
  have hY1 := blk_below HY.out hB1
  have hZ1 := blk_below HZ.out hB1
  have hW1 := hB1.size
  have HK1 := Aside0.mk (HK.out.trans (Keep.of_below hB1))
  have HY1 := Aside0.mk hY1
  have HZ1 := Aside0.mk hZ1
  clear hX1 hY1 hZ1 hB1
  go_wp2_with fail
  have HL2 : Aside0 ((w1.alloc (.cells #[.bool r1.q, .int .i64 r1.cap, .slice A1 r1.out.length c1, .slice A2 r1.inn.length c2, .int .i64 r1.lost] TZ)).drew.heap[w1.heap.size]? = some (.cells #[.bool r1.q, .int .i64 r1.cap, .slice A1 r1.out.length c1, .slice A2 r1.inn.length c2, .int .i64 r1.lost] TZ (0, 0))) := ⟨blk_drew (blk_new _ _)⟩
  have HY2 : Aside0 ((w1.alloc (.cells #[.bool r1.q, .int .i64 r1.cap, .slice A1 r1.out.length c1, .slice A2 r1.inn.length c2, .int .i64 r1.lost] TZ)).drew.heap[w.heap.size + 1]? = some _) := ⟨blk_drew (blk_alloc HY1.out)⟩
  have HZ2 : Aside0 ((w1.alloc (.cells #[.bool r1.q, .int .i64 r1.cap, .slice A1 r1.out.length c1, .slice A2 r1.inn.length c2, .int .i64 r1.lost] TZ)).drew.heap[w.heap.size + 1 + 1]? = some _) := ⟨blk_drew (blk_alloc HZ1.out)⟩
  have HB2 : Below w1.heap.size w1 (w1.alloc (.cells #[.bool r1.q, .int .i64 r1.cap, .slice A1 r1.out.length c1, .slice A2 r1.inn.length c2, .int .i64 r1.lost] TZ)).drew := (below_al (Below.refl _ _) _).drew
  have H2 := Aside0.mk (H1.out.then HB2)
  have HK2 : Aside0 (Keep (fun k => ok k ∨ P k) w (w1.alloc (.cells #[.bool r1.q, .int .i64 r1.cap, .slice A1 r1.out.length c1, .slice A2 r1.inn.length c2, .int .i64 r1.lost] TZ)).drew) := ⟨HK1.out.trans (Keep.of_below HB2)⟩
  have HLs : Aside0 (w.heap.size + 3 ≤ w1.heap.size) := ⟨by have := HWs.out; omega⟩
  have HXs : Aside0 (w1.heap.size < (w1.alloc (.cells #[.bool r1.q, .int .i64 r1.cap, .slice A1 r1.out.length c1, .slice A2 r1.inn.length c2, .int .i64 r1.lost] TZ)).drew.heap.size) := ⟨lt_blk HL2.out⟩
  clear HB2 hW1
  obtain ⟨L, hL⟩ : ∃ L, w1.heap.size = L := ⟨_, rfl⟩
  rw [hL] at HL2 HLs HXs ⊢
  clear hL
  refine start_ (n := 9) (S := fun w' => w'.cell? ⟨L, 0, none⟩ = some (.bool r1.q) ∧ w'.cell? ⟨L, 1, none⟩ = some (.int .i64 r1.cap) ∧ w'.cell? ⟨L, 2, none⟩ = some (.slice A1 r1.out.length c1) ∧ w'.cell? ⟨L, 3, none⟩ = some (.slice A2 r1.inn.length c2) ∧ w'.cell? ⟨L, 4, none⟩ = some (.int .i64 r1.lost) ∧ w'.cell? ⟨w.heap.size + 1, 1, none⟩ = some (.int .i64 v)) (ds := [7]) #[false, false, false, false, false, false, false, false, false] (by kernel_rfl) rfl rfl ⟨cell_blk HL2.out 0, cell_blk HL2.out 1, cell_blk HL2.out 2, cell_blk HL2.out 3, cell_blk HL2.out 4, cell_blk HY2.out 1⟩ (fun hHeld => ?_)
  generalize (w1.alloc (.cells #[.bool r1.q, .int .i64 r1.cap, .slice A1 r1.out.length c1, .slice A2 r1.inn.length c2, .int .i64 r1.lost] TZ)).drew = x0 at *
  refine pure_ (i := 1) (N := some 27) (v := ?_) (a' := ?_) #[false, true, false, false, false, false, false, false, false] rfl rfl (by kernel_rfl) (fun _ _ _ h => h) (Or.inl ⟨by rfl, ?_⟩) ?_ ?_
  rotate_left
  · intro w'
    go_simp
    with_reducible rfl
  rotate_left
  · simp only [Act.put, List.setIfInBounds_toArray, List.set_cons_zero, List.set_cons_succ, i64_w, i32_w]
    rfl
  refine pure_ (i := 2) (N := some 28) (v := ?_) (a' := ?_) #[false, true, true, false, false, false, false, false, false] rfl rfl (by kernel_rfl) (fun _ _ _ h => h) (Or.inl ⟨by rfl, ?_⟩) ?_ ?_
  rotate_left
  · intro w'
    go_simp
    with_reducible rfl
  rotate_left
  · simp only [Act.put, List.setIfInBounds_toArray, List.set_cons_zero, List.set_cons_succ, i64_w, i32_w]
    rfl
  refine pure_ (i := 5) (N := some 31) (v := ?_) (a' := ?_) #[false, true, true, false, false, true, false, false, false] rfl rfl (by kernel_rfl) (fun _ _ _ h => h) (Or.inl ⟨by rfl, ?_⟩) ?_ ?_
  rotate_left
  · intro w'
    go_simp
    with_reducible rfl
  rotate_left
  · simp only [Act.put, List.setIfInBounds_toArray, List.set_cons_zero, List.set_cons_succ, i64_w, i32_w]
    rfl
  refine take_ (i := 0) (N := some 26) (v := ?_) (a' := ?_) #[true, true, true, false, false, true, false, false, false] rfl rfl (by kernel_rfl) (fun _ _ _ h => h) (Or.inl ⟨by rfl, ?_⟩) hHeld ?_ ?_
  rotate_left
  · rintro w' ⟨s0, s1, s2, s3, s4, s5⟩
    go_simp
    with_reducible rfl
  rotate_left
  · simp only [Act.put, List.setIfInBounds_toArray, List.set_cons_zero, List.set_cons_succ, i64_w, i32_w]
    rfl
  refine take_ (i := 3) (N := some 29) (v := ?_) (a' := ?_) #[true, true, true, true, false, true, false, false, false] rfl rfl (by kernel_rfl) (fun _ _ _ h => h) (Or.inl ⟨by rfl, ?_⟩) hHeld ?_ ?_
  rotate_left
  · rintro w' ⟨s0, s1, s2, s3, s4, s5⟩
    go_simp
    with_reducible rfl
  rotate_left
  · simp only [Act.put, List.setIfInBounds_toArray, List.set_cons_zero, List.set_cons_succ, i64_w, i32_w]
    rfl
  refine one_ (i := 4) (N := some 30) #[true, true, true, true, true, true, false, false, false] rfl rfl (by kernel_rfl) (by decide) (fun K hK => ?_)
  refine goes_ Try.func11 (by kernel_rfl) rfl #[.pointer (some ⟨b, 0, none⟩), .int .i64 v] (by rfl) rfl rfl (by simp only [List.map_toArray, List.map_cons, List.map_nil]; rfl) ?_
  with_reducible refine (port_put v H2.out.port).mono ?_
  rintro e w3 ⟨rfl, hP3, hk3⟩
  refine ⟨_, rfl, ?_⟩
  rw [HR.out] at hP3
  rw [HR.out]
  have hL3 := blk_keep HL2.out hk3 (fun h => by have := (Hok.out _ h).2; have := HLs.out; omega)
  have hY3 := blk_keep HY2.out hk3 (fun h => by have := (Hok.out _ h).2; omega)
  have hZ3 := blk_keep HZ2.out hk3 (fun h => by have := (Hok.out _ h).2; omega)
  refine hK.out _ _ ⟨cell_blk hL3 0, cell_blk hL3 1, cell_blk hL3 2, cell_blk hL3 3, cell_blk hL3 4, cell_blk hY3 1⟩ (fun hHeld => ?_)
  clear hK K
  refine norm_ (a' := ?_) ?_ ?_
  rotate_left
  · show Act.put _ (some 30) _ = _
    simp only [Act.put, List.setIfInBounds_toArray, List.set_cons_zero, List.set_cons_succ, i64_w, i32_w]
    rfl
  refine pure_ (i := 6) (N := some 32) (v := ?_) (a' := ?_) #[true, true, true, true, true, true, true, false, false] rfl rfl (by kernel_rfl) (fun _ _ _ h => h) (Or.inl ⟨by rfl, ?_⟩) ?_ ?_
  rotate_left
  · intro w'
    go_simp
    with_reducible rfl
  rotate_left
  · simp only [Act.put, List.setIfInBounds_toArray, List.set_cons_zero, List.set_cons_succ, i64_w, i32_w]
    rfl
  refine last_ (i := 7) (N := none) #[true, true, true, true, true, true, true, true, false] rfl rfl (by kernel_rfl) (by decide) (fun K hK => ?_)
  obtain ⟨z0, z1, z2, z3, z4⟩ := cells5 hZ3
  obtain ⟨z5, z6, z7, z8, z9⟩ := froz5 hZ3
  have hZl := lt_blk hZ3
  refine skip_ (w1 := ?_) (by rfl) rfl ?_ ?_
  rotate_left
  · go_simp
    first | with_reducible rfl | rfl
  refine hK.out _ _ ?_
  clear hK K
  refine pure_ (i := 8) (N := some 7) (v := ?_) (a' := ?_) #[true, true, true, true, true, true, true, true, true] rfl rfl (by kernel_rfl) (fun _ _ _ h => h) (Or.inl ⟨by rfl, ?_⟩) ?_ ?_
  rotate_left
  · intro w'
    go_simp
    with_reducible rfl
  rotate_left
  · simp only [Act.put, List.setIfInBounds_toArray, List.set_cons_zero, List.set_cons_succ, i64_w, i32_w]
    rfl
  refine done_ (by kernel_rfl) ?_
  have H3 := Aside0.mk (H2.out.portStep hP3 hk3)
  have HK3 := Aside0.mk (HK2.out.trans (hk3.mono (fun _ _ h => .inl h)))
  have hZs := hZ3
  clear z0 z1 z2 z3 z4 z5 z6 z7 z8 z9 hP3 hk3 hL3 hY3 hHeld
  simp only [beq_self_eq_true] at *
  go_wp2
  rw [HR.out]
  have h5 := blk_set5 (u0 := .bool r1.q) (u1 := .int .i64 r1.cap) (u2 := .slice A1 r1.out.length c1) (u3 := .slice A2 r1.inn.length c2) (u4 := .int .i64 r1.lost) hZs
  obtain ⟨y0, y1, y2, y3, y4⟩ := cells5 h5
  refine bodyPost_ret (v := .tuple #[.agg #[.bool r1.q, .int .i64 r1.cap, .slice A1 r1.out.length c1, .slice A2 r1.inn.length c2, .int .i64 r1.lost], .bool true]) (by simp [results, Try.results16, go_sem, y0, y1, y2, y3, y4]) rfl ⟨_, _, _, _, rfl, H3.out.set5 (by have := hws.out; omega) ?_ ?_, ?_, ?_, (HK3.out).trans' (set5_keep _ _ _ _ _ _ _) (fun i hi e => by omega)⟩
  · rintro (h | h)
    · have := (Hok.out _ h).2; omega
    · have := HXs.out; have := HLs.out; omega
  · rintro (h | h)
    · have := (HP.out _ h).2.1; omega
    · have := HWs.out; omega
  · rintro k (h | h)
    · exact .inl h
    · right; have := HXs.out; have := HLs.out; omega
  · rintro k (h | h)
    · exact .inl h
    · right; have := HWs.out; omega
end Go.Proofs.Ytdienpcifklinaa
set_option linter.unusedSimpArgs false
set_option linter.unusedVariables false
namespace Go.Proofs.Ytdienpcifklinaa
open Go.RowKit Go.Proofs.YtdienpcifklinaaW.PrintWords Go.Proofs.YtdienpcifklinaaW.PrintMore Go.Proofs.YtdienpcifklinaaW.PrintLast PPortOwn
/-! does: get: printed by gen15g.py. -/
set_option maxRecDepth 100000 in
set_option maxHeartbeats 4000000 in
theorem does_get {w0 w : World} {b : Nat} {s : Pt} {vO vI : Value} {ok P : Nat → Prop} (v : Int) (h : DW w0 b s s vO vI ok P w) : Calls Try.prog 16 #[.pointer (some ⟨b, 0, none⟩), .agg #[.bool s.q, .int .i64 s.cap, vO, vI, .int .i64 s.lost], .agg #[.int .i64 1, .int .i64 v]] w (DoesP w0 w b ok P ((getP s).1)) := by
  obtain ⟨AO, cO, AI, cI, rfl, rfl, -, -, -, -⟩ := stt_reads h.st
  have hg := h.port.good
  have hA : Below w.heap.size w (((w.alloc (.cells #[.bool s.q, .int .i64 s.cap, (.slice AO s.out.length cO), (.slice AI s.inn.length cI), .int .i64 s.lost] TZ)).alloc (.cells #[.int .i64 1, .int .i64 v] 30)).alloc (.cells #[.bool false, .int .i64 0, .slice none 0 0, .slice none 0 0, .int .i64 0] TZ)) := (by repeat (first | (with_reducible exact Below.refl _ _) | (with_reducible refine Below.drew ?_) | (with_reducible refine below_drewN ?_ _) | (with_reducible refine below_al ?_ _) | (with_reducible refine Below.alloc ?_ (by first | exact Nat.le_refl _ | omega | (simp; done) | (simp; omega)) _) | (with_reducible refine Below.setCell ?_ (by first | (simp only []; omega) | (simp; done) | (simp; omega)) _)))
  have hX : (((w.alloc (.cells #[.bool s.q, .int .i64 s.cap, (.slice AO s.out.length cO), (.slice AI s.inn.length cI), .int .i64 s.lost] TZ)).alloc (.cells #[.int .i64 1, .int .i64 v] 30)).alloc (.cells #[.bool false, .int .i64 0, .slice none 0 0, .slice none 0 0, .int .i64 0] TZ)).heap[w.heap.size]? = some (.cells #[.bool s.q, .int .i64 s.cap, (.slice AO s.out.length cO), (.slice AI s.inn.length cI), .int .i64 s.lost] TZ (0, 0)) := blk_alloc (blk_alloc (blk_new _ _))
  have hY : (((w.alloc (.cells #[.bool s.q, .int .i64 s.cap, (.slice AO s.out.length cO), (.slice AI s.inn.length cI), .int .i64 s.lost] TZ)).alloc (.cells #[.int .i64 1, .int .i64 v] 30)).alloc (.cells #[.bool false, .int .i64 0, .slice none 0 0, .slice none 0 0, .int .i64 0] TZ)).heap[w.heap.size + 1]? = some (.cells #[.int .i64 1, .int .i64 v] 30 (0, 0)) := blk_alloc (blk_new1 _ _ _)
  have hZ0 : (((w.alloc (.cells #[.bool s.q, .int .i64 s.cap, (.slice AO s.out.length cO), (.slice AI s.inn.length cI), .int .i64 s.lost] TZ)).alloc (.cells #[.int .i64 1, .int .i64 v] 30)).alloc (.cells #[.bool false, .int .i64 0, .slice none 0 0, .slice none 0 0, .int .i64 0] TZ)).heap[w.heap.size + 2]? = some (.cells #[.bool false, .int .i64 0, .slice none 0 0, .slice none 0 0, .int .i64 0] TZ (0, 0)) := by
    have := blk_new ((w.alloc (.cells #[.bool s.q, .int .i64 s.cap, (.slice AO s.out.length cO), (.slice AI s.inn.length cI), .int .i64 s.lost] TZ)).alloc (.cells #[.int .i64 1, .int .i64 v] 30)) (.cells #[.bool false, .int .i64 0, .slice none 0 0, .slice none 0 0, .int .i64 0] TZ)
    simpa using this
  have hZ : (((w.alloc (.cells #[.bool s.q, .int .i64 s.cap, (.slice AO s.out.length cO), (.slice AI s.inn.length cI), .int .i64 s.lost] TZ)).alloc (.cells #[.int .i64 1, .int .i64 v] 30)).alloc (.cells #[.bool false, .int .i64 0, .slice none 0 0, .slice none 0 0, .int .i64 0] TZ)).heap[w.heap.size + 1 + 1]? = some (.cells #[.bool false, .int .i64 0, .slice none 0 0, .slice none 0 0, .int .i64 0] TZ (0, 0)) := hZ0
  clear hZ0
  have HX := Aside0.mk hX
  have HY := Aside0.mk hY
  have HZ := Aside0.mk hZ
  have H := Aside0.mk (h.then hA)
  have Hok := Aside0.mk h.port.z
  have HP := Aside0.mk h.zp
  have hws := Aside0.mk h.below.size
  have HK : Aside0 (Keep (fun k => ok k ∨ P k) w (((w.alloc (.cells #[.bool s.q, .int .i64 s.cap, (.slice AO s.out.length cO), (.slice AI s.inn.length cI), .int .i64 s.lost] TZ)).alloc (.cells #[.int .i64 1, .int .i64 v] 30)).alloc (.cells #[.bool false, .int .i64 0, .slice none 0 0, .slice none 0 0, .int .i64 0] TZ))) := ⟨Keep.of_below hA⟩
  have HWs : Aside0 ((((w.alloc (.cells #[.bool s.q, .int .i64 s.cap, (.slice AO s.out.length cO), (.slice AI s.inn.length cI), .int .i64 s.lost] TZ)).alloc (.cells #[.int .i64 1, .int .i64 v] 30)).alloc (.cells #[.bool false, .int .i64 0, .slice none 0 0, .slice none 0 0, .int .i64 0] TZ)).heap.size = w.heap.size + 3) := ⟨by simp⟩
  clear hX hY hZ hA h
  go_enter Try.func16, Try.ntmps16
  go_wp2_with fail
  generalize (((w.alloc (.cells #[.bool s.q, .int .i64 s.cap, (.slice AO s.out.length cO), (.slice AI s.inn.length cI), .int .i64 s.lost] TZ)).alloc (.cells #[.int .i64 1, .int .i64 v] 30)).alloc (.cells #[.bool false, .int .i64 0, .slice none 0 0, .slice none 0 0, .int .i64 0] TZ)) = W at *
  refine (get_any H.out.below H.out.st hg).mono ?_
  rintro e w1 ⟨vO1, vI1, rfl, hS1, hk1⟩
  obtain ⟨A1, c1, A2, c2, rfl, rfl, -, -, -, -⟩ := stt_reads hS1
  have H1 := Aside0.mk (H.out.stStep hS1 hk1)
  have hG := port_get ((H1.out.then (w' := (w1.alloc (.cells #[.bool (getP s).1.q, .int .i64 (getP s).1.cap, .slice A1 (getP s).1.out.length c1, .slice A2 (getP s).1.inn.length c2, .int .i64 (getP s).1.lost] TZ))) (below_al (Below.refl _ _) _)).port)
  obtain ⟨⟨r1, x, y⟩, hr⟩ : ∃ r, getP s = r := ⟨_, rfl⟩
  have HR := Aside0.mk hr
  rw [hr] at hS1 H1 hG ⊢
  simp only at hS1 H1 hG ⊢
  clear hr hS1
  have hZ1 := blk_keep HZ.out hk1 (fun h => by have := (HP.out _ h).2.1; omega)
  have hW1 := hk1.size
  have HK1 := Aside0.mk (HK.out.trans (hk1.mono (fun _ _ h => .inr h)))
  have HZ1 := Aside0.mk hZ1
  clear hZ1 hk1
  go_wp2_with fail
  refine hG.mono ?_
  clear hG
  rintro e w3 ⟨rfl, hP3, hk3⟩
  have HL2 : Aside0 ((w1.alloc (.cells #[.bool r1.q, .int .i64 r1.cap, .slice A1 r1.out.length c1, .slice A2 r1.inn.length c2, .int .i64 r1.lost] TZ)).heap[w1.heap.size]? = some (.cells #[.bool r1.q, .int .i64 r1.cap, .slice A1 r1.out.length c1, .slice A2 r1.inn.length c2, .int .i64 r1.lost] TZ (0, 0))) := ⟨blk_new _ _⟩
  have HZ2 : Aside0 ((w1.alloc (.cells #[.bool r1.q, .int .i64 r1.cap, .slice A1 r1.out.length c1, .slice A2 r1.inn.length c2, .int .i64 r1.lost] TZ)).heap[w.heap.size + 1 + 1]? = some _) := ⟨blk_alloc HZ1.out⟩
  have hL3 := blk_keep HL2.out hk3 (fun h => by have := (Hok.out _ h).2; have := HWs.out; omega)
  have hZ3 := blk_keep HZ2.out hk3 (fun h => by have := (Hok.out _ h).2; omega)
  have H2 := Aside0.mk (H1.out.then (w' := (w1.alloc (.cells #[.bool r1.q, .int .i64 r1.cap, .slice A1 r1.out.length c1, .slice A2 r1.inn.length c2, .int .i64 r1.lost] TZ))) (below_al (Below.refl _ _) _))
  have H3 := Aside0.mk (H2.out.portStep hP3 hk3)
  have HK3 := Aside0.mk ((HK1.out.alloc _).trans (hk3.mono (fun _ _ h => .inl h)))
  have HT1 : Aside0 (w1.heap.size < (w1.alloc (.cells #[.bool r1.q, .int .i64 r1.cap, .slice A1 r1.out.length c1, .slice A2 r1.inn.length c2, .int .i64 r1.lost] TZ)).heap.size) := ⟨lt_blk HL2.out⟩
  obtain ⟨l0, l1, l2, l3, l4⟩ := cells5 hL3
  obtain ⟨z0, z1, z2, z3, z4⟩ := cells5 hZ3
  obtain ⟨z5, z6, z7, z8, z9⟩ := froz5 hZ3
  have hZl := lt_blk hZ3
  have HZ3 := Aside0.mk hZ3
  clear hL3 hZ3 hP3 hk3
  go_wp2_with fail
  clear z0 z1 z2 z3 z4 z5 z6 z7 z8 z9 l0 l1 l2 l3 l4
  rw [HR.out]
  have h5 := blk_set5 (u0 := .bool r1.q) (u1 := .int .i64 r1.cap) (u2 := .slice A1 r1.out.length c1) (u3 := .slice A2 r1.inn.length c2) (u4 := .int .i64 r1.lost) HZ3.out
  obtain ⟨y0, y1, y2, y3, y4⟩ := cells5 h5
  refine bodyPost_ret (v := .tuple #[.agg #[.bool r1.q, .int .i64 r1.cap, .slice A1 r1.out.length c1, .slice A2 r1.inn.length c2, .int .i64 r1.lost], .bool true]) (by simp [results, Try.results16, go_sem, y0, y1, y2, y3, y4]) rfl ⟨_, _, _, _, rfl, H3.out.set5 (by have := hws.out; omega) ?_ ?_, ?_, ?_, (HK3.out).trans' (set5_keep _ _ _ _ _ _ _) (fun i hi e => by omega)⟩
  · rintro (h | h)
    · have := (Hok.out _ h).2; omega
    · have := HT1.out; have := HWs.out; omega
  · rintro (h | h)
    · have := (HP.out _ h).2.1; omega
    · have := HWs.out; omega
  · rintro k (h | h)
    · exact .inl h
    · right; have := HT1.out; have := HWs.out; omega
  · rintro k (h | h)
    · exact .inl h
    · right; have := HWs.out; omega
end Go.Proofs.Ytdienpcifklinaa
set_option linter.unusedSimpArgs false
set_option linter.unusedVariables false
namespace Go.Proofs.Ytdienpcifklinaa
open Go.RowKit Go.Proofs.YtdienpcifklinaaW.PrintWords Go.Proofs.YtdienpcifklinaaW.PrintMore Go.Proofs.YtdienpcifklinaaW.PrintLast PPortOwn
/-! does: deliver: printed by gen15g.py. -/
set_option maxRecDepth 100000 in
set_option maxHeartbeats 4000000 in
theorem does_deliver {w0 w : World} {b : Nat} {s : Pt} {vO vI : Value} {ok P : Nat → Prop} (v : Int) (h : DW w0 b s s vO vI ok P w) : Calls Try.prog 16 #[.pointer (some ⟨b, 0, none⟩), .agg #[.bool s.q, .int .i64 s.cap, vO, vI, .int .i64 s.lost], .agg #[.int .i64 2, .int .i64 v]] w (DoesP w0 w b ok P (delivP s)) := by
  obtain ⟨AO, cO, AI, cI, rfl, rfl, -, -, -, -⟩ := stt_reads h.st
  have hg := h.port.good
  have hA : Below w.heap.size w (((w.alloc (.cells #[.bool s.q, .int .i64 s.cap, (.slice AO s.out.length cO), (.slice AI s.inn.length cI), .int .i64 s.lost] TZ)).alloc (.cells #[.int .i64 2, .int .i64 v] 30)).alloc (.cells #[.bool false, .int .i64 0, .slice none 0 0, .slice none 0 0, .int .i64 0] TZ)) := (by repeat (first | (with_reducible exact Below.refl _ _) | (with_reducible refine Below.drew ?_) | (with_reducible refine below_drewN ?_ _) | (with_reducible refine below_al ?_ _) | (with_reducible refine Below.alloc ?_ (by first | exact Nat.le_refl _ | omega | (simp; done) | (simp; omega)) _) | (with_reducible refine Below.setCell ?_ (by first | (simp only []; omega) | (simp; done) | (simp; omega)) _)))
  have hX : (((w.alloc (.cells #[.bool s.q, .int .i64 s.cap, (.slice AO s.out.length cO), (.slice AI s.inn.length cI), .int .i64 s.lost] TZ)).alloc (.cells #[.int .i64 2, .int .i64 v] 30)).alloc (.cells #[.bool false, .int .i64 0, .slice none 0 0, .slice none 0 0, .int .i64 0] TZ)).heap[w.heap.size]? = some (.cells #[.bool s.q, .int .i64 s.cap, (.slice AO s.out.length cO), (.slice AI s.inn.length cI), .int .i64 s.lost] TZ (0, 0)) := blk_alloc (blk_alloc (blk_new _ _))
  have hY : (((w.alloc (.cells #[.bool s.q, .int .i64 s.cap, (.slice AO s.out.length cO), (.slice AI s.inn.length cI), .int .i64 s.lost] TZ)).alloc (.cells #[.int .i64 2, .int .i64 v] 30)).alloc (.cells #[.bool false, .int .i64 0, .slice none 0 0, .slice none 0 0, .int .i64 0] TZ)).heap[w.heap.size + 1]? = some (.cells #[.int .i64 2, .int .i64 v] 30 (0, 0)) := blk_alloc (blk_new1 _ _ _)
  have hZ0 : (((w.alloc (.cells #[.bool s.q, .int .i64 s.cap, (.slice AO s.out.length cO), (.slice AI s.inn.length cI), .int .i64 s.lost] TZ)).alloc (.cells #[.int .i64 2, .int .i64 v] 30)).alloc (.cells #[.bool false, .int .i64 0, .slice none 0 0, .slice none 0 0, .int .i64 0] TZ)).heap[w.heap.size + 2]? = some (.cells #[.bool false, .int .i64 0, .slice none 0 0, .slice none 0 0, .int .i64 0] TZ (0, 0)) := by
    have := blk_new ((w.alloc (.cells #[.bool s.q, .int .i64 s.cap, (.slice AO s.out.length cO), (.slice AI s.inn.length cI), .int .i64 s.lost] TZ)).alloc (.cells #[.int .i64 2, .int .i64 v] 30)) (.cells #[.bool false, .int .i64 0, .slice none 0 0, .slice none 0 0, .int .i64 0] TZ)
    simpa using this
  have hZ : (((w.alloc (.cells #[.bool s.q, .int .i64 s.cap, (.slice AO s.out.length cO), (.slice AI s.inn.length cI), .int .i64 s.lost] TZ)).alloc (.cells #[.int .i64 2, .int .i64 v] 30)).alloc (.cells #[.bool false, .int .i64 0, .slice none 0 0, .slice none 0 0, .int .i64 0] TZ)).heap[w.heap.size + 1 + 1]? = some (.cells #[.bool false, .int .i64 0, .slice none 0 0, .slice none 0 0, .int .i64 0] TZ (0, 0)) := hZ0
  clear hZ0
  have HX := Aside0.mk hX
  have HY := Aside0.mk hY
  have HZ := Aside0.mk hZ
  have H := Aside0.mk (h.then hA)
  have Hok := Aside0.mk h.port.z
  have HP := Aside0.mk h.zp
  have hws := Aside0.mk h.below.size
  have HK : Aside0 (Keep (fun k => ok k ∨ P k) w (((w.alloc (.cells #[.bool s.q, .int .i64 s.cap, (.slice AO s.out.length cO), (.slice AI s.inn.length cI), .int .i64 s.lost] TZ)).alloc (.cells #[.int .i64 2, .int .i64 v] 30)).alloc (.cells #[.bool false, .int .i64 0, .slice none 0 0, .slice none 0 0, .int .i64 0] TZ))) := ⟨Keep.of_below hA⟩
  have HWs : Aside0 ((((w.alloc (.cells #[.bool s.q, .int .i64 s.cap, (.slice AO s.out.length cO), (.slice AI s.inn.length cI), .int .i64 s.lost] TZ)).alloc (.cells #[.int .i64 2, .int .i64 v] 30)).alloc (.cells #[.bool false, .int .i64 0, .slice none 0 0, .slice none 0 0, .int .i64 0] TZ)).heap.size = w.heap.size + 3) := ⟨by simp⟩
  clear hX hY hZ hA h
  go_enter Try.func16, Try.ntmps16
  go_wp2_with fail
  generalize (((w.alloc (.cells #[.bool s.q, .int .i64 s.cap, (.slice AO s.out.length cO), (.slice AI s.inn.length cI), .int .i64 s.lost] TZ)).alloc (.cells #[.int .i64 2, .int .i64 v] 30)).alloc (.cells #[.bool false, .int .i64 0, .slice none 0 0, .slice none 0 0, .int .i64 0] TZ)) = W at *
  refine (port_deliver H.out.port).mono ?_
  rintro e w1 ⟨rfl, hP1, hk1⟩
  have H1 := Aside0.mk (H.out.portStep hP1 hk1)
  have hX1 := blk_keep HX.out hk1 (fun h => by have := (Hok.out _ h).2; omega)
  have hZ1 := blk_keep HZ.out hk1 (fun h => by have := (Hok.out _ h).2; omega)
  obtain ⟨x0, x1, x2, x3, x4⟩ := cells5 hX1
  have hW1 := hk1.size
  have HK1 := Aside0.mk (HK.out.trans (hk1.mono (fun _ _ h => .inl h)))
  have HZ1 := Aside0.mk hZ1
  clear hX1 hZ1 hP1 hk1
  go_wp2_with fail
  refine (deliv_any H1.out.st hg).mono ?_
  rintro e w3 ⟨vO1, vI1, rfl, hS3, hB3⟩
  obtain ⟨A1, c1, A2, c2, rfl, rfl, -, -, -, -⟩ := stt_reads hS3
  have H3 := Aside0.mk (H1.out.stStep (Stt.new (w := w1) hS3 (Nat.le_refl _) H1.out.below.size) (Keep.of_below hB3))
  have hZ3 := blk_below HZ1.out hB3
  have HK3 := Aside0.mk (HK1.out.trans (Keep.of_below hB3))
  generalize delivP s = r1 at *
  obtain ⟨z0, z1, z2, z3, z4⟩ := cells5 hZ3
  obtain ⟨z5, z6, z7, z8, z9⟩ := froz5 hZ3
  have hZl := lt_blk hZ3
  have HZ3 := Aside0.mk hZ3
  clear hZ3 hS3 hB3 x0 x1 x2 x3 x4
  go_wp2_with fail
  clear z0 z1 z2 z3 z4 z5 z6 z7 z8 z9
  have h5 := blk_set5 (u0 := .bool r1.q) (u1 := .int .i64 r1.cap) (u2 := .slice A1 r1.out.length c1) (u3 := .slice A2 r1.inn.length c2) (u4 := .int .i64 r1.lost) HZ3.out
  obtain ⟨y0, y1, y2, y3, y4⟩ := cells5 h5
  refine bodyPost_ret (v := .tuple #[.agg #[.bool r1.q, .int .i64 r1.cap, .slice A1 r1.out.length c1, .slice A2 r1.inn.length c2, .int .i64 r1.lost], .bool true]) (by simp [results, Try.results16, go_sem, y0, y1, y2, y3, y4]) rfl ⟨_, _, _, _, rfl, H3.out.set5 (by have := hws.out; omega) ?_ ?_, ?_, ?_, (HK3.out).trans' (set5_keep _ _ _ _ _ _ _) (fun i hi e => by omega)⟩
  · rintro (h | h)
    · have := (Hok.out _ h).2; omega
    · have := HWs.out; omega
  · rintro (h | h)
    · have := (HP.out _ h).2.1; omega
    · have := HWs.out; omega
  · rintro k (h | h)
    · exact .inl h
    · right; have := HWs.out; omega
  · rintro k (h | h)
    · exact .inl h
    · right; have := HWs.out; omega
end Go.Proofs.Ytdienpcifklinaa
set_option linter.unusedSimpArgs false
set_option linter.unusedVariables false
namespace Go.Proofs.Ytdienpcifklinaa
open Go.RowKit Go.Proofs.YtdienpcifklinaaW.PrintWords Go.Proofs.YtdienpcifklinaaW.PrintMore Go.Proofs.YtdienpcifklinaaW.PrintLast PPortOwn
/-! does: the state: printed by gen15g.py. -/
set_option maxRecDepth 100000 in
set_option maxHeartbeats 4000000 in
theorem does_state {w0 w : World} {b : Nat} {s : Pt} {vO vI : Value} {ok P : Nat → Prop} (v : Int) (d : Int) (hd : d ≠ 0) (hd1 : d ≠ 1) (hd2 : d ≠ 2) (h : DW w0 b s s vO vI ok P w) : Calls Try.prog 16 #[.pointer (some ⟨b, 0, none⟩), .agg #[.bool s.q, .int .i64 s.cap, vO, vI, .int .i64 s.lost], .agg #[.int .i64 d, .int .i64 v]] w (DoesP w0 w b ok P (s)) := by
  obtain ⟨AO, cO, AI, cI, rfl, rfl, -, -, -, -⟩ := stt_reads h.st
  have hg := h.port.good
  have hA : Below w.heap.size w (((w.alloc (.cells #[.bool s.q, .int .i64 s.cap, (.slice AO s.out.length cO), (.slice AI s.inn.length cI), .int .i64 s.lost] TZ)).alloc (.cells #[.int .i64 d, .int .i64 v] 30)).alloc (.cells #[.bool false, .int .i64 0, .slice none 0 0, .slice none 0 0, .int .i64 0] TZ)) := (by repeat (first | (with_reducible exact Below.refl _ _) | (with_reducible refine Below.drew ?_) | (with_reducible refine below_drewN ?_ _) | (with_reducible refine below_al ?_ _) | (with_reducible refine Below.alloc ?_ (by first | exact Nat.le_refl _ | omega | (simp; done) | (simp; omega)) _) | (with_reducible refine Below.setCell ?_ (by first | (simp only []; omega) | (simp; done) | (simp; omega)) _)))
  have hX : (((w.alloc (.cells #[.bool s.q, .int .i64 s.cap, (.slice AO s.out.length cO), (.slice AI s.inn.length cI), .int .i64 s.lost] TZ)).alloc (.cells #[.int .i64 d, .int .i64 v] 30)).alloc (.cells #[.bool false, .int .i64 0, .slice none 0 0, .slice none 0 0, .int .i64 0] TZ)).heap[w.heap.size]? = some (.cells #[.bool s.q, .int .i64 s.cap, (.slice AO s.out.length cO), (.slice AI s.inn.length cI), .int .i64 s.lost] TZ (0, 0)) := blk_alloc (blk_alloc (blk_new _ _))
  have hY : (((w.alloc (.cells #[.bool s.q, .int .i64 s.cap, (.slice AO s.out.length cO), (.slice AI s.inn.length cI), .int .i64 s.lost] TZ)).alloc (.cells #[.int .i64 d, .int .i64 v] 30)).alloc (.cells #[.bool false, .int .i64 0, .slice none 0 0, .slice none 0 0, .int .i64 0] TZ)).heap[w.heap.size + 1]? = some (.cells #[.int .i64 d, .int .i64 v] 30 (0, 0)) := blk_alloc (blk_new1 _ _ _)
  have hZ0 : (((w.alloc (.cells #[.bool s.q, .int .i64 s.cap, (.slice AO s.out.length cO), (.slice AI s.inn.length cI), .int .i64 s.lost] TZ)).alloc (.cells #[.int .i64 d, .int .i64 v] 30)).alloc (.cells #[.bool false, .int .i64 0, .slice none 0 0, .slice none 0 0, .int .i64 0] TZ)).heap[w.heap.size + 2]? = some (.cells #[.bool false, .int .i64 0, .slice none 0 0, .slice none 0 0, .int .i64 0] TZ (0, 0)) := by
    have := blk_new ((w.alloc (.cells #[.bool s.q, .int .i64 s.cap, (.slice AO s.out.length cO), (.slice AI s.inn.length cI), .int .i64 s.lost] TZ)).alloc (.cells #[.int .i64 d, .int .i64 v] 30)) (.cells #[.bool false, .int .i64 0, .slice none 0 0, .slice none 0 0, .int .i64 0] TZ)
    simpa using this
  have hZ : (((w.alloc (.cells #[.bool s.q, .int .i64 s.cap, (.slice AO s.out.length cO), (.slice AI s.inn.length cI), .int .i64 s.lost] TZ)).alloc (.cells #[.int .i64 d, .int .i64 v] 30)).alloc (.cells #[.bool false, .int .i64 0, .slice none 0 0, .slice none 0 0, .int .i64 0] TZ)).heap[w.heap.size + 1 + 1]? = some (.cells #[.bool false, .int .i64 0, .slice none 0 0, .slice none 0 0, .int .i64 0] TZ (0, 0)) := hZ0
  clear hZ0
  have HX := Aside0.mk hX
  have HY := Aside0.mk hY
  have HZ := Aside0.mk hZ
  have H := Aside0.mk (h.then hA)
  have Hok := Aside0.mk h.port.z
  have HP := Aside0.mk h.zp
  have hws := Aside0.mk h.below.size
  have HK : Aside0 (Keep (fun k => ok k ∨ P k) w (((w.alloc (.cells #[.bool s.q, .int .i64 s.cap, (.slice AO s.out.length cO), (.slice AI s.inn.length cI), .int .i64 s.lost] TZ)).alloc (.cells #[.int .i64 d, .int .i64 v] 30)).alloc (.cells #[.bool false, .int .i64 0, .slice none 0 0, .slice none 0 0, .int .i64 0] TZ))) := ⟨Keep.of_below hA⟩
  have HWs : Aside0 ((((w.alloc (.cells #[.bool s.q, .int .i64 s.cap, (.slice AO s.out.length cO), (.slice AI s.inn.length cI), .int .i64 s.lost] TZ)).alloc (.cells #[.int .i64 d, .int .i64 v] 30)).alloc (.cells #[.bool false, .int .i64 0, .slice none 0 0, .slice none 0 0, .int .i64 0] TZ)).heap.size = w.heap.size + 3) := ⟨by simp⟩
  clear hX hY hZ hA h
  go_enter Try.func16, Try.ntmps16
  go_wp2_with fail
  generalize (((w.alloc (.cells #[.bool s.q, .int .i64 s.cap, (.slice AO s.out.length cO), (.slice AI s.inn.length cI), .int .i64 s.lost] TZ)).alloc (.cells #[.int .i64 d, .int .i64 v] 30)).alloc (.cells #[.bool false, .int .i64 0, .slice none 0 0, .slice none 0 0, .int .i64 0] TZ)) = W at *
  have HX2 : Aside0 (W.drew.heap[w.heap.size]? = some _) := ⟨blk_drew HX.out⟩
  have HZ2 : Aside0 (W.drew.heap[w.heap.size + 1 + 1]? = some _) := ⟨blk_drew HZ.out⟩
  have H2 := Aside0.mk (H.out.then (Below.refl _ _).drew)
  have HK2 : Aside0 (Keep (fun k => ok k ∨ P k) w W.drew) := ⟨HK.out.drew⟩
  refine start_ (n := 7) (S := fun w' => w'.cell? ⟨w.heap.size, 0, none⟩ = some (.bool s.q) ∧ w'.cell? ⟨w.heap.size, 1, none⟩ = some (.int .i64 s.cap) ∧ w'.cell? ⟨w.heap.size, 2, none⟩ = some (.slice AO s.out.length cO) ∧ w'.cell? ⟨w.heap.size, 3, none⟩ = some (.slice AI s.inn.length cI) ∧ w'.cell? ⟨w.heap.size, 4, none⟩ = some (.int .i64 s.lost)) (ds := [5]) #[false, false, false, false, false, false, false] (by kernel_rfl) rfl rfl ⟨cell_blk HX2.out 0, cell_blk HX2.out 1, cell_blk HX2.out 2, cell_blk HX2.out 3, cell_blk HX2.out 4⟩ (fun hHeld => ?_)
  generalize W.drew = x0 at *
  refine pure_ (i := 1) (N := some 62) (v := ?_) (a' := ?_) #[false, true, false, false, false, false, false] rfl rfl (by kernel_rfl) (fun _ _ _ h => h) (Or.inl ⟨by rfl, ?_⟩) ?_ ?_
  rotate_left
  · intro w'
    go_simp
    with_reducible rfl
  rotate_left
  · simp only [Act.put, List.setIfInBounds_toArray, List.set_cons_zero, List.set_cons_succ, i64_w, i32_w]
    rfl
  refine take_ (i := 0) (N := some 61) (v := ?_) (a' := ?_) #[true, true, false, false, false, false, false] rfl rfl (by kernel_rfl) (fun _ _ _ h => h) (Or.inl ⟨by rfl, ?_⟩) hHeld ?_ ?_
  rotate_left
  · rintro w' ⟨s0, s1, s2, s3, s4⟩
    go_simp
    with_reducible rfl
  rotate_left
  · simp only [Act.put, List.setIfInBounds_toArray, List.set_cons_zero, List.set_cons_succ, i64_w, i32_w]
    rfl
  refine take_ (i := 3) (N := some 64) (v := ?_) (a' := ?_) #[true, true, false, true, false, false, false] rfl rfl (by kernel_rfl) (fun _ _ _ h => h) (Or.inl ⟨by rfl, ?_⟩) hHeld ?_ ?_
  rotate_left
  · rintro w' ⟨s0, s1, s2, s3, s4⟩
    go_simp
    with_reducible rfl
  rotate_left
  · simp only [Act.put, List.setIfInBounds_toArray, List.set_cons_zero, List.set_cons_succ, i64_w, i32_w]
    rfl
  refine one_ (i := 2) (N := some 63) #[true, true, true, true, false, false, false] rfl rfl (by kernel_rfl) (by decide) (fun K hK => ?_)
  refine goes_ Try.func18 (by kernel_rfl) rfl #[.pointer (some ⟨b, 0, none⟩)] (by rfl) rfl rfl (by simp only [List.map_toArray, List.map_cons, List.map_nil]; rfl) ?_
  with_reducible refine (port_state H2.out.port).mono ?_
  rintro e w3 ⟨vO1, vI1, rfl, hR1, hR2, hB3⟩
  refine ⟨_, rfl, ?_⟩
  obtain ⟨A1, c1, rfl⟩ := Kd.R_slice hR1
  obtain ⟨A2, c2, rfl⟩ := Kd.R_slice hR2
  have hX3 := blk_below HX2.out hB3
  refine hK.out _ _ ⟨cell_blk hX3 0, cell_blk hX3 1, cell_blk hX3 2, cell_blk hX3 3, cell_blk hX3 4⟩ (fun hHeld => ?_)
  clear hK K
  refine norm_ (a' := ?_) ?_ ?_
  rotate_left
  · show Act.put _ (some 63) _ = _
    simp only [Act.put, List.setIfInBounds_toArray, List.set_cons_zero, List.set_cons_succ, i64_w, i32_w]
    rfl
  refine one_ (i := 4) (N := some 65) #[true, true, true, true, true, false, false] rfl rfl (by kernel_rfl) (by decide) (fun K hK => ?_)
  refine goes_ Try.func17 (by kernel_rfl) rfl #[.agg #[.bool s.q, .int .i64 s.cap, .slice A1 s.out.length c1, .slice A2 s.inn.length c2, .int .i64 s.lost], .agg #[.bool s.q, .int .i64 s.cap, .slice AO s.out.length cO, .slice AI s.inn.length cI, .int .i64 s.lost]] (by rfl) rfl rfl (by simp only [List.map_toArray, List.map_cons, List.map_nil]; rfl) ?_
  with_reducible refine (same_any ⟨hR1, hR2⟩ (H2.out.st.below hB3) hg).mono ?_
  rintro e w4 ⟨rfl, hB4⟩
  refine ⟨_, rfl, ?_⟩
  have hX4 := blk_below hX3 hB4
  have hZ4 := blk_below (blk_below HZ2.out hB3) hB4
  have H4 := Aside0.mk ((H2.out.then hB3).then hB4)
  have HK4 := Aside0.mk ((HK2.out.trans (Keep.of_below hB3)).trans (Keep.of_below hB4))
  refine hK.out _ _ ⟨cell_blk hX4 0, cell_blk hX4 1, cell_blk hX4 2, cell_blk hX4 3, cell_blk hX4 4⟩ (fun hHeld => ?_)
  clear hK K
  refine norm_ (a' := ?_) ?_ ?_
  rotate_left
  · show Act.put _ (some 65) _ = _
    simp only [Act.put, List.setIfInBounds_toArray, List.set_cons_zero, List.set_cons_succ, i64_w, i32_w]
    rfl
  refine last_ (i := 5) (N := none) #[true, true, true, true, true, true, false] rfl rfl (by kernel_rfl) (by decide) (fun K hK => ?_)
  obtain ⟨z0, z1, z2, z3, z4⟩ := cells5 hZ4
  obtain ⟨z5, z6, z7, z8, z9⟩ := froz5 hZ4
  have hZl := lt_blk hZ4
  refine skip_ (w1 := ?_) (by rfl) rfl ?_ ?_
  rotate_left
  · go_simp
    first | with_reducible rfl | rfl
  refine hK.out _ _ ?_
  clear hK K
  refine pure_ (i := 6) (N := some 7) (v := ?_) (a' := ?_) #[true, true, true, true, true, true, true] rfl rfl (by kernel_rfl) (fun _ _ _ h => h) (Or.inl ⟨by rfl, ?_⟩) ?_ ?_
  rotate_left
  · intro w'
    go_simp
    with_reducible rfl
  rotate_left
  · simp only [Act.put, List.setIfInBounds_toArray, List.set_cons_zero, List.set_cons_succ, i64_w, i32_w]
    rfl
  refine done_ (by kernel_rfl) ?_
  have hZs := hZ4
  clear z0 z1 z2 z3 z4 z5 z6 z7 z8 z9 hX3 hX4 hHeld hR1 hR2 hB3 hB4
  go_wp2
  have h5 := blk_set5 (u0 := .bool s.q) (u1 := .int .i64 s.cap) (u2 := .slice AO s.out.length cO) (u3 := .slice AI s.inn.length cI) (u4 := .int .i64 s.lost) hZs
  obtain ⟨y0, y1, y2, y3, y4⟩ := cells5 h5
  refine bodyPost_ret (v := .tuple #[.agg #[.bool s.q, .int .i64 s.cap, .slice AO s.out.length cO, .slice AI s.inn.length cI, .int .i64 s.lost], .bool true]) (by simp [results, Try.results16, go_sem, y0, y1, y2, y3, y4]) rfl ⟨_, _, _, _, rfl, H4.out.set5 (by have := hws.out; omega) ?_ ?_, ?_, ?_, (HK4.out).trans' (set5_keep _ _ _ _ _ _ _) (fun i hi e => by omega)⟩
  · intro h; have := (Hok.out _ h).2; omega
  · intro h; have := (HP.out _ h).2.1; omega
  · exact fun k h => .inl h
  · exact fun k h => .inl h
end Go.Proofs.Ytdienpcifklinaa
set_option linter.unusedSimpArgs false
set_option linter.unusedVariables false
namespace Go.Proofs.Ytdienpcifklinaa
open Go.RowKit Go.Proofs.YtdienpcifklinaaW.PrintWords Go.Proofs.YtdienpcifklinaaW.PrintMore Go.Proofs.YtdienpcifklinaaW.PrintLast PPortOwn
/-! does: printed by gen15g.py. -/
theorem does_any {w0 w : World} {b : Nat} {s : Pt} {vO vI : Value} {ok P : Nat → Prop} (a : Int × Int) (h : DW w0 b s s vO vI ok P w) : Calls Try.prog 16 #[.pointer (some ⟨b, 0, none⟩), .agg #[.bool s.q, .int .i64 s.cap, vO, vI, .int .i64 s.lost], .agg #[.int .i64 a.1, .int .i64 a.2]] w (DoesP w0 w b ok P (doP s a)) := by
  obtain ⟨d, v⟩ := a
  unfold doP
  simp only
  rcases (show d = 0 ∨ d = 1 ∨ d = 2 ∨ (d ≠ 0 ∧ d ≠ 1 ∧ d ≠ 2) by omega) with rfl | rfl | rfl | ⟨hd, hd', hd''⟩
  · exact does_put v h
  · exact does_get v h
  · exact does_deliver v h
  · rw [if_neg hd, if_neg hd', if_neg hd'']
    exact does_state v d hd hd' hd'' h
end Go.Proofs.Ytdienpcifklinaa
