import Derived.Test.YtdienpcifklinaaPtW
set_option linter.unusedSimpArgs false
set_option linter.unusedVariables false
namespace Go.Proofs.Ytdienpcifklinaa
open Go.RowKit Go.Proofs.YtdienpcifklinaaW.PrintWords Go.Proofs.YtdienpcifklinaaW.PrintMore Go.Proofs.YtdienpcifklinaaW.PrintLast PPortOwn
/-! does: the state: printed by gen15g.py. -/
set_option maxRecDepth 100000 in
set_option maxHeartbeats 4000000 in
theorem does_state {w0 w : World} {b : Nat} {s : Pt} {vO vI : Value} {ok P : Nat → Prop} (v : Int) (d : Int) (hd : d ≠ 0) (hd1 : d ≠ 1) (hd2 : d ≠ 2) (h : DW w0 b s s vO vI ok P w) : Calls Try.prog 16 #[.pointer (some ⟨b, 0, none⟩), .agg #[.bool s.q, .int .i64 s.cap, vO, vI, .int .i64 s.lost], .agg #[.int .i64 d, .int .i64 v]] w (DoesP w0 w b ok P (s)) := by
  obtain ⟨AO, cO, AI, cI, rfl, rfl, -, -, -, -⟩ := stt_reads h.st
  have hg := h.port.good
  have hA : Below w.heap.size w (((w.alloc (.cells #[.bool s.q, .int .i64 s.cap, (.slice AO s.out.length cO), (.slice AI s.inn.length cI), .int .i64 s.lost] TZ)).alloc (.cells #[.int .i64 d, .int .i64 v] 30)).alloc (.cells #[.bool false, .int .i64 0, .slice none 0 0, .slice none 0 0, .int .i64 0] TZ)) := (by repeat (first | (with_reducible exact Below.refl _ _) | (with_reducible refine Below.drew ?_) | (with_reducible refine below_drewN ?_ _) | (with_reducible refine below_al ?_ _) | (with_reducible refine Below.alloc ?_ (by first | exact Nat.le_refl _ | omega | (simp; done) | (simp; omega)) _) | (with_reducible refine Below.setCell ?_ (by first | (simp only []; omega) | (simp; done) | (simp; omega)) _)))
  have hX : (((w.alloc (.cells #[.bool s.q, .int .i64 s.cap, (.slice AO s.out.length cO), (.slice AI s.inn.length cI), .int .i64 s.lost] TZ)).alloc (.cells #[.int .i64 d, .int .i64 v] 30)).alloc (.cells #[.bool false, .int .i64 0, .slice none 0 0, .slice none 0 0, .int .i64 0] TZ)).heap[w.heap.size]? = some (.cells #[.bool s.q, .int .i64 s.cap, (.slice AO s.out.length cO), (.slice AI s.inn.length cI), .int .i64 s.lost] TZ (0, 0)) := blk_alloc (blk_alloc (blk_new _ _))
  have hY : (((w.alloc (.cells #[.bool s.q, .int .i64 s.cap, (.slice AO s.out.length cO), (.slice AI s.inn.length cI), .int .i64 s.lost] TZ)).alloc (.cells #[.int .i64 d, .int .i64 v] 30)).alloc (.cells #[.bool false, .int .i64 0, .slice none 0 0, .slice none 0 0, .int .i64 0] TZ)).heap[w.heap.size + 1]? = some (.cells #[.int .i64 d, .int .i64 v] 30 (0, 0)) := blk_alloc (blk_new1 _ _ _)
  have hZ0 : (((w.alloc (.cells #[.bool s.q, .int .i64 s.cap, (.slice AO s.out.length cO), (.slice AI s.inn.length cI), .int .i64 s.lost] TZ)).alloc (.cells #[.int .i64 d, .int .i64 v] 30)).alloc (.cells #[.bool false, .int .i64 0, .slice none 0 0, .slice none 0 0, .int .i64 0] TZ)).heap[w.heap.size + 2]? = some (.cells #[.bool false, .int .i64 0, .slice none 0 0, .slice none 0 0, .int .i64 0] TZ (0, 0)) := by
    have := blk_new ((w.alloc (.cells #[.bool s.q, .int .i64 s.cap, (.slice AO s.out.length cO), (.slice AI s.inn.length cI), .int .i64 s.lost] TZ)).alloc (.cells #[.int .i64 d, .int .i64 v] 30)) (.cells #[.bool false, .int .i64 0, .slice none 0 0, .slice none 0 0, .int .i64 0] TZ)
    simpa using this
  have hZ : (((w.alloc (.cells #[.bool s.q, .int .i64 s.cap, (.slice AO s.out.length cO), (.slice AI s.inn.length cI), .int .i64 s.lost] TZ)).alloc (.cells #[.int .i64 d, .int .i64 v] 30)).alloc (.cells #[.bool false, .int .i64 0, .slice none 0 0, .slice none 0 0, .int .i64 0] TZ)).heap[w.heap.size + 1 + 1]? = some (.cells #[.bool false, .int .i64 0, .slice none 0 0, .slice none 0 0, .int .i64 0] TZ (0, 0)) := hZ0
  clear hZ0
  have HX := Aside0.mk hX
  have HY := Aside0.mk hY
  have HZ := Aside0.mk hZ
  have H := Aside0.mk (h.then hA)
  have Hok := Aside0.mk h.port.z
  have HP := Aside0.mk h.zp
  have hws := Aside0.mk h.below.size
  have HK : Aside0 (Keep (fun k => ok k ∨ P k) w (((w.alloc (.cells #[.bool s.q, .int .i64 s.cap, (.slice AO s.out.length cO), (.slice AI s.inn.length cI), .int .i64 s.lost] TZ)).alloc (.cells #[.int .i64 d, .int .i64 v] 30)).alloc (.cells #[.bool false, .int .i64 0, .slice none 0 0, .slice none 0 0, .int .i64 0] TZ))) := ⟨Keep.of_below hA⟩
  have HWs : Aside0 ((((w.alloc (.cells #[.bool s.q, .int .i64 s.cap, (.slice AO s.out.length cO), (.slice AI s.inn.length cI), .int .i64 s.lost] TZ)).alloc (.cells #[.int .i64 d, .int .i64 v] 30)).alloc (.cells #[.bool false, .int .i64 0, .slice none 0 0, .slice none 0 0, .int .i64 0] TZ)).heap.size = w.heap.size + 3) := ⟨by simp⟩
  clear hX hY hZ hA h
  go_enter Try.func16, Try.ntmps16
  go_wp2_with fail
  generalize (((w.alloc (.cells #[.bool s.q, .int .i64 s.cap, (.slice AO s.out.length cO), (.slice AI s.inn.length cI), .int .i64 s.lost] TZ)).alloc (.cells #[.int .i64 d, .int .i64 v] 30)).alloc (.cells #[.bool false, .int .i64 0, .slice none 0 0, .slice none 0 0, .int .i64 0] TZ)) = W at *
  have HX2 : Aside0 (W.drew.heap[w.heap.size]? = some _) := ⟨blk_drew HX.out⟩
  have HZ2 : Aside0 (W.drew.heap[w.heap.size + 1 + 1]? = some _) := ⟨blk_drew HZ.out⟩
  have H2 := Aside0.mk (H.out.then (Below.refl _ _).drew)
  have HK2 : Aside0 (Keep (fun k => ok k ∨ P k) w W.drew) := ⟨HK.out.drew⟩
  refine start_ (n := 7) (S := fun w' => w'.cell? ⟨w.heap.size, 0, none⟩ = some (.bool s.q) ∧ w'.cell? ⟨w.heap.size, 1, none⟩ = some (.int .i64 s.cap) ∧ w'.cell? ⟨w.heap.size, 2, none⟩ = some (.slice AO s.out.length cO) ∧ w'.cell? ⟨w.heap.size, 3, none⟩ = some (.slice AI s.inn.length cI) ∧ w'.cell? ⟨w.heap.size, 4, none⟩ = some (.int .i64 s.lost)) (ds := [5]) #[false, false, false, false, false, false, false] (by kernel_rfl) rfl rfl ⟨cell_blk HX2.out 0, cell_blk HX2.out 1, cell_blk HX2.out 2, cell_blk HX2.out 3, cell_blk HX2.out 4⟩ (fun hHeld => ?_)
  generalize W.drew = x0 at *
  refine pure_ (i := 1) (N := some 62) (v := ?_) (a' := ?_) #[false, true, false, false, false, false, false] rfl rfl (by kernel_rfl) (fun _ _ _ h => h) (Or.inl ⟨by rfl, ?_⟩) ?_ ?_
  rotate_left
  · intro w'
    go_simp
    with_reducible rfl
  rotate_left
  · simp only [Act.put, List.setIfInBounds_toArray, List.set_cons_zero, List.set_cons_succ, i64_w, i32_w]
    rfl
  refine take_ (i := 0) (N := some 61) (v := ?_) (a' := ?_) #[true, true, false, false, false, false, false] rfl rfl (by kernel_rfl) (fun _ _ _ h => h) (Or.inl ⟨by rfl, ?_⟩) hHeld ?_ ?_
  rotate_left
  · rintro w' ⟨s0, s1, s2, s3, s4⟩
    go_simp
    with_reducible rfl
  rotate_left
  · simp only [Act.put, List.setIfInBounds_toArray, List.set_cons_zero, List.set_cons_succ, i64_w, i32_w]
    rfl
  refine take_ (i := 3) (N := some 64) (v := ?_) (a' := ?_) #[true, true, false, true, false, false, false] rfl rfl (by kernel_rfl) (fun _ _ _ h => h) (Or.inl ⟨by rfl, ?_⟩) hHeld ?_ ?_
  rotate_left
  · rintro w' ⟨s0, s1, s2, s3, s4⟩
    go_simp
    with_reducible rfl
  rotate_left
  · simp only [Act.put, List.setIfInBounds_toArray, List.set_cons_zero, List.set_cons_succ, i64_w, i32_w]
    rfl
  refine one_ (i := 2) (N := some 63) #[true, true, true, true, false, false, false] rfl rfl (by kernel_rfl) (by decide) (fun K hK => ?_)
  refine goes_ Try.func18 (by kernel_rfl) rfl #[.pointer (some ⟨b, 0, none⟩)] (by rfl) rfl rfl (by simp only [List.map_toArray, List.map_cons, List.map_nil]; rfl) ?_
  with_reducible refine (port_state H2.out.port).mono ?_
  rintro e w3 ⟨vO1, vI1, rfl, hR1, hR2, hB3⟩
  refine ⟨_, rfl, ?_⟩
  obtain ⟨A1, c1, rfl⟩ := Kd.R_slice hR1
  obtain ⟨A2, c2, rfl⟩ := Kd.R_slice hR2
  have hX3 := blk_below HX2.out hB3
  refine hK.out _ _ ⟨cell_blk hX3 0, cell_blk hX3 1, cell_blk hX3 2, cell_blk hX3 3, cell_blk hX3 4⟩ (fun hHeld => ?_)
  clear hK K
  refine norm_ (a' := ?_) ?_ ?_
  rotate_left
  · show Act.put _ (some 63) _ = _
    simp only [Act.put, List.setIfInBounds_toArray, List.set_cons_zero, List.set_cons_succ, i64_w, i32_w]
    rfl
  refine one_ (i := 4) (N := some 65) #[true, true, true, true, true, false, false] rfl rfl (by kernel_rfl) (by decide) (fun K hK => ?_)
  refine goes_ Try.func17 (by kernel_rfl) rfl #[.agg #[.bool s.q, .int .i64 s.cap, .slice A1 s.out.length c1, .slice A2 s.inn.length c2, .int .i64 s.lost], .agg #[.bool s.q, .int .i64 s.cap, .slice AO s.out.length cO, .slice AI s.inn.length cI, .int .i64 s.lost]] (by rfl) rfl rfl (by simp only [List.map_toArray, List.map_cons, List.map_nil]; rfl) ?_
  with_reducible refine (same_any ⟨hR1, hR2⟩ (H2.out.st.below hB3) hg).mono ?_
  rintro e w4 ⟨rfl, hB4⟩
  refine ⟨_, rfl, ?_⟩
  have hX4 := blk_below hX3 hB4
  have hZ4 := blk_below (blk_below HZ2.out hB3) hB4
  have H4 := Aside0.mk ((H2.out.then hB3).then hB4)
  have HK4 := Aside0.mk ((HK2.out.trans (Keep.of_below hB3)).trans (Keep.of_below hB4))
  refine hK.out _ _ ⟨cell_blk hX4 0, cell_blk hX4 1, cell_blk hX4 2, cell_blk hX4 3, cell_blk hX4 4⟩ (fun hHeld => ?_)
  clear hK K
  refine norm_ (a' := ?_) ?_ ?_
  rotate_left
  · show Act.put _ (some 65) _ = _
    simp only [Act.put, List.setIfInBounds_toArray, List.set_cons_zero, List.set_cons_succ, i64_w, i32_w]
    rfl
  refine last_ (i := 5) (N := none) #[true, true, true, true, true, true, false] rfl rfl (by kernel_rfl) (by decide) (fun K hK => ?_)
  obtain ⟨z0, z1, z2, z3, z4⟩ := cells5 hZ4
  obtain ⟨z5, z6, z7, z8, z9⟩ := froz5 hZ4
  have hZl := lt_blk hZ4
  refine skip_ (w1 := ?_) (by rfl) rfl ?_ ?_
  rotate_left
  · go_simp
    first | with_reducible rfl | rfl
  refine hK.out _ _ ?_
  clear hK K
  refine pure_ (i := 6) (N := some 7) (v := ?_) (a' := ?_) #[true, true, true, true, true, true, true] rfl rfl (by kernel_rfl) (fun _ _ _ h => h) (Or.inl ⟨by rfl, ?_⟩) ?_ ?_
  rotate_left
  · intro w'
    go_simp
    with_reducible rfl
  rotate_left
  · simp only [Act.put, List.setIfInBounds_toArray, List.set_cons_zero, List.set_cons_succ, i64_w, i32_w]
    rfl
  refine done_ (by kernel_rfl) ?_
  have hZs := hZ4
  clear z0 z1 z2 z3 z4 z5 z6 z7 z8 z9 hX3 hX4 hHeld hR1 hR2 hB3 hB4
  go_wp2
  have h5 := blk_set5 (u0 := .bool s.q) (u1 := .int .i64 s.cap) (u2 := .slice AO s.out.length cO) (u3 := .slice AI s.inn.length cI) (u4 := .int .i64 s.lost) hZs
  obtain ⟨y0, y1, y2, y3, y4⟩ := cells5 h5
  refine bodyPost_ret (v := .tuple #[.agg #[.bool s.q, .int .i64 s.cap, .slice AO s.out.length cO, .slice AI s.inn.length cI, .int .i64 s.lost], .bool true]) (by simp [results, Try.results16, go_sem, y0, y1, y2, y3, y4]) rfl ⟨_, _, _, _, rfl, H4.out.set5 (by have := hws.out; omega) ?_ ?_, ?_, ?_, (HK4.out).trans' (set5_keep _ _ _ _ _ _ _) (fun i hi e => by omega)⟩
  · intro h; have := (Hok.out _ h).2; omega
  · intro h; have := (HP.out _ h).2.1; omega
  · exact fun k h => .inl h
  · exact fun k h => .inl h
end Go.Proofs.Ytdienpcifklinaa
