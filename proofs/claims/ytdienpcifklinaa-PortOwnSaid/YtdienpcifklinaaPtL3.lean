import Derived.Test.YtdienpcifklinaaPtY
import Derived.Deep.DrawnRows
set_option linter.unusedSimpArgs false
set_option linter.unusedVariables false
namespace Go.Proofs.Ytdienpcifklinaa
open Go.RowKit Go.Proofs.YtdienpcifklinaaW.PrintWords Go.Proofs.YtdienpcifklinaaW.PrintMore Go.Proofs.YtdienpcifklinaaW.PrintLast PPortOwn
/-! port.Load, the document's Load: printed by gen15g.py. -/
theorem fresh_R {α : Type} {d : Kd α} {xs : List α} {w' : World} {v : Value} {e n n0 : Nat} (h : d.R e w' n (fun _ => True) v xs) (hn : n0 ≤ n) : d.R e w' n0 (fun k => n0 ≤ k ∧ k < w'.heap.size) v xs :=
  Kd.R_mono (Kd.R_lower (Kd.R_mono (Kd.R_bound h) (fun k ho => (⟨Nat.le_trans hn ho.2.1, ho.2.2.1⟩ : n0 ≤ k ∧ k < w'.heap.size))) hn) (fun _ h => h)
def SttR (w : World) (s : Pt) (vO vI : Value) : Prop := ∃ A c B d, vO = .slice A s.out.length c ∧ vI = .slice B s.inn.length d ∧ s.out.length ≤ c ∧ s.inn.length ≤ d ∧ (Kd.int .i64).C w A s.out.length s.out ∧ kA.C w B s.inn.length s.inn
theorem SttR.below {w w' : World} {s : Pt} {vO vI : Value} (h : SttR w s vO vI) (hB : Below w.heap.size w w') : SttR w' s vO vI := by
  obtain ⟨A, c, B, d, h1, h2, h3, h4, h5, h6⟩ := h
  exact ⟨A, c, B, d, h1, h2, h3, h4, Kd.C_below h5 hB, Kd.C_below h6 hB⟩
theorem Stt.rd {w : World} {base : Nat} {P : Nat → Prop} {s : Pt} {vO vI : Value} (h : Stt w base P s vO vI) : SttR w s vO vI := by
  exact stt_reads h
theorem copy_c {w : World} {s : Pt} {vO vI : Value} (h : SttR w s vO vI) (hi : s.inn.length ≤ 8796093022208) (ho : s.out.length ≤ 17592186044416) : Calls Try.prog 20 #[.agg #[.bool s.q, .int .i64 s.cap, vO, vI, .int .i64 s.lost]] w fun e w' => ∃ vO' vI', e = .returned (.agg #[.bool s.q, .int .i64 s.cap, vO', vI', .int .i64 s.lost]) ∧ Stt w' w.heap.size (fun _ => True) s vO' vI' ∧ Below w.heap.size w w' := by
  obtain ⟨A, c, B, d, rfl, rfl, hc, hd, h1, h2⟩ := h
  exact (rotaref15_Copy.calls _ s.q s.cap A c s.out B d s.inn s.lost _ _ _ _ _ w h1 hc h2 hd (copy_ok s.q s.cap s.out s.inn s.lost ho hi _ (Nat.lt_succ_self _))).mono fun e w' ⟨v1, v2, he, hr1, hr2, hB⟩ => ⟨v1, v2, he, ⟨hr1, hr2⟩, hB⟩
theorem same_c {w : World} {s : Pt} {vO vI vO' vI' : Value} (h : SttR w s vO vI) (h' : SttR w s vO' vI') (hi : s.inn.length ≤ 8796093022208) (ho : s.out.length ≤ 17592186044416) : Calls Try.prog 17 #[.agg #[.bool s.q, .int .i64 s.cap, vO, vI, .int .i64 s.lost], .agg #[.bool s.q, .int .i64 s.cap, vO', vI', .int .i64 s.lost]] w fun e w' => e = .returned (.bool true) ∧ Below w.heap.size w w' := by
  obtain ⟨A, c, B, d, rfl, rfl, hc, hd, h1, h2⟩ := h
  obtain ⟨A', c', B', d', rfl, rfl, hc', hd', h1', h2'⟩ := h'
  exact rotaref15_Same.calls _ s.q s.cap A c s.out B d s.inn s.lost s.q s.cap A' c' s.out B' d' s.inn s.lost _ w h1 hc h2 hd h1' hc' h2' hd' (same_ok s.q s.cap s.out s.inn s.lost ho hi)
def LoadP (s : Pt) (w : World) (e : Ending) (w' : World) : Prop := Below w.heap.size w w' ∧ ((MayS s ∧ ∃ b ok, e = .returned (.tuple #[.pointer (some ⟨b, 0, none⟩), .int .i64 0]) ∧ IsPort w' w.heap.size ok b s) ∨ (¬ MayS s ∧ e = .returned (.tuple #[.pointer none, .int .i64 150])))
theorem may_any {w : World} {s : Pt} {vO vI : Value} (h : SttR w s vO vI) (hi : s.inn.length ≤ 8796093022208) (ho : s.out.length ≤ 17592186044416) (r : Bool) (hr : if r then MayS s else ¬ MayS s) : Calls Try.prog 27 #[.agg #[.bool s.q, .int .i64 s.cap, vO, vI, .int .i64 s.lost]] w fun e w' => e = .returned (.bool r) ∧ Below w.heap.size w w' := by
  obtain ⟨A, c, B, d, rfl, rfl, hc, hd, h1, h2⟩ := h
  refine port_may.calls _ s.q s.cap A c s.out B d s.inn s.lost r w h1 hc h2 hd (?_ : port_may.f (s.out.length + s.inn.length + s.inn.length + 9) s.q s.cap s.out s.inn s.lost = some r)
  cases r with
  | true => exact (may_ok s hi ho).1 (by simpa using hr)
  | false => exact (may_ok s hi ho).2 (by simpa using hr)
theorem rload_yes {w : World} {s : Pt} {vO vI : Value} (h : SttR w s vO vI) (hi : s.inn.length ≤ 8796093022208) (ho : s.out.length ≤ 17592186044416) (hm : MayS s) : Calls Try.prog 21 #[.agg #[.bool s.q, .int .i64 s.cap, vO, vI, .int .i64 s.lost]] w fun e w' => ∃ vO' vI', e = .returned (.tuple #[.agg #[.bool s.q, .int .i64 s.cap, vO', vI', .int .i64 s.lost], .int .i64 0]) ∧ Stt w' w.heap.size (fun _ => True) s vO' vI' ∧ Below w.heap.size w w' := by
  obtain ⟨A, c, B, d, rfl, rfl, hc, hd, h1, h2⟩ := h
  exact (rotaref15_Load.calls _ s.q s.cap A c s.out B d s.inn s.lost _ _ _ _ _ _ w h1 hc h2 hd ((load_ok s hi ho).1 hm)).mono fun e w' ⟨v1, v2, he, hr1, hr2, hB⟩ => ⟨v1, v2, he, ⟨hr1, hr2⟩, hB⟩
theorem rload_no {w : World} {s : Pt} {vO vI : Value} (h : SttR w s vO vI) (hi : s.inn.length ≤ 8796093022208) (ho : s.out.length ≤ 17592186044416) (hm : ¬ MayS s) : Calls Try.prog 21 #[.agg #[.bool s.q, .int .i64 s.cap, vO, vI, .int .i64 s.lost]] w fun e w' => ∃ A c B d, e = .returned (.tuple #[.agg #[.bool false, .int .i64 0, .slice A 0 c, .slice B 0 d, .int .i64 0], .int .i64 150]) ∧ Below w.heap.size w w' := by
  obtain ⟨A, c, B, d, rfl, rfl, hc, hd, h1, h2⟩ := h
  exact (rotaref15_Load.calls _ s.q s.cap A c s.out B d s.inn s.lost _ _ _ _ _ _ w h1 hc h2 hd ((load_ok s hi ho).2 hm)).mono fun e w' ⟨v1, v2, he, hr1, hr2, hB⟩ => by
    obtain ⟨A', c', rfl⟩ := Kd.R_slice hr1
    obtain ⟨B', d', rfl⟩ := Kd.R_slice hr2
    exact ⟨A', c', B', d', he, hB⟩
set_option maxRecDepth 100000 in
set_option maxHeartbeats 4000000 in
theorem load_no {w : World} {s : Pt} {vO vI : Value} (h : SttR w s vO vI) (hi : s.inn.length ≤ 8796093022208) (ho : s.out.length ≤ 17592186044416) (hm : ¬ MayS s) : Calls Try.prog 19 #[.agg #[.bool s.q, .int .i64 s.cap, vO, vI, .int .i64 s.lost]] w (LoadP s w) := by
  have h0 := h
  obtain ⟨AO, cO, AI, cI, rfl, rfl, hcO, hcI, hCO, hCI⟩ := h0
  have HC := Aside0.mk (may_any (h.below (show Below w.heap.size w (w.alloc (.cells #[.bool s.q, .int .i64 s.cap, .slice AO s.out.length cO, .slice AI s.inn.length cI, .int .i64 s.lost] TZ)) from below_al (Below.refl _ _) _)) hi ho false (by simpa using hm))
  have hX : (w.alloc (.cells #[.bool s.q, .int .i64 s.cap, .slice AO s.out.length cO, .slice AI s.inn.length cI, .int .i64 s.lost] TZ)).heap[w.heap.size]? = some (.cells #[.bool s.q, .int .i64 s.cap, .slice AO s.out.length cO, .slice AI s.inn.length cI, .int .i64 s.lost] TZ (0, 0)) := blk_new _ _
  have HX := Aside0.mk hX
  have HB0 : Aside0 (Below w.heap.size w (w.alloc (.cells #[.bool s.q, .int .i64 s.cap, .slice AO s.out.length cO, .slice AI s.inn.length cI, .int .i64 s.lost] TZ))) := ⟨below_al (Below.refl _ _) _⟩
  have HCO := Aside0.mk hCO
  have HCI := Aside0.mk hCI
  clear hX h hCO hCI
  go_enter Try.func19, Try.ntmps19
  go_wp2_with fail
  generalize (w.alloc (.cells #[.bool s.q, .int .i64 s.cap, .slice AO s.out.length cO, .slice AI s.inn.length cI, .int .i64 s.lost] TZ)) = W at *
  refine HC.out.mono ?_
  clear HC
  rintro e w1 ⟨rfl, hB1⟩
  have HB1 := Aside0.mk (below_then HB0.out (hB1.mono (Nat.le_refl _)))
  have hX1 := blk_below HX.out hB1
  have HX1 := Aside0.mk hX1
  obtain ⟨x0, x1, x2, x3, x4⟩ := cells5 hX1
  have HW1 : Aside0 (W.heap.size ≤ w1.heap.size) := ⟨hB1.size⟩
  clear hX1 hB1
  clear x0 x1 x2 x3 x4
  go_wp2
  go_ret2
  exact ⟨HB1.out, .inr ⟨hm, rfl⟩⟩
end Go.Proofs.Ytdienpcifklinaa
set_option linter.unusedSimpArgs false
set_option linter.unusedVariables false
namespace Go.Proofs.Ytdienpcifklinaa
open Go.RowKit Go.Proofs.YtdienpcifklinaaW.PrintWords Go.Proofs.YtdienpcifklinaaW.PrintMore Go.Proofs.YtdienpcifklinaaW.PrintLast PPortOwn
/-! port.Load: a queue: printed by gen15g.py. -/
set_option maxRecDepth 100000 in
set_option maxHeartbeats 4000000 in
theorem load_q {w : World} {s : Pt} {vO vI : Value} (h : SttR w s vO vI) (hi : s.inn.length ≤ 8796093022208) (ho : s.out.length ≤ 17592186044416) (hm : MayS s) (hq0 : s.q = true) : Calls Try.prog 19 #[.agg #[.bool s.q, .int .i64 s.cap, vO, vI, .int .i64 s.lost]] w (LoadP s w) := by
  have h0 := h
  obtain ⟨AO, cO, AI, cI, rfl, rfl, hcO, hcI, hCO, hCI⟩ := h0
  have HQ := Aside0.mk hq0
  clear hq0
  have HC := Aside0.mk (may_any (h.below (show Below w.heap.size w (w.alloc (.cells #[.bool s.q, .int .i64 s.cap, .slice AO s.out.length cO, .slice AI s.inn.length cI, .int .i64 s.lost] TZ)) from below_al (Below.refl _ _) _)) hi ho true (by simpa using hm))
  have hX : (w.alloc (.cells #[.bool s.q, .int .i64 s.cap, .slice AO s.out.length cO, .slice AI s.inn.length cI, .int .i64 s.lost] TZ)).heap[w.heap.size]? = some (.cells #[.bool s.q, .int .i64 s.cap, .slice AO s.out.length cO, .slice AI s.inn.length cI, .int .i64 s.lost] TZ (0, 0)) := blk_new _ _
  have HX := Aside0.mk hX
  have HB0 : Aside0 (Below w.heap.size w (w.alloc (.cells #[.bool s.q, .int .i64 s.cap, .slice AO s.out.length cO, .slice AI s.inn.length cI, .int .i64 s.lost] TZ))) := ⟨below_al (Below.refl _ _) _⟩
  have HCO := Aside0.mk hCO
  have HCI := Aside0.mk hCI
  clear hX h hCO hCI
  go_enter Try.func19, Try.ntmps19
  go_wp2_with fail
  generalize (w.alloc (.cells #[.bool s.q, .int .i64 s.cap, .slice AO s.out.length cO, .slice AI s.inn.length cI, .int .i64 s.lost] TZ)) = W at *
  refine HC.out.mono ?_
  clear HC
  rintro e w1 ⟨rfl, hB1⟩
  have HB1 := Aside0.mk (below_then HB0.out (hB1.mono (Nat.le_refl _)))
  have hX1 := blk_below HX.out hB1
  have HX1 := Aside0.mk hX1
  obtain ⟨x0, x1, x2, x3, x4⟩ := cells5 hX1
  have HW1 : Aside0 (W.heap.size ≤ w1.heap.size) := ⟨hB1.size⟩
  clear hX1 hB1
  have hcap := hm.good.c1
  have hol := hm.o
  have hil := hm.i
  rw [HQ.out] at x0
  go_wp2_with fail
  have HY0 : Aside0 (Below w.heap.size w w1.drew) := ⟨HB1.out.drew⟩
  have HX2 : Aside0 (w1.drew.heap[w.heap.size]? = some _) := ⟨blk_drew HX1.out⟩
  clear x0 x1 x2 x3 x4
  refine start_ (n := 17) (S := fun w' => w'.cell? ⟨w.heap.size, 1, none⟩ = some (.int .i64 s.cap) ∧ w'.cell? ⟨w.heap.size, 2, none⟩ = some (.slice AO s.out.length cO) ∧ w'.cell? ⟨w.heap.size, 3, none⟩ = some (.slice AI s.inn.length cI) ∧ w'.cell? ⟨w.heap.size, 4, none⟩ = some (.int .i64 s.lost)) (ds := []) #[false, false, false, false, false, false, false, false, false, false, false, false, false, false, false, false, false] (by kernel_rfl) rfl rfl ⟨cell_blk HX2.out 1, cell_blk HX2.out 2, cell_blk HX2.out 3, cell_blk HX2.out 4⟩ (fun hHeld => ?_)
  generalize w1.drew = y0 at *
  refine pure_ (i := 0) (N := some 14) (v := ?_) (a' := ?_) #[true, false, false, false, false, false, false, false, false, false, false, false, false, false, false, false, false] rfl rfl (by kernel_rfl) (fun _ _ _ h => h) (Or.inl ⟨by rfl, ?_⟩) ?_ ?_
  rotate_left
  · intro w'
    go_simp
    with_reducible rfl
  rotate_left
  · simp only [Act.put, List.setIfInBounds_toArray, List.set_cons_zero, List.set_cons_succ, i64_w, i32_w]
    rfl
  refine pure_ (i := 2) (N := some 16) (v := ?_) (a' := ?_) #[true, false, true, false, false, false, false, false, false, false, false, false, false, false, false, false, false] rfl rfl (by kernel_rfl) (fun _ _ _ h => h) (Or.inl ⟨by rfl, ?_⟩) ?_ ?_
  rotate_left
  · intro w'
    go_simp
    with_reducible rfl
  rotate_left
  · simp only [Act.put, List.setIfInBounds_toArray, List.set_cons_zero, List.set_cons_succ, i64_w, i32_w]
    rfl
  refine pure_ (i := 5) (N := some 19) (v := ?_) (a' := ?_) #[true, false, true, false, false, true, false, false, false, false, false, false, false, false, false, false, false] rfl rfl (by kernel_rfl) (fun _ _ _ h => h) (Or.inl ⟨by rfl, ?_⟩) ?_ ?_
  rotate_left
  · intro w'
    go_simp
    with_reducible rfl
  rotate_left
  · simp only [Act.put, List.setIfInBounds_toArray, List.set_cons_zero, List.set_cons_succ, i64_w, i32_w]
    rfl
  refine pure_ (i := 8) (N := some 22) (v := ?_) (a' := ?_) #[true, false, true, false, false, true, false, false, true, false, false, false, false, false, false, false, false] rfl rfl (by kernel_rfl) (fun _ _ _ h => h) (Or.inl ⟨by rfl, ?_⟩) ?_ ?_
  rotate_left
  · intro w'
    go_simp
    with_reducible rfl
  rotate_left
  · simp only [Act.put, List.setIfInBounds_toArray, List.set_cons_zero, List.set_cons_succ, i64_w, i32_w]
    rfl
  refine take_ (i := 1) (N := some 15) (v := ?_) (a' := ?_) #[true, true, true, false, false, true, false, false, true, false, false, false, false, false, false, false, false] rfl rfl (by kernel_rfl) (fun _ _ _ h => h) (Or.inl ⟨by rfl, ?_⟩) hHeld ?_ ?_
  rotate_left
  · rintro w' ⟨s0, s1, s2, s3⟩
    go_simp
    with_reducible rfl
  rotate_left
  · simp only [Act.put, List.setIfInBounds_toArray, List.set_cons_zero, List.set_cons_succ, i64_w, i32_w]
    rfl
  refine take_ (i := 3) (N := some 17) (v := ?_) (a' := ?_) #[true, true, true, true, false, true, false, false, true, false, false, false, false, false, false, false, false] rfl rfl (by kernel_rfl) (fun _ _ _ h => h) (Or.inl ⟨by rfl, ?_⟩) hHeld ?_ ?_
  rotate_left
  · rintro w' ⟨s0, s1, s2, s3⟩
    go_simp
    with_reducible rfl
  rotate_left
  · simp only [Act.put, List.setIfInBounds_toArray, List.set_cons_zero, List.set_cons_succ, i64_w, i32_w]
    rfl
  refine take_ (i := 6) (N := some 20) (v := ?_) (a' := ?_) #[true, true, true, true, false, true, true, false, true, false, false, false, false, false, false, false, false] rfl rfl (by kernel_rfl) (fun _ _ _ h => h) (Or.inl ⟨by rfl, ?_⟩) hHeld ?_ ?_
  rotate_left
  · rintro w' ⟨s0, s1, s2, s3⟩
    go_simp
    with_reducible rfl
  rotate_left
  · simp only [Act.put, List.setIfInBounds_toArray, List.set_cons_zero, List.set_cons_succ, i64_w, i32_w]
    rfl
  refine take_ (i := 9) (N := some 23) (v := ?_) (a' := ?_) #[true, true, true, true, false, true, true, false, true, true, false, false, false, false, false, false, false] rfl rfl (by kernel_rfl) (fun _ _ _ h => h) (Or.inl ⟨by rfl, ?_⟩) hHeld ?_ ?_
  rotate_left
  · rintro w' ⟨s0, s1, s2, s3⟩
    go_simp
    with_reducible rfl
  rotate_left
  · simp only [Act.put, List.setIfInBounds_toArray, List.set_cons_zero, List.set_cons_succ, i64_w, i32_w]
    rfl
  refine one_ (i := 4) (N := some 18) #[true, true, true, true, true, true, true, false, true, true, false, false, false, false, false, false, false] rfl rfl (by kernel_rfl) (by decide) (fun K hK => ?_)
  refine goes_ Try.func28 (by kernel_rfl) rfl #[.slice AO s.out.length cO] (by rfl) rfl rfl (by simp only [List.map_toArray, List.map_cons, List.map_nil]; rfl) ?_
  with_reducible refine (cloneI_any AO cO s.out y0 (Kd.C_below HCO.out HY0.out) (by omega)).mono ?_
  rintro e w2 ⟨vO1, rfl, hR1, hB2⟩
  refine ⟨_, rfl, ?_⟩
  obtain ⟨A1, c1, rfl⟩ := Kd.R_slice hR1
  have hX2 := blk_below HX2.out hB2
  refine hK.out _ _ ⟨cell_blk hX2 1, cell_blk hX2 2, cell_blk hX2 3, cell_blk hX2 4⟩ (fun hHeld => ?_)
  clear hK K
  refine norm_ (a' := ?_) ?_ ?_
  rotate_left
  · show Act.put _ (some 18) _ = _
    simp only [Act.put, List.setIfInBounds_toArray, List.set_cons_zero, List.set_cons_succ, i64_w, i32_w]
    rfl
  refine one_ (i := 7) (N := some 21) #[true, true, true, true, true, true, true, true, true, true, false, false, false, false, false, false, false] rfl rfl (by kernel_rfl) (by decide) (fun K hK => ?_)
  refine goes_ Try.func29 (by kernel_rfl) rfl #[.slice AI s.inn.length cI] (by rfl) rfl rfl (by simp only [List.map_toArray, List.map_cons, List.map_nil]; rfl) ?_
  with_reducible refine (cloneA_any AI cI s.inn w2 (Kd.C_below (Kd.C_below HCI.out HY0.out) (hB2.mono (by have := HY0.out.size; omega))) (by omega)).mono ?_
  rintro e w3 ⟨vI1, rfl, hR2, hB3⟩
  refine ⟨_, rfl, ?_⟩
  obtain ⟨A2, c2, rfl⟩ := Kd.R_slice hR2
  have hX3 := blk_below hX2 hB3
  refine hK.out _ _ ⟨cell_blk hX3 1, cell_blk hX3 2, cell_blk hX3 3, cell_blk hX3 4⟩ (fun hHeld => ?_)
  clear hK K
  refine norm_ (a' := ?_) ?_ ?_
  rotate_left
  · show Act.put _ (some 21) _ = _
    simp only [Act.put, List.setIfInBounds_toArray, List.set_cons_zero, List.set_cons_succ, i64_w, i32_w]
    rfl
  refine pure_ (i := 10) (N := some 24) (v := ?_) (a' := ?_) #[true, true, true, true, true, true, true, true, true, true, true, false, false, false, false, false, false] rfl rfl (by kernel_rfl) (fun _ _ _ h => h) (Or.inl ⟨by rfl, ?_⟩) ?_ ?_
  rotate_left
  · intro w'
    go_simp
    with_reducible rfl
  rotate_left
  · simp only [Act.put, List.setIfInBounds_toArray, List.set_cons_zero, List.set_cons_succ, i64_w, i32_w]
    rfl
  refine one_ (i := 11) (N := some 25) #[true, true, true, true, true, true, true, true, true, true, true, true, false, false, false, false, false] rfl rfl (by kernel_rfl) (by decide) (fun K hK => ?_)
  refine value_ (w1 := ?_) (v := ?_) (by rfl) rfl ?_ ?_
  rotate_left 2
  · go_simp
    constructor
    · rfl
    · rfl
  have hd4 : (w3.alloc (.cells #[.int .i64 s.cap, .slice A1 s.out.length c1, .slice A2 s.inn.length c2, .int .i64 s.lost] TQ)).heap[w3.heap.size]? = some (.cells #[.int .i64 s.cap, .slice A1 s.out.length c1, .slice A2 s.inn.length c2, .int .i64 s.lost] TQ (0, 0)) := blk_new _ _
  have hB4 : Below w3.heap.size w3 (w3.alloc (.cells #[.int .i64 s.cap, .slice A1 s.out.length c1, .slice A2 s.inn.length c2, .int .i64 s.lost] TQ)) := below_al (Below.refl _ _) _
  generalize w3.alloc (.cells #[.int .i64 s.cap, .slice A1 s.out.length c1, .slice A2 s.inn.length c2, .int .i64 s.lost] TQ) = w4 at *
  have hX4 := blk_below hX3 hB4
  refine hK.out _ _ ⟨cell_blk hX4 1, cell_blk hX4 2, cell_blk hX4 3, cell_blk hX4 4⟩ (fun hHeld => ?_)
  clear hK K
  refine norm_ (a' := ?_) ?_ ?_
  rotate_left
  · show Act.put _ (some 25) _ = _
    simp only [Act.put, List.setIfInBounds_toArray, List.set_cons_zero, List.set_cons_succ, i64_w, i32_w]
    rfl
  refine pure_ (i := 12) (N := some 26) (v := ?_) (a' := ?_) #[true, true, true, true, true, true, true, true, true, true, true, true, true, false, false, false, false] rfl rfl (by kernel_rfl) (fun _ _ _ h => h) (Or.inl ⟨by rfl, ?_⟩) ?_ ?_
  rotate_left
  · intro w'
    go_simp
    with_reducible rfl
  rotate_left
  · simp only [Act.put, List.setIfInBounds_toArray, List.set_cons_zero, List.set_cons_succ, i64_w, i32_w]
    rfl
  refine pure_ (i := 13) (N := some 27) (v := ?_) (a' := ?_) #[true, true, true, true, true, true, true, true, true, true, true, true, true, true, false, false, false] rfl rfl (by kernel_rfl) (fun _ _ _ h => h) (Or.inl ⟨by rfl, ?_⟩) ?_ ?_
  rotate_left
  · intro w'
    go_simp
    with_reducible rfl
  rotate_left
  · simp only [Act.put, List.setIfInBounds_toArray, List.set_cons_zero, List.set_cons_succ, i64_w, i32_w]
    rfl
  refine one_ (i := 14) (N := some 28) #[true, true, true, true, true, true, true, true, true, true, true, true, true, true, true, false, false] rfl rfl (by kernel_rfl) (by decide) (fun K hK => ?_)
  refine value_ (w1 := ?_) (v := ?_) (by rfl) rfl ?_ ?_
  rotate_left 2
  · go_simp
    constructor
    · rfl
    · rfl
  have hb5 : (w4.alloc (.cells #[.iface 58 (.pointer (some ⟨w3.heap.size, 0, none⟩))] 56)).heap[w4.heap.size]? = some (.cells #[.iface 58 (.pointer (some ⟨w3.heap.size, 0, none⟩))] 56 (0, 0)) := blk_new _ _
  have hB5 : Below w4.heap.size w4 (w4.alloc (.cells #[.iface 58 (.pointer (some ⟨w3.heap.size, 0, none⟩))] 56)) := below_al (Below.refl _ _) _
  generalize w4.alloc (.cells #[.iface 58 (.pointer (some ⟨w3.heap.size, 0, none⟩))] 56) = w5 at *
  have hX5 := blk_below hX4 hB5
  refine hK.out _ _ ⟨cell_blk hX5 1, cell_blk hX5 2, cell_blk hX5 3, cell_blk hX5 4⟩ (fun hHeld => ?_)
  clear hK K
  refine norm_ (a' := ?_) ?_ ?_
  rotate_left
  · show Act.put _ (some 28) _ = _
    simp only [Act.put, List.setIfInBounds_toArray, List.set_cons_zero, List.set_cons_succ, i64_w, i32_w]
    rfl
  refine pure_ (i := 15) (N := some 2) (v := ?_) (a' := ?_) #[true, true, true, true, true, true, true, true, true, true, true, true, true, true, true, true, false] rfl rfl (by kernel_rfl) (fun _ _ _ h => h) (Or.inl ⟨by rfl, ?_⟩) ?_ ?_
  rotate_left
  · intro w'
    go_simp
    with_reducible rfl
  rotate_left
  · simp only [Act.put, List.setIfInBounds_toArray, List.set_cons_zero, List.set_cons_succ, i64_w, i32_w]
    rfl
  refine pure_ (i := 16) (N := some 3) (v := ?_) (a' := ?_) #[true, true, true, true, true, true, true, true, true, true, true, true, true, true, true, true, true] rfl rfl (by kernel_rfl) (fun _ _ _ h => h) (Or.inl ⟨by rfl, ?_⟩) ?_ ?_
  rotate_left
  · intro w'
    go_simp
    with_reducible rfl
  rotate_left
  · simp only [Act.put, List.setIfInBounds_toArray, List.set_cons_zero, List.set_cons_succ, i64_w, i32_w]
    rfl
  refine done_ (by kernel_rfl) ?_
  have hz0 := HY0.out.size
  have hz2 := hB2.size
  have hz3 := hB3.size
  have hz4 := hB4.size
  have hz5 := hB5.size
  have hl3 := lt_blk hd4
  have hl4 := lt_blk hb5
  have h23 := below_then hB3 (below_then hB4 hB5)
  have hd5 := blk_below hd4 hB5
  have hp : IsPort w5 w.heap.size (fun k => w.heap.size ≤ k ∧ k < w5.heap.size) w4.heap.size s := ⟨w3.heap.size, fun k hk => hk, ⟨by omega, by omega⟩, ⟨by omega, by omega⟩, by rw [HQ.out]; exact hb5, .inl ⟨HQ.out, _, _, ⟨hd5, fresh_R (Kd.R_below hR1 h23) (by omega), fresh_R (Kd.R_below hR2 (below_then hB4 hB5)) (by omega)⟩⟩, hm.good⟩
  have hBB := HY0.out.trans ((below_then hB2 h23).mono (by omega))
  clear hd5 hd4 hb5 hX2 hX3 hX4 hX5 hR1 hR2 h23 hHeld
  go_wp2
  go_ret2
  exact ⟨hBB, .inl ⟨hm, _, _, rfl, hp⟩⟩
end Go.Proofs.Ytdienpcifklinaa
set_option linter.unusedSimpArgs false
set_option linter.unusedVariables false
namespace Go.Proofs.Ytdienpcifklinaa
open Go.RowKit Go.Proofs.YtdienpcifklinaaW.PrintWords Go.Proofs.YtdienpcifklinaaW.PrintMore Go.Proofs.YtdienpcifklinaaW.PrintLast PPortOwn
/-! port.Load: a sample: printed by gen15g.py. -/
structure LdS (w : World) (d : Nat) (s : Pt) (vO : Value) (k : Nat) (age : Int) (vI : Value) (wr : World) : Prop where
  below : Below w.heap.size w wr
  blk : wr.heap[d]? = some (.cells #[vO, vI, .int .i64 age] TS (0, 0))
  lo : w.heap.size ≤ d
  o : Kd.R (Kd.int .i64) TI wr w.heap.size (fun _ => True) vO s.out
  i : Kd.R (Kd.int .i64) TI wr w.heap.size (fun _ => True) vI ((s.inn.take k).map (·.f0))
  one : (k = 0 ∧ age = 0) ∨ ∃ v, s.inn = [⟨v, age⟩]
def LdE (w : World) (d : Nat) (s : Pt) (vO : Value) (k : Nat) (wr : World) : Prop := ∃ age vI, LdS w d s vO k age vI wr
set_option maxRecDepth 100000 in
set_option maxHeartbeats 4000000 in
theorem load_s {w : World} {s : Pt} {vO vI : Value} (h : SttR w s vO vI) (hi : s.inn.length ≤ 8796093022208) (ho : s.out.length ≤ 17592186044416) (hm : MayS s) (hq0 : s.q = false) : Calls Try.prog 19 #[.agg #[.bool s.q, .int .i64 s.cap, vO, vI, .int .i64 s.lost]] w (LoadP s w) := by
  have h0 := h
  obtain ⟨AO, cO, AI, cI, rfl, rfl, hcO, hcI, hCO, hCI⟩ := h0
  have HQ := Aside0.mk hq0
  clear hq0
  have HC := Aside0.mk (may_any (h.below (show Below w.heap.size w (w.alloc (.cells #[.bool s.q, .int .i64 s.cap, .slice AO s.out.length cO, .slice AI s.inn.length cI, .int .i64 s.lost] TZ)) from below_al (Below.refl _ _) _)) hi ho true (by simpa using hm))
  have hX : (w.alloc (.cells #[.bool s.q, .int .i64 s.cap, .slice AO s.out.length cO, .slice AI s.inn.length cI, .int .i64 s.lost] TZ)).heap[w.heap.size]? = some (.cells #[.bool s.q, .int .i64 s.cap, .slice AO s.out.length cO, .slice AI s.inn.length cI, .int .i64 s.lost] TZ (0, 0)) := blk_new _ _
  have HX := Aside0.mk hX
  have HB0 : Aside0 (Below w.heap.size w (w.alloc (.cells #[.bool s.q, .int .i64 s.cap, .slice AO s.out.length cO, .slice AI s.inn.length cI, .int .i64 s.lost] TZ))) := ⟨below_al (Below.refl _ _) _⟩
  have HCO := Aside0.mk hCO
  have HCI := Aside0.mk hCI
  clear hX h hCO hCI
  go_enter Try.func19, Try.ntmps19
  go_wp2_with fail
  generalize (w.alloc (.cells #[.bool s.q, .int .i64 s.cap, .slice AO s.out.length cO, .slice AI s.inn.length cI, .int .i64 s.lost] TZ)) = W at *
  refine HC.out.mono ?_
  clear HC
  rintro e w1 ⟨rfl, hB1⟩
  have HB1 := Aside0.mk (below_then HB0.out (hB1.mono (Nat.le_refl _)))
  have hX1 := blk_below HX.out hB1
  have HX1 := Aside0.mk hX1
  obtain ⟨x0, x1, x2, x3, x4⟩ := cells5 hX1
  have HW1 : Aside0 (W.heap.size ≤ w1.heap.size) := ⟨hB1.size⟩
  clear hX1 hB1
  have hcap : s.cap = 1 := (sizeOk_iff hm.z).2.2 HQ.out
  have hol := hm.o
  have hil := hm.i
  have hlost := Aside0.mk (hm.u HQ.out)
  have hCO := Aside0.mk (Kd.C_below HCO.out HB1.out)
  rw [HQ.out] at x0
  go_wp2_with fail
  refine (cloneI_any AO cO s.out w1 hCO.out (by omega)).mono ?_
  rintro e w2 ⟨vO1, rfl, hR1, hB2⟩
  obtain ⟨A1, c1, rfl⟩ := Kd.R_slice hR1
  have hX2 := blk_below HX1.out hB2
  have y3 := (cells5 hX2).2.2.2.1
  have hXl := lt_blk hX2
  have HS1 := Aside0.mk (show LdE w w2.heap.size s (.slice A1 s.out.length c1) 0 (w2.alloc (.cells #[.slice A1 s.out.length c1, .slice none 0 0, .int .i64 0] TS)) from ⟨0, .slice none 0 0, ⟨(below_then HB1.out hB2).trans (below_al (Below.refl _ _) _ |>.mono (by have := HB1.out.size; have := hB2.size; omega)), blk_new _ _, by omega, Kd.R_lower (Kd.R_below hR1 (below_al (Below.refl _ _) _)) HB1.out.size, Kd.R_nil _ _ _ _ _, .inl ⟨rfl, rfl⟩⟩⟩)
  clear hR1 hB2 hX2 x0 x1 x2 x3 x4
  go_wp2_with fail
  obtain ⟨d, hd⟩ : ∃ d, w2.heap.size = d := ⟨_, rfl⟩
  rw [hd] at HS1 ⊢
  clear hd
  go_loopw [37] (fun i wr => ∃ k : Nat, k ≤ s.inn.length ∧ i = .int .i64 k ∧ Aside0 (LdE w d s (.slice A1 s.out.length c1) k wr)) (fun i _ => s.inn.length - (intOf i).toNat)
  case atStart => exact ⟨0, by omega, rfl, HS1⟩
  case round =>
    clear HS1
    obtain ⟨k, hk, rfl, HT⟩ := hrel
    by_cases hlt : k < s.inn.length
    · obtain ⟨ab, off, rfl, hab⟩ := C_form HCI.out (by omega) (by decide)
      obtain ⟨x, ha, e0, e1⟩ := aged_at HCI.out k hlt
      have hk0 : k = 0 := by omega
      have HIN : Aside0 (s.inn = [x]) := ⟨by
        have h1 : s.inn.length = 1 := by omega
        obtain ⟨y, hy⟩ := List.length_eq_one_iff.1 h1
        rw [hy, hk0] at ha
        rw [hy]
        simpa using ha⟩
      obtain ⟨age, vI, hL⟩ := HT.out
      have e0 := (hL.below.cell (p := ⟨ab, off + k * 2, none⟩) hab).trans e0
      have e1 := (hL.below.cell (p := ⟨ab, off + k * 2 + 1, none⟩) hab).trans e1
      have hki : (0 : Int) ≤ (k : Int) := by omega
      have hkl : (k : Int) < (s.inn.length : Int) := by omega
      have HL0 := Aside0.mk hL
      have HK0 := Aside0.mk hk0
      clear ha hL HT hk0
      go_wp2_with fail
      have HB6 : Below wr.heap.size wr (wr.alloc (.cells #[.int .i64 x.f0, .int .i64 x.f1] TA)).drew := (below_al (Below.refl _ _) _).drew
      have HL : Aside0 (LdS w d s (.slice A1 s.out.length c1) k age vI (wr.alloc (.cells #[.int .i64 x.f0, .int .i64 x.f1] TA)).drew) := ⟨⟨below_then_keep HL0.out.below HL0.out.below.size (Keep.of_below (F := fun _ => False) HB6) (fun _ f => f.elim), blk_below HL0.out.blk HB6, HL0.out.lo, Kd.R_below HL0.out.o HB6, Kd.R_below HL0.out.i HB6, HL0.out.one⟩⟩
      have H6 : Aside0 ((wr.alloc (.cells #[.int .i64 x.f0, .int .i64 x.f1] TA)).drew.heap[wr.heap.size]? = some _) := ⟨blk_drew (blk_new _ _)⟩
      obtain ⟨L6, hL6⟩ : ∃ d, wr.heap.size = d := ⟨_, rfl⟩
      have HLd : Aside0 (L6 ≠ d) := ⟨by have := lt_blk HL0.out.blk; omega⟩
      rw [hL6] at H6 ⊢
      clear HB6 HL0 hL6 e0 e1
      refine start_ (n := 13) (S := fun w' => w'.cell? ⟨L6, 0, none⟩ = some (.int .i64 x.f0) ∧ w'.cell? ⟨L6, 1, none⟩ = some (.int .i64 x.f1)) (ds := [12]) #[false, false, false, false, false, false, false, false, false, false, false, false, false] (by kernel_rfl) rfl rfl ⟨cell_blk H6.out 0, cell_blk H6.out 1⟩ (fun hHeld => ?_)
      generalize (wr.alloc (.cells #[.int .i64 x.f0, .int .i64 x.f1] TA)).drew = y0 at *
      refine pure_ (i := 0) (N := some 41) (v := ?_) (a' := ?_) #[true, false, false, false, false, false, false, false, false, false, false, false, false] rfl rfl (by kernel_rfl) (fun _ _ _ h => h) (Or.inl ⟨by rfl, ?_⟩) ?_ ?_
      rotate_left
      · intro w'
        go_simp
        with_reducible rfl
      rotate_left
      · simp only [Act.put, List.setIfInBounds_toArray, List.set_cons_zero, List.set_cons_succ, i64_w, i32_w]
        rfl
      refine pure_ (i := 1) (N := some 42) (v := ?_) (a' := ?_) #[true, true, false, false, false, false, false, false, false, false, false, false, false] rfl rfl (by kernel_rfl) (fun _ _ _ h => h) (Or.inl ⟨by rfl, ?_⟩) ?_ ?_
      rotate_left
      · intro w'
        go_simp
        with_reducible rfl
      rotate_left
      · simp only [Act.put, List.setIfInBounds_toArray, List.set_cons_zero, List.set_cons_succ, i64_w, i32_w]
        rfl
      refine pure_ (i := 2) (N := some 43) (v := ?_) (a' := ?_) #[true, true, true, false, false, false, false, false, false, false, false, false, false] rfl rfl (by kernel_rfl) (fun _ _ _ h => h) (Or.inl ⟨by rfl, ?_⟩) ?_ ?_
      rotate_left
      · intro w'
        go_simp
        with_reducible rfl
      rotate_left
      · simp only [Act.put, List.setIfInBounds_toArray, List.set_cons_zero, List.set_cons_succ, i64_w, i32_w]
        rfl
      refine pure_ (i := 5) (N := some 46) (v := ?_) (a' := ?_) #[true, true, true, false, false, true, false, false, false, false, false, false, false] rfl rfl (by kernel_rfl) (fun _ _ _ h => h) (Or.inl ⟨by rfl, ?_⟩) ?_ ?_
      rotate_left
      · intro w'
        go_simp
        with_reducible rfl
      rotate_left
      · simp only [Act.put, List.setIfInBounds_toArray, List.set_cons_zero, List.set_cons_succ, i64_w, i32_w]
        rfl
      refine take_ (i := 3) (N := some 44) (v := ?_) (a' := ?_) #[true, true, true, true, false, true, false, false, false, false, false, false, false] rfl rfl (by kernel_rfl) (fun _ _ _ h => h) (Or.inl ⟨by rfl, ?_⟩) hHeld ?_ ?_
      rotate_left
      · rintro w' ⟨s0, s1⟩
        go_simp
        with_reducible rfl
      rotate_left
      · simp only [Act.put, List.setIfInBounds_toArray, List.set_cons_zero, List.set_cons_succ, i64_w, i32_w]
        rfl
      refine take_ (i := 6) (N := some 47) (v := ?_) (a' := ?_) #[true, true, true, true, false, true, true, false, false, false, false, false, false] rfl rfl (by kernel_rfl) (fun _ _ _ h => h) (Or.inl ⟨by rfl, ?_⟩) hHeld ?_ ?_
      rotate_left
      · rintro w' ⟨s0, s1⟩
        go_simp
        with_reducible rfl
      rotate_left
      · simp only [Act.put, List.setIfInBounds_toArray, List.set_cons_zero, List.set_cons_succ, i64_w, i32_w]
        rfl
      refine one_ (i := 4) (N := some 45) #[true, true, true, true, true, true, true, false, false, false, false, false, false] rfl rfl (by kernel_rfl) (by decide) (fun K hK => ?_)
      refine value_ (w1 := ?_) (v := ?_) (by rfl) rfl ?_ ?_
      rotate_left 2
      · go_simp
        constructor
        · rfl
        · rfl
      have hR := R_one y0 w.heap.size x.f0 (fun _ => True) (by have := HL.out.below.size; omega) trivial
      have hB4 : Below y0.heap.size y0 (y0.alloc (.cells #[.int .i64 x.f0] TI)) := below_al (Below.refl _ _) _
      generalize y0.alloc (.cells #[.int .i64 x.f0] TI) = w4 at *
      have hL4 := blk_below H6.out hB4
      have hD4 := blk_below HL.out.blk hB4
      have hO4 := Kd.R_below HL.out.o hB4
      have e1 := cell_blk hD4 1
      have e2 := cell_blk hD4 2
      have g1 := frozen_blk hD4 1
      have g2 := frozen_blk hD4 2
      have hdl := lt_blk hD4
      simp only [List.getElem?_toArray, List.getElem?_cons_zero, List.getElem?_cons_succ] at e1 e2
      refine hK.out _ _ ⟨cell_blk hL4 0, cell_blk hL4 1⟩ (fun hHeld => ?_)
      clear hK K
      refine norm_ (a' := ?_) ?_ ?_
      rotate_left
      · show Act.put _ (some 45) _ = _
        simp only [Act.put, List.setIfInBounds_toArray, List.set_cons_zero, List.set_cons_succ, i64_w, i32_w]
        rfl
      refine pure_ (i := 7) (N := some 48) (v := ?_) (a' := ?_) #[true, true, true, true, true, true, true, true, false, false, false, false, false] rfl rfl (by kernel_rfl) (fun _ _ _ h => h) (Or.inl ⟨by rfl, ?_⟩) ?_ ?_
      rotate_left
      · intro w'
        go_simp
        with_reducible rfl
      rotate_left
      · simp only [Act.put, List.setIfInBounds_toArray, List.set_cons_zero, List.set_cons_succ, i64_w, i32_w]
        rfl
      refine pure_ (i := 8) (N := some 49) (v := ?_) (a' := ?_) #[true, true, true, true, true, true, true, true, true, false, false, false, false] rfl rfl (by kernel_rfl) (fun _ _ _ h => h) (Or.inl ⟨by rfl, ?_⟩) ?_ ?_
      rotate_left
      · intro w'
        go_simp
        with_reducible rfl
      rotate_left
      · simp only [Act.put, List.setIfInBounds_toArray, List.set_cons_zero, List.set_cons_succ, i64_w, i32_w]
        rfl
      refine one_ (i := 9) (N := none) #[true, true, true, true, true, true, true, true, true, true, false, false, false] rfl rfl (by kernel_rfl) (by decide) (fun K hK => ?_)
      refine skip_ (w1 := ?_) (by rfl) rfl ?_ ?_
      rotate_left
      · go_simp
        first | with_reducible rfl | rfl
      refine hK.out _ _ ⟨cell_blk (blk_set_ne hL4 HLd.out) 0, cell_blk (blk_set_ne hL4 HLd.out) 1⟩ (fun hHeld => ?_)
      clear hK K
      refine pure_ (i := 10) (N := some 50) (v := ?_) (a' := ?_) #[true, true, true, true, true, true, true, true, true, true, true, false, false] rfl rfl (by kernel_rfl) (fun _ _ _ h => h) (Or.inl ⟨by rfl, ?_⟩) ?_ ?_
      rotate_left
      · intro w'
        go_simp
        with_reducible rfl
      rotate_left
      · simp only [Act.put, List.setIfInBounds_toArray, List.set_cons_zero, List.set_cons_succ, i64_w, i32_w]
        rfl
      refine pure_ (i := 11) (N := some 51) (v := ?_) (a' := ?_) #[true, true, true, true, true, true, true, true, true, true, true, true, false] rfl rfl (by kernel_rfl) (fun _ _ _ h => h) (Or.inl ⟨by rfl, ?_⟩) ?_ ?_
      rotate_left
      · intro w'
        go_simp
        with_reducible rfl
      rotate_left
      · simp only [Act.put, List.setIfInBounds_toArray, List.set_cons_zero, List.set_cons_succ, i64_w, i32_w]
        rfl
      refine last_ (i := 12) (N := none) #[true, true, true, true, true, true, true, true, true, true, true, true, true] rfl rfl (by kernel_rfl) (by decide) (fun K hK => ?_)
      refine skip_ (w1 := ?_) (by rfl) rfl ?_ ?_
      rotate_left
      · go_simp
        first | with_reducible rfl | rfl
      refine hK.out _ _ ?_
      clear hK K
      refine done_ (by kernel_rfl) ?_
      skip
      have hK1 : Keep (fun k => k = d) w4 ((w4.setCell ⟨d, 1, none⟩ (.slice (some ⟨y0.heap.size, 0, none⟩) 1 1)).setCell ⟨d, 2, none⟩ (.int .i64 x.f1)) := (by repeat (first | (with_reducible exact Keep.refl _ _) | (with_reducible refine Keep.drewN ?_ _) | (with_reducible refine Keep.drew ?_) | (with_reducible refine Keep.setCell ?_ _ _ (by first | (right; with_reducible rfl) | (left; simp; done) | (left; simp; omega) | (right; simp; done) | (right; assumption))) | (with_reducible refine Keep.alloc ?_ _)))
      have hb5 : ((w4.setCell ⟨d, 1, none⟩ (.slice (some ⟨y0.heap.size, 0, none⟩) 1 1)).setCell ⟨d, 2, none⟩ (.int .i64 x.f1)).heap[d]? = some (.cells #[.slice A1 s.out.length c1, .slice (some ⟨y0.heap.size, 0, none⟩) 1 1, .int .i64 x.f1] TS (0, 0)) := by
        have := blk_set (i := 2) (u := .int .i64 x.f1) (blk_set (i := 1) (u := .slice (some ⟨y0.heap.size, 0, none⟩) 1 1) hD4)
        simpa using this
      have hLN : LdS w d s (.slice A1 s.out.length c1) 1 x.f1 (.slice (some ⟨y0.heap.size, 0, none⟩) 1 1) ((w4.setCell ⟨d, 1, none⟩ (.slice (some ⟨y0.heap.size, 0, none⟩) 1 1)).setCell ⟨d, 2, none⟩ (.int .i64 x.f1)) := ⟨below_then_keep (below_then HL.out.below (hB4.mono (Nat.le_refl _))) (by have := HL.out.below.size; have := hB4.size; omega) hK1 (fun i hi => by subst hi; exact HL.out.lo), hb5, HL.out.lo, R_keepT hO4 rfl hD4 (by decide) hK1, by rw [HIN.out]; exact R_keepT hR rfl hD4 (by decide) hK1, .inr ⟨x.f0, HIN.out⟩⟩
      have H9 := Aside0.mk (show LdE w d s (.slice A1 s.out.length c1) 1 _ from ⟨_, _, hLN⟩)
      clear hLN hb5 hK1 hR hL4 hD4 hO4 e1 e2 g1 g2 hdl hHeld
      go_wp2
      go_roundw
      case rel => exact ⟨1, by omega, by go_num, H9⟩
      case measure => simp [intOf]; omega
    · obtain rfl : k = s.inn.length := by omega
      obtain ⟨age, vI, hL⟩ := HT.out
      have HL := Aside0.mk hL
      clear hL HT
      go_wp2
      go_ret2
      have hB5 : Below wr.heap.size wr (wr.alloc (.cells #[.iface 61 (.pointer (some ⟨d, 0, none⟩))] 56)) := below_al (Below.refl _ _) _
      have hb5 : (wr.alloc (.cells #[.iface 61 (.pointer (some ⟨d, 0, none⟩))] 56)).heap[wr.heap.size]? = some (.cells #[.iface 61 (.pointer (some ⟨d, 0, none⟩))] 56 (0, 0)) := blk_new _ _
      have hd5 := blk_below HL.out.blk hB5
      have hz := hB5.size
      have hz1 := HL.out.below.size
      have hl5 := lt_blk hb5
      have hld := lt_blk hd5
      have hi := HL.out.i
      rw [List.take_length] at hi
      refine ⟨below_then HL.out.below (hB5.mono (Nat.le_refl _)), .inl ⟨hm, _, _, rfl, d, fun k hk => (hk : w.heap.size ≤ k ∧ k < _), ⟨hz1, hl5⟩, ⟨HL.out.lo, hld⟩, by rw [HQ.out]; exact hb5, .inr ⟨HQ.out, age, _, _, ⟨hd5, fresh_R (Kd.R_below HL.out.o hB5) (Nat.le_refl _), fresh_R (Kd.R_below hi hB5) (Nat.le_refl _), ?_, by omega, hcap, hlost.out, ?_⟩⟩, hm.good⟩⟩
      · rcases HL.out.one with ⟨h, -⟩ | ⟨v, h⟩
        · exact .inl (List.length_eq_zero_iff.1 h)
        · exact .inr ⟨v, h⟩
      · rcases HL.out.one with ⟨-, h⟩ | ⟨v, h⟩
        · omega
        · exact hm.good.a ⟨v, age⟩ (by rw [h]; exact List.mem_singleton.2 rfl)
end Go.Proofs.Ytdienpcifklinaa
set_option linter.unusedSimpArgs false
set_option linter.unusedVariables false
namespace Go.Proofs.Ytdienpcifklinaa
open Go.RowKit Go.Proofs.YtdienpcifklinaaW.PrintWords Go.Proofs.YtdienpcifklinaaW.PrintMore Go.Proofs.YtdienpcifklinaaW.PrintLast PPortOwn
/-! port.Load: printed by gen15g.py. -/
theorem port_load {w : World} {s : Pt} {vO vI : Value} (h : SttR w s vO vI) (hi : s.inn.length ≤ 8796093022208) (ho : s.out.length ≤ 17592186044416) : Calls Try.prog 19 #[.agg #[.bool s.q, .int .i64 s.cap, vO, vI, .int .i64 s.lost]] w (LoadP s w) := by
  by_cases hm : MayS s
  · cases hq : s.q with
    | true => rw [← hq]; exact load_q h hi ho hm hq
    | false => rw [← hq]; exact load_s h hi ho hm hq
  · exact load_no h hi ho hm
end Go.Proofs.Ytdienpcifklinaa
