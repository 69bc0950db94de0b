import Derived.Test.YtdienpcifklinaaPtS
set_option linter.unusedSimpArgs false
set_option linter.unusedVariables false
namespace Go.Proofs.Ytdienpcifklinaa
open Go.RowKit Go.Proofs.YtdienpcifklinaaW.PrintWords Go.Proofs.YtdienpcifklinaaW.PrintMore Go.Proofs.YtdienpcifklinaaW.PrintLast PPortOwn
/-! The document's Put: printed by gen15f.py. -/
set_option maxRecDepth 100000 in
set_option maxHeartbeats 4000000 in
theorem put_full {w : World} {base : Nat} {P : Nat → Prop} {s : Pt} {vO vI : Value} (v : Int) (h : Stt w base P s vO vI) (hg : Good s) (hbw : base ≤ w.heap.size) (hq : s.q = true) (he : (s.out.length : Int) = s.cap) : Calls Try.prog 24 #[.agg #[.bool s.q, .int .i64 s.cap, vO, vI, .int .i64 s.lost], .int .i64 v] w fun e w' => ∃ vO' vI', e = .returned (.tuple #[.agg #[.bool (putP s v).1.q, .int .i64 (putP s v).1.cap, vO', vI', .int .i64 (putP s v).1.lost], .bool (putP s v).2]) ∧ Stt w' base (Ex P w w') (putP s v).1 vO' vI' ∧ Below w.heap.size w w' := by
  have hP : Aside0 (putP s v = (s, false)) := ⟨by rw [putP, if_pos hq, if_pos he]⟩
  have hd : decide ((s.out.length : Int) ≥ s.cap) = true := by simp; omega
  have hge : s.cap ≤ (s.out.length : Int) := by omega
  obtain ⟨AO, cO, AI, cI, rfl, rfl, -, -, -, -⟩ := stt_reads h
  have hB : Below w.heap.size w ((w.alloc (.cells #[.bool true, .int .i64 s.cap, (.slice AO s.out.length cO), (.slice AI s.inn.length cI), .int .i64 s.lost] TZ)).alloc (.cells #[.bool false, .int .i64 0, .slice none 0 0, .slice none 0 0, .int .i64 0] TZ)) := (by repeat (first | (with_reducible exact Below.refl _ _) | (with_reducible refine Below.drew ?_) | (with_reducible refine below_drewN ?_ _) | (with_reducible refine below_al ?_ _) | (with_reducible refine Below.alloc ?_ (by first | exact Nat.le_refl _ | omega | (simp; done) | (simp; omega)) _) | (with_reducible refine Below.setCell ?_ (by first | (simp only []; omega) | (simp; done) | (simp; omega)) _)))
  have hX : ((w.alloc (.cells #[.bool true, .int .i64 s.cap, (.slice AO s.out.length cO), (.slice AI s.inn.length cI), .int .i64 s.lost] TZ)).alloc (.cells #[.bool false, .int .i64 0, .slice none 0 0, .slice none 0 0, .int .i64 0] TZ)).heap[w.heap.size]? = some (.cells #[.bool true, .int .i64 s.cap, (.slice AO s.out.length cO), (.slice AI s.inn.length cI), .int .i64 s.lost] TZ (0, 0)) := blk_alloc (blk_new _ _)
  have hZ : ((w.alloc (.cells #[.bool true, .int .i64 s.cap, (.slice AO s.out.length cO), (.slice AI s.inn.length cI), .int .i64 s.lost] TZ)).alloc (.cells #[.bool false, .int .i64 0, .slice none 0 0, .slice none 0 0, .int .i64 0] TZ)).heap[w.heap.size + 1]? = some (.cells #[.bool false, .int .i64 0, .slice none 0 0, .slice none 0 0, .int .i64 0] TZ (0, 0)) := blk_new1 _ _ _
  have H := Aside0.mk (h.below hB)
  have Hh := Aside0.mk h
  have HX := Aside0.mk hX
  have HZ := Aside0.mk hZ
  have HB := Aside0.mk hB
  have hW2 : ((w.alloc (.cells #[.bool true, .int .i64 s.cap, (.slice AO s.out.length cO), (.slice AI s.inn.length cI), .int .i64 s.lost] TZ)).alloc (.cells #[.bool false, .int .i64 0, .slice none 0 0, .slice none 0 0, .int .i64 0] TZ)).heap.size = w.heap.size + 2 := by simp
  have hcap := hg.c1
  have hol := hg.o
  have HQ := Aside0.mk hq
  clear he hX hZ hB h hW2
  rw [hq]
  rw [hP.out]
  go_enter Try.func24, Try.ntmps24
  go_wp2_with fail
  have h5 := blk_new1 w (.cells #[.bool true, .int .i64 s.cap, (.slice AO s.out.length cO), (.slice AI s.inn.length cI), .int .i64 s.lost] TZ) (.cells #[.bool true, .int .i64 s.cap, (.slice AO s.out.length cO), (.slice AI s.inn.length cI), .int .i64 s.lost] TZ)
  obtain ⟨z0, z1, z2, z3, z4⟩ := cells5 h5
  refine bodyPost_ret (v := .tuple #[.agg #[.bool true, .int .i64 s.cap, .slice AO s.out.length cO, .slice AI s.inn.length cI, .int .i64 s.lost], .bool false]) (by simp [results, Try.results24, go_sem, z0, z1, z2, z3, z4]) rfl ⟨_, _, by simp only [HQ.out], (Hh.out.below ((by repeat (first | (with_reducible exact Below.refl _ _) | (with_reducible refine Below.drew ?_) | (with_reducible refine below_drewN ?_ _) | (with_reducible refine below_al ?_ _) | (with_reducible refine Below.alloc ?_ (by first | exact Nat.le_refl _ | omega | (simp; done) | (simp; omega)) _) | (with_reducible refine Below.setCell ?_ (by first | (simp only []; omega) | (simp; done) | (simp; omega)) _))))).mono (fun _ h => .inl h), (by repeat (first | (with_reducible exact Below.refl _ _) | (with_reducible refine Below.drew ?_) | (with_reducible refine below_drewN ?_ _) | (with_reducible refine below_al ?_ _) | (with_reducible refine Below.alloc ?_ (by first | exact Nat.le_refl _ | omega | (simp; done) | (simp; omega)) _) | (with_reducible refine Below.setCell ?_ (by first | (simp only []; omega) | (simp; done) | (simp; omega)) _)))⟩
end Go.Proofs.Ytdienpcifklinaa
set_option linter.unusedSimpArgs false
set_option linter.unusedVariables false
namespace Go.Proofs.Ytdienpcifklinaa
open Go.RowKit Go.Proofs.YtdienpcifklinaaW.PrintWords Go.Proofs.YtdienpcifklinaaW.PrintMore Go.Proofs.YtdienpcifklinaaW.PrintLast PPortOwn
/-! The document's Put: printed by gen15f.py. -/
set_option maxRecDepth 100000 in
set_option maxHeartbeats 4000000 in
theorem put_q {w : World} {base : Nat} {P : Nat → Prop} {s : Pt} {vO vI : Value} (v : Int) (h : Stt w base P s vO vI) (hg : Good s) (hbw : base ≤ w.heap.size) (hqv : s.q = true) (hne : ¬ (s.out.length : Int) = s.cap) : Calls Try.prog 24 #[.agg #[.bool s.q, .int .i64 s.cap, vO, vI, .int .i64 s.lost], .int .i64 v] w fun e w' => ∃ vO' vI', e = .returned (.tuple #[.agg #[.bool (putP s v).1.q, .int .i64 (putP s v).1.cap, vO', vI', .int .i64 (putP s v).1.lost], .bool (putP s v).2]) ∧ Stt w' base (Ex P w w') (putP s v).1 vO' vI' ∧ Below w.heap.size w w' := by
  have hP : Aside0 (putP s v = ({ s with out := s.out ++ [v] }, true)) := ⟨by rw [putP, if_pos hqv, if_neg hne]⟩
  have hol := hg.o
  have hd : decide ((s.out.length : Int) ≥ s.cap) = false := by simp; omega
  have hge : ¬ s.cap ≤ (s.out.length : Int) := by simpa using hd
  clear hol
  obtain ⟨AO, cO, AI, cI, rfl, rfl, -, -, -, -⟩ := stt_reads h
  have hB : Below w.heap.size w ((w.alloc (.cells #[.bool true, .int .i64 s.cap, (.slice AO s.out.length cO), (.slice AI s.inn.length cI), .int .i64 s.lost] TZ)).alloc (.cells #[.bool false, .int .i64 0, .slice none 0 0, .slice none 0 0, .int .i64 0] TZ)) := (by repeat (first | (with_reducible exact Below.refl _ _) | (with_reducible refine Below.drew ?_) | (with_reducible refine below_drewN ?_ _) | (with_reducible refine below_al ?_ _) | (with_reducible refine Below.alloc ?_ (by first | exact Nat.le_refl _ | omega | (simp; done) | (simp; omega)) _) | (with_reducible refine Below.setCell ?_ (by first | (simp only []; omega) | (simp; done) | (simp; omega)) _)))
  have hX : ((w.alloc (.cells #[.bool true, .int .i64 s.cap, (.slice AO s.out.length cO), (.slice AI s.inn.length cI), .int .i64 s.lost] TZ)).alloc (.cells #[.bool false, .int .i64 0, .slice none 0 0, .slice none 0 0, .int .i64 0] TZ)).heap[w.heap.size]? = some (.cells #[.bool true, .int .i64 s.cap, (.slice AO s.out.length cO), (.slice AI s.inn.length cI), .int .i64 s.lost] TZ (0, 0)) := blk_alloc (blk_new _ _)
  have hZ : ((w.alloc (.cells #[.bool true, .int .i64 s.cap, (.slice AO s.out.length cO), (.slice AI s.inn.length cI), .int .i64 s.lost] TZ)).alloc (.cells #[.bool false, .int .i64 0, .slice none 0 0, .slice none 0 0, .int .i64 0] TZ)).heap[w.heap.size + 1]? = some (.cells #[.bool false, .int .i64 0, .slice none 0 0, .slice none 0 0, .int .i64 0] TZ (0, 0)) := blk_new1 _ _ _
  have H := Aside0.mk (h.below hB)
  have Hh := Aside0.mk h
  have HX := Aside0.mk hX
  have HZ := Aside0.mk hZ
  have HB := Aside0.mk hB
  have hW2 : ((w.alloc (.cells #[.bool true, .int .i64 s.cap, (.slice AO s.out.length cO), (.slice AI s.inn.length cI), .int .i64 s.lost] TZ)).alloc (.cells #[.bool false, .int .i64 0, .slice none 0 0, .slice none 0 0, .int .i64 0] TZ)).heap.size = w.heap.size + 2 := by simp
  have hcap := hg.c1
  have hol := hg.o
  have HC := Aside0.mk (show Calls _ _ _ _ _ from hqv ▸ copy_any H.out hg)
  clear hX hZ hB h hW2
  rw [hqv]
  rw [hP.out]
  go_enter Try.func24, Try.ntmps24
  go_wp2_with fail
  generalize ((w.alloc (.cells #[.bool true, .int .i64 s.cap, (.slice AO s.out.length cO), (.slice AI s.inn.length cI), .int .i64 s.lost] TZ)).alloc (.cells #[.bool false, .int .i64 0, .slice none 0 0, .slice none 0 0, .int .i64 0] TZ)) = W at *
  refine HC.out.mono ?_
  clear HC
  rintro e w1 ⟨vO1, vI1, rfl, hS1, hB1⟩
  obtain ⟨A1, c1, A2, c2, rfl, rfl, -, -, -, -⟩ := stt_reads hS1
  have hX1 := blk_below HX.out hB1
  obtain ⟨x0, -, -, -, -⟩ := cells5 hX1
  have hXl1 := lt_blk hX1
  clear hX1
  have hZ1 := blk_below HZ.out hB1
  have hZl1 := lt_blk hZ1
  obtain ⟨r0, r1, r2, r3, r4⟩ := froz5 hZ1
  obtain ⟨z0, z1, z2, z3, z4⟩ := cells5 hZ1
  have hO0 : Kd.R (Kd.int .i64) TI (w1.alloc (.cells #[.bool true, .int .i64 s.cap, .slice A1 s.out.length c1, .slice A2 s.inn.length c2, .int .i64 s.lost] TZ)) W.heap.size (fun _ => True) (.slice A1 s.out.length c1) s.out := Kd.R_below hS1.o ((by repeat (first | (with_reducible exact Below.refl _ _) | (with_reducible refine Below.drew ?_) | (with_reducible refine below_drewN ?_ _) | (with_reducible refine below_al ?_ _) | (with_reducible refine Below.alloc ?_ (by first | exact Nat.le_refl _ | omega | (simp; done) | (simp; omega)) _) | (with_reducible refine Below.setCell ?_ (by first | (simp only []; omega) | (simp; done) | (simp; omega)) _))))
  have hI0 : Kd.R kA TA (w1.alloc (.cells #[.bool true, .int .i64 s.cap, .slice A1 s.out.length c1, .slice A2 s.inn.length c2, .int .i64 s.lost] TZ)) W.heap.size (fun _ => True) (.slice A2 s.inn.length c2) s.inn := Kd.R_below hS1.i ((by repeat (first | (with_reducible exact Below.refl _ _) | (with_reducible refine Below.drew ?_) | (with_reducible refine below_drewN ?_ _) | (with_reducible refine below_al ?_ _) | (with_reducible refine Below.alloc ?_ (by first | exact Nat.le_refl _ | omega | (simp; done) | (simp; omega)) _) | (with_reducible refine Below.setCell ?_ (by first | (simp only []; omega) | (simp; done) | (simp; omega)) _))))
  have HO := Aside0.mk hO0
  have HI := Aside0.mk hI0
  have hL0 : (w1.alloc (.cells #[.bool true, .int .i64 s.cap, .slice A1 s.out.length c1, .slice A2 s.inn.length c2, .int .i64 s.lost] TZ)).heap[w1.heap.size]? = some (.cells #[.bool true, .int .i64 s.cap, .slice A1 s.out.length c1, .slice A2 s.inn.length c2, .int .i64 s.lost] TZ (0, 0)) := blk_new _ _
  have HL := Aside0.mk hL0
  have HZ0 := Aside0.mk (show (w1.alloc (.cells #[.bool true, .int .i64 s.cap, .slice A1 s.out.length c1, .slice A2 s.inn.length c2, .int .i64 s.lost] TZ)).heap[w.heap.size + 1]? = some _ from blk_alloc hZ1)
  have HWB := Aside0.mk (show Below w.heap.size w (w1.alloc (.cells #[.bool true, .int .i64 s.cap, .slice A1 s.out.length c1, .slice A2 s.inn.length c2, .int .i64 s.lost] TZ)) from below_then (below_then HB.out (hB1.mono (Nat.le_refl _))) ((by repeat (first | (with_reducible exact Below.refl _ _) | (with_reducible refine Below.drew ?_) | (with_reducible refine below_drewN ?_ _) | (with_reducible refine below_al ?_ _) | (with_reducible refine Below.alloc ?_ (by first | exact Nat.le_refl _ | omega | (simp; done) | (simp; omega)) _) | (with_reducible refine Below.setCell ?_ (by first | (simp only []; omega) | (simp; done) | (simp; omega)) _)))))
  clear hO0 hI0 hL0
  have HZ1 := Aside0.mk hZ1
  have HS1 := Aside0.mk hS1
  have hWs := hB1.size
  have HB1 := Aside0.mk hB1
  clear hZ1 hS1 hB1
  skip
  go_wp2_with ((with_reducible refine gate_builtin (b := .append) (xs := #[.tmp 25, .tmp 27]) rfl ?_); at_builtin; refine Kd.R_append (Kd.int .i64) (w0 := (w1.alloc (.cells #[.bool true, .int .i64 s.cap, .slice A1 s.out.length c1, .slice A2 s.inn.length c2, .int .i64 s.lost] TZ))) W.heap.size rfl (.tmp 25) (.tmp 27) 25 TI (.int .i64 0) 8 rfl Try.underlying25 infoI rfl (by decide) (by omega) (.slice A1 s.out.length c1) s.out v [.int .i64 v] (fun i => True ∨ (w1.alloc (.cells #[.bool true, .int .i64 s.cap, .slice A1 s.out.length c1, .slice A2 s.inn.length c2, .int .i64 s.lost] TZ)).heap.size ≤ i) (fun _ => False) rfl ?aX ?aM (fun _ h => h.elim) ?aF ?aO ?aB ?aS ?aL ?_; (case aX => first | rfl | exact congrArg (fun n => Value.slice (some ⟨n, 0, none⟩) 1 1) (by simp)); (case aM => exact rfl); (case aF => exact fun _ h => .inr h); (case aO => exact (Kd.R_mono HO.out (fun _ _ => .inl trivial))); (case aB => exact Below.refl _ _); (case aS => first | omega | (simp; omega)); (case aL => first | omega | simp); intro v6 w6 ho hb hg hat; have hk1 := grown_keep hg; have hL1 := blk_keep HL.out hk1 (R_blk HO.out HL.out (by decide)); obtain ⟨g0, g1, g2, g3, g4⟩ := cells5 hL1; obtain ⟨e0, e1, e2, e3, e4⟩ := froz5 hL1; have hLl1 := lt_blk hL1; have hZ1 := blk_keep HZ0.out hk1 (R_blk HO.out HZ0.out (by decide)); obtain ⟨p0, p1, p2, p3, p4⟩ := cells5 hZ1; obtain ⟨r0, r1, r2, r3, r4⟩ := froz5 hZ1; have hZl1 := lt_blk hZ1; obtain ⟨A9, c9, he1, -, -⟩ := Kd.R_reads ho; simp only [List.length_append, List.length_singleton, List.length_nil, Nat.zero_add] at he1; subst he1)
  have hLw : W.heap.size ≤ w1.heap.size := hWs
  have hBW := HB.out.size
  have hL1 := blk_keep HL.out hk1 (R_blk HO.out HL.out (by decide))
  have hZ1 := blk_keep HZ0.out hk1 (R_blk HO.out HZ0.out (by decide))
  have hi1 := R_apart HI.out rfl HO.out (by decide) hk1
  have hB6 := below_then_keep HWB.out HWB.out.size hk1 (fun i e => by have := ((Kd.R_bound HO.out).1 i e).2.1; omega)
  generalize (w1.heap.size) = L at *
  have hSL : Keep (fun k => k = L) w6 (w6.setCell ⟨L, 2, none⟩ (.slice A9 (s.out.length + 1) c9)) := (by repeat (first | (with_reducible exact Keep.refl _ _) | (with_reducible refine Keep.drewN ?_ _) | (with_reducible refine Keep.drew ?_) | (with_reducible refine Keep.setCell ?_ _ _ (by first | (right; with_reducible rfl) | (left; simp; done) | (left; simp; omega) | (right; simp; done) | (right; assumption))) | (with_reducible refine Keep.alloc ?_ _)))
  have ho7 := R_keepT ho rfl hL1 (by decide) hSL
  have hi7 := R_keepT hi1 rfl hL1 (by decide) hSL
  have hZ7 := blk_keep hZ1 hSL (by omega)
  have hB7 := below_then_keep hB6 hB6.size hSL (fun i e => by omega)
  have h5 := blk_set5 (u0 := .bool true) (u1 := .int .i64 s.cap) (u2 := .slice A9 (s.out.length + 1) c9) (u3 := .slice A2 s.inn.length c2) (u4 := .int .i64 s.lost) hZ7
  have hk5 := set5_keep (w6.setCell ⟨L, 2, none⟩ (.slice A9 (s.out.length + 1) c9)) (w.heap.size + 1) (.bool true) (.int .i64 s.cap) (.slice A9 (s.out.length + 1) c9) (.slice A2 s.inn.length c2) (.int .i64 s.lost)
  obtain ⟨z0, z1, z2, z3, z4⟩ := cells5 h5
  have hB8 := below_then_keep hB7 hB7.size hk5 (fun i e => by omega)
  have hS8 : Stt _ base (Ex P w _) { s with out := s.out ++ [v] } (.slice A9 (s.out.length + 1) c9) (.slice A2 s.inn.length c2) := Stt.new (w := w) ⟨Kd.R_mono (R_keepT ho7 rfl hZ7 (by decide) hk5) (fun _ _ => trivial), Kd.R_mono (R_keepT hi7 rfl hZ7 (by decide) hk5) (fun _ _ => trivial)⟩ hBW (Nat.le_trans hbw hBW)
  refine bodyPost_ret (v := .tuple #[.agg #[.bool true, .int .i64 s.cap, .slice A9 (s.out.length + 1) c9, .slice A2 s.inn.length c2, .int .i64 s.lost], .bool true]) (by simp [results, Try.results24, go_sem, z0, z1, z2, z3, z4]) rfl ⟨_, _, by simp only [hqv], hS8, hB8⟩
end Go.Proofs.Ytdienpcifklinaa
set_option linter.unusedSimpArgs false
set_option linter.unusedVariables false
namespace Go.Proofs.Ytdienpcifklinaa
open Go.RowKit Go.Proofs.YtdienpcifklinaaW.PrintWords Go.Proofs.YtdienpcifklinaaW.PrintMore Go.Proofs.YtdienpcifklinaaW.PrintLast PPortOwn
/-! The document's Put: printed by gen15f.py. -/
set_option maxRecDepth 100000 in
set_option maxHeartbeats 4000000 in
theorem put_s {w : World} {base : Nat} {P : Nat → Prop} {s : Pt} {vO vI : Value} (v : Int) (h : Stt w base P s vO vI) (hg : Good s) (hbw : base ≤ w.heap.size) (hqv : s.q = false) : Calls Try.prog 24 #[.agg #[.bool s.q, .int .i64 s.cap, vO, vI, .int .i64 s.lost], .int .i64 v] w fun e w' => ∃ vO' vI', e = .returned (.tuple #[.agg #[.bool (putP s v).1.q, .int .i64 (putP s v).1.cap, vO', vI', .int .i64 (putP s v).1.lost], .bool (putP s v).2]) ∧ Stt w' base (Ex P w w') (putP s v).1 vO' vI' ∧ Below w.heap.size w w' := by
  have hP : Aside0 (putP s v = ({ s with out := [v] }, true)) := ⟨by rw [putP, hqv]; rfl⟩
  obtain ⟨AO, cO, AI, cI, rfl, rfl, -, -, -, -⟩ := stt_reads h
  have hB : Below w.heap.size w ((w.alloc (.cells #[.bool false, .int .i64 s.cap, (.slice AO s.out.length cO), (.slice AI s.inn.length cI), .int .i64 s.lost] TZ)).alloc (.cells #[.bool false, .int .i64 0, .slice none 0 0, .slice none 0 0, .int .i64 0] TZ)) := (by repeat (first | (with_reducible exact Below.refl _ _) | (with_reducible refine Below.drew ?_) | (with_reducible refine below_drewN ?_ _) | (with_reducible refine below_al ?_ _) | (with_reducible refine Below.alloc ?_ (by first | exact Nat.le_refl _ | omega | (simp; done) | (simp; omega)) _) | (with_reducible refine Below.setCell ?_ (by first | (simp only []; omega) | (simp; done) | (simp; omega)) _)))
  have hX : ((w.alloc (.cells #[.bool false, .int .i64 s.cap, (.slice AO s.out.length cO), (.slice AI s.inn.length cI), .int .i64 s.lost] TZ)).alloc (.cells #[.bool false, .int .i64 0, .slice none 0 0, .slice none 0 0, .int .i64 0] TZ)).heap[w.heap.size]? = some (.cells #[.bool false, .int .i64 s.cap, (.slice AO s.out.length cO), (.slice AI s.inn.length cI), .int .i64 s.lost] TZ (0, 0)) := blk_alloc (blk_new _ _)
  have hZ : ((w.alloc (.cells #[.bool false, .int .i64 s.cap, (.slice AO s.out.length cO), (.slice AI s.inn.length cI), .int .i64 s.lost] TZ)).alloc (.cells #[.bool false, .int .i64 0, .slice none 0 0, .slice none 0 0, .int .i64 0] TZ)).heap[w.heap.size + 1]? = some (.cells #[.bool false, .int .i64 0, .slice none 0 0, .slice none 0 0, .int .i64 0] TZ (0, 0)) := blk_new1 _ _ _
  have H := Aside0.mk (h.below hB)
  have Hh := Aside0.mk h
  have HX := Aside0.mk hX
  have HZ := Aside0.mk hZ
  have HB := Aside0.mk hB
  have hW2 : ((w.alloc (.cells #[.bool false, .int .i64 s.cap, (.slice AO s.out.length cO), (.slice AI s.inn.length cI), .int .i64 s.lost] TZ)).alloc (.cells #[.bool false, .int .i64 0, .slice none 0 0, .slice none 0 0, .int .i64 0] TZ)).heap.size = w.heap.size + 2 := by simp
  have hcap := hg.c1
  have hol := hg.o
  have HC := Aside0.mk (show Calls _ _ _ _ _ from hqv ▸ copy_any H.out hg)
  clear hX hZ hB h hW2
  rw [hqv]
  rw [hP.out]
  go_enter Try.func24, Try.ntmps24
  go_wp2_with fail
  generalize ((w.alloc (.cells #[.bool false, .int .i64 s.cap, (.slice AO s.out.length cO), (.slice AI s.inn.length cI), .int .i64 s.lost] TZ)).alloc (.cells #[.bool false, .int .i64 0, .slice none 0 0, .slice none 0 0, .int .i64 0] TZ)) = W at *
  refine HC.out.mono ?_
  clear HC
  rintro e w1 ⟨vO1, vI1, rfl, hS1, hB1⟩
  obtain ⟨A1, c1, A2, c2, rfl, rfl, -, -, -, -⟩ := stt_reads hS1
  have hX1 := blk_below HX.out hB1
  obtain ⟨x0, -, -, -, -⟩ := cells5 hX1
  have hXl1 := lt_blk hX1
  clear hX1
  have hZ1 := blk_below HZ.out hB1
  have hZl1 := lt_blk hZ1
  obtain ⟨r0, r1, r2, r3, r4⟩ := froz5 hZ1
  obtain ⟨z0, z1, z2, z3, z4⟩ := cells5 hZ1
  have hO0 : Kd.R (Kd.int .i64) TI (w1.alloc (.cells #[.bool false, .int .i64 s.cap, .slice none 0 0, .slice A2 s.inn.length c2, .int .i64 s.lost] TZ)) W.heap.size (fun _ => True) (.slice none 0 0) ([] : List Int) := Kd.R_nil _ _ _ _ _
  have hI0 : Kd.R kA TA (w1.alloc (.cells #[.bool false, .int .i64 s.cap, .slice none 0 0, .slice A2 s.inn.length c2, .int .i64 s.lost] TZ)) W.heap.size (fun _ => True) (.slice A2 s.inn.length c2) s.inn := Kd.R_below hS1.i ((by repeat (first | (with_reducible exact Below.refl _ _) | (with_reducible refine Below.drew ?_) | (with_reducible refine below_drewN ?_ _) | (with_reducible refine below_al ?_ _) | (with_reducible refine Below.alloc ?_ (by first | exact Nat.le_refl _ | omega | (simp; done) | (simp; omega)) _) | (with_reducible refine Below.setCell ?_ (by first | (simp only []; omega) | (simp; done) | (simp; omega)) _))))
  have HO := Aside0.mk hO0
  have HI := Aside0.mk hI0
  have hL0 : (w1.alloc (.cells #[.bool false, .int .i64 s.cap, .slice none 0 0, .slice A2 s.inn.length c2, .int .i64 s.lost] TZ)).heap[w1.heap.size]? = some (.cells #[.bool false, .int .i64 s.cap, .slice none 0 0, .slice A2 s.inn.length c2, .int .i64 s.lost] TZ (0, 0)) := blk_new _ _
  have HL := Aside0.mk hL0
  have HZ0 := Aside0.mk (show (w1.alloc (.cells #[.bool false, .int .i64 s.cap, .slice none 0 0, .slice A2 s.inn.length c2, .int .i64 s.lost] TZ)).heap[w.heap.size + 1]? = some _ from blk_alloc hZ1)
  have HWB := Aside0.mk (show Below w.heap.size w (w1.alloc (.cells #[.bool false, .int .i64 s.cap, .slice none 0 0, .slice A2 s.inn.length c2, .int .i64 s.lost] TZ)) from below_then (below_then HB.out (hB1.mono (Nat.le_refl _))) ((by repeat (first | (with_reducible exact Below.refl _ _) | (with_reducible refine Below.drew ?_) | (with_reducible refine below_drewN ?_ _) | (with_reducible refine below_al ?_ _) | (with_reducible refine Below.alloc ?_ (by first | exact Nat.le_refl _ | omega | (simp; done) | (simp; omega)) _) | (with_reducible refine Below.setCell ?_ (by first | (simp only []; omega) | (simp; done) | (simp; omega)) _)))))
  clear hO0 hI0 hL0
  have HZ1 := Aside0.mk hZ1
  have HS1 := Aside0.mk hS1
  have hWs := hB1.size
  have HB1 := Aside0.mk hB1
  clear hZ1 hS1 hB1
  skip
  go_wp2_with ((with_reducible refine gate_builtin (b := .append) (xs := #[.tmp 25, .tmp 27]) rfl ?_); at_builtin; refine Kd.R_append (Kd.int .i64) (w0 := (w1.alloc (.cells #[.bool false, .int .i64 s.cap, .slice none 0 0, .slice A2 s.inn.length c2, .int .i64 s.lost] TZ))) W.heap.size rfl (.tmp 25) (.tmp 27) 25 TI (.int .i64 0) 8 rfl Try.underlying25 infoI rfl (by decide) (by omega) (.slice none 0 0) ([] : List Int) v [.int .i64 v] (fun i => True ∨ (w1.alloc (.cells #[.bool false, .int .i64 s.cap, .slice none 0 0, .slice A2 s.inn.length c2, .int .i64 s.lost] TZ)).heap.size ≤ i) (fun _ => False) rfl ?aX ?aM (fun _ h => h.elim) ?aF ?aO ?aB ?aS ?aL ?_; (case aX => first | rfl | exact congrArg (fun n => Value.slice (some ⟨n, 0, none⟩) 1 1) (by simp)); (case aM => exact rfl); (case aF => exact fun _ h => .inr h); (case aO => exact (Kd.R_mono HO.out (fun _ _ => .inl trivial))); (case aB => exact Below.refl _ _); (case aS => first | omega | (simp; omega)); (case aL => first | omega | simp); intro v6 w6 ho hb hg hat; have hk1 := grown_keep hg; have hL1 := blk_keep HL.out hk1 (R_blk HO.out HL.out (by decide)); obtain ⟨g0, g1, g2, g3, g4⟩ := cells5 hL1; obtain ⟨e0, e1, e2, e3, e4⟩ := froz5 hL1; have hLl1 := lt_blk hL1; have hZ1 := blk_keep HZ0.out hk1 (R_blk HO.out HZ0.out (by decide)); obtain ⟨p0, p1, p2, p3, p4⟩ := cells5 hZ1; obtain ⟨r0, r1, r2, r3, r4⟩ := froz5 hZ1; have hZl1 := lt_blk hZ1; obtain ⟨A9, c9, he1, -, -⟩ := Kd.R_reads ho; simp only [List.length_append, List.length_singleton, List.length_nil, Nat.zero_add] at he1; subst he1)
  have hLw : W.heap.size ≤ w1.heap.size := hWs
  have hBW := HB.out.size
  have hL1 := blk_keep HL.out hk1 (R_blk HO.out HL.out (by decide))
  have hZ1 := blk_keep HZ0.out hk1 (R_blk HO.out HZ0.out (by decide))
  have hi1 := R_apart HI.out rfl HO.out (by decide) hk1
  have hB6 := below_then_keep HWB.out HWB.out.size hk1 (fun i e => by have := ((Kd.R_bound HO.out).1 i e).2.1; omega)
  generalize (w1.heap.size) = L at *
  have hSL : Keep (fun k => k = L) w6 (w6.setCell ⟨L, 2, none⟩ (.slice A9 (1) c9)) := (by repeat (first | (with_reducible exact Keep.refl _ _) | (with_reducible refine Keep.drewN ?_ _) | (with_reducible refine Keep.drew ?_) | (with_reducible refine Keep.setCell ?_ _ _ (by first | (right; with_reducible rfl) | (left; simp; done) | (left; simp; omega) | (right; simp; done) | (right; assumption))) | (with_reducible refine Keep.alloc ?_ _)))
  have ho7 := R_keepT ho rfl hL1 (by decide) hSL
  have hi7 := R_keepT hi1 rfl hL1 (by decide) hSL
  have hZ7 := blk_keep hZ1 hSL (by omega)
  have hB7 := below_then_keep hB6 hB6.size hSL (fun i e => by omega)
  have h5 := blk_set5 (u0 := .bool false) (u1 := .int .i64 s.cap) (u2 := .slice A9 (1) c9) (u3 := .slice A2 s.inn.length c2) (u4 := .int .i64 s.lost) hZ7
  have hk5 := set5_keep (w6.setCell ⟨L, 2, none⟩ (.slice A9 (1) c9)) (w.heap.size + 1) (.bool false) (.int .i64 s.cap) (.slice A9 (1) c9) (.slice A2 s.inn.length c2) (.int .i64 s.lost)
  obtain ⟨z0, z1, z2, z3, z4⟩ := cells5 h5
  have hB8 := below_then_keep hB7 hB7.size hk5 (fun i e => by omega)
  have hS8 : Stt _ base (Ex P w _) { s with out := [v] } (.slice A9 (1) c9) (.slice A2 s.inn.length c2) := Stt.new (w := w) ⟨Kd.R_mono (R_keepT ho7 rfl hZ7 (by decide) hk5) (fun _ _ => trivial), Kd.R_mono (R_keepT hi7 rfl hZ7 (by decide) hk5) (fun _ _ => trivial)⟩ hBW (Nat.le_trans hbw hBW)
  refine bodyPost_ret (v := .tuple #[.agg #[.bool false, .int .i64 s.cap, .slice A9 (1) c9, .slice A2 s.inn.length c2, .int .i64 s.lost], .bool true]) (by simp [results, Try.results24, go_sem, z0, z1, z2, z3, z4]) rfl ⟨_, _, by simp only [hqv], hS8, hB8⟩
end Go.Proofs.Ytdienpcifklinaa
set_option linter.unusedSimpArgs false
set_option linter.unusedVariables false
namespace Go.Proofs.Ytdienpcifklinaa
open Go.RowKit Go.Proofs.YtdienpcifklinaaW.PrintWords Go.Proofs.YtdienpcifklinaaW.PrintMore Go.Proofs.YtdienpcifklinaaW.PrintLast PPortOwn
/-! The document and the port, act by act: printed by gen15g.py. -/
theorem put_any {w : World} {base : Nat} {P : Nat → Prop} {s : Pt} {vO vI : Value} (v : Int) (h : Stt w base P s vO vI) (hg : Good s) (hbw : base ≤ w.heap.size) : Calls Try.prog 24 #[.agg #[.bool s.q, .int .i64 s.cap, vO, vI, .int .i64 s.lost], .int .i64 v] w fun e w' => ∃ vO' vI', e = .returned (.tuple #[.agg #[.bool (putP s v).1.q, .int .i64 (putP s v).1.cap, vO', vI', .int .i64 (putP s v).1.lost], .bool (putP s v).2]) ∧ Stt w' base (Ex P w w') (putP s v).1 vO' vI' ∧ Below w.heap.size w w' := by
  by_cases hq : s.q = true
  · by_cases he : (s.out.length : Int) = s.cap
    · exact put_full v h hg hbw hq he
    · exact put_q v h hg hbw hq he
  · exact put_s v h hg hbw (by simpa using hq)
def doP (s : Pt) (a : Int × Int) : Pt := if a.1 = 0 then (putP s a.2).1 else if a.1 = 1 then (getP s).1 else if a.1 = 2 then delivP s else s
def DoesP (w0 w : World) (b : Nat) (ok P : Nat → Prop) (t : Pt) (e : Ending) (w' : World) : Prop := ∃ vO vI ok' P', e = .returned (.tuple #[.agg #[.bool t.q, .int .i64 t.cap, vO, vI, .int .i64 t.lost], .bool true]) ∧ DW w0 b t t vO vI ok' P' w' ∧ (∀ k, ok' k → ok k ∨ w.heap.size ≤ k) ∧ (∀ k, P' k → P k ∨ w.heap.size ≤ k) ∧ Keep (fun k => ok k ∨ P k) w w'
theorem Stt.drew {w : World} {base : Nat} {P : Nat → Prop} {s : Pt} {vO vI : Value} (h : Stt w base P s vO vI) : Stt w.drew base P s vO vI := h.below (Below.refl _ _).drew
/-- Five cells of a far block are written. -/
theorem DW.set5 {w0 wr : World} {b L : Nat} {s t : Pt} {vO vI u0 u1 u2 u3 u4 : Value} {ok P : Nat → Prop} (h : DW w0 b s t vO vI ok P wr) (h0 : w0.heap.size ≤ L) (h1 : ¬ ok L) (h2 : ¬ P L) : DW w0 b s t vO vI ok P (((((wr.setCell ⟨L, 0, none⟩ u0).setCell ⟨L, 1, none⟩ u1).setCell ⟨L, 2, none⟩ u2).setCell ⟨L, 3, none⟩ u3).setCell ⟨L, 4, none⟩ u4) :=
  h.far (set5_keep _ _ _ _ _ _ _) (fun k hk => by subst hk; exact ⟨h0, h1, h2⟩)
end Go.Proofs.Ytdienpcifklinaa
