import Derived.Test.YtdienpcifklinaaPtS
set_option linter.unusedSimpArgs false
set_option linter.unusedVariables false
namespace Go.Proofs.Ytdienpcifklinaa
open Go.RowKit Go.Proofs.YtdienpcifklinaaW.PrintWords Go.Proofs.YtdienpcifklinaaW.PrintMore Go.Proofs.YtdienpcifklinaaW.PrintLast PPortOwn
/-! The document's Put: printed by gen15f.py. -/
set_option maxRecDepth 100000 in
set_option maxHeartbeats 4000000 in
theorem put_full {w : World} {base : Nat} {P : Nat → Prop} {s : Pt} {vO vI : Value} (v : Int) (h : Stt w base P s vO vI) (hg : Good s) (hbw : base ≤ w.heap.size) (hq : s.q = true) (he : (s.out.length : Int) = s.cap) : Calls Try.prog 24 #[.agg #[.bool s.q, .int .i64 s.cap, vO, vI, .int .i64 s.lost], .int .i64 v] w fun e w' => ∃ vO' vI', e = .returned (.tuple #[.agg #[.bool (putP s v).1.q, .int .i64 (putP s v).1.cap, vO', vI', .int .i64 (putP s v).1.lost], .bool (putP s v).2]) ∧ Stt w' base (Ex P w w') (putP s v).1 vO' vI' ∧ Below w.heap.size w w' := by
  have hP : Aside0 (putP s v = (s, false)) := ⟨by rw [putP, if_pos hq, if_pos he]⟩
  have hd : decide ((s.out.length : Int) ≥ s.cap) = true := by simp; omega
  have hge : s.cap ≤ (s.out.length : Int) := by omega
  obtain ⟨AO, cO, AI, cI, rfl, rfl, -, -, -, -⟩ := stt_reads h
  have hB : Below w.heap.size w ((w.alloc (.cells #[.bool true, .int .i64 s.cap, (.slice AO s.out.length cO), (.slice AI s.inn.length cI), .int .i64 s.lost] TZ)).alloc (.cells #[.bool false, .int .i64 0, .slice none 0 0, .slice none 0 0, .int .i64 0] TZ)) := (by repeat (first | (with_reducible exact Below.refl _ _) | (with_reducible refine Below.drew ?_) | (with_reducible refine below_drewN ?_ _) | (with_reducible refine below_al ?_ _) | (with_reducible refine Below.alloc ?_ (by first | exact Nat.le_refl _ | omega | (simp; done) | (simp; omega)) _) | (with_reducible refine Below.setCell ?_ (by first | (simp only []; omega) | (simp; done) | (simp; omega)) _)))
  have hX : ((w.alloc (.cells #[.bool true, .int .i64 s.cap, (.slice AO s.out.length cO), (.slice AI s.inn.length cI), .int .i64 s.lost] TZ)).alloc (.cells #[.bool false, .int .i64 0, .slice none 0 0, .slice none 0 0, .int .i64 0] TZ)).heap[w.heap.size]? = some (.cells #[.bool true, .int .i64 s.cap, (.slice AO s.out.length cO), (.slice AI s.inn.length cI), .int .i64 s.lost] TZ (0, 0)) := blk_alloc (blk_new _ _)
  have hZ : ((w.alloc (.cells #[.bool true, .int .i64 s.cap, (.slice AO s.out.length cO), (.slice AI s.inn.length cI), .int .i64 s.lost] TZ)).alloc (.cells #[.bool false, .int .i64 0, .slice none 0 0, .slice none 0 0, .int .i64 0] TZ)).heap[w.heap.size + 1]? = some (.cells #[.bool false, .int .i64 0, .slice none 0 0, .slice none 0 0, .int .i64 0] TZ (0, 0)) := blk_new1 _ _ _
  have H := Aside0.mk (h.below hB)
  have Hh := Aside0.mk h
  have HX := Aside0.mk hX
  have HZ := Aside0.mk hZ
  have HB := Aside0.mk hB
  have hW2 : ((w.alloc (.cells #[.bool true, .int .i64 s.cap, (.slice AO s.out.length cO), (.slice AI s.inn.length cI), .int .i64 s.lost] TZ)).alloc (.cells #[.bool false, .int .i64 0, .slice none 0 0, .slice none 0 0, .int .i64 0] TZ)).heap.size = w.heap.size + 2 := by simp
  have hcap := hg.c1
  have hol := hg.o
  have HQ := Aside0.mk hq
  clear he hX hZ hB h hW2
  rw [hq]
  rw [hP.out]
  go_enter Try.func24, Try.ntmps24
  go_wp2_with fail
  have h5 := blk_new1 w (.cells #[.bool true, .int .i64 s.cap, (.slice AO s.out.length cO), (.slice AI s.inn.length cI), .int .i64 s.lost] TZ) (.cells #[.bool true, .int .i64 s.cap, (.slice AO s.out.length cO), (.slice AI s.inn.length cI), .int .i64 s.lost] TZ)
  obtain ⟨z0, z1, z2, z3, z4⟩ := cells5 h5
  refine bodyPost_ret (v := .tuple #[.agg #[.bool true, .int .i64 s.cap, .slice AO s.out.length cO, .slice AI s.inn.length cI, .int .i64 s.lost], .bool false]) (by simp [results, Try.results24, go_sem, z0, z1, z2, z3, z4]) rfl ⟨_, _, by simp only [HQ.out], (Hh.out.below ((by repeat (first | (with_reducible exact Below.refl _ _) | (with_reducible refine Below.drew ?_) | (with_reducible refine below_drewN ?_ _) | (with_reducible refine below_al ?_ _) | (with_reducible refine Below.alloc ?_ (by first | exact Nat.le_refl _ | omega | (simp; done) | (simp; omega)) _) | (with_reducible refine Below.setCell ?_ (by first | (simp only []; omega) | (simp; done) | (simp; omega)) _))))).mono (fun _ h => .inl h), (by repeat (first | (with_reducible exact Below.refl _ _) | (with_reducible refine Below.drew ?_) | (with_reducible refine below_drewN ?_ _) | (with_reducible refine below_al ?_ _) | (with_reducible refine Below.alloc ?_ (by first | exact Nat.le_refl _ | omega | (simp; done) | (simp; omega)) _) | (with_reducible refine Below.setCell ?_ (by first | (simp only []; omega) | (simp; done) | (simp; omega)) _)))⟩
end Go.Proofs.Ytdienpcifklinaa
