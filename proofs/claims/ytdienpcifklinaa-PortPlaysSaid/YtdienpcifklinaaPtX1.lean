import Derived.Test.YtdienpcifklinaaPtW
set_option linter.unusedSimpArgs false
set_option linter.unusedVariables false
namespace Go.Proofs.Ytdienpcifklinaa
open Go.RowKit Go.Proofs.YtdienpcifklinaaW.PrintWords Go.Proofs.YtdienpcifklinaaW.PrintMore Go.Proofs.YtdienpcifklinaaW.PrintLast PPortOwn
/-! does: get: printed by gen15g.py. -/
set_option maxRecDepth 100000 in
set_option maxHeartbeats 4000000 in
theorem does_get {w0 w : World} {b : Nat} {s : Pt} {vO vI : Value} {ok P : Nat → Prop} (v : Int) (h : DW w0 b s s vO vI ok P w) : Calls Try.prog 16 #[.pointer (some ⟨b, 0, none⟩), .agg #[.bool s.q, .int .i64 s.cap, vO, vI, .int .i64 s.lost], .agg #[.int .i64 1, .int .i64 v]] w (DoesP w0 w b ok P ((getP s).1)) := by
  obtain ⟨AO, cO, AI, cI, rfl, rfl, -, -, -, -⟩ := stt_reads h.st
  have hg := h.port.good
  have hA : Below w.heap.size w (((w.alloc (.cells #[.bool s.q, .int .i64 s.cap, (.slice AO s.out.length cO), (.slice AI s.inn.length cI), .int .i64 s.lost] TZ)).alloc (.cells #[.int .i64 1, .int .i64 v] 30)).alloc (.cells #[.bool false, .int .i64 0, .slice none 0 0, .slice none 0 0, .int .i64 0] TZ)) := (by repeat (first | (with_reducible exact Below.refl _ _) | (with_reducible refine Below.drew ?_) | (with_reducible refine below_drewN ?_ _) | (with_reducible refine below_al ?_ _) | (with_reducible refine Below.alloc ?_ (by first | exact Nat.le_refl _ | omega | (simp; done) | (simp; omega)) _) | (with_reducible refine Below.setCell ?_ (by first | (simp only []; omega) | (simp; done) | (simp; omega)) _)))
  have hX : (((w.alloc (.cells #[.bool s.q, .int .i64 s.cap, (.slice AO s.out.length cO), (.slice AI s.inn.length cI), .int .i64 s.lost] TZ)).alloc (.cells #[.int .i64 1, .int .i64 v] 30)).alloc (.cells #[.bool false, .int .i64 0, .slice none 0 0, .slice none 0 0, .int .i64 0] TZ)).heap[w.heap.size]? = some (.cells #[.bool s.q, .int .i64 s.cap, (.slice AO s.out.length cO), (.slice AI s.inn.length cI), .int .i64 s.lost] TZ (0, 0)) := blk_alloc (blk_alloc (blk_new _ _))
  have hY : (((w.alloc (.cells #[.bool s.q, .int .i64 s.cap, (.slice AO s.out.length cO), (.slice AI s.inn.length cI), .int .i64 s.lost] TZ)).alloc (.cells #[.int .i64 1, .int .i64 v] 30)).alloc (.cells #[.bool false, .int .i64 0, .slice none 0 0, .slice none 0 0, .int .i64 0] TZ)).heap[w.heap.size + 1]? = some (.cells #[.int .i64 1, .int .i64 v] 30 (0, 0)) := blk_alloc (blk_new1 _ _ _)
  have hZ0 : (((w.alloc (.cells #[.bool s.q, .int .i64 s.cap, (.slice AO s.out.length cO), (.slice AI s.inn.length cI), .int .i64 s.lost] TZ)).alloc (.cells #[.int .i64 1, .int .i64 v] 30)).alloc (.cells #[.bool false, .int .i64 0, .slice none 0 0, .slice none 0 0, .int .i64 0] TZ)).heap[w.heap.size + 2]? = some (.cells #[.bool false, .int .i64 0, .slice none 0 0, .slice none 0 0, .int .i64 0] TZ (0, 0)) := by
    have := blk_new ((w.alloc (.cells #[.bool s.q, .int .i64 s.cap, (.slice AO s.out.length cO), (.slice AI s.inn.length cI), .int .i64 s.lost] TZ)).alloc (.cells #[.int .i64 1, .int .i64 v] 30)) (.cells #[.bool false, .int .i64 0, .slice none 0 0, .slice none 0 0, .int .i64 0] TZ)
    simpa using this
  have hZ : (((w.alloc (.cells #[.bool s.q, .int .i64 s.cap, (.slice AO s.out.length cO), (.slice AI s.inn.length cI), .int .i64 s.lost] TZ)).alloc (.cells #[.int .i64 1, .int .i64 v] 30)).alloc (.cells #[.bool false, .int .i64 0, .slice none 0 0, .slice none 0 0, .int .i64 0] TZ)).heap[w.heap.size + 1 + 1]? = some (.cells #[.bool false, .int .i64 0, .slice none 0 0, .slice none 0 0, .int .i64 0] TZ (0, 0)) := hZ0
  clear hZ0
  have HX := Aside0.mk hX
  have HY := Aside0.mk hY
  have HZ := Aside0.mk hZ
  have H := Aside0.mk (h.then hA)
  have Hok := Aside0.mk h.port.z
  have HP := Aside0.mk h.zp
  have hws := Aside0.mk h.below.size
  have HK : Aside0 (Keep (fun k => ok k ∨ P k) w (((w.alloc (.cells #[.bool s.q, .int .i64 s.cap, (.slice AO s.out.length cO), (.slice AI s.inn.length cI), .int .i64 s.lost] TZ)).alloc (.cells #[.int .i64 1, .int .i64 v] 30)).alloc (.cells #[.bool false, .int .i64 0, .slice none 0 0, .slice none 0 0, .int .i64 0] TZ))) := ⟨Keep.of_below hA⟩
  have HWs : Aside0 ((((w.alloc (.cells #[.bool s.q, .int .i64 s.cap, (.slice AO s.out.length cO), (.slice AI s.inn.length cI), .int .i64 s.lost] TZ)).alloc (.cells #[.int .i64 1, .int .i64 v] 30)).alloc (.cells #[.bool false, .int .i64 0, .slice none 0 0, .slice none 0 0, .int .i64 0] TZ)).heap.size = w.heap.size + 3) := ⟨by simp⟩
  clear hX hY hZ hA h
  go_enter Try.func16, Try.ntmps16
  go_wp2_with fail
  generalize (((w.alloc (.cells #[.bool s.q, .int .i64 s.cap, (.slice AO s.out.length cO), (.slice AI s.inn.length cI), .int .i64 s.lost] TZ)).alloc (.cells #[.int .i64 1, .int .i64 v] 30)).alloc (.cells #[.bool false, .int .i64 0, .slice none 0 0, .slice none 0 0, .int .i64 0] TZ)) = W at *
  refine (get_any H.out.below H.out.st hg).mono ?_
  rintro e w1 ⟨vO1, vI1, rfl, hS1, hk1⟩
  obtain ⟨A1, c1, A2, c2, rfl, rfl, -, -, -, -⟩ := stt_reads hS1
  have H1 := Aside0.mk (H.out.stStep hS1 hk1)
  have hG := port_get ((H1.out.then (w' := (w1.alloc (.cells #[.bool (getP s).1.q, .int .i64 (getP s).1.cap, .slice A1 (getP s).1.out.length c1, .slice A2 (getP s).1.inn.length c2, .int .i64 (getP s).1.lost] TZ))) (below_al (Below.refl _ _) _)).port)
  obtain ⟨⟨r1, x, y⟩, hr⟩ : ∃ r, getP s = r := ⟨_, rfl⟩
  have HR := Aside0.mk hr
  rw [hr] at hS1 H1 hG ⊢
  simp only at hS1 H1 hG ⊢
  clear hr hS1
  have hZ1 := blk_keep HZ.out hk1 (fun h => by have := (HP.out _ h).2.1; omega)
  have hW1 := hk1.size
  have HK1 := Aside0.mk (HK.out.trans (hk1.mono (fun _ _ h => .inr h)))
  have HZ1 := Aside0.mk hZ1
  clear hZ1 hk1
  go_wp2_with fail
  refine hG.mono ?_
  clear hG
  rintro e w3 ⟨rfl, hP3, hk3⟩
  have HL2 : Aside0 ((w1.alloc (.cells #[.bool r1.q, .int .i64 r1.cap, .slice A1 r1.out.length c1, .slice A2 r1.inn.length c2, .int .i64 r1.lost] TZ)).heap[w1.heap.size]? = some (.cells #[.bool r1.q, .int .i64 r1.cap, .slice A1 r1.out.length c1, .slice A2 r1.inn.length c2, .int .i64 r1.lost] TZ (0, 0))) := ⟨blk_new _ _⟩
  have HZ2 : Aside0 ((w1.alloc (.cells #[.bool r1.q, .int .i64 r1.cap, .slice A1 r1.out.length c1, .slice A2 r1.inn.length c2, .int .i64 r1.lost] TZ)).heap[w.heap.size + 1 + 1]? = some _) := ⟨blk_alloc HZ1.out⟩
  have hL3 := blk_keep HL2.out hk3 (fun h => by have := (Hok.out _ h).2; have := HWs.out; omega)
  have hZ3 := blk_keep HZ2.out hk3 (fun h => by have := (Hok.out _ h).2; omega)
  have H2 := Aside0.mk (H1.out.then (w' := (w1.alloc (.cells #[.bool r1.q, .int .i64 r1.cap, .slice A1 r1.out.length c1, .slice A2 r1.inn.length c2, .int .i64 r1.lost] TZ))) (below_al (Below.refl _ _) _))
  have H3 := Aside0.mk (H2.out.portStep hP3 hk3)
  have HK3 := Aside0.mk ((HK1.out.alloc _).trans (hk3.mono (fun _ _ h => .inl h)))
  have HT1 : Aside0 (w1.heap.size < (w1.alloc (.cells #[.bool r1.q, .int .i64 r1.cap, .slice A1 r1.out.length c1, .slice A2 r1.inn.length c2, .int .i64 r1.lost] TZ)).heap.size) := ⟨lt_blk HL2.out⟩
  obtain ⟨l0, l1, l2, l3, l4⟩ := cells5 hL3
  obtain ⟨z0, z1, z2, z3, z4⟩ := cells5 hZ3
  obtain ⟨z5, z6, z7, z8, z9⟩ := froz5 hZ3
  have hZl := lt_blk hZ3
  have HZ3 := Aside0.mk hZ3
  clear hL3 hZ3 hP3 hk3
  go_wp2_with fail
  clear z0 z1 z2 z3 z4 z5 z6 z7 z8 z9 l0 l1 l2 l3 l4
  rw [HR.out]
  have h5 := blk_set5 (u0 := .bool r1.q) (u1 := .int .i64 r1.cap) (u2 := .slice A1 r1.out.length c1) (u3 := .slice A2 r1.inn.length c2) (u4 := .int .i64 r1.lost) HZ3.out
  obtain ⟨y0, y1, y2, y3, y4⟩ := cells5 h5
  refine bodyPost_ret (v := .tuple #[.agg #[.bool r1.q, .int .i64 r1.cap, .slice A1 r1.out.length c1, .slice A2 r1.inn.length c2, .int .i64 r1.lost], .bool true]) (by simp [results, Try.results16, go_sem, y0, y1, y2, y3, y4]) rfl ⟨_, _, _, _, rfl, H3.out.set5 (by have := hws.out; omega) ?_ ?_, ?_, ?_, (HK3.out).trans' (set5_keep _ _ _ _ _ _ _) (fun i hi e => by omega)⟩
  · rintro (h | h)
    · have := (Hok.out _ h).2; omega
    · have := HT1.out; have := HWs.out; omega
  · rintro (h | h)
    · have := (HP.out _ h).2.1; omega
    · have := HWs.out; omega
  · rintro k (h | h)
    · exact .inl h
    · right; have := HT1.out; have := HWs.out; omega
  · rintro k (h | h)
    · exact .inl h
    · right; have := HWs.out; omega
end Go.Proofs.Ytdienpcifklinaa
