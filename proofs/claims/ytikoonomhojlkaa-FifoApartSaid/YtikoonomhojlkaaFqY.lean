import Derived.Test.YtikoonomhojlkaaFqU
set_option linter.unusedSimpArgs false
set_option linter.unusedVariables false
namespace Go.Proofs.Ytikoonomhojlkaa
open Go.RowKit Go.Proofs.YtikoonomhojlkaaW.PrintWords Go.Proofs.YtikoonomhojlkaaW.PrintMore Go.Proofs.YtikoonomhojlkaaW.PrintLast
/-! does. -/
def DoesP (w0 w : World) (b : Nat) (ok P : Nat → Prop) (l : List Wt) (e : Ending) (w' : World) : Prop := ∃ v' vl' ok' P', e = .returned (.tuple #[vl', .bool true]) ∧ DQ w0 b l l v' vl' ok' P' w' ∧ (∀ k, ok' k → ok k ∨ w.heap.size ≤ k) ∧ (∀ k, P' k → P k ∨ w.heap.size ≤ k) ∧ Keep (fun k => ok k ∨ P k) w w'
set_option maxHeartbeats 4000000 in
set_option maxRecDepth 100000 in
theorem does_put {w0 w : World} {b : Nat} {l : List Wt} {v vl : Value} {ok P : Nat → Prop} (x : Wt) (procs room : Int) (h : DQ w0 b l l v vl ok P w) : Calls Try.prog 20 #[.pointer (some ⟨b, 0, none⟩), vl, .agg #[.int .i64 0, .int .i64 x.f0.f0, .int .i64 x.f0.f1, .int .u64 x.f1, .int .i64 procs, .int .i64 room]] w (DoesP w0 w b ok P ((putL l x).1)) := by
  obtain ⟨Al, cl, rfl, -, -⟩ := Kd.R_reads h.r
  have hg := h.q.g
  have hlen := hg.len
  have hA : Below w.heap.size w ((w.alloc (.cells #[.int .i64 0, .int .i64 x.f0.f0, .int .i64 x.f0.f1, .int .u64 x.f1, .int .i64 procs, .int .i64 room] 51)).alloc (.cells #[.int .i64 0, .int .i64 0, .int .u64 0] TW)) := (by repeat (first | (with_reducible exact Below.refl _ _) | (with_reducible refine Below.drew ?_) | (with_reducible refine below_drewN ?_ _) | (with_reducible refine below_al ?_ _) | (with_reducible refine Below.alloc ?_ (by first | exact Nat.le_refl _ | omega | (simp; done) | (simp; omega)) _) | (with_reducible refine Below.setCell ?_ (by first | (simp only []; omega) | (simp; done) | (simp; omega)) _)))
  have hY : ((w.alloc (.cells #[.int .i64 0, .int .i64 x.f0.f0, .int .i64 x.f0.f1, .int .u64 x.f1, .int .i64 procs, .int .i64 room] 51)).alloc (.cells #[.int .i64 0, .int .i64 0, .int .u64 0] TW)).heap[w.heap.size]? = some (.cells #[.int .i64 0, .int .i64 x.f0.f0, .int .i64 x.f0.f1, .int .u64 x.f1, .int .i64 procs, .int .i64 room] 51 (0, 0)) := blk_alloc (blk_new _ _)
  have hZ : ((w.alloc (.cells #[.int .i64 0, .int .i64 x.f0.f0, .int .i64 x.f0.f1, .int .u64 x.f1, .int .i64 procs, .int .i64 room] 51)).alloc (.cells #[.int .i64 0, .int .i64 0, .int .u64 0] TW)).heap[w.heap.size + 1]? = some (.cells #[.int .i64 0, .int .i64 0, .int .u64 0] TW (0, 0)) := blk_new1 _ _ _
  have HY := Aside0.mk hY
  have HZ := Aside0.mk hZ
  have H := Aside0.mk (h.then hA)
  have Hok := Aside0.mk h.q.q.z
  have HP := Aside0.mk h.zp
  have hws := Aside0.mk h.q.below.size
  have HK : Aside0 (Keep (fun k => ok k ∨ P k) w ((w.alloc (.cells #[.int .i64 0, .int .i64 x.f0.f0, .int .i64 x.f0.f1, .int .u64 x.f1, .int .i64 procs, .int .i64 room] 51)).alloc (.cells #[.int .i64 0, .int .i64 0, .int .u64 0] TW))) := ⟨Keep.of_below hA⟩
  have HWs : Aside0 (((w.alloc (.cells #[.int .i64 0, .int .i64 x.f0.f0, .int .i64 x.f0.f1, .int .u64 x.f1, .int .i64 procs, .int .i64 room] 51)).alloc (.cells #[.int .i64 0, .int .i64 0, .int .u64 0] TW)).heap.size = w.heap.size + 2) := ⟨by simp⟩
  clear hY hZ hA h
  unfold DoesP
  go_enter Try.func20, Try.ntmps20
  go_wp2_with fail
  generalize ((w.alloc (.cells #[.int .i64 0, .int .i64 x.f0.f0, .int .i64 x.f0.f1, .int .u64 x.f1, .int .i64 procs, .int .i64 room] 51)).alloc (.cells #[.int .i64 0, .int .i64 0, .int .u64 0] TW)) = W at *
  refine (rput_any x H.out.q.below H.out.r hlen).mono ?_
  rintro e w1 ⟨vl1, rfl, hR1, hk1⟩
  obtain ⟨A1, c1, he1, -, -⟩ := Kd.R_reads hR1
  have H1 := Aside0.mk (H.out.rstep hR1 hk1)
  have hY1 := blk_keep HY.out hk1 (fun h => by have := (HP.out _ h).2.1; omega)
  have y1 := cell_blk hY1 1
  have y2 := cell_blk hY1 2
  have y3 := cell_blk hY1 3
  simp only [List.getElem?_toArray, List.getElem?_cons_zero, List.getElem?_cons_succ] at y1 y2 y3
  have HS1 : Aside0 (W.heap.size ≤ w1.heap.size) := ⟨hk1.size⟩
  have HK1 := Aside0.mk (HK.out.trans (hk1.mono (fun _ _ h => .inr h)))
  have hP := que_put x H1.out.q
  subst he1
  obtain ⟨r, hr⟩ : ∃ r, putL l x = r := ⟨_, rfl⟩
  have HR := Aside0.mk hr
  rw [hr] at H1 hP hR1 ⊢
  clear hr
  clear hR1 hk1 hY1
  go_wp2_with fail
  refine hP.mono ?_
  clear hP y1 y2 y3
  rintro e w2 ⟨rfl, ⟨v2, hQ2⟩, hk2⟩
  have H2 := Aside0.mk (H1.out.qstep hQ2 hk2)
  have HK2 := Aside0.mk (HK1.out.trans (hk2.mono (fun _ _ h => .inl h)))
  clear hQ2 hk2
  go_wp2
  go_ret2
  rw [HR.out]
  exact ⟨_, _, _, _, rfl, H2.out, fun k hk => hk.imp id (fun h => by have := HS1.out; have := HWs.out; omega), fun k hk => hk.imp id (fun h => by have := HWs.out; omega), HK2.out⟩
set_option maxHeartbeats 4000000 in
set_option maxRecDepth 100000 in
theorem does_told {w0 w : World} {b : Nat} {l : List Wt} {v vl : Value} {ok P : Nat → Prop} (x : Wt) (procs room : Int) (d : Int) (hd : d ≠ 0) (hd1 : d ≠ 1) (hd2 : d ≠ 2) (hd3 : d ≠ 3) (h : DQ w0 b l l v vl ok P w) : Calls Try.prog 20 #[.pointer (some ⟨b, 0, none⟩), vl, .agg #[.int .i64 d, .int .i64 x.f0.f0, .int .i64 x.f0.f1, .int .u64 x.f1, .int .i64 procs, .int .i64 room]] w (DoesP w0 w b ok P (l)) := by
  obtain ⟨Al, cl, rfl, -, -⟩ := Kd.R_reads h.r
  have hg := h.q.g
  have hlen := hg.len
  have hA : Below w.heap.size w ((w.alloc (.cells #[.int .i64 d, .int .i64 x.f0.f0, .int .i64 x.f0.f1, .int .u64 x.f1, .int .i64 procs, .int .i64 room] 51)).alloc (.cells #[.int .i64 0, .int .i64 0, .int .u64 0] TW)) := (by repeat (first | (with_reducible exact Below.refl _ _) | (with_reducible refine Below.drew ?_) | (with_reducible refine below_drewN ?_ _) | (with_reducible refine below_al ?_ _) | (with_reducible refine Below.alloc ?_ (by first | exact Nat.le_refl _ | omega | (simp; done) | (simp; omega)) _) | (with_reducible refine Below.setCell ?_ (by first | (simp only []; omega) | (simp; done) | (simp; omega)) _)))
  have hY : ((w.alloc (.cells #[.int .i64 d, .int .i64 x.f0.f0, .int .i64 x.f0.f1, .int .u64 x.f1, .int .i64 procs, .int .i64 room] 51)).alloc (.cells #[.int .i64 0, .int .i64 0, .int .u64 0] TW)).heap[w.heap.size]? = some (.cells #[.int .i64 d, .int .i64 x.f0.f0, .int .i64 x.f0.f1, .int .u64 x.f1, .int .i64 procs, .int .i64 room] 51 (0, 0)) := blk_alloc (blk_new _ _)
  have hZ : ((w.alloc (.cells #[.int .i64 d, .int .i64 x.f0.f0, .int .i64 x.f0.f1, .int .u64 x.f1, .int .i64 procs, .int .i64 room] 51)).alloc (.cells #[.int .i64 0, .int .i64 0, .int .u64 0] TW)).heap[w.heap.size + 1]? = some (.cells #[.int .i64 0, .int .i64 0, .int .u64 0] TW (0, 0)) := blk_new1 _ _ _
  have HY := Aside0.mk hY
  have HZ := Aside0.mk hZ
  have H := Aside0.mk (h.then hA)
  have Hok := Aside0.mk h.q.q.z
  have HP := Aside0.mk h.zp
  have hws := Aside0.mk h.q.below.size
  have HK : Aside0 (Keep (fun k => ok k ∨ P k) w ((w.alloc (.cells #[.int .i64 d, .int .i64 x.f0.f0, .int .i64 x.f0.f1, .int .u64 x.f1, .int .i64 procs, .int .i64 room] 51)).alloc (.cells #[.int .i64 0, .int .i64 0, .int .u64 0] TW))) := ⟨Keep.of_below hA⟩
  have HWs : Aside0 (((w.alloc (.cells #[.int .i64 d, .int .i64 x.f0.f0, .int .i64 x.f0.f1, .int .u64 x.f1, .int .i64 procs, .int .i64 room] 51)).alloc (.cells #[.int .i64 0, .int .i64 0, .int .u64 0] TW)).heap.size = w.heap.size + 2) := ⟨by simp⟩
  clear hY hZ hA h
  unfold DoesP
  go_enter Try.func20, Try.ntmps20
  go_wp2_with fail
  generalize ((w.alloc (.cells #[.int .i64 d, .int .i64 x.f0.f0, .int .i64 x.f0.f1, .int .u64 x.f1, .int .i64 procs, .int .i64 room] 51)).alloc (.cells #[.int .i64 0, .int .i64 0, .int .u64 0] TW)) = W at *
  refine (told_any x.f0.f0 x.f0.f1 H.out).mono ?_
  rintro e w1 ⟨rfl, hB1⟩
  have H2 := Aside0.mk (H.out.then hB1)
  have HK2 := Aside0.mk (HK.out.trans (Keep.of_below hB1))
  clear hB1
  go_wp2
  go_ret2
  exact ⟨_, _, _, _, rfl, H2.out, fun k hk => .inl hk, fun k hk => .inl hk, HK2.out⟩
end Go.Proofs.Ytikoonomhojlkaa
set_option linter.unusedSimpArgs false
set_option linter.unusedVariables false
namespace Go.Proofs.Ytikoonomhojlkaa
open Go.RowKit Go.Proofs.YtikoonomhojlkaaW.PrintWords Go.Proofs.YtikoonomhojlkaaW.PrintMore Go.Proofs.YtikoonomhojlkaaW.PrintLast
/-! does: Take, Drop. -/
theorem dropL_good {l : List Wt} (g0 g1 : Int) (h : GoodQ l) : GoodQ (dropL l g0 g1).1 := by
  unfold dropL
  split
  · exact h
  · rename_i i _
    have hs : (l.take i ++ l.drop (i + 1)).Sublist l := by rw [← List.eraseIdx_eq_take_drop_succ]; exact List.eraseIdx_sublist _ _
    exact ⟨rises_pw.2 ((rises_pw.1 h.rises).sublist hs), Nat.le_trans hs.length_le h.len, h.apart.sublist (hs.map _)⟩
theorem que_drop {w wr : World} {b : Nat} {l : List Wt} {ok : Nat → Prop} {v : Value} (g0 g1 : Int) (h : Que w b l ok v wr) : Calls Try.prog 22 #[.pointer (some ⟨b, 0, none⟩), .agg #[.int .i64 g0, .int .i64 g1]] wr fun e w' => e = .returned (.tuple #[.agg #[.int .i64 (dropL l g0 g1).2.1.f0.f0, .int .i64 (dropL l g0 g1).2.1.f0.f1, .int .u64 (dropL l g0 g1).2.1.f1], .int .i64 (dropL l g0 g1).2.2]) ∧ (∃ v', Que w b (dropL l g0 g1).1 (Ex ok wr w') v' w') ∧ Keep ok wr w' :=
  (drop_any g0 g1 h.q h.g.len).mono fun e w' ⟨he, ⟨v', hq⟩, hk⟩ => ⟨he, ⟨v', h.step hq hk (dropL_good g0 g1 h.g)⟩, hk⟩
set_option maxHeartbeats 4000000 in
set_option maxRecDepth 100000 in
theorem does_take {w0 w : World} {b : Nat} {l : List Wt} {v vl : Value} {ok P : Nat → Prop} (x : Wt) (procs room : Int) (h : DQ w0 b l l v vl ok P w) : Calls Try.prog 20 #[.pointer (some ⟨b, 0, none⟩), vl, .agg #[.int .i64 1, .int .i64 x.f0.f0, .int .i64 x.f0.f1, .int .u64 x.f1, .int .i64 procs, .int .i64 room]] w (DoesP w0 w b ok P ((takeL l).1)) := by
  obtain ⟨Al, cl, rfl, -, -⟩ := Kd.R_reads h.r
  have hg := h.q.g
  have hlen := hg.len
  have hA : Below w.heap.size w ((w.alloc (.cells #[.int .i64 1, .int .i64 x.f0.f0, .int .i64 x.f0.f1, .int .u64 x.f1, .int .i64 procs, .int .i64 room] 51)).alloc (.cells #[.int .i64 0, .int .i64 0, .int .u64 0] TW)) := (by repeat (first | (with_reducible exact Below.refl _ _) | (with_reducible refine Below.drew ?_) | (with_reducible refine below_drewN ?_ _) | (with_reducible refine below_al ?_ _) | (with_reducible refine Below.alloc ?_ (by first | exact Nat.le_refl _ | omega | (simp; done) | (simp; omega)) _) | (with_reducible refine Below.setCell ?_ (by first | (simp only []; omega) | (simp; done) | (simp; omega)) _)))
  have hY : ((w.alloc (.cells #[.int .i64 1, .int .i64 x.f0.f0, .int .i64 x.f0.f1, .int .u64 x.f1, .int .i64 procs, .int .i64 room] 51)).alloc (.cells #[.int .i64 0, .int .i64 0, .int .u64 0] TW)).heap[w.heap.size]? = some (.cells #[.int .i64 1, .int .i64 x.f0.f0, .int .i64 x.f0.f1, .int .u64 x.f1, .int .i64 procs, .int .i64 room] 51 (0, 0)) := blk_alloc (blk_new _ _)
  have hZ : ((w.alloc (.cells #[.int .i64 1, .int .i64 x.f0.f0, .int .i64 x.f0.f1, .int .u64 x.f1, .int .i64 procs, .int .i64 room] 51)).alloc (.cells #[.int .i64 0, .int .i64 0, .int .u64 0] TW)).heap[w.heap.size + 1]? = some (.cells #[.int .i64 0, .int .i64 0, .int .u64 0] TW (0, 0)) := blk_new1 _ _ _
  have HY := Aside0.mk hY
  have HZ := Aside0.mk hZ
  have H := Aside0.mk (h.then hA)
  have Hok := Aside0.mk h.q.q.z
  have HP := Aside0.mk h.zp
  have hws := Aside0.mk h.q.below.size
  have HK : Aside0 (Keep (fun k => ok k ∨ P k) w ((w.alloc (.cells #[.int .i64 1, .int .i64 x.f0.f0, .int .i64 x.f0.f1, .int .u64 x.f1, .int .i64 procs, .int .i64 room] 51)).alloc (.cells #[.int .i64 0, .int .i64 0, .int .u64 0] TW))) := ⟨Keep.of_below hA⟩
  have HWs : Aside0 (((w.alloc (.cells #[.int .i64 1, .int .i64 x.f0.f0, .int .i64 x.f0.f1, .int .u64 x.f1, .int .i64 procs, .int .i64 room] 51)).alloc (.cells #[.int .i64 0, .int .i64 0, .int .u64 0] TW)).heap.size = w.heap.size + 2) := ⟨by simp⟩
  clear hY hZ hA h
  unfold DoesP
  go_enter Try.func20, Try.ntmps20
  go_wp2_with fail
  generalize ((w.alloc (.cells #[.int .i64 1, .int .i64 x.f0.f0, .int .i64 x.f0.f1, .int .u64 x.f1, .int .i64 procs, .int .i64 room] 51)).alloc (.cells #[.int .i64 0, .int .i64 0, .int .u64 0] TW)) = W at *
  refine (rtake_any H.out.q.below H.out.r hlen).mono ?_
  rintro e w1 ⟨vl1, rfl, hR1, hk1⟩
  obtain ⟨A1, c1, he1, -, -⟩ := Kd.R_reads hR1
  have H1 := Aside0.mk (H.out.rstep hR1 hk1)
  have hZ1 := blk_keep HZ.out hk1 (fun h => by have := (HP.out _ h).2.1; omega)
  have HS1 : Aside0 (W.heap.size ≤ w1.heap.size) := ⟨hk1.size⟩
  have HK1 := Aside0.mk (HK.out.trans (hk1.mono (fun _ _ h => .inr h)))
  subst he1
  have hno1 : ¬ ok (w.heap.size + 1) := fun h => by have := (Hok.out _ h).2; omega
  have hnp1 : ¬ Ex P W w1 (w.heap.size + 1) := fun h => h.elim (fun h => by have := (HP.out _ h).2.1; omega) (fun h => by have := HWs.out; omega)
  have hk5 := set3_keep w1 (w.heap.size + 1) (.int .i64 (takeL l).2.1.f0.f0) (.int .i64 (takeL l).2.1.f0.f1) (.int .u64 (takeL l).2.1.f1)
  have H1s := Aside0.mk (H1.out.far hk5 (fun k hk => by subst hk; exact ⟨by have := hws.out; omega, hno1, hnp1⟩))
  have hZs := blk_set3 (u0 := .int .i64 (takeL l).2.1.f0.f0) (u1 := .int .i64 (takeL l).2.1.f0.f1) (u2 := .int .u64 (takeL l).2.1.f1) hZ1
  have HZs := Aside0.mk hZs
  have HK5 := Aside0.mk (HK1.out.trans' hk5 (fun i hi e => by omega))
  have hS5 := Aside0.mk hk5.size
  have hT := que_take H1s.out.q
  obtain ⟨z0, z1, z2⟩ := cells3 hZ1
  obtain ⟨u0, u1, u2⟩ := froz3 hZ1
  have hzl := lt_blk hZ1
  obtain ⟨r, hr⟩ : ∃ r, takeL l = r := ⟨_, rfl⟩
  have HR := Aside0.mk hr
  rw [hr] at H1s hT HZs HK5 hR1 hS5 ⊢
  clear hr hR1 hk1 hZ1 hk5 hZs H1 HK1
  go_wp2_with fail
  generalize (((w1.setCell ⟨(w.heap.size + 1), 0, none⟩ (.int .i64 r.2.1.f0.f0)).setCell ⟨(w.heap.size + 1), 1, none⟩ (.int .i64 r.2.1.f0.f1)).setCell ⟨(w.heap.size + 1), 2, none⟩ (.int .u64 r.2.1.f1)) = w5 at *
  refine hT.mono ?_
  clear hT z0 z1 z2 u0 u1 u2 hzl
  rintro e w2 ⟨rfl, ⟨v2, hQ2⟩, hk2⟩
  have hA2 : Below w2.heap.size w2 (w2.alloc (.cells #[.int .i64 r.2.1.f0.f0, .int .i64 r.2.1.f0.f1, .int .u64 r.2.1.f1] TW)) := below_al (Below.refl _ _) _
  have H2 := Aside0.mk ((H1s.out.qstep hQ2 hk2).then hA2)
  have HK2 := Aside0.mk ((HK5.out.trans (hk2.mono (fun _ _ h => .inl h))).trans (Keep.of_below hA2))
  have hZ2 := blk_keep HZs.out hk2 hno1
  obtain ⟨z0, z1, z2⟩ := cells3 hZ2
  have hzl := lt_blk hZ2
  have HS2 := Aside0.mk (Nat.le_trans HS1.out hS5.out)
  clear hQ2 hk2 hA2 hZ2
  go_wp2
  go_ret2
  rw [HR.out]
  exact ⟨_, _, _, _, rfl, H2.out, fun k hk => hk.imp id (fun h => by have := HS2.out; have := HWs.out; omega), fun k hk => hk.imp id (fun h => by have := HWs.out; omega), HK2.out⟩
end Go.Proofs.Ytikoonomhojlkaa
set_option linter.unusedSimpArgs false
set_option linter.unusedVariables false
namespace Go.Proofs.Ytikoonomhojlkaa
open Go.RowKit Go.Proofs.YtikoonomhojlkaaW.PrintWords Go.Proofs.YtikoonomhojlkaaW.PrintMore Go.Proofs.YtikoonomhojlkaaW.PrintLast
/-! does: Drop. -/
set_option maxHeartbeats 4000000 in
set_option maxRecDepth 100000 in
theorem does_drop {w0 w : World} {b : Nat} {l : List Wt} {v vl : Value} {ok P : Nat → Prop} (x : Wt) (procs room : Int) (h : DQ w0 b l l v vl ok P w) : Calls Try.prog 20 #[.pointer (some ⟨b, 0, none⟩), vl, .agg #[.int .i64 3, .int .i64 x.f0.f0, .int .i64 x.f0.f1, .int .u64 x.f1, .int .i64 procs, .int .i64 room]] w (DoesP w0 w b ok P ((dropL l x.f0.f0 x.f0.f1).1)) := by
  obtain ⟨Al, cl, rfl, -, -⟩ := Kd.R_reads h.r
  have hg := h.q.g
  have hlen := hg.len
  have hA : Below w.heap.size w ((w.alloc (.cells #[.int .i64 3, .int .i64 x.f0.f0, .int .i64 x.f0.f1, .int .u64 x.f1, .int .i64 procs, .int .i64 room] 51)).alloc (.cells #[.int .i64 0, .int .i64 0, .int .u64 0] TW)) := (by repeat (first | (with_reducible exact Below.refl _ _) | (with_reducible refine Below.drew ?_) | (with_reducible refine below_drewN ?_ _) | (with_reducible refine below_al ?_ _) | (with_reducible refine Below.alloc ?_ (by first | exact Nat.le_refl _ | omega | (simp; done) | (simp; omega)) _) | (with_reducible refine Below.setCell ?_ (by first | (simp only []; omega) | (simp; done) | (simp; omega)) _)))
  have hY : ((w.alloc (.cells #[.int .i64 3, .int .i64 x.f0.f0, .int .i64 x.f0.f1, .int .u64 x.f1, .int .i64 procs, .int .i64 room] 51)).alloc (.cells #[.int .i64 0, .int .i64 0, .int .u64 0] TW)).heap[w.heap.size]? = some (.cells #[.int .i64 3, .int .i64 x.f0.f0, .int .i64 x.f0.f1, .int .u64 x.f1, .int .i64 procs, .int .i64 room] 51 (0, 0)) := blk_alloc (blk_new _ _)
  have hZ : ((w.alloc (.cells #[.int .i64 3, .int .i64 x.f0.f0, .int .i64 x.f0.f1, .int .u64 x.f1, .int .i64 procs, .int .i64 room] 51)).alloc (.cells #[.int .i64 0, .int .i64 0, .int .u64 0] TW)).heap[w.heap.size + 1]? = some (.cells #[.int .i64 0, .int .i64 0, .int .u64 0] TW (0, 0)) := blk_new1 _ _ _
  have HY := Aside0.mk hY
  have HZ := Aside0.mk hZ
  have H := Aside0.mk (h.then hA)
  have Hok := Aside0.mk h.q.q.z
  have HP := Aside0.mk h.zp
  have hws := Aside0.mk h.q.below.size
  have HK : Aside0 (Keep (fun k => ok k ∨ P k) w ((w.alloc (.cells #[.int .i64 3, .int .i64 x.f0.f0, .int .i64 x.f0.f1, .int .u64 x.f1, .int .i64 procs, .int .i64 room] 51)).alloc (.cells #[.int .i64 0, .int .i64 0, .int .u64 0] TW))) := ⟨Keep.of_below hA⟩
  have HWs : Aside0 (((w.alloc (.cells #[.int .i64 3, .int .i64 x.f0.f0, .int .i64 x.f0.f1, .int .u64 x.f1, .int .i64 procs, .int .i64 room] 51)).alloc (.cells #[.int .i64 0, .int .i64 0, .int .u64 0] TW)).heap.size = w.heap.size + 2) := ⟨by simp⟩
  clear hY hZ hA h
  unfold DoesP
  go_enter Try.func20, Try.ntmps20
  go_wp2_with fail
  generalize ((w.alloc (.cells #[.int .i64 3, .int .i64 x.f0.f0, .int .i64 x.f0.f1, .int .u64 x.f1, .int .i64 procs, .int .i64 room] 51)).alloc (.cells #[.int .i64 0, .int .i64 0, .int .u64 0] TW)) = W at *
  refine (rdrop_any x.f0.f0 x.f0.f1 H.out.q.below H.out.r hlen).mono ?_
  rintro e w1 ⟨vl1, rfl, hR1, hk1⟩
  obtain ⟨A1, c1, he1, -, -⟩ := Kd.R_reads hR1
  have H1 := Aside0.mk (H.out.rstep hR1 hk1)
  have hZ1 := blk_keep HZ.out hk1 (fun h => by have := (HP.out _ h).2.1; omega)
  have hY1 := blk_keep HY.out hk1 (fun h => by have := (HP.out _ h).2.1; omega)
  have hYk := blk_keep hY1 (set3_keep w1 (w.heap.size + 1) (.int .i64 (dropL l x.f0.f0 x.f0.f1).2.1.f0.f0) (.int .i64 (dropL l x.f0.f0 x.f0.f1).2.1.f0.f1) (.int .u64 (dropL l x.f0.f0 x.f0.f1).2.1.f1)) (show ¬ w.heap.size = w.heap.size + 1 by omega)
  have y1 := cell_blk hY1 1
  have y2 := cell_blk hY1 2
  have y4 := lt_blk hY1
  simp only [List.getElem?_toArray, List.getElem?_cons_zero, List.getElem?_cons_succ] at y1 y2
  clear hY1 hYk
  have HS1 : Aside0 (W.heap.size ≤ w1.heap.size) := ⟨hk1.size⟩
  have HK1 := Aside0.mk (HK.out.trans (hk1.mono (fun _ _ h => .inr h)))
  subst he1
  have hno1 : ¬ ok (w.heap.size + 1) := fun h => by have := (Hok.out _ h).2; omega
  have hnp1 : ¬ Ex P W w1 (w.heap.size + 1) := fun h => h.elim (fun h => by have := (HP.out _ h).2.1; omega) (fun h => by have := HWs.out; omega)
  have hk5 := set3_keep w1 (w.heap.size + 1) (.int .i64 (dropL l x.f0.f0 x.f0.f1).2.1.f0.f0) (.int .i64 (dropL l x.f0.f0 x.f0.f1).2.1.f0.f1) (.int .u64 (dropL l x.f0.f0 x.f0.f1).2.1.f1)
  have H1s := Aside0.mk (H1.out.far hk5 (fun k hk => by subst hk; exact ⟨by have := hws.out; omega, hno1, hnp1⟩))
  have hZs := blk_set3 (u0 := .int .i64 (dropL l x.f0.f0 x.f0.f1).2.1.f0.f0) (u1 := .int .i64 (dropL l x.f0.f0 x.f0.f1).2.1.f0.f1) (u2 := .int .u64 (dropL l x.f0.f0 x.f0.f1).2.1.f1) hZ1
  have HZs := Aside0.mk hZs
  have HK5 := Aside0.mk (HK1.out.trans' hk5 (fun i hi e => by omega))
  have hS5 := Aside0.mk hk5.size
  have hT := que_drop x.f0.f0 x.f0.f1 H1s.out.q
  obtain ⟨z0, z1, z2⟩ := cells3 hZ1
  obtain ⟨u0, u1, u2⟩ := froz3 hZ1
  have hzl := lt_blk hZ1
  obtain ⟨r, hr⟩ : ∃ r, dropL l x.f0.f0 x.f0.f1 = r := ⟨_, rfl⟩
  have HR := Aside0.mk hr
  rw [hr] at H1s hT HZs HK5 hR1 hS5 ⊢
  clear hr hR1 hk1 hZ1 hk5 hZs H1 HK1
  go_wp2_with fail
  generalize (((w1.setCell ⟨(w.heap.size + 1), 0, none⟩ (.int .i64 r.2.1.f0.f0)).setCell ⟨(w.heap.size + 1), 1, none⟩ (.int .i64 r.2.1.f0.f1)).setCell ⟨(w.heap.size + 1), 2, none⟩ (.int .u64 r.2.1.f1)) = w5 at *
  refine hT.mono ?_
  clear hT z0 z1 z2 u0 u1 u2 hzl
  rintro e w2 ⟨rfl, ⟨v2, hQ2⟩, hk2⟩
  have hA2 : Below w2.heap.size w2 (w2.alloc (.cells #[.int .i64 r.2.1.f0.f0, .int .i64 r.2.1.f0.f1, .int .u64 r.2.1.f1] TW)) := below_al (Below.refl _ _) _
  have H2 := Aside0.mk ((H1s.out.qstep hQ2 hk2).then hA2)
  have HK2 := Aside0.mk ((HK5.out.trans (hk2.mono (fun _ _ h => .inl h))).trans (Keep.of_below hA2))
  have hZ2 := blk_keep HZs.out hk2 hno1
  obtain ⟨z0, z1, z2⟩ := cells3 hZ2
  have hzl := lt_blk hZ2
  have HS2 := Aside0.mk (Nat.le_trans HS1.out hS5.out)
  clear hQ2 hk2 hA2 hZ2
  go_wp2
  go_ret2
  rw [HR.out]
  exact ⟨_, _, _, _, rfl, H2.out, fun k hk => hk.imp id (fun h => by have := HS2.out; have := HWs.out; omega), fun k hk => hk.imp id (fun h => by have := HWs.out; omega), HK2.out⟩
end Go.Proofs.Ytikoonomhojlkaa
set_option linter.unusedSimpArgs false
set_option linter.unusedVariables false
namespace Go.Proofs.Ytikoonomhojlkaa
open Go.RowKit Go.Proofs.YtikoonomhojlkaaW.PrintWords Go.Proofs.YtikoonomhojlkaaW.PrintMore Go.Proofs.YtikoonomhojlkaaW.PrintLast
/-! does: Batch; does. -/
theorem batchL_good {l : List Wt} (procs room : Int) (h : GoodQ l) : GoodQ (batchL l procs room).1 ∧ (batchL l procs room).2.1.length ≤ 4096 := by
  unfold batchL
  split
  · exact ⟨h, by simp⟩
  · have hs := List.drop_sublist (batchN l.length procs room).toNat l
    exact ⟨⟨rises_pw.2 ((rises_pw.1 h.rises).sublist hs), Nat.le_trans hs.length_le h.len, h.apart.sublist (hs.map _)⟩, by have := h.len; simp only [List.length_take]; omega⟩
set_option maxHeartbeats 4000000 in
set_option maxRecDepth 100000 in
theorem does_batch {w0 w : World} {b : Nat} {l : List Wt} {v vl : Value} {ok P : Nat → Prop} (x : Wt) (procs room : Int) (h : DQ w0 b l l v vl ok P w) : Calls Try.prog 20 #[.pointer (some ⟨b, 0, none⟩), vl, .agg #[.int .i64 2, .int .i64 x.f0.f0, .int .i64 x.f0.f1, .int .u64 x.f1, .int .i64 procs, .int .i64 room]] w (DoesP w0 w b ok P ((batchL l procs room).1)) := by
  obtain ⟨Al, cl, rfl, -, -⟩ := Kd.R_reads h.r
  have hg := h.q.g
  have hlen := hg.len
  have hA : Below w.heap.size w ((w.alloc (.cells #[.int .i64 2, .int .i64 x.f0.f0, .int .i64 x.f0.f1, .int .u64 x.f1, .int .i64 procs, .int .i64 room] 51)).alloc (.cells #[.int .i64 0, .int .i64 0, .int .u64 0] TW)) := (by repeat (first | (with_reducible exact Below.refl _ _) | (with_reducible refine Below.drew ?_) | (with_reducible refine below_drewN ?_ _) | (with_reducible refine below_al ?_ _) | (with_reducible refine Below.alloc ?_ (by first | exact Nat.le_refl _ | omega | (simp; done) | (simp; omega)) _) | (with_reducible refine Below.setCell ?_ (by first | (simp only []; omega) | (simp; done) | (simp; omega)) _)))
  have hY : ((w.alloc (.cells #[.int .i64 2, .int .i64 x.f0.f0, .int .i64 x.f0.f1, .int .u64 x.f1, .int .i64 procs, .int .i64 room] 51)).alloc (.cells #[.int .i64 0, .int .i64 0, .int .u64 0] TW)).heap[w.heap.size]? = some (.cells #[.int .i64 2, .int .i64 x.f0.f0, .int .i64 x.f0.f1, .int .u64 x.f1, .int .i64 procs, .int .i64 room] 51 (0, 0)) := blk_alloc (blk_new _ _)
  have hZ : ((w.alloc (.cells #[.int .i64 2, .int .i64 x.f0.f0, .int .i64 x.f0.f1, .int .u64 x.f1, .int .i64 procs, .int .i64 room] 51)).alloc (.cells #[.int .i64 0, .int .i64 0, .int .u64 0] TW)).heap[w.heap.size + 1]? = some (.cells #[.int .i64 0, .int .i64 0, .int .u64 0] TW (0, 0)) := blk_new1 _ _ _
  have HY := Aside0.mk hY
  have HZ := Aside0.mk hZ
  have H := Aside0.mk (h.then hA)
  have Hok := Aside0.mk h.q.q.z
  have HP := Aside0.mk h.zp
  have hws := Aside0.mk h.q.below.size
  have HK : Aside0 (Keep (fun k => ok k ∨ P k) w ((w.alloc (.cells #[.int .i64 2, .int .i64 x.f0.f0, .int .i64 x.f0.f1, .int .u64 x.f1, .int .i64 procs, .int .i64 room] 51)).alloc (.cells #[.int .i64 0, .int .i64 0, .int .u64 0] TW))) := ⟨Keep.of_below hA⟩
  have HWs : Aside0 (((w.alloc (.cells #[.int .i64 2, .int .i64 x.f0.f0, .int .i64 x.f0.f1, .int .u64 x.f1, .int .i64 procs, .int .i64 room] 51)).alloc (.cells #[.int .i64 0, .int .i64 0, .int .u64 0] TW)).heap.size = w.heap.size + 2) := ⟨by simp⟩
  clear hY hZ hA h
  unfold DoesP
  go_enter Try.func20, Try.ntmps20
  go_wp2_with fail
  generalize ((w.alloc (.cells #[.int .i64 2, .int .i64 x.f0.f0, .int .i64 x.f0.f1, .int .u64 x.f1, .int .i64 procs, .int .i64 room] 51)).alloc (.cells #[.int .i64 0, .int .i64 0, .int .u64 0] TW)) = W at *
  have hE : Below W.heap.size W (W.alloc (.cells #[] TW)) := below_al (Below.refl _ _) _
  have HE := Aside0.mk (H.out.then hE)
  have HKE := Aside0.mk (HK.out.trans (Keep.of_below hE))
  have HYE := Aside0.mk (blk_below HY.out hE)
  have HES : Aside0 ((W.alloc (.cells #[] TW)).heap.size = W.heap.size + 1) := ⟨by simp⟩
  clear hE
  generalize (W.alloc (.cells #[] TW)) = W2 at *
  have hRB := rbatch_any procs room HE.out.r HE.out.q.below.size (fun k e => (HE.out.zp k (HE.out.r.1 k e)).2.1) hlen
  have hGB := batchL_good procs room hg
  obtain ⟨r, hr⟩ : ∃ r, batchL l procs room = r := ⟨_, rfl⟩
  have HR := Aside0.mk hr
  refine hRB.mono ?_
  clear hRB
  rintro e w1 ⟨vl1, u, rfl, hR1, hRu, hB1⟩
  have H1 := Aside0.mk (HE.out.rstep (R_new hR1) (Keep.of_below hB1))
  have hT := batch_any procs room H1.out.q.q hlen
  rw [hr] at H1 hT hR1 hRu hGB ⊢
  obtain ⟨A1, c1, he1, -, -⟩ := Kd.R_reads hR1
  subst he1
  have hY1 := blk_below HYE.out hB1
  have y4 := cell_blk hY1 4
  have y5 := cell_blk hY1 5
  simp only [List.getElem?_toArray, List.getElem?_cons_zero, List.getElem?_cons_succ] at y4 y5
  have HK1 := Aside0.mk (HKE.out.trans (Keep.of_below hB1))
  have HS1 : Aside0 (W2.heap.size ≤ w1.heap.size) := ⟨hB1.size⟩
  have HRu := Aside0.mk hRu
  have hlu := Aside0.mk hGB
  obtain ⟨Au, cu, heu, -, -⟩ := Kd.R_reads hRu
  subst heu
  clear hr hR1 hB1 hY1 hRu hGB
  go_wp2_with fail
  refine hT.mono ?_
  clear hT y4 y5
  rintro e w2 ⟨v2, u2, rfl, hQ2, hRx, -, hk2⟩
  obtain ⟨A2, c2, he2, -, -⟩ := Kd.R_reads hRx
  subst he2
  have H2 := Aside0.mk (H1.out.qstep (H1.out.q.step hQ2 hk2 hlu.out.1) hk2)
  have HK2 := Aside0.mk (HK1.out.trans (hk2.mono (fun _ _ h => .inl h)))
  have hRu2 : Kd.R kW TW w2 W2.heap.size (fun _ => True) (.slice Au r.2.1.length cu) r.2.1 := Kd.R_mono (Kd.R_step (Kd.R_bound HRu.out) (fun k ho hl => hk2.block k hl (fun h => by have := (Hok.out k h).2; have := ho.2.1; have := HES.out; have := HWs.out; omega))) (fun _ _ => trivial)
  have HSm := Aside0.mk (same_any hRx hRu2 (by have := hlu.out.2; omega))
  clear hQ2 hRx hk2 hRu2
  go_wp2_with fail
  refine HSm.out.mono ?_
  clear HSm
  rintro e w3 ⟨rfl, hB3⟩
  have H3 := Aside0.mk (H2.out.then hB3)
  have HK3 := Aside0.mk (HK2.out.trans (Keep.of_below hB3))
  clear hB3
  go_wp2
  go_ret2
  rw [HR.out]
  exact ⟨_, _, _, _, rfl, H3.out, fun k hk => hk.imp id (fun h => by have := HS1.out; have := HES.out; have := HWs.out; omega), fun k hk => hk.imp id (fun h => by have := HES.out; have := HWs.out; omega), HK3.out⟩
def doL (l : List Wt) (d : Int) (x : Wt) (procs room : Int) : List Wt := if d = 0 then (putL l x).1 else if d = 1 then (takeL l).1 else if d = 2 then (batchL l procs room).1 else if d = 3 then (dropL l x.f0.f0 x.f0.f1).1 else l
theorem does_any {w0 w : World} {b : Nat} {l : List Wt} {v vl : Value} {ok P : Nat → Prop} (d : Int) (x : Wt) (procs room : Int) (h : DQ w0 b l l v vl ok P w) : Calls Try.prog 20 #[.pointer (some ⟨b, 0, none⟩), vl, .agg #[.int .i64 d, .int .i64 x.f0.f0, .int .i64 x.f0.f1, .int .u64 x.f1, .int .i64 procs, .int .i64 room]] w (DoesP w0 w b ok P (doL l d x procs room)) := by
  unfold doL
  rcases (show d = 0 ∨ d = 1 ∨ d = 2 ∨ d = 3 ∨ (d ≠ 0 ∧ d ≠ 1 ∧ d ≠ 2 ∧ d ≠ 3) by omega) with rfl | rfl | rfl | rfl | ⟨h0, h1, h2, h3⟩
  · exact does_put x procs room h
  · exact does_take x procs room h
  · exact does_batch x procs room h
  · exact does_drop x procs room h
  · rw [if_neg h0, if_neg h1, if_neg h2, if_neg h3]
    exact does_told x procs room d h0 h1 h2 h3 h
end Go.Proofs.Ytikoonomhojlkaa
