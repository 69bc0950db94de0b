import Derived.Test.YtnglgjegkjfnaaaSlWW
import Derived.Test.YtnglgjegkjfnaaaSlQ
import Derived.Deep.DrawnRows
set_option linter.unusedSimpArgs false
set_option linter.unusedVariables false
namespace Go.Proofs.Ytnglgjegkjfnaaa
open Go.RowKit Go.ChangeShapes Go.WideShapes Go.ChangeAt Go.Proofs.YtnglgjegkjfnaaaW.PrintWords Go.Proofs.YtnglgjegkjfnaaaW.PrintMore Go.Proofs.YtnglgjegkjfnaaaW.PrintLast
/-! rotaref04.given: printed by gen04v.py. -/
theorem SlV.given {w : World} {base gg og ng cg ga oa na ca x : Nat} {col : Nat → Nat} {s : Sl} {vC vF : Value} {vs : List Value} (h : SlV w base col s (.slice (some ⟨gg, og, none⟩) ng cg) (.slice (some ⟨ga, oa, none⟩) na ca) vC vF vs) (hg : x < s.gens.length) (ha : x < s.alive.length) (z : Int) :
    SlV ((w.setCell ⟨gg, og + x, none⟩ (.int .i64 z)).setCell ⟨ga, oa + x, none⟩ (.bool true)) base col { s with gens := s.gens.set x z, alive := s.alive.set x true } (.slice (some ⟨gg, og, none⟩) ng cg) (.slice (some ⟨ga, oa, none⟩) na ca) vC vF vs ∧ Keep (fun k => col k ≠ 0) w ((w.setCell ⟨gg, og + x, none⟩ (.int .i64 z)).setCell ⟨ga, oa + x, none⟩ (.bool true)) := by
  have hg2 : col gg = 2 := h.g.own gg (by simp [Value.ownBlock])
  have ha3 : col ga = 3 := h.a.own ga (by simp [Value.ownBlock])
  have k1 : Keep (fun k => k = gg) w (w.setCell ⟨gg, og + x, none⟩ (.int .i64 z)) := (by repeat (first | (with_reducible exact Keep.refl _ _) | (with_reducible refine Keep.drewN ?_ _) | (with_reducible refine Keep.drew ?_) | (with_reducible refine Keep.setCell ?_ _ _ (by first | (right; with_reducible rfl) | (left; simp; done) | (left; simp; omega) | (right; simp; done) | (right; assumption))) | (with_reducible refine Keep.alloc ?_ _)))
  have k2 : Keep (fun k => k = ga) (w.setCell ⟨gg, og + x, none⟩ (.int .i64 z)) ((w.setCell ⟨gg, og + x, none⟩ (.int .i64 z)).setCell ⟨ga, oa + x, none⟩ (.bool true)) := (by repeat (first | (with_reducible exact Keep.refl _ _) | (with_reducible refine Keep.drewN ?_ _) | (with_reducible refine Keep.drew ?_) | (with_reducible refine Keep.setCell ?_ _ _ (by first | (right; with_reducible rfl) | (left; simp; done) | (left; simp; omega) | (right; simp; done) | (right; assumption))) | (with_reducible refine Keep.alloc ?_ _)))
  have hG := h.g.set (i := x) (u := .int .i64 z) (by rw [ints_len]; exact hg) rfl
  rw [← ints_set] at hG
  have hA := (h.a.keep k1 (fun j e h => by subst e; omega)).set (i := x) (u := .bool true) (by rw [bools_len]; exact ha) rfl
  rw [← bools_set] at hA
  refine ⟨⟨hG.keep k2 (fun j e h => by subst e; omega), hA, (h.c.keep k1 (fun j e h => by subst e; omega)).keep k2 (fun j e h => by subst e; omega), (h.f.keep k1 (fun j e h => by subst e; omega)).keep k2 (fun j e h => by subst e; omega), h.l, fun i y hy => ?_, fun k hk => ?_, h.b⟩, ?_⟩
  · obtain ⟨v, hv, hr⟩ := h.v i y hy
    exact ⟨v, hv, (hr.keep k1 (fun j e h => by subst e; omega)).keep k2 (fun j e h => by subst e; omega)⟩
  · exact h.z k (by have := k1.size; have := k2.size; omega)
  · exact (k1.mono (fun _ _ e => by subst e; omega)).trans (k2.mono (fun _ _ e => by subst e; omega))
set_option maxRecDepth 100000 in
set_option maxHeartbeats 8000000 in
theorem given_own {w : World} {base gg og cg ga oa ca x : Nat} {AC0 AF0 : Option Addr} {cC0 cF0 : Nat} {col : Nat → Nat} {s : Sl} {vs : List Value} {z : Int} (hb : base ≤ w.heap.size) (h : SlV w base col s (.slice (some ⟨gg, og, none⟩) s.gens.length cg) (.slice (some ⟨ga, oa, none⟩) s.alive.length ca) (.slice AC0 vs.length cC0) (.slice AF0 (ints s.free).length cF0) vs) (ha : s.alive.length = s.gens.length) (hz : s.gens[x]? = some z) (hz0 : 0 ≤ z) (hz1 : z ≤ 2147483647) :
    Calls Try.prog 50 #[.agg #[.int .i64 s.limit, (.slice (some ⟨gg, og, none⟩) s.gens.length cg), (.slice (some ⟨ga, oa, none⟩) s.alive.length ca), (.slice AC0 vs.length cC0), (.slice AF0 (ints s.free).length cF0)], .int .i64 x] w fun e w' => e = .returned (.tuple #[.agg #[.int .i64 s.limit, (.slice (some ⟨gg, og, none⟩) s.gens.length cg), (.slice (some ⟨ga, oa, none⟩) s.alive.length ca), (.slice AC0 vs.length cC0), (.slice AF0 (ints s.free).length cF0)], .agg #[.int .i64 x, .int .i64 (z + 1)], .int .i64 0]) ∧ SlV w' base col { s with gens := s.gens.set x (z + 1), alive := s.alive.set x true } (.slice (some ⟨gg, og, none⟩) s.gens.length cg) (.slice (some ⟨ga, oa, none⟩) s.alive.length ca) (.slice AC0 vs.length cC0) (.slice AF0 (ints s.free).length cF0) vs ∧ Keep (fun k => col k ≠ 0) w w' := by
  have hW : Below w.heap.size w (((w.alloc (.cells #[.int .i64 s.limit, (.slice (some ⟨gg, og, none⟩) s.gens.length cg), (.slice (some ⟨ga, oa, none⟩) s.alive.length ca), (.slice AC0 vs.length cC0), (.slice AF0 (ints s.free).length cF0)] TT)).alloc (.cells #[.int .i64 0, .slice none 0 0, .slice none 0 0, .slice none 0 0, .slice none 0 0] 30)).alloc (.cells #[.int .i64 0, .int .i64 0] 48)) := (by repeat (first | (with_reducible exact Below.refl _ _) | (with_reducible refine Below.drew ?_) | (with_reducible refine below_drewN ?_ _) | (with_reducible refine below_al ?_ _) | (with_reducible refine Below.alloc ?_ (by first | exact Nat.le_refl _ | omega | (simp; done) | (simp; omega)) _) | (with_reducible refine Below.setCell ?_ (by first | (simp only []; omega) | (simp; done) | (simp; omega)) _)))
  have hWz : (((w.alloc (.cells #[.int .i64 s.limit, (.slice (some ⟨gg, og, none⟩) s.gens.length cg), (.slice (some ⟨ga, oa, none⟩) s.alive.length ca), (.slice AC0 vs.length cC0), (.slice AF0 (ints s.free).length cF0)] TT)).alloc (.cells #[.int .i64 0, .slice none 0 0, .slice none 0 0, .slice none 0 0, .slice none 0 0] 30)).alloc (.cells #[.int .i64 0, .int .i64 0] 48)).heap.size = w.heap.size + 3 := by simp
  have hP : (((w.alloc (.cells #[.int .i64 s.limit, (.slice (some ⟨gg, og, none⟩) s.gens.length cg), (.slice (some ⟨ga, oa, none⟩) s.alive.length ca), (.slice AC0 vs.length cC0), (.slice AF0 (ints s.free).length cF0)] TT)).alloc (.cells #[.int .i64 0, .slice none 0 0, .slice none 0 0, .slice none 0 0, .slice none 0 0] 30)).alloc (.cells #[.int .i64 0, .int .i64 0] 48)).heap[w.heap.size]? = some (.cells #[.int .i64 s.limit, (.slice (some ⟨gg, og, none⟩) s.gens.length cg), (.slice (some ⟨ga, oa, none⟩) s.alive.length ca), (.slice AC0 vs.length cC0), (.slice AF0 (ints s.free).length cF0)] TT (0, 0)) := blk_alloc (blk_alloc (blk_new _ _))
  have hR : (((w.alloc (.cells #[.int .i64 s.limit, (.slice (some ⟨gg, og, none⟩) s.gens.length cg), (.slice (some ⟨ga, oa, none⟩) s.alive.length ca), (.slice AC0 vs.length cC0), (.slice AF0 (ints s.free).length cF0)] TT)).alloc (.cells #[.int .i64 0, .slice none 0 0, .slice none 0 0, .slice none 0 0, .slice none 0 0] 30)).alloc (.cells #[.int .i64 0, .int .i64 0] 48)).heap[w.heap.size + 1]? = some (.cells #[.int .i64 0, .slice none 0 0, .slice none 0 0, .slice none 0 0, .slice none 0 0] 30 (0, 0)) := blk_alloc (blk_new1 _ _ _)
  have hG : (((w.alloc (.cells #[.int .i64 s.limit, (.slice (some ⟨gg, og, none⟩) s.gens.length cg), (.slice (some ⟨ga, oa, none⟩) s.alive.length ca), (.slice AC0 vs.length cC0), (.slice AF0 (ints s.free).length cF0)] TT)).alloc (.cells #[.int .i64 0, .slice none 0 0, .slice none 0 0, .slice none 0 0, .slice none 0 0] 30)).alloc (.cells #[.int .i64 0, .int .i64 0] 48)).heap[w.heap.size + 2]? = some (.cells #[.int .i64 0, .int .i64 0] 48 (0, 0)) := blk_new2 _ _ _ _
  have hxg : x < s.gens.length := (List.getElem?_eq_some_iff.1 hz).1
  have hxa : x < s.alive.length := by omega
  have hg2 : col gg = 2 := h.g.own gg (by simp [Value.ownBlock])
  have ha3 : col ga = 3 := h.a.own ga (by simp [Value.ownBlock])
  have hgl : gg < w.heap.size := h.g.lt gg (by simp [Value.ownBlock])
  have hal : ga < w.heap.size := h.a.lt ga (by simp [Value.ownBlock])
  have hne : gg ≠ ga := fun e => by subst e; omega
  have HC : Aside0 (∀ k, w.heap.size ≤ k → col k = 0) := ⟨h.z⟩
  have HV := Aside0.mk (h.below hW)
  have HKW : Aside0 (Keep (fun k => col k ≠ 0) w (((w.alloc (.cells #[.int .i64 s.limit, (.slice (some ⟨gg, og, none⟩) s.gens.length cg), (.slice (some ⟨ga, oa, none⟩) s.alive.length ca), (.slice AC0 vs.length cC0), (.slice AF0 (ints s.free).length cF0)] TT)).alloc (.cells #[.int .i64 0, .slice none 0 0, .slice none 0 0, .slice none 0 0, .slice none 0 0] 30)).alloc (.cells #[.int .i64 0, .int .i64 0] 48))) := ⟨Keep.of_below hW⟩
  obtain ⟨g', o', c', he, -, -, hat⟩ := HV.out.g.form (by rw [ints_len]; omega)
  injection he with e1 e2 e3
  injection e1 with e1
  injection e1 with e4 e5
  subst e4 e5
  obtain ⟨g', o', c', he, -, -, hata⟩ := HV.out.a.form (by rw [bools_len]; omega)
  injection he with e6 e7 e8
  injection e6 with e6
  injection e6 with e9 e10
  subst e9 e10
  have dg := (hat x).1 _ (ints_get hz)
  have dgf := (hat x).2
  have da := (hata x).1 _ (bools_get (List.getElem?_eq_getElem hxa))
  have daf := (hata x).2
  obtain ⟨x0, x1, x2, x3, x4⟩ := cells5 hP
  have HP := Aside0.mk hP
  have HR := Aside0.mk hR
  have HG := Aside0.mk hG
  have hgW : gg < (((w.alloc (.cells #[.int .i64 s.limit, (.slice (some ⟨gg, og, none⟩) s.gens.length cg), (.slice (some ⟨ga, oa, none⟩) s.alive.length ca), (.slice AC0 vs.length cC0), (.slice AF0 (ints s.free).length cF0)] TT)).alloc (.cells #[.int .i64 0, .slice none 0 0, .slice none 0 0, .slice none 0 0, .slice none 0 0] 30)).alloc (.cells #[.int .i64 0, .int .i64 0] 48)).heap.size := by omega
  have haW : ga < (((w.alloc (.cells #[.int .i64 s.limit, (.slice (some ⟨gg, og, none⟩) s.gens.length cg), (.slice (some ⟨ga, oa, none⟩) s.alive.length ca), (.slice AC0 vs.length cC0), (.slice AF0 (ints s.free).length cF0)] TT)).alloc (.cells #[.int .i64 0, .slice none 0 0, .slice none 0 0, .slice none 0 0, .slice none 0 0] 30)).alloc (.cells #[.int .i64 0, .int .i64 0] 48)).heap.size := by omega
  have hPW := lt_blk hP
  have hxi : (0 : Int) ≤ (x : Int) := by omega
  have hxgi : (x : Int) < (s.gens.length : Int) := by omega
  have hxai : (x : Int) < (s.alive.length : Int) := by omega
  clear hat hata e2 e3 e7 e8 hP hR hG h hW ha
  go_enter Try.func50, Try.ntmps50
  go_upto_region 1 with fail
  generalize (((w.alloc (.cells #[.int .i64 s.limit, (.slice (some ⟨gg, og, none⟩) s.gens.length cg), (.slice (some ⟨ga, oa, none⟩) s.alive.length ca), (.slice AC0 vs.length cC0), (.slice AF0 (ints s.free).length cF0)] TT)).alloc (.cells #[.int .i64 0, .slice none 0 0, .slice none 0 0, .slice none 0 0, .slice none 0 0] 30)).alloc (.cells #[.int .i64 0, .int .i64 0] 48)) = W at *
  go_wp2_with fail
  have hgv := HV.out.given hxg hxa (z + 1)
  have k1 : Keep (fun k => k = gg ∨ k = ga) W ((W.setCell ⟨gg, og + x, none⟩ (.int .i64 (z + 1))).setCell ⟨ga, oa + x, none⟩ (.bool true)) := (by repeat (first | (with_reducible exact Keep.refl _ _) | (with_reducible refine Keep.drewN ?_ _) | (with_reducible refine Keep.drew ?_) | (with_reducible refine Keep.setCell ?_ _ _ (by first | (right; with_reducible rfl) | (left; simp; done) | (left; simp; omega) | (right; simp; done) | (right; assumption))) | (with_reducible refine Keep.alloc ?_ _)))
  have HV2 := Aside0.mk hgv.1
  have HK2 := Aside0.mk (HKW.out.trans hgv.2)
  have HP2 := Aside0.mk (blk_keep HP.out k1 (by omega))
  have HR2 := Aside0.mk (blk_keep HR.out k1 (by omega))
  have HG2 := Aside0.mk (blk_keep HG.out k1 (by omega))
  obtain ⟨g', o', c', he, -, -, hat⟩ := HV2.out.g.form (by rw [ints_len, List.length_set]; omega)
  injection he with e1 e2 e3
  injection e1 with e1
  injection e1 with e4 e5
  subst e4 e5
  have hzc' := (hat x).1 _ (ints_get (List.getElem?_set_self hxg))
  have hW2z := k1.size
  clear hat e2 e3 k1 hgv dg dgf da daf x0 x1 x2 x3 x4
  generalize ((W.setCell ⟨gg, og + x, none⟩ (.int .i64 (z + 1))).setCell ⟨ga, oa + x, none⟩ (.bool true)) = W2 at *
  have hzc : W2.drew.cell? ⟨gg, og + x, none⟩ = some (.int .i64 (z + 1)) := hzc'
  have HV0 := Aside0.mk (HV2.out.below (w' := W2.drew) (Below.refl _ _).drew)
  have HP0 := Aside0.mk (blk_drew HP2.out)
  have HR0 := Aside0.mk (blk_drew HR2.out)
  have HG0 := Aside0.mk (blk_drew HG2.out)
  have HK0 := Aside0.mk (HK2.out.trans (Keep.of_below (w1 := W2.drew) (Below.refl _ _).drew))
  have hgx : gg < W2.drew.heap.size := Nat.lt_of_lt_of_le hgW hW2z
  clear hzc'
  refine start_ (n := 11) (S := fun w' => w'.cell? ⟨w.heap.size, 0, none⟩ = some (.int .i64 s.limit) ∧ w'.cell? ⟨w.heap.size, 1, none⟩ = some ((.slice (some ⟨gg, og, none⟩) s.gens.length cg)) ∧ w'.cell? ⟨w.heap.size, 2, none⟩ = some ((.slice (some ⟨ga, oa, none⟩) s.alive.length ca)) ∧ w'.cell? ⟨w.heap.size, 3, none⟩ = some ((.slice AC0 vs.length cC0)) ∧ w'.cell? ⟨w.heap.size, 4, none⟩ = some ((.slice AF0 (ints s.free).length cF0)) ∧ w'.cell? ⟨gg, og + x, none⟩ = some (.int .i64 (z + 1))) (ds := [9]) #[false, false, false, false, false, false, false, false, false, false, false] (by kernel_rfl) rfl rfl ⟨cell_blk HP0.out 0, cell_blk HP0.out 1, cell_blk HP0.out 2, cell_blk HP0.out 3, cell_blk HP0.out 4, hzc⟩ (fun hHeld => ?_)
  generalize W2.drew = x0 at *
  refine pure_ (i := 1) (N := some 19) (v := ?_) (a' := ?_) #[false, true, false, false, false, false, false, false, false, false, false] rfl rfl (by kernel_rfl) (fun _ _ _ h => h) (Or.inl ⟨by rfl, ?_⟩) ?_ ?_
  rotate_left
  · intro w'
    go_simp
    with_reducible rfl
  rotate_left
  · simp only [Act.put, List.setIfInBounds_toArray, List.set_cons_zero, List.set_cons_succ, i64_w, i32_w]
    rfl
  refine pure_ (i := 2) (N := some 20) (v := ?_) (a' := ?_) #[false, true, true, false, false, false, false, false, false, false, false] rfl rfl (by kernel_rfl) (fun _ _ _ h => h) (Or.inl ⟨by rfl, ?_⟩) ?_ ?_
  rotate_left
  · intro w'
    go_simp
    with_reducible rfl
  rotate_left
  · simp only [Act.put, List.setIfInBounds_toArray, List.set_cons_zero, List.set_cons_succ, i64_w, i32_w]
    rfl
  refine pure_ (i := 4) (N := some 22) (v := ?_) (a' := ?_) #[false, true, true, false, true, false, false, false, false, false, false] rfl rfl (by kernel_rfl) (fun _ _ _ h => h) (Or.inl ⟨by rfl, ?_⟩) ?_ ?_
  rotate_left
  · intro w'
    go_simp
    with_reducible rfl
  rotate_left
  · simp only [Act.put, List.setIfInBounds_toArray, List.set_cons_zero, List.set_cons_succ, i64_w, i32_w]
    rfl
  refine take_ (i := 0) (N := some 18) (v := ?_) (a' := ?_) #[true, true, true, false, true, false, false, false, false, false, false] rfl rfl (by kernel_rfl) (fun _ _ _ h => h) (Or.inl ⟨by rfl, ?_⟩) hHeld ?_ ?_
  rotate_left
  · rintro w' ⟨s0, s1, s2, s3, s4, s5⟩
    go_simp
    with_reducible rfl
  rotate_left
  · simp only [Act.put, List.setIfInBounds_toArray, List.set_cons_zero, List.set_cons_succ, i64_w, i32_w]
    rfl
  refine take_ (i := 3) (N := some 21) (v := ?_) (a' := ?_) #[true, true, true, true, true, false, false, false, false, false, false] rfl rfl (by kernel_rfl) (fun _ _ _ h => h) (Or.inl ⟨by rfl, ?_⟩) hHeld ?_ ?_
  rotate_left
  · rintro w' ⟨s0, s1, s2, s3, s4, s5⟩
    go_simp
    with_reducible rfl
  rotate_left
  · simp only [Act.put, List.setIfInBounds_toArray, List.set_cons_zero, List.set_cons_succ, i64_w, i32_w]
    rfl
  refine pure_ (i := 5) (N := some 23) (v := ?_) (a' := ?_) #[true, true, true, true, true, true, false, false, false, false, false] rfl rfl (by kernel_rfl) (fun _ _ _ h => h) (Or.inl ⟨by rfl, ?_⟩) ?_ ?_
  rotate_left
  · intro w'
    go_simp
    with_reducible rfl
  rotate_left
  · simp only [Act.put, List.setIfInBounds_toArray, List.set_cons_zero, List.set_cons_succ, i64_w, i32_w]
    rfl
  refine take_ (i := 6) (N := some 24) (v := ?_) (a' := ?_) #[true, true, true, true, true, true, true, false, false, false, false] rfl rfl (by kernel_rfl) (fun _ _ _ h => h) (Or.inl ⟨by rfl, ?_⟩) hHeld ?_ ?_
  rotate_left
  · rintro w' ⟨s0, s1, s2, s3, s4, s5⟩
    go_simp
    with_reducible rfl
  rotate_left
  · simp only [Act.put, List.setIfInBounds_toArray, List.set_cons_zero, List.set_cons_succ, i64_w, i32_w]
    rfl
  refine pure_ (i := 7) (N := some 25) (v := ?_) (a' := ?_) #[true, true, true, true, true, true, true, true, false, false, false] rfl rfl (by kernel_rfl) (fun _ _ _ h => h) (Or.inl ⟨by rfl, ?_⟩) ?_ ?_
  rotate_left
  · intro w'
    go_simp
    with_reducible rfl
  rotate_left
  · simp only [Act.put, List.setIfInBounds_toArray, List.set_cons_zero, List.set_cons_succ, i64_w, i32_w]
    rfl
  refine one_ (i := 8) (N := none) #[true, true, true, true, true, true, true, true, true, false, false] rfl rfl (by kernel_rfl) (by decide) (fun K hK => ?_)
  obtain ⟨r0, r1, r2, r3, r4⟩ := cells5 HR0.out
  obtain ⟨r5, r6, r7, r8, r9⟩ := froz5 HR0.out
  have hRl := lt_blk HR0.out
  refine skip_ (w1 := ?_) (by rfl) rfl ?_ ?_
  rotate_left
  · go_simp
    first | with_reducible rfl | rfl
  have hk5 : Keep (fun k => k = w.heap.size + 1) x0 ((((((x0.setCell ⟨(w.heap.size + 1), 0, none⟩ (.int .i64 s.limit)).setCell ⟨(w.heap.size + 1), 1, none⟩ ((.slice (some ⟨gg, og, none⟩) s.gens.length cg))).setCell ⟨(w.heap.size + 1), 2, none⟩ ((.slice (some ⟨ga, oa, none⟩) s.alive.length ca))).setCell ⟨(w.heap.size + 1), 3, none⟩ ((.slice AC0 vs.length cC0))).setCell ⟨(w.heap.size + 1), 4, none⟩ ((.slice AF0 (ints s.free).length cF0)))) := set5_keep _ _ _ _ _ _ _
  have hR5 := blk_set5 (u0 := .int .i64 s.limit) (u1 := (.slice (some ⟨gg, og, none⟩) s.gens.length cg)) (u2 := (.slice (some ⟨ga, oa, none⟩) s.alive.length ca)) (u3 := (.slice AC0 vs.length cC0)) (u4 := (.slice AF0 (ints s.free).length cF0)) HR0.out
  generalize ((((((x0.setCell ⟨(w.heap.size + 1), 0, none⟩ (.int .i64 s.limit)).setCell ⟨(w.heap.size + 1), 1, none⟩ ((.slice (some ⟨gg, og, none⟩) s.gens.length cg))).setCell ⟨(w.heap.size + 1), 2, none⟩ ((.slice (some ⟨ga, oa, none⟩) s.alive.length ca))).setCell ⟨(w.heap.size + 1), 3, none⟩ ((.slice AC0 vs.length cC0))).setCell ⟨(w.heap.size + 1), 4, none⟩ ((.slice AF0 (ints s.free).length cF0)))) = x1 at *
  have hP5 := blk_keep HP0.out hk5 (by omega)
  have hG5 := blk_keep HG0.out hk5 (by omega)
  have hz5 := (keep_cell hk5 hgx (by omega) (og + x)).1.trans hzc
  clear r0 r1 r2 r3 r4 r5 r6 r7 r8 r9 hRl
  refine hK.out _ _ ⟨cell_blk hP5 0, cell_blk hP5 1, cell_blk hP5 2, cell_blk hP5 3, cell_blk hP5 4, hz5⟩ (fun hHeld => ?_)
  clear hK K
  refine last_ (i := 9) (N := none) #[true, true, true, true, true, true, true, true, true, true, false] rfl rfl (by kernel_rfl) (by decide) (fun K hK => ?_)
  have y0 := cell_blk hG5 0
  have y1 := cell_blk hG5 1
  have y2 := frozen_blk hG5 0
  have y3 := frozen_blk hG5 1
  have hGl := lt_blk hG5
  refine skip_ (w1 := ?_) (by rfl) rfl ?_ ?_
  rotate_left
  · go_simp
    first | with_reducible rfl | rfl
  refine hK.out _ _ ?_
  clear hK K
  refine pure_ (i := 10) (N := some 6) (v := ?_) (a' := ?_) #[true, true, true, true, true, true, true, true, true, true, true] rfl rfl (by kernel_rfl) (fun _ _ _ h => h) (Or.inl ⟨by rfl, ?_⟩) ?_ ?_
  rotate_left
  · intro w'
    go_simp
    with_reducible rfl
  rotate_left
  · simp only [Act.put, List.setIfInBounds_toArray, List.set_cons_zero, List.set_cons_succ, i64_w, i32_w]
    rfl
  refine done_ (by kernel_rfl) ?_
  have hk7 : Keep (fun k => k = w.heap.size + 2) x1 ((x1.setCell ⟨w.heap.size + 2, 0, none⟩ (.int .i64 x)).setCell ⟨w.heap.size + 2, 1, none⟩ (.int .i64 (z + 1))) := (by repeat (first | (with_reducible exact Keep.refl _ _) | (with_reducible refine Keep.drewN ?_ _) | (with_reducible refine Keep.drew ?_) | (with_reducible refine Keep.setCell ?_ _ _ (by first | (right; with_reducible rfl) | (left; simp; done) | (left; simp; omega) | (right; simp; done) | (right; assumption))) | (with_reducible refine Keep.alloc ?_ _)))
  have hR7 := blk_keep hR5 hk7 (by omega)
  have hG7 : ((x1.setCell ⟨w.heap.size + 2, 0, none⟩ (.int .i64 x)).setCell ⟨w.heap.size + 2, 1, none⟩ (.int .i64 (z + 1))).heap[w.heap.size + 2]? = some (.cells #[.int .i64 x, .int .i64 (z + 1)] 48 (0, 0)) := by
    have := blk_set (i := 1) (u := .int .i64 (z + 1)) (blk_set (i := 0) (u := .int .i64 x) hG5)
    simpa using this
  obtain ⟨z0, z1, z2, z3, z4⟩ := cells5 hR7
  have z5 := cell_blk hG7 0
  have z6 := cell_blk hG7 1
  simp only [List.getElem?_toArray, List.getElem?_cons_zero, List.getElem?_cons_succ] at z5 z6
  have HF := Aside0.mk (((HV0.out.keep hk5 (fun k e => by subst e; rw [HC.out _ (by omega)]; omega)).keep hk7 (fun k e => by subst e; rw [HC.out _ (by omega)]; omega)))
  have HKF := Aside0.mk ((HK0.out.trans' hk5 (fun i hi e => by omega)).trans' hk7 (fun i hi e => by omega))
  clear hHeld hk5 hk7 hP5 hG5 hz5 hR5 hR7 hG7 y0 y1 y2 y3 hGl
  generalize ((x1.setCell ⟨w.heap.size + 2, 0, none⟩ (.int .i64 x)).setCell ⟨w.heap.size + 2, 1, none⟩ (.int .i64 (z + 1))) = x2 at *
  go_wp2_with fail
  refine bodyPost_ret (v := .tuple #[.agg #[.int .i64 s.limit, (.slice (some ⟨gg, og, none⟩) s.gens.length cg), (.slice (some ⟨ga, oa, none⟩) s.alive.length ca), (.slice AC0 vs.length cC0), (.slice AF0 (ints s.free).length cF0)], .agg #[.int .i64 x, .int .i64 (z + 1)], .int .i64 0]) (by simp [results, Try.results50, go_sem, z0, z1, z2, z3, z4, z5, z6]) rfl ?_
  exact ⟨rfl, HF.out, HKF.out⟩
end Go.Proofs.Ytnglgjegkjfnaaa
