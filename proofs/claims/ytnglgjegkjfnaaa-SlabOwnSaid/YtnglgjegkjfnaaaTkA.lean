import Derived.Test.YtnglgjegkjfnaaaSlZZ
import Derived.Test.YtnglgjegkjfnaaaSlQ
import Derived.Deep.DrawnRows
set_option linter.unusedSimpArgs false
set_option linter.unusedVariables false
namespace Go.Proofs.Ytnglgjegkjfnaaa
open Go.RowKit Go.ChangeShapes Go.WideShapes Go.ChangeAt Go.Proofs.YtnglgjegkjfnaaaW.PrintWords Go.Proofs.YtnglgjegkjfnaaaW.PrintMore Go.Proofs.YtnglgjegkjfnaaaW.PrintLast
/-! rotaref04.Take, a slot out of a cache that is filled first: printed by gen04y.py. -/
theorem cut_head (A : Option Addr) (l c m : Nat) (k : Int) (hm : m ≤ l) (hc : l ≤ c) (hk : k = (m : Int)) : ∀ W, (Instr.slice 26 (.slice A l c) none (some (.int .i64 k)) none).run Try.prog W = .ok (.slice A m c) W := fun W => by
  subst hk
  have h := cut_to (P := Try.prog) 26 3 .i64 Try.underlying26 (show Try.prog.info? 3 = some _ from rfl) A l c (m : Int) (by omega) (by omega) hc W
  rw [Int.toNat_natCast] at h
  exact h
theorem cut_tail {w : World} {base : Nat} {ok : Nat → Prop} {A : Option Addr} {xs : List Int} {c : Nat} (m : Nat) (k : Int) (h : Row w base ok 3 (.slice A (ints xs).length c) (ints xs)) (hm : m ≤ xs.length) (hk : k = (m : Int)) : ∃ A' L c', (∀ W', (Instr.slice 26 (.slice A xs.length c) (some (.int .i64 k)) none none).run Try.prog W' = .ok (.slice A' L c') W') ∧ Row w base ok 3 (.slice A' L c') (ints (xs.drop m)) := by
  subst hk
  have hd := h.drop (k := m) (by rw [ints_len]; exact hm)
  rw [← ints_drop, ints_len] at hd
  refine ⟨_, _, _, fun W' => ?_, hd⟩
  have h1 := cut_from (P := Try.prog) 26 3 .i64 Try.underlying26 (show Try.prog.info? 3 = some _ from rfl) 1 rfl A xs.length c (m : Int) (by omega) (by omega) W'
  rw [Int.toNat_natCast] at h1
  exact h1
theorem refill_ok {s : Sl} {n : Nat} (h : Ok s) : Ok (refillS s n) :=
  ⟨h.l0, h.l1, by show 0 < (s.caches.set n _).length; rw [List.length_set]; exact h.c0, by show (s.caches.set n _).length ≤ 64; rw [List.length_set]; exact h.c1, h.g, h.a, h.gb,
   by show (s.free.drop 16).length ≤ 4096; rw [List.length_drop]; have := h.fl; omega,
   fun c hc => by
    rcases List.mem_or_eq_of_mem_set hc with hc | rfl
    · exact h.cl c hc
    · rw [List.length_take]; omega,
   fun x hx => h.fb x (List.mem_of_mem_drop hx),
   fun c hc x hx => by
    rcases List.mem_or_eq_of_mem_set hc with hc | rfl
    · exact h.cb c hc x hx
    · exact h.fb x (List.mem_of_mem_take hx)⟩
theorem refill_all {s : Sl} {n : Nat} (h : s.free.length ≤ 16) : ({ limit := s.limit, gens := s.gens, alive := s.alive, caches := s.caches.set n (s.free.take s.free.length), free := s.free.drop s.free.length } : Sl) = refillS s n := by
  rw [refillS, List.take_of_length_le (Nat.le_refl _), List.take_of_length_le h, List.drop_eq_nil_of_le (Nat.le_refl _), List.drop_eq_nil_of_le h]
theorem take_fill_eq {s : Sl} {n x : Nat} {y : List Int} {z : Int} (hpr : procS s n = true) (hy : s.caches[n]? = some []) (hfr : s.free.take 16 = y ++ [(x : Int)]) (hz : s.gens[x]? = some z) :
    takeS s n = ({ refillS s n with gens := (refillS s n).gens.set x (z + 1), alive := (refillS s n).alive.set x true, caches := (refillS s n).caches.set n y }, (x : Int), z + 1, 0) := by
  have hpn : n < s.caches.length := (List.getElem?_eq_some_iff.1 hy).1
  have hgd : s.caches.getD n [] = [] := getD_some hy
  have hg1 : (refillS s n).caches.getD n [] = y ++ [(x : Int)] := by
    show (s.caches.set n (s.free.take 16)).getD n [] = _
    rw [getD_some (List.getElem?_set_self hpn), hfr]
  have hS : slotS s n = ({ refillS s n with caches := (refillS s n).caches.set n y }, some (x : Int)) := by
    have h1 : fillS s n = refillS s n := by rw [fillS, if_pos hgd]
    rw [slotS, h1, slotT, hg1, List.getLast?_concat]
    show (popS (refillS s n) n, some (x : Int)) = _
    rw [popS, hg1, List.dropLast_concat]
  rw [takeS, if_pos hpr, Int.toNat_natCast, hS]
  show (givenS _ _, (x : Int), (refillS s n).gens.getD (x : Int).toNat 0 + 1, (0 : Int)) = _
  rw [Int.toNat_natCast, givenS]
  have hzd : (refillS s n).gens.getD x 0 = z := by rw [List.getD_eq_getElem?_getD]; show (s.gens[x]?).getD 0 = z; rw [hz]; rfl
  show (_, (x : Int), (refillS s n).gens.getD x 0 + 1, (0 : Int)) = _
  simp only [hzd]
set_option maxRecDepth 100000 in
set_option maxHeartbeats 8000000 in
theorem take_fill_le {I : Nat → Prop} {s : Sl} {vG vA vC vF : Value} {vs : List Value} (n : Nat) (y : List Int) (x : Nat) (z : Int) (w : World) (h : SlR w s vG vA vC vF vs) (hO : Ok s) (hpr : procS s n = true) (hy : s.caches[n]? = some []) (hfr : s.free.take 16 = y ++ [(x : Int)]) (hm : s.free.length ≤ 16) (hz : s.gens[x]? = some z) : Calls Try.prog 39 #[.agg #[.int .i64 s.limit, vG, vA, vC, vF], .int .i64 n] w (TakeRP I w (takeS s n)) := by
  have hpn : n < s.caches.length := (List.getElem?_eq_some_iff.1 hy).1
  have hyl : y.length + 1 ≤ 64 := by have := congrArg List.length hfr; rw [List.length_take, List.length_append, List.length_singleton] at this; omega
  have HT2 := Aside0.mk (take_fill_eq hpr hy hfr hz)
  have HY1 : Aside0 ((refillS s n).caches[n]? = some (y ++ [(x : Int)])) := ⟨by show (s.caches.set n (s.free.take 16))[n]? = _; rw [List.getElem?_set_self hpn, hfr]⟩
  have HY := Aside0.mk hy
  have HZ : Aside0 ((refillS s n).gens[x]? = some z) := ⟨hz⟩
  have HEQ : Aside0 (({ limit := s.limit, gens := s.gens, alive := s.alive, caches := s.caches.set n (s.free.take s.free.length), free := s.free.drop s.free.length } : Sl) = refillS s n) := ⟨refill_all (by omega)⟩
  have hc64 := hO.c1
  have hfl := hO.fl
  clear hy hz hfr
  have hBd := hO.bd
  obtain ⟨AG0, cG0, rfl, -⟩ := h.g.slice
  obtain ⟨AA0, cA0, rfl, -⟩ := h.a.slice
  obtain ⟨AC0, cC0, rfl, -⟩ := h.c.slice
  obtain ⟨AF0, cF0, rfl, -⟩ := h.f.slice
  have hW : Below w.heap.size w (((w.alloc (.cells #[.int .i64 s.limit, (.slice AG0 (ints s.gens).length cG0), (.slice AA0 (bools s.alive).length cA0), (.slice AC0 vs.length cC0), (.slice AF0 (ints s.free).length cF0)] TT)).alloc (.cells #[.int .i64 0, .slice none 0 0, .slice none 0 0, .slice none 0 0, .slice none 0 0] 30)).alloc (.cells #[.int .i64 0, .int .i64 0] 48)) := (by repeat (first | (with_reducible exact Below.refl _ _) | (with_reducible refine Below.drew ?_) | (with_reducible refine below_drewN ?_ _) | (with_reducible refine below_al ?_ _) | (with_reducible refine Below.alloc ?_ (by first | exact Nat.le_refl _ | omega | (simp; done) | (simp; omega)) _) | (with_reducible refine Below.setCell ?_ (by first | (simp only []; omega) | (simp; done) | (simp; omega)) _)))
  have HX : Aside0 (SlX w (((w.alloc (.cells #[.int .i64 s.limit, (.slice AG0 (ints s.gens).length cG0), (.slice AA0 (bools s.alive).length cA0), (.slice AC0 vs.length cC0), (.slice AF0 (ints s.free).length cF0)] TT)).alloc (.cells #[.int .i64 0, .slice none 0 0, .slice none 0 0, .slice none 0 0, .slice none 0 0] 30)).alloc (.cells #[.int .i64 0, .int .i64 0] 48)) w.heap.size s (.slice AG0 (ints s.gens).length cG0) (.slice AA0 (bools s.alive).length cA0) (.slice AC0 vs.length cC0) (.slice AF0 (ints s.free).length cF0) vs) := ⟨⟨h, hW, blk_alloc (blk_alloc (blk_new _ _))⟩⟩
  have HRb : Aside0 ((((w.alloc (.cells #[.int .i64 s.limit, (.slice AG0 (ints s.gens).length cG0), (.slice AA0 (bools s.alive).length cA0), (.slice AC0 vs.length cC0), (.slice AF0 (ints s.free).length cF0)] TT)).alloc (.cells #[.int .i64 0, .slice none 0 0, .slice none 0 0, .slice none 0 0, .slice none 0 0] 30)).alloc (.cells #[.int .i64 0, .int .i64 0] 48)).heap[w.heap.size + 1]? = some (.cells #[.int .i64 0, .slice none 0 0, .slice none 0 0, .slice none 0 0, .slice none 0 0] 30 (0, 0))) := ⟨blk_alloc (blk_new1 _ _ _)⟩
  have HGb : Aside0 ((((w.alloc (.cells #[.int .i64 s.limit, (.slice AG0 (ints s.gens).length cG0), (.slice AA0 (bools s.alive).length cA0), (.slice AC0 vs.length cC0), (.slice AF0 (ints s.free).length cF0)] TT)).alloc (.cells #[.int .i64 0, .slice none 0 0, .slice none 0 0, .slice none 0 0, .slice none 0 0] 30)).alloc (.cells #[.int .i64 0, .int .i64 0] 48)).heap[w.heap.size + 2]? = some (.cells #[.int .i64 0, .int .i64 0] 48 (0, 0))) := ⟨blk_new2 _ _ _ _⟩
  clear h hW
  unfold TakeRP
  go_enter Try.func39, Try.ntmps39
  go_wp2_with fail
  generalize (((w.alloc (.cells #[.int .i64 s.limit, (.slice AG0 (ints s.gens).length cG0), (.slice AA0 (bools s.alive).length cA0), (.slice AC0 vs.length cC0), (.slice AF0 (ints s.free).length cF0)] TT)).alloc (.cells #[.int .i64 0, .slice none 0 0, .slice none 0 0, .slice none 0 0, .slice none 0 0] 30)).alloc (.cells #[.int .i64 0, .int .i64 0] 48)) = W at *
  refine (proc_rd (n : Int) W HX.out.r).mono ?_
  rw [hpr]
  rintro e w1 ⟨rfl, hB1⟩
  have HX1 := Aside0.mk (HX.out.below hB1)
  have HR1 := Aside0.mk (blk_below HRb.out hB1)
  have HG1 := Aside0.mk (blk_below HGb.out hB1)
  obtain ⟨x0, x1, x2, x3, x4⟩ := cells5 HX1.out.blk
  have hPl := lt_blk HX1.out.blk
  have hcp := copy_rd w1 HX1.out.r hBd
  clear hB1 hpr
  go_wp2_with fail
  refine hcp.mono ?_
  clear hcp x0 x1 x2 x3 x4 hPl
  rintro e w2 ⟨vG2, vA2, vC2, vF2, vs2, col2, rfl, hS2, hz2, hB2⟩
  obtain ⟨AG2, cG2, rfl, -⟩ := hS2.g.slice
  obtain ⟨AA2, cA2, rfl, -⟩ := hS2.a.slice
  obtain ⟨AC2, cC2, rfl, -⟩ := hS2.c.slice
  obtain ⟨AF2, cF2, rfl, -⟩ := hS2.f.slice
  have HX2 := Aside0.mk (HX1.out.below hB2)
  have hR2 := blk_below HR1.out hB2
  have hG2 := blk_below HG1.out hB2
  obtain ⟨x0, x1, x2, x3, x4⟩ := cells5 HX2.out.blk
  obtain ⟨f0, f1, f2, f3, f4⟩ := froz5 HX2.out.blk
  have hPl := lt_blk HX2.out.blk
  have hw1 : w.heap.size ≤ w1.heap.size := HX1.out.b.size
  have hP1 := lt_blk HX1.out.blk
  have hR1l := lt_blk HR1.out
  have hG1l := lt_blk HG1.out
  obtain ⟨col, hQ3, hcol⟩ := (hS2.lower hw1).into HX2.out.blk (Nat.le_refl _) (hz2 _ hP1)
  have hk3 : Keep (fun k => k = w.heap.size) w2 ((((((w2.setCell ⟨w.heap.size, 0, none⟩ (.int .i64 s.limit)).setCell ⟨w.heap.size, 1, none⟩ ((.slice AG2 (ints s.gens).length cG2))).setCell ⟨w.heap.size, 2, none⟩ ((.slice AA2 (bools s.alive).length cA2))).setCell ⟨w.heap.size, 3, none⟩ ((.slice AC2 vs2.length cC2))).setCell ⟨w.heap.size, 4, none⟩ ((.slice AF2 (ints s.free).length cF2)))) := set5_keep _ _ _ _ _ _ _
  have HW3 : Aside0 (TkW w ((((((w2.setCell ⟨w.heap.size, 0, none⟩ (.int .i64 s.limit)).setCell ⟨w.heap.size, 1, none⟩ ((.slice AG2 (ints s.gens).length cG2))).setCell ⟨w.heap.size, 2, none⟩ ((.slice AA2 (bools s.alive).length cA2))).setCell ⟨w.heap.size, 3, none⟩ ((.slice AC2 vs2.length cC2))).setCell ⟨w.heap.size, 4, none⟩ ((.slice AF2 (ints s.free).length cF2)))) s (.slice AG2 (ints s.gens).length cG2) (.slice AA2 (bools s.alive).length cA2) (.slice AC2 vs2.length cC2) (.slice AF2 (ints s.free).length cF2) vs2 col) := ⟨⟨hQ3, blk_keep hR2 hk3 (by omega), (hcol _ (by omega)).trans (hz2 _ hR1l), blk_keep hG2 hk3 (by omega), (hcol _ (by omega)).trans (hz2 _ hG1l), below_then_keep HX2.out.b HX2.out.b.size hk3 (fun k hk => by omega)⟩⟩
  clear hQ3 hcol hk3 hR2 hG2 hS2 hz2 hB2
  go_upto_region 4 with fail
  generalize ((((((w2.setCell ⟨w.heap.size, 0, none⟩ (.int .i64 s.limit)).setCell ⟨w.heap.size, 1, none⟩ ((.slice AG2 (ints s.gens).length cG2))).setCell ⟨w.heap.size, 2, none⟩ ((.slice AA2 (bools s.alive).length cA2))).setCell ⟨w.heap.size, 3, none⟩ ((.slice AC2 vs2.length cC2))).setCell ⟨w.heap.size, 4, none⟩ ((.slice AF2 (ints s.free).length cF2)))) = W3 at *
  clear x0 x1 x2 x3 x4 f0 f1 f2 f3 f4 hPl
  obtain ⟨gC, oC, cC, heC, hgC, hg4, hatC⟩ := HW3.out.q.r.c.form (by rw [HW3.out.q.r.l]; omega)
  obtain ⟨v, hv, hvrow⟩ := HW3.out.q.r.v n _ HY.out
  have hcell := (hatC _).1 _ hv
  have hfz := (hatC n).2
  obtain ⟨Av, cv, rfl, -⟩ := hvrow.slice
  injection heC with he1 he2 he3
  subst he1 he3
  have hvl : vs2.length = s.caches.length := HW3.out.q.r.l
  obtain ⟨e0, e1, e2, hc0, hc4⟩ := cells5 HW3.out.q.blk
  rw [hvl] at hc0
  rw [ints_len] at hc4
  rw [show (ints ([] : List Int)).length = 0 from rfl] at hcell
  have hPl := lt_blk HW3.out.q.blk
  have hki : (0 : Int) ≤ (n : Int) := by omega
  have hkl : (n : Int) < (s.caches.length : Int) := by omega
  have hmI : ¬ (16 : Int) < (s.free.length : Int) := by omega
  have hx0 : Below W3.heap.size W3 W3.drew := (Below.refl _ _).drew
  have hFr := HW3.out.q.r.f
  rw [ints_len] at hFr
  have hFl := hFr.lens
  rw [ints_len] at hFl
  have hcut1 := cut_head AF2 s.free.length cF2 s.free.length (s.free.length : Int) (by exact Nat.le_refl _) (by omega) rfl
  have HDR : Aside0 (∀ (W : World) (base : Nat) (ok : Nat → Prop), Row W base ok 3 (.slice AF2 (ints s.free).length cF2) (ints s.free) → ∃ A' L c', (∀ W', (Instr.slice 26 (.slice AF2 s.free.length cF2) (some (.int .i64 (s.free.length : Int))) none none).run Try.prog W' = .ok (.slice A' L c') W') ∧ Row W base ok 3 (.slice A' L c') (ints (s.free.drop s.free.length))) := ⟨fun W base ok h => cut_tail s.free.length (s.free.length : Int) h (by exact Nat.le_refl _) rfl⟩
  have HT0 := hFr.take (m := s.free.length) (by rw [ints_len]; exact Nat.le_refl _)
  rw [← ints_take] at HT0
  have HT1 := Aside0.mk (HT0.below hx0)
  have hl8 : (s.free.take s.free.length).length = s.free.length := by rw [List.length_take]; omega
  have HP0 := Aside0.mk (HW3.out.then hx0)
  have hwx : w.heap.size ≤ W3.drew.heap.size := HP0.out.b.size
  have k3 : W3.drew.cell? ⟨w.heap.size, 3, none⟩ = some (.slice (some ⟨gC, oC, none⟩) s.caches.length cC2) := hc0
  have k4 : W3.drew.cell? ⟨w.heap.size, 4, none⟩ = some (.slice AF2 s.free.length cF2) := hc4
  have kc : W3.drew.cell? ⟨gC, oC + n, none⟩ = some (.slice Av 0 cv) := hcell
  have kf : W3.drew.frozen? ⟨gC, oC + n, none⟩ = false := hfz
  have hgCx : gC < W3.drew.heap.size := hgC
  have HTK := Aside0.mk hFl
  clear he2 hatC hv hvrow hfz HT0 hFr hFl
  go_wp2_with fail
  refine start_ (n := 10) (S := fun w' => w'.cell? ⟨w.heap.size, 3, none⟩ = some (.slice (some ⟨gC, oC, none⟩) s.caches.length cC2) ∧ w'.cell? ⟨w.heap.size, 4, none⟩ = some (.slice AF2 s.free.length cF2)) (ds := [9]) #[false, false, false, false, false, false, false, false, false, false] (by kernel_rfl) rfl rfl ⟨k3, k4⟩ (fun hHeld => ?_)
  generalize W3.drew = x3 at *
  refine pure_ (i := 0) (N := some 33) (v := ?_) (a' := ?_) #[true, false, false, false, false, false, false, false, false, false] rfl rfl (by kernel_rfl) (fun _ _ _ h => h) (Or.inl ⟨by rfl, ?_⟩) ?_ ?_
  rotate_left
  · intro w'
    go_simp
    with_reducible rfl
  rotate_left
  · simp only [Act.put, List.setIfInBounds_toArray, List.set_cons_zero, List.set_cons_succ, i64_w, i32_w]
    rfl
  refine pure_ (i := 2) (N := some 35) (v := ?_) (a' := ?_) #[true, false, true, false, false, false, false, false, false, false] rfl rfl (by kernel_rfl) (fun _ _ _ h => h) (Or.inl ⟨by rfl, ?_⟩) ?_ ?_
  rotate_left
  · intro w'
    go_simp
    with_reducible rfl
  rotate_left
  · simp only [Act.put, List.setIfInBounds_toArray, List.set_cons_zero, List.set_cons_succ, i64_w, i32_w]
    rfl
  refine pure_ (i := 3) (N := some 36) (v := ?_) (a' := ?_) #[true, false, true, true, false, false, false, false, false, false] rfl rfl (by kernel_rfl) (fun _ _ _ h => h) (Or.inl ⟨by rfl, ?_⟩) ?_ ?_
  rotate_left
  · intro w'
    go_simp
    with_reducible rfl
  rotate_left
  · simp only [Act.put, List.setIfInBounds_toArray, List.set_cons_zero, List.set_cons_succ, i64_w, i32_w]
    rfl
  refine pure_ (i := 5) (N := some 38) (v := ?_) (a' := ?_) #[true, false, true, true, false, true, false, false, false, false] rfl rfl (by kernel_rfl) (fun _ _ _ h => h) (Or.inl ⟨by rfl, ?_⟩) ?_ ?_
  rotate_left
  · intro w'
    go_simp
    with_reducible rfl
  rotate_left
  · simp only [Act.put, List.setIfInBounds_toArray, List.set_cons_zero, List.set_cons_succ, i64_w, i32_w]
    rfl
  refine take_ (i := 1) (N := some 34) (v := ?_) (a' := ?_) #[true, true, true, true, false, true, false, false, false, false] rfl rfl (by kernel_rfl) (fun _ _ _ h => h) (Or.inl ⟨by rfl, ?_⟩) hHeld ?_ ?_
  rotate_left
  · rintro w' ⟨s0, s1⟩
    go_simp
    with_reducible rfl
  rotate_left
  · simp only [Act.put, List.setIfInBounds_toArray, List.set_cons_zero, List.set_cons_succ, i64_w, i32_w]
    rfl
  refine take_ (i := 4) (N := some 37) (v := ?_) (a' := ?_) #[true, true, true, true, true, true, false, false, false, false] rfl rfl (by kernel_rfl) (fun _ _ _ h => h) (Or.inl ⟨by rfl, ?_⟩) hHeld ?_ ?_
  rotate_left
  · rintro w' ⟨s0, s1⟩
    go_simp
    with_reducible rfl
  rotate_left
  · simp only [Act.put, List.setIfInBounds_toArray, List.set_cons_zero, List.set_cons_succ, i64_w, i32_w]
    rfl
  refine pure_ (i := 6) (N := some 39) (v := ?_) (a' := ?_) #[true, true, true, true, true, true, true, false, false, false] rfl rfl (by kernel_rfl) (fun _ _ _ h => h) (Or.inl ⟨by rfl, ?_⟩) ?_ ?_
  rotate_left
  · intro w'
    go_simp
    with_reducible rfl
  rotate_left
  · simp only [Act.put, List.setIfInBounds_toArray, List.set_cons_zero, List.set_cons_succ, i64_w, i32_w]
    rfl
  refine one_ (i := 7) (N := some 40) #[true, true, true, true, true, true, true, true, false, false] rfl rfl (by kernel_rfl) (by decide) (fun K hK => ?_)
  refine goes_ Try.func47 (by kernel_rfl) rfl #[.slice AF2 s.free.length cF2] (by rfl) rfl rfl (by simp only [List.map_toArray, List.map_cons, List.map_nil]; rfl) ?_
  with_reducible refine (ints_ref (.slice AF2 s.free.length cF2) (s.free.take s.free.length) x3 HT1.out.reads (by rw [List.length_take]; omega)).mono ?_
  rintro e w8 ⟨v8, rfl, hR8, hS8⟩
  refine ⟨_, rfl, ?_⟩
  obtain ⟨A8, c8, he8, -⟩ := hR8.slice
  rw [ints_len, hl8] at he8
  subst he8
  refine hK.out _ _ ⟨pw_cell_below hS8 k3, pw_cell_below hS8 k4⟩ (fun hHeld => ?_)
  clear hK K
  refine norm_ (a' := ?_) ?_ ?_
  rotate_left
  · show Act.put _ (some 40) _ = _
    simp only [Act.put, List.setIfInBounds_toArray, List.set_cons_zero, List.set_cons_succ, i64_w, i32_w]
    rfl
  refine pure_ (i := 8) (N := some 41) (v := ?_) (a' := ?_) #[true, true, true, true, true, true, true, true, true, false] rfl rfl (by kernel_rfl) (fun _ _ _ h => h) (Or.inl ⟨by rfl, ?_⟩) ?_ ?_
  rotate_left
  · intro w'
    go_simp
    with_reducible rfl
  rotate_left
  · simp only [Act.put, List.setIfInBounds_toArray, List.set_cons_zero, List.set_cons_succ, i64_w, i32_w]
    rfl
  refine last_ (i := 9) (N := none) #[true, true, true, true, true, true, true, true, true, true] rfl rfl (by kernel_rfl) (by decide) (fun K hK => ?_)
  have hf8 := (keep_cell (Keep.of_below (F := fun _ => False) hS8) hgCx (fun h => h) (oC + n)).2.trans kf
  have hc8 := pw_cell_below hS8 kc
  have hgC8 : gC < w8.heap.size := Nat.lt_of_lt_of_le hgCx hS8.size
  refine skip_ (w1 := ?_) (by rfl) rfl ?_ ?_
  rotate_left
  · go_simp
    first | with_reducible rfl | rfl
  refine hK.out _ _ ?_
  clear hK K
  refine done_ (by kernel_rfl) ?_
  have hK8 : Keep (fun k => col k = 6 + n) x3 w8 := Keep.of_below hS8
  have hr8 : Row w8 w.heap.size (fun k => col k = 6 + n ∨ x3.heap.size ≤ k) 3 (.slice A8 s.free.length c8) (ints (s.free.take s.free.length)) := Row.mono (ok := fun k => x3.heap.size ≤ k) ⟨fun k hk => hR8.base_le k hk, (hR8.lower hwx).row, hR8.one⟩ (fun k _ h => .inr h)
  obtain ⟨col4, hQ4, hN4⟩ := HP0.out.q.cache (w1 := w8) (v1 := .slice A8 s.free.length c8) (ys := s.free.take s.free.length) hwx (p := n) rfl hpn hK8 hr8
  have HW4 := Aside0.mk (HP0.out.step hQ4 hN4)
  clear hQ4 hN4 hHeld hr8 hK8 hR8 hS8 hf8 hc8 hgC8 k3 k4 kc kf HT1 HP0 hl8 hcut1 HTK hgCx
  generalize (w8.setCell ⟨gC, oC + n, none⟩ (.slice A8 s.free.length c8)) = W4 at *
  obtain ⟨e0, e1, e2, e3, e4⟩ := cells5 HW4.out.q.blk
  have f4 := (froz5 HW4.out.q.blk).2.2.2.2
  have hPl4 := lt_blk HW4.out.q.blk
  have hr9 := HDR.out W4 _ _ HW4.out.q.r.f
  obtain ⟨AD, LD, cD, hcut2, hrD⟩ := hr9
  have hiD := ints_ref (.slice AD LD cD) (s.free.drop s.free.length) W4 hrD.reads (by rw [List.length_drop]; omega)
  rw [ints_len] at e4
  clear hrD HDR
  go_wp2_with fail
  refine hiD.mono ?_
  clear hiD e0 e1 e2 e3 e4 f4 hPl4
  rintro e w9 ⟨v9, rfl, hR9, hS9⟩
  obtain ⟨A9, c9, he9, -⟩ := hR9.slice
  obtain ⟨L9, hL9⟩ : ∃ L, L = (ints (s.free.drop s.free.length)).length := ⟨_, rfl⟩
  rw [← hL9] at he9
  subst he9
  have HL := Aside0.mk hL9
  clear hL9
  have hw4 := HW4.out.b.size
  obtain ⟨e0, e1, e2, e3, e4⟩ := cells5 (HW4.out.then hS9).q.blk
  have f4 := (froz5 (HW4.out.then hS9).q.blk).2.2.2.2
  have hPl4 := lt_blk (HW4.out.then hS9).q.blk
  have hst : Keep (fun k => k = w.heap.size) w9 (w9.setCell ⟨w.heap.size, 4, none⟩ (.slice A9 L9 c9)) := (by repeat (first | (with_reducible exact Keep.refl _ _) | (with_reducible refine Keep.drewN ?_ _) | (with_reducible refine Keep.drew ?_) | (with_reducible refine Keep.setCell ?_ _ _ (by first | (right; with_reducible rfl) | (left; simp; done) | (left; simp; omega) | (right; simp; done) | (right; assumption))) | (with_reducible refine Keep.alloc ?_ _)))
  have hbk : (w9.setCell ⟨w.heap.size, 4, none⟩ (.slice A9 L9 c9)).heap[w.heap.size]? = _ := blk_set (i := 4) (u := .slice A9 L9 c9) (HW4.out.then hS9).q.blk
  simp only [List.setIfInBounds_toArray, List.set_cons_zero, List.set_cons_succ] at hbk
  have h1b := HW4.out.q.one
  have hz9 := hS9.size
  obtain ⟨col9, hQ9, hN9⟩ := HW4.out.q.fields hw4 (new := fun _ => 5) (((Keep.of_below hS9).trans hst).mono (fun i _ h => .inl (by subst h; exact h1b))) hbk
    (((HW4.out.q.r.g.below hS9).keep hst (fun i h o => by subst h; omega)).mono (fun _ _ h => .inl h)) (((HW4.out.q.r.a.below hS9).keep hst (fun i h o => by subst h; omega)).mono (fun _ _ h => .inl h))
    ((Row.mono (ok := fun k => W4.heap.size ≤ k) (ok' := fun k => col4 k = 5 ∨ W4.heap.size ≤ k ∧ 5 = 5) ⟨fun k hk => hR9.base_le k hk, (hR9.lower hw4).row, hR9.one⟩ (fun k _ h => .inr ⟨h, rfl⟩)).keep hst (fun i h o => by subst h; rcases o with o | o; omega; have := lt_blk HW4.out.q.blk; omega))
  have HW9 := Aside0.mk (HW4.out.step hQ9 hN9)
  clear hQ9 hN9 hbk hst hR9 hS9 HW4 hcut2 h1b
  go_upto_region 10 with fail
  generalize (w9.setCell ⟨w.heap.size, 4, none⟩ (.slice A9 L9 c9)) = W9 at *
  clear e0 e1 e2 e3 e4 f4 hPl4 hz9 hw4
  have HE : { limit := s.limit, gens := s.gens, alive := s.alive, caches := s.caches.set n (s.free.take s.free.length), free := s.free.drop s.free.length } = refillS s n := HEQ.out
  have hlv : (vs2.set n (.slice A8 s.free.length c8)).length = vs2.length := List.length_set
  have HW : Aside0 (TkW w W9 (refillS s n) (.slice AG2 (ints (refillS s n).gens).length cG2) (.slice AA2 (bools (refillS s n).alive).length cA2) (.slice (some ⟨gC, oC, none⟩) (vs2.set n (.slice A8 s.free.length c8)).length cC2) (.slice A9 L9 c9) (vs2.set n (.slice A8 s.free.length c8)) col9) := ⟨by rw [hlv, ← HE]; exact HW9.out⟩
  have HL9 : L9 = (ints (refillS s n).free).length := by rw [HL.out, ← HE]
  rw [HL9] at HW
  clear HL HL9
  generalize (vs2.set n (.slice A8 s.free.length c8)) = vs3 at *
  clear HW9 HE hlv
  obtain ⟨s1, hs1⟩ : ∃ s1, s1 = refillS s n := ⟨_, rfl⟩
  rw [← hs1] at HW
  generalize (some (⟨gC, oC, none⟩ : Addr)) = AC2 at HW
  have hO1 : Ok s1 := by rw [hs1]; exact refill_ok hO
  have hpn1 : n < s1.caches.length := by rw [hs1]; show n < (s.caches.set n _).length; rw [List.length_set]; exact hpn
  have HY := HY1
  have HT := HT2
  rw [← hs1] at HY HT HZ
  have hxg : x < s1.gens.length := (List.getElem?_eq_some_iff.1 HZ.out).1
  clear hs1 hO hpn HY1 HT2 HEQ hgC hg4 hki hkl hmI hPl hc0 hc4 hcell hvl hx0 e0 e1 e2 hwx hc64
  have hc64 := hO1.c1
  have hx0 : Below W9.heap.size W9 W9.drew := (Below.refl _ _).drew
  obtain ⟨gC, oC, cC, heC, hgC, hg4, hatC⟩ := HW.out.q.r.c.form (by rw [HW.out.q.r.l]; omega)
  obtain ⟨v, hv, hvrow⟩ := HW.out.q.r.v n _ HY.out
  have hcell := (hatC _).1 _ hv
  have hfz := (hatC n).2
  obtain ⟨g5, o5, cv, hv5, hg5l, hg56, hat5⟩ := hvrow.form (by rw [ints_len, List.length_append, List.length_singleton]; omega)
  rw [ints_len, List.length_append, List.length_singleton] at hv5
  subst hv5
  injection heC with he1 he2 he3
  subst he1 he3
  have hvl : vs3.length = s1.caches.length := HW.out.q.r.l
  have hel : W9.cell? ⟨g5, o5 + y.length, none⟩ = some (.int .i64 x) := (hat5 y.length).1 _ (ints_get (by rw [List.getElem?_append_right (Nat.le_refl _), Nat.sub_self]; rfl))
  have hlen := hvrow.lens.2
  have hrowp := (hvrow.below hx0).take (m := y.length) (by rw [ints_len, List.length_append, List.length_singleton]; omega)
  rw [← ints_take, List.take_left] at hrowp
  have hrowp := hrowp.mono (ok' := fun k => col9 k = 6 + n ∨ W9.drew.heap.size ≤ k) (fun _ _ h => .inl h)
  have hc0 := (cells5 HW.out.q.blk).2.2.2.1
  rw [hvl] at hc0
  have hPl := lt_blk HW.out.q.blk
  have hki : (0 : Int) ≤ (n : Int) := by omega
  have hkl : (n : Int) < (s1.caches.length : Int) := by omega
  have hm0 : (((y.length : Int) + 1) == 0) = false := by simp; omega
  have hm1 : (0 : Int) < (y.length : Int) + 1 := by omega
  have hlc : (y.length : Int) + 1 ≤ (cv : Int) := by omega
  have hlc2 : (y.length : Int) ≤ (cv : Int) := by omega
  have hwr : IntKind.i64.wrap (y.length : Int) = (y.length : Int) := IntWalk.i64_in _ (by omega)
  have hin : (0 : Int) ≤ (y.length : Int) ∧ (y.length : Int) ≤ (cv : Int) := by omega
  have HP0 := Aside0.mk (HW.out.then hx0)
  have hwx : w.heap.size ≤ W9.drew.heap.size := HP0.out.b.size
  have kc0 : W9.drew.cell? ⟨w.heap.size, 3, none⟩ = some (.slice (some ⟨gC, oC, none⟩) s1.caches.length cC2) := hc0
  have kc1 : W9.drew.cell? ⟨gC, oC + n, none⟩ = some (.slice (some ⟨g5, o5, none⟩) (y.length + 1) cv) := hcell
  have kf : W9.drew.frozen? ⟨gC, oC + n, none⟩ = false := hfz
  have hgCx : gC < W9.drew.heap.size := hgC
  clear he2 hatC hv hvrow hat5 hfz
  go_wp2_with fail
  refine start_ (n := 13) (S := fun w' => w'.cell? ⟨w.heap.size, 3, none⟩ = some (.slice (some ⟨gC, oC, none⟩) s1.caches.length cC2) ∧ w'.cell? ⟨gC, oC + n, none⟩ = some (.slice (some ⟨g5, o5, none⟩) (y.length + 1) cv)) (ds := [12]) #[false, false, false, false, false, false, false, false, false, false, false, false, false] (by kernel_rfl) rfl rfl ⟨kc0, kc1⟩ (fun hHeld => ?_)
  generalize W9.drew = x5 at *
  refine pure_ (i := 0) (N := some 65) (v := ?_) (a' := ?_) #[true, false, false, false, false, false, false, false, false, false, false, false, false] rfl rfl (by kernel_rfl) (fun _ _ _ h => h) (Or.inl ⟨by rfl, ?_⟩) ?_ ?_
  rotate_left
  · intro w'
    go_simp
    with_reducible rfl
  rotate_left
  · simp only [Act.put, List.setIfInBounds_toArray, List.set_cons_zero, List.set_cons_succ, i64_w, i32_w]
    rfl
  refine pure_ (i := 2) (N := some 67) (v := ?_) (a' := ?_) #[true, false, true, false, false, false, false, false, false, false, false, false, false] rfl rfl (by kernel_rfl) (fun _ _ _ h => h) (Or.inl ⟨by rfl, ?_⟩) ?_ ?_
  rotate_left
  · intro w'
    go_simp
    with_reducible rfl
  rotate_left
  · simp only [Act.put, List.setIfInBounds_toArray, List.set_cons_zero, List.set_cons_succ, i64_w, i32_w]
    rfl
  refine pure_ (i := 3) (N := some 68) (v := ?_) (a' := ?_) #[true, false, true, true, false, false, false, false, false, false, false, false, false] rfl rfl (by kernel_rfl) (fun _ _ _ h => h) (Or.inl ⟨by rfl, ?_⟩) ?_ ?_
  rotate_left
  · intro w'
    go_simp
    with_reducible rfl
  rotate_left
  · simp only [Act.put, List.setIfInBounds_toArray, List.set_cons_zero, List.set_cons_succ, i64_w, i32_w]
    rfl
  refine pure_ (i := 5) (N := some 70) (v := ?_) (a' := ?_) #[true, false, true, true, false, true, false, false, false, false, false, false, false] rfl rfl (by kernel_rfl) (fun _ _ _ h => h) (Or.inl ⟨by rfl, ?_⟩) ?_ ?_
  rotate_left
  · intro w'
    go_simp
    with_reducible rfl
  rotate_left
  · simp only [Act.put, List.setIfInBounds_toArray, List.set_cons_zero, List.set_cons_succ, i64_w, i32_w]
    rfl
  refine pure_ (i := 8) (N := some 73) (v := ?_) (a' := ?_) #[true, false, true, true, false, true, false, false, true, false, false, false, false] rfl rfl (by kernel_rfl) (fun _ _ _ h => h) (Or.inl ⟨by rfl, ?_⟩) ?_ ?_
  rotate_left
  · intro w'
    go_simp
    with_reducible rfl
  rotate_left
  · simp only [Act.put, List.setIfInBounds_toArray, List.set_cons_zero, List.set_cons_succ, i64_w, i32_w]
    rfl
  refine pure_ (i := 9) (N := some 74) (v := ?_) (a' := ?_) #[true, false, true, true, false, true, false, false, true, true, false, false, false] rfl rfl (by kernel_rfl) (fun _ _ _ h => h) (Or.inl ⟨by rfl, ?_⟩) ?_ ?_
  rotate_left
  · intro w'
    go_simp
    with_reducible rfl
  rotate_left
  · simp only [Act.put, List.setIfInBounds_toArray, List.set_cons_zero, List.set_cons_succ, i64_w, i32_w]
    rfl
  refine take_ (i := 1) (N := some 66) (v := ?_) (a' := ?_) #[true, true, true, true, false, true, false, false, true, true, false, false, false] rfl rfl (by kernel_rfl) (fun _ _ _ h => h) (Or.inl ⟨by rfl, ?_⟩) hHeld ?_ ?_
  rotate_left
  · rintro w' ⟨s0, s1⟩
    go_simp
    with_reducible rfl
  rotate_left
  · simp only [Act.put, List.setIfInBounds_toArray, List.set_cons_zero, List.set_cons_succ, i64_w, i32_w]
    rfl
  refine take_ (i := 4) (N := some 69) (v := ?_) (a' := ?_) #[true, true, true, true, true, true, false, false, true, true, false, false, false] rfl rfl (by kernel_rfl) (fun _ _ _ h => h) (Or.inl ⟨by rfl, ?_⟩) hHeld ?_ ?_
  rotate_left
  · rintro w' ⟨s0, s1⟩
    go_simp
    with_reducible rfl
  rotate_left
  · simp only [Act.put, List.setIfInBounds_toArray, List.set_cons_zero, List.set_cons_succ, i64_w, i32_w]
    rfl
  refine pure_ (i := 6) (N := some 71) (v := ?_) (a' := ?_) #[true, true, true, true, true, true, true, false, true, true, false, false, false] rfl rfl (by kernel_rfl) (fun _ _ _ h => h) (Or.inl ⟨by rfl, ?_⟩) ?_ ?_
  rotate_left
  · intro w'
    go_simp
    with_reducible rfl
  rotate_left
  · simp only [Act.put, List.setIfInBounds_toArray, List.set_cons_zero, List.set_cons_succ, i64_w, i32_w]
    rfl
  refine take_ (i := 7) (N := some 72) (v := ?_) (a' := ?_) #[true, true, true, true, true, true, true, true, true, true, false, false, false] rfl rfl (by kernel_rfl) (fun _ _ _ h => h) (Or.inl ⟨by rfl, ?_⟩) hHeld ?_ ?_
  rotate_left
  · rintro w' ⟨s0, s1⟩
    go_simp
    with_reducible rfl
  rotate_left
  · simp only [Act.put, List.setIfInBounds_toArray, List.set_cons_zero, List.set_cons_succ, i64_w, i32_w]
    rfl
  refine pure_ (i := 10) (N := some 75) (v := ?_) (a' := ?_) #[true, true, true, true, true, true, true, true, true, true, true, false, false] rfl rfl (by kernel_rfl) (fun _ _ _ h => h) (Or.inl ⟨by rfl, ?_⟩) ?_ ?_
  rotate_left
  · intro w'
    go_simp
    with_reducible rfl
  rotate_left
  · simp only [Act.put, List.setIfInBounds_toArray, List.set_cons_zero, List.set_cons_succ, i64_w, i32_w]
    rfl
  refine pure_ (i := 11) (N := some 76) (v := ?_) (a' := ?_) #[true, true, true, true, true, true, true, true, true, true, true, true, false] rfl rfl (by kernel_rfl) (fun _ _ _ h => h) (Or.inl ⟨by rfl, ?_⟩) ?_ ?_
  rotate_left
  · intro w'
    go_simp
    with_reducible rfl
  rotate_left
  · simp only [Act.put, List.setIfInBounds_toArray, List.set_cons_zero, List.set_cons_succ, i64_w, i32_w]
    rfl
  refine last_ (i := 12) (N := none) #[true, true, true, true, true, true, true, true, true, true, true, true, true] rfl rfl (by kernel_rfl) (by decide) (fun K hK => ?_)
  refine skip_ (w1 := ?_) (by rfl) rfl ?_ ?_
  rotate_left
  · go_simp
    first | with_reducible rfl | rfl
  refine hK.out _ _ ?_
  clear hK K
  refine done_ (by kernel_rfl) ?_
  obtain ⟨col5, hQ5, hN5⟩ := HP0.out.q.cache (w1 := x5) (v1 := .slice (some ⟨g5, o5, none⟩) y.length cv) (ys := y) hwx (p := n) rfl hpn1 (Keep.refl _ _) hrowp
  have HW5 := Aside0.mk (HP0.out.step hQ5 hN5)
  clear hQ5 hN5 hHeld hrowp kc0 kc1 kf
  generalize (x5.setCell ⟨gC, oC + n, none⟩ (.slice (some ⟨g5, o5, none⟩) y.length cv)) = W5 at *
  have hV := HW5.out.q.r
  obtain ⟨gg, og, cg9, heg, -, -, -⟩ := hV.g.form (by rw [ints_len]; exact Nat.lt_of_le_of_lt (Nat.zero_le _) hxg)
  injection heg with e1 e2 e3
  subst e1 e3
  obtain ⟨ga, oa, ca9, hea, -, -, -⟩ := hV.a.form (by rw [bools_len]; show 0 < s1.alive.length; have := hO1.a; omega)
  injection hea with e4 e5 e6
  subst e4 e6
  rw [ints_len s1.gens, bools_len s1.alive] at hV
  have e : vs3.length = (vs3.set n (.slice (some ⟨g5, o5, none⟩) y.length cv)).length := by rw [List.length_set]
  rw [e] at hV
  have hzb := hO1.gb z (List.mem_of_getElem? HZ.out)
  have hgo := given_own (x := x) (z := z) HW5.out.b.size hV hO1.a HZ.out hzb.1 hzb.2
  rw [← e, hvl] at hgo
  obtain ⟨x0, x1, x2, x3, x4⟩ := cells5 HW5.out.q.blk
  rw [ints_len s1.gens] at x1
  rw [bools_len s1.alive] at x2
  rw [hvl] at x3
  have hPl5 := lt_blk HW5.out.q.blk
  clear e2 e5 hV e hPl
  go_wp2_with fail
  refine hgo.mono ?_
  clear hgo x0 x1 x2 x3 x4 hPl5
  rintro e w9 ⟨rfl, hV9, hK9⟩
  have HR9 := Aside0.mk (blk_keep HW5.out.r hK9 (fun f => f HW5.out.cr))
  have HG9 := Aside0.mk (blk_keep HW5.out.g hK9 (fun f => f HW5.out.cg))
  have HV9 := Aside0.mk hV9
  have HB9 := Aside0.mk (below_then_keep HW5.out.b HW5.out.b.size hK9 (fun i hi => HW5.out.q.r.b i hi))
  obtain ⟨r0, r1, r2, r3, r4⟩ := cells5 HR9.out
  obtain ⟨r5, r6, r7, r8, r9⟩ := froz5 HR9.out
  have y0 := cell_blk HG9.out 0
  have y1 := cell_blk HG9.out 1
  have y2 := frozen_blk HG9.out 0
  have y3 := frozen_blk HG9.out 1
  simp only [List.getElem?_toArray, List.getElem?_cons_zero, List.getElem?_cons_succ] at y0 y1
  have hRl := lt_blk HR9.out
  have hGl := lt_blk HG9.out
  clear hV9 hK9
  go_wp2
  have hkA : Keep (fun i => i = w.heap.size + 1) w9 ((((((w9.setCell ⟨(w.heap.size + 1), 0, none⟩ (.int .i64 s1.limit)).setCell ⟨(w.heap.size + 1), 1, none⟩ ((.slice (some ⟨gg, og, none⟩) s1.gens.length cG2))).setCell ⟨(w.heap.size + 1), 2, none⟩ ((.slice (some ⟨ga, oa, none⟩) s1.alive.length cA2))).setCell ⟨(w.heap.size + 1), 3, none⟩ ((.slice (some ⟨gC, oC, none⟩) s1.caches.length cC2))).setCell ⟨(w.heap.size + 1), 4, none⟩ ((.slice A9 (ints s1.free).length c9)))) := set5_keep _ _ _ _ _ _ _
  have hkB : Keep (fun i => i = w.heap.size + 2) ((((((w9.setCell ⟨(w.heap.size + 1), 0, none⟩ (.int .i64 s1.limit)).setCell ⟨(w.heap.size + 1), 1, none⟩ ((.slice (some ⟨gg, og, none⟩) s1.gens.length cG2))).setCell ⟨(w.heap.size + 1), 2, none⟩ ((.slice (some ⟨ga, oa, none⟩) s1.alive.length cA2))).setCell ⟨(w.heap.size + 1), 3, none⟩ ((.slice (some ⟨gC, oC, none⟩) s1.caches.length cC2))).setCell ⟨(w.heap.size + 1), 4, none⟩ ((.slice A9 (ints s1.free).length c9)))) (((((((w9.setCell ⟨(w.heap.size + 1), 0, none⟩ (.int .i64 s1.limit)).setCell ⟨(w.heap.size + 1), 1, none⟩ ((.slice (some ⟨gg, og, none⟩) s1.gens.length cG2))).setCell ⟨(w.heap.size + 1), 2, none⟩ ((.slice (some ⟨ga, oa, none⟩) s1.alive.length cA2))).setCell ⟨(w.heap.size + 1), 3, none⟩ ((.slice (some ⟨gC, oC, none⟩) s1.caches.length cC2))).setCell ⟨(w.heap.size + 1), 4, none⟩ ((.slice A9 (ints s1.free).length c9))).setCell ⟨w.heap.size + 2, 0, none⟩ (.int .i64 x)).setCell ⟨w.heap.size + 2, 1, none⟩ (.int .i64 (z + 1))) := (by repeat (first | (with_reducible exact Keep.refl _ _) | (with_reducible refine Keep.drewN ?_ _) | (with_reducible refine Keep.drew ?_) | (with_reducible refine Keep.setCell ?_ _ _ (by first | (right; with_reducible rfl) | (left; simp; done) | (left; simp; omega) | (right; simp; done) | (right; assumption))) | (with_reducible refine Keep.alloc ?_ _)))
  have hkR : Keep (fun i => i = w.heap.size + 1 ∨ i = w.heap.size + 2) w9 (((((((w9.setCell ⟨(w.heap.size + 1), 0, none⟩ (.int .i64 s1.limit)).setCell ⟨(w.heap.size + 1), 1, none⟩ ((.slice (some ⟨gg, og, none⟩) s1.gens.length cG2))).setCell ⟨(w.heap.size + 1), 2, none⟩ ((.slice (some ⟨ga, oa, none⟩) s1.alive.length cA2))).setCell ⟨(w.heap.size + 1), 3, none⟩ ((.slice (some ⟨gC, oC, none⟩) s1.caches.length cC2))).setCell ⟨(w.heap.size + 1), 4, none⟩ ((.slice A9 (ints s1.free).length c9))).setCell ⟨w.heap.size + 2, 0, none⟩ (.int .i64 x)).setCell ⟨w.heap.size + 2, 1, none⟩ (.int .i64 (z + 1))) := (hkA.mono (fun _ _ h => .inl h)).trans (hkB.mono (fun _ _ h => .inr h))
  have hG7 : (((((((w9.setCell ⟨(w.heap.size + 1), 0, none⟩ (.int .i64 s1.limit)).setCell ⟨(w.heap.size + 1), 1, none⟩ ((.slice (some ⟨gg, og, none⟩) s1.gens.length cG2))).setCell ⟨(w.heap.size + 1), 2, none⟩ ((.slice (some ⟨ga, oa, none⟩) s1.alive.length cA2))).setCell ⟨(w.heap.size + 1), 3, none⟩ ((.slice (some ⟨gC, oC, none⟩) s1.caches.length cC2))).setCell ⟨(w.heap.size + 1), 4, none⟩ ((.slice A9 (ints s1.free).length c9))).setCell ⟨w.heap.size + 2, 0, none⟩ (.int .i64 x)).setCell ⟨w.heap.size + 2, 1, none⟩ (.int .i64 (z + 1))).heap[w.heap.size + 2]? = some (.cells #[.int .i64 x, .int .i64 (z + 1)] 48 (0, 0)) := by
    have := blk_set (i := 1) (u := .int .i64 (z + 1)) (blk_set (i := 0) (u := .int .i64 x) (blk_keep HG9.out hkA (by omega)))
    simpa using this
  obtain ⟨z0, z1, z2, z3, z4⟩ := cells5 (blk_keep (blk_set5 (u0 := .int .i64 s1.limit) (u1 := (.slice (some ⟨gg, og, none⟩) s1.gens.length cG2)) (u2 := (.slice (some ⟨ga, oa, none⟩) s1.alive.length cA2)) (u3 := (.slice (some ⟨gC, oC, none⟩) s1.caches.length cC2)) (u4 := (.slice A9 (ints s1.free).length c9)) HR9.out) hkB (by omega))
  have z5 := cell_blk hG7 0
  have z6 := cell_blk hG7 1
  simp only [List.getElem?_toArray, List.getElem?_cons_zero, List.getElem?_cons_succ] at z5 z6
  refine bodyPost_ret (v := .tuple #[.agg #[.int .i64 s1.limit, (.slice (some ⟨gg, og, none⟩) s1.gens.length cG2), (.slice (some ⟨ga, oa, none⟩) s1.alive.length cA2), (.slice (some ⟨gC, oC, none⟩) s1.caches.length cC2), (.slice A9 (ints s1.free).length c9)], .agg #[.int .i64 x, .int .i64 (z + 1)], .int .i64 0]) (by simp [results, Try.results39, go_sem, z0, z1, z2, z3, z4, z5, z6]) rfl ?_
  rw [HT.out]
  refine ⟨_, _, _, _, _, rfl, ((HV9.out.keep hkR (fun i hi => by rcases hi with rfl | rfl; (rw [HW5.out.cr]; omega); (rw [HW5.out.cg]; omega))).rdo), ?_⟩
  exact below_then_keep HB9.out HB9.out.size hkR (fun i hi => by omega)
end Go.Proofs.Ytnglgjegkjfnaaa
