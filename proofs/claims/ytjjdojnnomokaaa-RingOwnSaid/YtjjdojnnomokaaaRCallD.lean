import Derived.Test.YtjjdojnnomokaaaRCallS
set_option linter.unusedSimpArgs false
set_option linter.unusedVariables false
namespace Go.Proofs.Ytjjdojnnomokaaa
open Go.RowKit Go.ChangeShapes Go.WideShapes Go.ChangeAt Go.Proofs.YtjjdojnnomokaaaW.PrintWords Go.Proofs.YtjjdojnnomokaaaW.PrintMore Go.Proofs.YtjjdojnnomokaaaW.PrintLast
open List (setIfInBounds_toArray set_cons_zero set_cons_succ)
attribute [local go_sem high] PRingLoads.eqA27
/-! rotalaw02.calls, Steal: printed by gen02c.py. -/
set_option maxRecDepth 100000 in
set_option maxHeartbeats 40000000 in
theorem calls_steal1 (base bm bo : Nat) (Am : Option Addr) (cm : Nat) (Ao : Option Addr) (co : Nat) (rm ro : Rg) (x : Wt) (w : World) (h : PQ w base bm bo Am cm Ao co rm ro rm ro) :
    Calls Try.prog 28 #[.agg #[.pointer (some ⟨bo, 0, none⟩), .pointer (some ⟨bm, 0, none⟩), .slice Ao ro.l.length co, .bool ro.has, .int .i64 ro.nx.s, .int .i64 ro.nx.g, .int .u64 ro.nx.t, .slice Am rm.l.length cm, .bool rm.has, .int .i64 rm.nx.s, .int .i64 rm.nx.g, .int .u64 rm.nx.t, .int .i64 1], .agg #[.int .i64 5, .int .i64 x.s, .int .i64 x.g, .int .u64 x.t]] w (CallsP1 base bm bo w) := by
  have hbm := h.im.lt
  have hbo := h.io.lt
  have hlm := h.im.len
  have hlo := h.io.len
  obtain ⟨W, hWe⟩ : ∃ W, W = ((((w.alloc (.cells #[.pointer (some ⟨bo, 0, none⟩), .pointer (some ⟨bm, 0, none⟩), .slice Ao ro.l.length co, .bool ro.has, .int .i64 ro.nx.s, .int .i64 ro.nx.g, .int .u64 ro.nx.t, .slice Am rm.l.length cm, .bool rm.has, .int .i64 rm.nx.s, .int .i64 rm.nx.g, .int .u64 rm.nx.t, .int .i64 1] 55)).alloc (.cells #[.int .i64 5, .int .i64 x.s, .int .i64 x.g, .int .u64 x.t] 65)).alloc (.cells #[.pointer none, .pointer none, .slice none 0 0, .bool false, .int .i64 0, .int .i64 0, .int .u64 0, .slice none 0 0, .bool false, .int .i64 0, .int .i64 0, .int .u64 0, .int .i64 0] 55)).alloc (.cells #[.slice Am rm.l.length cm, .bool rm.has, .int .i64 rm.nx.s, .int .i64 rm.nx.g, .int .u64 rm.nx.t] 29)) := ⟨_, rfl⟩
  obtain ⟨hW, hP, hO, hR, hS⟩ := chain4 hWe
  have hWe := Aside0.mk hWe
  have hP := Aside0.mk hP
  have hO := Aside0.mk hO
  have hR := Aside0.mk hR
  have hS := Aside0.mk hS
  have HQ := Aside0.mk (h.below hW)
  have HZ := Aside0.mk h.zm
  obtain ⟨f2, hf2⟩ : ∃ f2, f2 = stealF ro rm := ⟨_, rfl⟩
  obtain ⟨t2, ht2⟩ : ∃ t2, t2 = stealT ro rm := ⟨_, rfl⟩
  obtain ⟨y, hy⟩ : ∃ y, y = stealW ro rm := ⟨_, rfl⟩
  obtain ⟨E, hE⟩ : ∃ E, E = stealE ro rm := ⟨_, rfl⟩
  have hzf : Zr f2 := by rw [hf2]; exact zr_stealF h.zo
  have hzt : Zr t2 := by rw [ht2]; exact zr_stealT h.zm
  have HF2 := Aside0.mk hf2
  have HT2 := Aside0.mk ht2
  have HY := Aside0.mk hy
  have HE := Aside0.mk hE
  have HZF := Aside0.mk hzf
  have HZT := Aside0.mk hzt
  have hbs := h.hb
  have hST : ∀ (N : Nat) (X : World), kW.R 27 X base (fun k => k < N) (.slice Ao ro.l.length co) ro.l → kW.R 27 X base (fun k => k < N) (.slice Am rm.l.length cm) rm.l → base ≤ X.heap.size →
      Calls Try.prog 44 #[.agg #[.slice Ao ro.l.length co, .bool ro.has, .int .i64 ro.nx.s, .int .i64 ro.nx.g, .int .u64 ro.nx.t], .agg #[.slice Am rm.l.length cm, .bool rm.has, .int .i64 rm.nx.s, .int .i64 rm.nx.g, .int .u64 rm.nx.t]] X fun e w' => ∃ vf vt, e = .returned (.tuple #[.agg #[vf, .bool f2.has, .int .i64 f2.nx.s, .int .i64 f2.nx.g, .int .u64 f2.nx.t], .agg #[vt, .bool t2.has, .int .i64 t2.nx.s, .int .i64 t2.nx.g, .int .u64 t2.nx.t], (.agg #[.int .i64 y.s, .int .i64 y.g, .int .u64 y.t]), .int .i64 E]) ∧ kW.R 27 w' base (fun k => k < N ∨ X.heap.size ≤ k) vf f2.l ∧ kW.R 27 w' base (fun k => k < N ∨ X.heap.size ≤ k) vt t2.l ∧ Below X.heap.size X w' := by
    intro N X h1 h2 h3
    have h := rsteal_any Ao co Am cm ro rm base (fun k => k < N) X h1 h2 h3 hlo hlm
    unfold StealP at h
    rw [← HF2.out, ← HT2.out, ← HY.out, ← HE.out] at h
    exact h
  have HST := Aside0.mk hST
  clear hf2 ht2 hy hE hzf hzt hST h
  go_enter Try.func28, Try.ntmps28
  go_wp2_with fail
  rw [← hWe.out]
  clear hWe
  have hst := steal_any bo bm ro rm W HQ.out.io HQ.out.im (fun e => HQ.out.ne e.symm)
  rw [← HF2.out, ← HT2.out, ← HY.out, ← HE.out] at hst
  refine hst.mono ?_
  clear hst
  rintro e w1 ⟨rfl, hJ1, hI1, hK1⟩
  have HQ1 := HQ.out.rings hK1 hI1 hJ1
  have hP1 := blk_keep hP.out hK1 (show ¬ (w.heap.size = bo ∨ w.heap.size = bm) by omega)
  have hR1 := blk_keep hR.out hK1 (show ¬ (w.heap.size + 1 + 1 = bo ∨ w.heap.size + 1 + 1 = bm) by omega)
  have hS1 := blk_keep hS.out hK1 (show ¬ (w.heap.size + 1 + 1 + 1 = bo ∨ w.heap.size + 1 + 1 + 1 = bm) by omega)
  have hKW1 : Keep (fun i => i = bm ∨ i = bo) w w1 := (Keep.of_below hW).trans' (hK1.mono (fun _ _ h => h.symm)) (fun _ _ h => h)
  have hAl : Below w1.heap.size w1 (w1.alloc (.cells #[.int .i64 y.s, .int .i64 y.g, .int .u64 y.t] 27)) := below_al (Below.refl _ _) _
  have hY1 : (w1.alloc (.cells #[.int .i64 y.s, .int .i64 y.g, .int .u64 y.t] 27)).heap[w1.heap.size]? = some (.cells #[.int .i64 y.s, .int .i64 y.g, .int .u64 y.t] 27 (0, 0)) := blk_new _ _
  have hDr : Below (w1.alloc (.cells #[.int .i64 y.s, .int .i64 y.g, .int .u64 y.t] 27)).heap.size (w1.alloc (.cells #[.int .i64 y.s, .int .i64 y.g, .int .u64 y.t] 27)) (w1.alloc (.cells #[.int .i64 y.s, .int .i64 y.g, .int .u64 y.t] 27)).drew := (Below.refl _ _).drew
  have hP0 := blk_below (blk_below hP1 hAl) hDr
  have hR0 := blk_below (blk_below hR1 hAl) hDr
  have hS0 := blk_below (blk_below hS1 hAl) hDr
  have hY0 := blk_below hY1 hDr
  have hSl1 := lt_blk hS1
  have HQ0 := (HQ1.below hAl).below hDr
  have hA0 : Aside0 (StA _ _ _ _ _ _ _ _ _ _ _ _ _ _ _ _ _ _ _ _ _ _ _ _) := ⟨⟨hP0, hS0, hR0, hY0, HQ0.im, HQ0.io, (hKW1.trans' (Keep.of_below hAl) (G := fun _ => False) (fun _ _ h => h.elim)).trans' (Keep.of_below hDr) (G := fun _ => False) (fun _ _ h => h.elim), Kd.R_mono (Kd.R_bound HQ0.qm) (fun _ h => h.2.2.1), Kd.R_mono (Kd.R_bound HQ0.qo) (fun _ h => h.2.2.1)⟩⟩
  have hne := HQ.out.ne
  have hbs0 := HQ0.hb
  clear hI1 hJ1 hK1 HQ HQ0 HQ1 hP hO hR hS hW hKW1 hP1 hR1 hS1
  go_wp2_with fail
  obtain ⟨q0, q1, q2, q3, q4, q5, q6, q7, q8, q9, q10, q11, q12⟩ := cells13 hP0 rfl
  obtain ⟨s0, s1, s2, s3, s4, -, -, -, -, -⟩ := blk5 hS0
  have hSl := lt_blk hS0
  have hYl := lt_blk hY0
  clear hP0 hS0 hR0 hY0
  have hwl : w.heap.size + 1 + 1 + 1 < w1.heap.size := hSl1
  clear hAl hDr hY1
  have hw1 : wrap64 1 = 1 := by unfold wrap64; omega
  have hw0 : wrap64 0 = 0 := by unfold wrap64; omega
  refine start_ (n := 20) (S := fun w' => w'.cell? ⟨w.heap.size, 0, none⟩ = some (.pointer (some ⟨bo, 0, none⟩)) ∧ w'.cell? ⟨w.heap.size, 1, none⟩ = some (.pointer (some ⟨bm, 0, none⟩)) ∧ w'.cell? ⟨w.heap.size, 2, none⟩ = some (.slice Ao ro.l.length co) ∧ w'.cell? ⟨w.heap.size, 3, none⟩ = some (.bool ro.has) ∧ w'.cell? ⟨w.heap.size, 4, none⟩ = some (.int .i64 ro.nx.s) ∧ w'.cell? ⟨w.heap.size, 5, none⟩ = some (.int .i64 ro.nx.g) ∧ w'.cell? ⟨w.heap.size, 6, none⟩ = some (.int .u64 ro.nx.t) ∧ w'.cell? ⟨w.heap.size, 7, none⟩ = some (.slice Am rm.l.length cm) ∧ w'.cell? ⟨w.heap.size, 8, none⟩ = some (.bool rm.has) ∧ w'.cell? ⟨w.heap.size, 9, none⟩ = some (.int .i64 rm.nx.s) ∧ w'.cell? ⟨w.heap.size, 10, none⟩ = some (.int .i64 rm.nx.g) ∧ w'.cell? ⟨w.heap.size, 11, none⟩ = some (.int .u64 rm.nx.t) ∧ w'.cell? ⟨w.heap.size, 12, none⟩ = some (.int .i64 1) ∧ w'.cell? ⟨w.heap.size + 1 + 1 + 1, 0, none⟩ = some (.slice Am rm.l.length cm) ∧ w'.cell? ⟨w.heap.size + 1 + 1 + 1, 1, none⟩ = some (.bool rm.has) ∧ w'.cell? ⟨w.heap.size + 1 + 1 + 1, 2, none⟩ = some (.int .i64 rm.nx.s) ∧ w'.cell? ⟨w.heap.size + 1 + 1 + 1, 3, none⟩ = some (.int .i64 rm.nx.g) ∧ w'.cell? ⟨w.heap.size + 1 + 1 + 1, 4, none⟩ = some (.int .u64 rm.nx.t)) (ds := [16, 17, 18]) #[false,false,false,false,false,false,false,false,false,false,false,false,false,false,false,false,false,false,false,false] (by kernel_rfl) rfl rfl ⟨q0, q1, q2, q3, q4, q5, q6, q7, q8, q9, q10, q11, q12, s0, s1, s2, s3, s4⟩ (fun hHeld => ?_)
  generalize (w1.alloc (.cells #[.int .i64 y.s, .int .i64 y.g, .int .u64 y.t] 27)).drew = x0 at *
  refine pure_ (i := 0) (N := some 187) (v := ?_) (a' := ?_) #[true,false,false,false,false,false,false,false,false,false,false,false,false,false,false,false,false,false,false,false] rfl rfl (by kernel_rfl) (fun _ _ _ h => h) (Or.inl ⟨by rfl, ?_⟩) ?_ ?_
  rotate_left
  · intro w'; go_simp; with_reducible rfl
  rotate_left
  · simp only [Act.put, setIfInBounds_toArray, set_cons_zero, set_cons_succ, i64_w, i32_w]; rfl
  refine pure_ (i := 3) (N := some 190) (v := ?_) (a' := ?_) #[true,false,false,true,false,false,false,false,false,false,false,false,false,false,false,false,false,false,false,false] rfl rfl (by kernel_rfl) (fun _ _ _ h => h) (Or.inl ⟨by rfl, ?_⟩) ?_ ?_
  rotate_left
  · intro w'; go_simp; with_reducible rfl
  rotate_left
  · simp only [Act.put, setIfInBounds_toArray, set_cons_zero, set_cons_succ, i64_w, i32_w]; rfl
  refine take_ (i := 1) (N := some 188) (v := ?_) (a' := ?_) #[true,true,false,true,false,false,false,false,false,false,false,false,false,false,false,false,false,false,false,false] rfl rfl (by kernel_rfl) (fun _ _ _ h => h) (Or.inl ⟨by rfl, ?_⟩) hHeld ?_ ?_
  rotate_left
  · rintro w' ⟨s0, s1, s2, s3, s4, s5, s6, s7, s8, s9, s10, s11, s12, s13, s14, s15, s16, s17⟩; go_simp; with_reducible rfl
  rotate_left
  · simp only [Act.put, setIfInBounds_toArray, set_cons_zero, set_cons_succ, i64_w, i32_w]; rfl
  refine pure_ (i := 2) (N := some 189) (v := ?_) (a' := ?_) #[true,true,true,true,false,false,false,false,false,false,false,false,false,false,false,false,false,false,false,false] rfl rfl (by kernel_rfl) (fun _ _ _ h => h) (Or.inl ⟨by rfl, ?_⟩) ?_ ?_
  rotate_left
  · intro w'; go_simp; with_reducible rfl
  rotate_left
  · simp only [Act.put, setIfInBounds_toArray, set_cons_zero, set_cons_succ, i64_w, i32_w]; rfl
  refine pure_ (i := 4) (N := some 191) (v := ?_) (a' := ?_) #[true,true,true,true,true,false,false,false,false,false,false,false,false,false,false,false,false,false,false,false] rfl rfl (by kernel_rfl) (fun _ _ _ h => h) (Or.inl ⟨by rfl, ?_⟩) ?_ ?_
  rotate_left
  · intro w'; go_simp; with_reducible rfl
  rotate_left
  · simp only [Act.put, setIfInBounds_toArray, set_cons_zero, set_cons_succ, i64_w, i32_w]; rfl
  refine take_ (i := 5) (N := some 192) (v := ?_) (a' := ?_) #[true,true,true,true,true,true,false,false,false,false,false,false,false,false,false,false,false,false,false,false] rfl rfl (by kernel_rfl) (fun _ _ _ h => h) (Or.inl ⟨by rfl, ?_⟩) hHeld ?_ ?_
  rotate_left
  · rintro w' ⟨s0, s1, s2, s3, s4, s5, s6, s7, s8, s9, s10, s11, s12, s13, s14, s15, s16, s17⟩; go_simp; with_reducible rfl
  rotate_left
  · simp only [Act.put, setIfInBounds_toArray, set_cons_zero, set_cons_succ, i64_w, i32_w]; rfl
  refine take_ (i := 6) (N := some 193) (v := ?_) (a' := ?_) #[true,true,true,true,true,true,true,false,false,false,false,false,false,false,false,false,false,false,false,false] rfl rfl (by kernel_rfl) (fun _ _ _ h => h) (Or.inl ⟨by rfl, ?_⟩) hHeld ?_ ?_
  rotate_left
  · rintro w' ⟨s0, s1, s2, s3, s4, s5, s6, s7, s8, s9, s10, s11, s12, s13, s14, s15, s16, s17⟩; go_simp; with_reducible rfl
  rotate_left
  · simp only [Act.put, setIfInBounds_toArray, set_cons_zero, set_cons_succ, i64_w, i32_w]; rfl
  clear hw0 hw1 hSl1 q0 q1 q2 q3 q4 q5 q6 q7 q8 q9 q10 q11 q12 s0 s1 s2 s3 s4
  refine join_ (σ := (Option Addr × Nat × Option Addr × Nat) × (Nat × Nat × Nat)) 4 #[true,true,true,true,true,true,true,true,true,true,true,true,true,true,true,true,false,false,false,false] (fun s => [(194, .tuple #[.agg #[.slice s.1.1 f2.l.length s.1.2.1, .bool f2.has, .int .i64 f2.nx.s, .int .i64 f2.nx.g, .int .u64 f2.nx.t], .agg #[.slice s.1.2.2.1 t2.l.length s.1.2.2.2, .bool t2.has, .int .i64 t2.nx.s, .int .i64 t2.nx.g, .int .u64 t2.nx.t], (.agg #[.int .i64 y.s, .int .i64 y.g, .int .u64 y.t]), .int .i64 E]), (186, .tuple #[.agg #[.slice s.1.1 f2.l.length s.1.2.1, .bool f2.has, .int .i64 f2.nx.s, .int .i64 f2.nx.g, .int .u64 f2.nx.t], .agg #[.slice s.1.2.2.1 t2.l.length s.1.2.2.2, .bool t2.has, .int .i64 t2.nx.s, .int .i64 t2.nx.g, .int .u64 t2.nx.t], (.agg #[.int .i64 y.s, .int .i64 y.g, .int .u64 y.t]), .int .i64 E]), (195, .agg #[.slice s.1.1 f2.l.length s.1.2.1, .bool f2.has, .int .i64 f2.nx.s, .int .i64 f2.nx.g, .int .u64 f2.nx.t]), (196, .agg #[.slice s.1.2.2.1 t2.l.length s.1.2.2.2, .bool t2.has, .int .i64 t2.nx.s, .int .i64 t2.nx.g, .int .u64 t2.nx.t]), (197, (.agg #[.int .i64 y.s, .int .i64 y.g, .int .u64 y.t])), (198, .int .i64 E), (30, .pointer (some ⟨s.2.1, 0, none⟩)), (31, .pointer (some ⟨s.2.2.1, 0, none⟩)), (32, .pointer (some ⟨s.2.2.2, 0, none⟩))]) (fun s w8 => StF w base bm bo x0.heap.size (w.heap.size) (w.heap.size + 1 + 1) (w.heap.size + 1 + 1 + 1) w1.heap.size #[.pointer (some ⟨bo, 0, none⟩), .pointer (some ⟨bm, 0, none⟩), .slice Ao ro.l.length co, .bool ro.has, .int .i64 ro.nx.s, .int .i64 ro.nx.g, .int .u64 ro.nx.t, .slice Am rm.l.length cm, .bool rm.has, .int .i64 rm.nx.s, .int .i64 rm.nx.g, .int .u64 rm.nx.t, .int .i64 1] 55 #[.pointer none, .pointer none, .slice none 0 0, .bool false, .int .i64 0, .int .i64 0, .int .u64 0, .slice none 0 0, .bool false, .int .i64 0, .int .i64 0, .int .u64 0, .int .i64 0] 55 #[.slice Am rm.l.length cm, .bool rm.has, .int .i64 rm.nx.s, .int .i64 rm.nx.g, .int .u64 rm.nx.t] 29 #[.int .i64 y.s, .int .i64 y.g, .int .u64 y.t] 27 t2 f2 #[.slice none 0 0, .bool false, .int .i64 0, .int .i64 0, .int .u64 0] 29 #[.slice none 0 0, .bool false, .int .i64 0, .int .i64 0, .int .u64 0] 29 #[.int .i64 0, .int .i64 0, .int .u64 0] 27 s.2.1 s.2.2.1 s.2.2.2 (.slice s.1.1 f2.l.length s.1.2.1) (.slice s.1.2.2.1 t2.l.length s.1.2.2.2) f2.l t2.l w8) ?_ ?_
  rotate_left
  · intro hCont
    refine four_ (i := 7) (j := 13) (k := 14) (m := 15) (Ni := some 194) (Nj := some 30) (Nk := some 31) (Nm := some 32) #[true,true,true,true,true,true,true,true,false,false,false,false,false,false,false,false,false,false,false,false] #[true,true,true,true,true,true,true,false,false,false,false,false,false,true,false,false,false,false,false,false] #[true,true,true,true,true,true,true,false,false,false,false,false,false,false,true,false,false,false,false,false] #[true,true,true,true,true,true,true,false,false,false,false,false,false,false,false,true,false,false,false,false] rfl rfl rfl rfl rfl rfl rfl rfl (by kernel_rfl) (by decide) (by decide) (by decide) (by decide) (fun K hK => ?_) (fun K hK => ?_) (fun K hK => ?_) (fun K hK => ?_)
    · skip
      refine goes_ Try.func44 (by kernel_rfl) rfl #[.agg #[.slice Ao ro.l.length co, .bool ro.has, .int .i64 ro.nx.s, .int .i64 ro.nx.g, .int .u64 ro.nx.t], .agg #[.slice Am rm.l.length cm, .bool rm.has, .int .i64 rm.nx.s, .int .i64 rm.nx.g, .int .u64 rm.nx.t]] (by rfl) rfl rfl (by simp only [List.map_toArray, List.map_cons, List.map_nil]; rfl) ?_
      with_reducible refine (HST.out x0.heap.size x0 hA0.out.o hA0.out.m (by omega)).mono ?_
      rintro e x1 ⟨vf, vt, rfl, hvf, hvt, hB⟩
      refine ⟨_, rfl, ?_⟩
      obtain ⟨Af, cf, rfl, -, -⟩ := Kd.R_reads hvf
      obtain ⟨At, ct, rfl, -, -⟩ := Kd.R_reads hvt
      have hA1 := Aside0.mk (hA0.out.below hB)
      have hs1 := hB.size
      have hvf1 := Aside0.mk hvf
      have hvt1 := Aside0.mk hvt
      clear hvf hvt hB
      refine hK.out _ _ (held18 hA1.out.P hA1.out.S) (fun hHeld => ?_)
      clear hK K
      refine norm_ (a' := ?_) ?_ ?_
      rotate_left
      · show Act.put _ (some 194) _ = _; simp only [Act.put, setIfInBounds_toArray, set_cons_zero, set_cons_succ, i64_w, i32_w]; rfl
      refine pure_ (i := 8) (N := some 186) (v := ?_) (a' := ?_) #[true,true,true,true,true,true,true,true,true,false,false,false,false,false,false,false,false,false,false,false] rfl rfl (by kernel_rfl) (fun _ _ _ h => h) (Or.inl ⟨by rfl, ?_⟩) ?_ ?_
      rotate_left
      · intro w'; go_simp; with_reducible rfl
      rotate_left
      · simp only [Act.put, setIfInBounds_toArray, set_cons_zero, set_cons_succ, i64_w, i32_w]; rfl
      refine pure_ (i := 9) (N := some 195) (v := ?_) (a' := ?_) #[true,true,true,true,true,true,true,true,true,true,false,false,false,false,false,false,false,false,false,false] rfl rfl (by kernel_rfl) (fun _ _ _ h => h) (Or.inl ⟨by rfl, ?_⟩) ?_ ?_
      rotate_left
      · intro w'; go_simp; with_reducible rfl
      rotate_left
      · simp only [Act.put, setIfInBounds_toArray, set_cons_zero, set_cons_succ, i64_w, i32_w]; rfl
      refine pure_ (i := 10) (N := some 196) (v := ?_) (a' := ?_) #[true,true,true,true,true,true,true,true,true,true,true,false,false,false,false,false,false,false,false,false] rfl rfl (by kernel_rfl) (fun _ _ _ h => h) (Or.inl ⟨by rfl, ?_⟩) ?_ ?_
      rotate_left
      · intro w'; go_simp; with_reducible rfl
      rotate_left
      · simp only [Act.put, setIfInBounds_toArray, set_cons_zero, set_cons_succ, i64_w, i32_w]; rfl
      refine pure_ (i := 11) (N := some 197) (v := ?_) (a' := ?_) #[true,true,true,true,true,true,true,true,true,true,true,true,false,false,false,false,false,false,false,false] rfl rfl (by kernel_rfl) (fun _ _ _ h => h) (Or.inl ⟨by rfl, ?_⟩) ?_ ?_
      rotate_left
      · intro w'; go_simp; with_reducible rfl
      rotate_left
      · simp only [Act.put, setIfInBounds_toArray, set_cons_zero, set_cons_succ, i64_w, i32_w]; rfl
      refine pure_ (i := 12) (N := some 198) (v := ?_) (a' := ?_) #[true,true,true,true,true,true,true,true,true,true,true,true,true,false,false,false,false,false,false,false] rfl rfl (by kernel_rfl) (fun _ _ _ h => h) (Or.inl ⟨by rfl, ?_⟩) ?_ ?_
      rotate_left
      · intro w'; go_simp; with_reducible rfl
      rotate_left
      · simp only [Act.put, setIfInBounds_toArray, set_cons_zero, set_cons_succ, i64_w, i32_w]; rfl
      refine three_ (i := 13) (j := 14) (k := 15) (Ni := some 30) (Nj := some 31) (Nk := some 32) #[true,true,true,true,true,true,true,true,true,true,true,true,true,true,false,false,false,false,false,false] #[true,true,true,true,true,true,true,true,true,true,true,true,true,false,true,false,false,false,false,false] #[true,true,true,true,true,true,true,true,true,true,true,true,true,false,false,true,false,false,false,false] rfl rfl rfl rfl rfl rfl (by kernel_rfl) (by decide) (by decide) (by decide) (fun K hK => ?_) (fun K hK => ?_) (fun K hK => ?_)
      · skip
        refine value_ (w1 := ?_) (v := ?_) (by rfl) rfl ?_ ?_
        rotate_left 2
        · go_simp
          constructor
          · rfl
          rfl
        obtain ⟨g13, x2, hx, hg, hB, n13_2, hga13, hgb13⟩ := newb x1 #[.slice none 0 0, .bool false, .int .i64 0, .int .i64 0, .int .u64 0] 29
        rw [hx, hg]
        clear hx hg
        have hA2 := Aside0.mk (hA1.out.below hB)
        have hs2 := hB.size
        have hvf2 := Aside0.mk (Kd.R_below hvf1.out hB)
        have hvt2 := Aside0.mk (Kd.R_below hvt1.out hB)
        clear hB
        refine hK.out _ _ (held18 hA2.out.P hA2.out.S) (fun hHeld => ?_)
        clear hK K
        refine norm_ (a' := ?_) ?_ ?_
        rotate_left
        · show Act.put _ (some 30) _ = _; simp only [Act.put, setIfInBounds_toArray, set_cons_zero, set_cons_succ, i64_w, i32_w]; rfl
        refine two_ (i := 14) (j := 15) (Ni := some 31) (Nj := some 32) #[true,true,true,true,true,true,true,true,true,true,true,true,true,true,true,false,false,false,false,false] #[true,true,true,true,true,true,true,true,true,true,true,true,true,true,false,true,false,false,false,false] rfl rfl rfl rfl (by kernel_rfl) (by decide) (by decide) (fun K hK => ?_) (fun K hK => ?_)
        · skip
          refine value_ (w1 := ?_) (v := ?_) (by rfl) rfl ?_ ?_
          rotate_left 2
          · go_simp
            constructor
            · rfl
            rfl
          obtain ⟨g14, x3, hx, hg, hB, n14_3, hga14, hgb14⟩ := newb x2 #[.slice none 0 0, .bool false, .int .i64 0, .int .i64 0, .int .u64 0] 29
          rw [hx, hg]
          clear hx hg
          have hA3 := Aside0.mk (hA2.out.below hB)
          have hs3 := hB.size
          have n13_3 := Aside0.mk (blk_below n13_2.out hB)
          have hvf3 := Aside0.mk (Kd.R_below hvf2.out hB)
          have hvt3 := Aside0.mk (Kd.R_below hvt2.out hB)
          clear hB
          refine hK.out _ _ (held18 hA3.out.P hA3.out.S) (fun hHeld => ?_)
          clear hK K
          refine norm_ (a' := ?_) ?_ ?_
          rotate_left
          · show Act.put _ (some 31) _ = _; simp only [Act.put, setIfInBounds_toArray, set_cons_zero, set_cons_succ, i64_w, i32_w]; rfl
          refine one_ (i := 15) (N := some 32) #[true,true,true,true,true,true,true,true,true,true,true,true,true,true,true,true,false,false,false,false] rfl rfl (by kernel_rfl) (by decide) (fun K hK => ?_)
          have hvf3 := Aside0.mk (Kd.R_mono (Kd.R_bound hvf3.out) (fun _ h => h.2.2.1))
          have hvt3 := Aside0.mk (Kd.R_mono (Kd.R_bound hvt3.out) (fun _ h => h.2.2.1))
          refine value_ (w1 := ?_) (v := ?_) (by rfl) rfl ?_ ?_
          rotate_left 2
          · go_simp
            constructor
            · rfl
            rfl
          obtain ⟨g15, x4, hx, hg, hB, n15_4, hga15, hgb15⟩ := newb x3 #[.int .i64 0, .int .i64 0, .int .u64 0] 27
          rw [hx, hg]
          clear hx hg
          have hA4 := Aside0.mk (hA3.out.below hB)
          have hs4 := hB.size
          have n13_4 := Aside0.mk (blk_below n13_3.out hB)
          have n14_4 := Aside0.mk (blk_below n14_3.out hB)
          have hvf4 := Aside0.mk (Kd.R_below hvf3.out hB)
          have hvt4 := Aside0.mk (Kd.R_below hvt3.out hB)
          clear hB
          refine hK.out _ _ (held18 hA4.out.P hA4.out.S) (fun hHeld => ?_)
          clear hK K
          refine norm_ (a' := ?_) ?_ ?_
          rotate_left
          · show Act.put _ (some 32) _ = _; simp only [Act.put, setIfInBounds_toArray, set_cons_zero, set_cons_succ, i64_w, i32_w]; rfl
          exact norm_ (by simp only [putAll, Act.put, setIfInBounds_toArray, set_cons_zero, set_cons_succ]) (hCont ((Af, cf, At, ct), (g13, g14, g15)) _ (hA4.out.mkF (g0 := g13) (g1 := g14) (g2 := g15) n13_4.out n14_4.out n15_4.out hvf4.out hvt4.out (by omega) (okC (by omega)) (okC (by omega))))
        skip
        have hvf2 := Aside0.mk (Kd.R_mono (Kd.R_bound hvf2.out) (fun _ h => h.2.2.1))
        have hvt2 := Aside0.mk (Kd.R_mono (Kd.R_bound hvt2.out) (fun _ h => h.2.2.1))
        refine value_ (w1 := ?_) (v := ?_) (by rfl) rfl ?_ ?_
        rotate_left 2
        · go_simp
          constructor
          · rfl
          rfl
        obtain ⟨g15, x3, hx, hg, hB, n15_3, hga15, hgb15⟩ := newb x2 #[.int .i64 0, .int .i64 0, .int .u64 0] 27
        rw [hx, hg]
        clear hx hg
        have hA3 := Aside0.mk (hA2.out.below hB)
        have hs3 := hB.size
        have n13_3 := Aside0.mk (blk_below n13_2.out hB)
        have hvf3 := Aside0.mk (Kd.R_below hvf2.out hB)
        have hvt3 := Aside0.mk (Kd.R_below hvt2.out hB)
        clear hB
        refine hK.out _ _ (held18 hA3.out.P hA3.out.S) (fun hHeld => ?_)
        clear hK K
        refine norm_ (a' := ?_) ?_ ?_
        rotate_left
        · show Act.put _ (some 32) _ = _; simp only [Act.put, setIfInBounds_toArray, set_cons_zero, set_cons_succ, i64_w, i32_w]; rfl
        refine one_ (i := 14) (N := some 31) #[true,true,true,true,true,true,true,true,true,true,true,true,true,true,true,true,false,false,false,false] rfl rfl (by kernel_rfl) (by decide) (fun K hK => ?_)
        refine value_ (w1 := ?_) (v := ?_) (by rfl) rfl ?_ ?_
        rotate_left 2
        · go_simp
          constructor
          · rfl
          rfl
        obtain ⟨g14, x4, hx, hg, hB, n14_4, hga14, hgb14⟩ := newb x3 #[.slice none 0 0, .bool false, .int .i64 0, .int .i64 0, .int .u64 0] 29
        rw [hx, hg]
        clear hx hg
        have hA4 := Aside0.mk (hA3.out.below hB)
        have hs4 := hB.size
        have n13_4 := Aside0.mk (blk_below n13_3.out hB)
        have n15_4 := Aside0.mk (blk_below n15_3.out hB)
        have hvf4 := Aside0.mk (Kd.R_below hvf3.out hB)
        have hvt4 := Aside0.mk (Kd.R_below hvt3.out hB)
        clear hB
        refine hK.out _ _ (held18 hA4.out.P hA4.out.S) (fun hHeld => ?_)
        clear hK K
        refine norm_ (a' := ?_) ?_ ?_
        rotate_left
        · show Act.put _ (some 31) _ = _; simp only [Act.put, setIfInBounds_toArray, set_cons_zero, set_cons_succ, i64_w, i32_w]; rfl
        exact norm_ (by simp only [putAll, Act.put, setIfInBounds_toArray, set_cons_zero, set_cons_succ]) (hCont ((Af, cf, At, ct), (g13, g14, g15)) _ (hA4.out.mkF (g0 := g13) (g1 := g14) (g2 := g15) n13_4.out n14_4.out n15_4.out hvf4.out hvt4.out (by omega) (okC (by omega)) (okC (by omega))))
      · skip
        refine value_ (w1 := ?_) (v := ?_) (by rfl) rfl ?_ ?_
        rotate_left 2
        · go_simp
          constructor
          · rfl
          rfl
        obtain ⟨g14, x2, hx, hg, hB, n14_2, hga14, hgb14⟩ := newb x1 #[.slice none 0 0, .bool false, .int .i64 0, .int .i64 0, .int .u64 0] 29
        rw [hx, hg]
        clear hx hg
        have hA2 := Aside0.mk (hA1.out.below hB)
        have hs2 := hB.size
        have hvf2 := Aside0.mk (Kd.R_below hvf1.out hB)
        have hvt2 := Aside0.mk (Kd.R_below hvt1.out hB)
        clear hB
        refine hK.out _ _ (held18 hA2.out.P hA2.out.S) (fun hHeld => ?_)
        clear hK K
        refine norm_ (a' := ?_) ?_ ?_
        rotate_left
        · show Act.put _ (some 31) _ = _; simp only [Act.put, setIfInBounds_toArray, set_cons_zero, set_cons_succ, i64_w, i32_w]; rfl
        refine two_ (i := 13) (j := 15) (Ni := some 30) (Nj := some 32) #[true,true,true,true,true,true,true,true,true,true,true,true,true,true,true,false,false,false,false,false] #[true,true,true,true,true,true,true,true,true,true,true,true,true,false,true,true,false,false,false,false] rfl rfl rfl rfl (by kernel_rfl) (by decide) (by decide) (fun K hK => ?_) (fun K hK => ?_)
        · skip
          refine value_ (w1 := ?_) (v := ?_) (by rfl) rfl ?_ ?_
          rotate_left 2
          · go_simp
            constructor
            · rfl
            rfl
          obtain ⟨g13, x3, hx, hg, hB, n13_3, hga13, hgb13⟩ := newb x2 #[.slice none 0 0, .bool false, .int .i64 0, .int .i64 0, .int .u64 0] 29
          rw [hx, hg]
          clear hx hg
          have hA3 := Aside0.mk (hA2.out.below hB)
          have hs3 := hB.size
          have n14_3 := Aside0.mk (blk_below n14_2.out hB)
          have hvf3 := Aside0.mk (Kd.R_below hvf2.out hB)
          have hvt3 := Aside0.mk (Kd.R_below hvt2.out hB)
          clear hB
          refine hK.out _ _ (held18 hA3.out.P hA3.out.S) (fun hHeld => ?_)
          clear hK K
          refine norm_ (a' := ?_) ?_ ?_
          rotate_left
          · show Act.put _ (some 30) _ = _; simp only [Act.put, setIfInBounds_toArray, set_cons_zero, set_cons_succ, i64_w, i32_w]; rfl
          refine one_ (i := 15) (N := some 32) #[true,true,true,true,true,true,true,true,true,true,true,true,true,true,true,true,false,false,false,false] rfl rfl (by kernel_rfl) (by decide) (fun K hK => ?_)
          have hvf3 := Aside0.mk (Kd.R_mono (Kd.R_bound hvf3.out) (fun _ h => h.2.2.1))
          have hvt3 := Aside0.mk (Kd.R_mono (Kd.R_bound hvt3.out) (fun _ h => h.2.2.1))
          refine value_ (w1 := ?_) (v := ?_) (by rfl) rfl ?_ ?_
          rotate_left 2
          · go_simp
            constructor
            · rfl
            rfl
          obtain ⟨g15, x4, hx, hg, hB, n15_4, hga15, hgb15⟩ := newb x3 #[.int .i64 0, .int .i64 0, .int .u64 0] 27
          rw [hx, hg]
          clear hx hg
          have hA4 := Aside0.mk (hA3.out.below hB)
          have hs4 := hB.size
          have n14_4 := Aside0.mk (blk_below n14_3.out hB)
          have n13_4 := Aside0.mk (blk_below n13_3.out hB)
          have hvf4 := Aside0.mk (Kd.R_below hvf3.out hB)
          have hvt4 := Aside0.mk (Kd.R_below hvt3.out hB)
          clear hB
          refine hK.out _ _ (held18 hA4.out.P hA4.out.S) (fun hHeld => ?_)
          clear hK K
          refine norm_ (a' := ?_) ?_ ?_
          rotate_left
          · show Act.put _ (some 32) _ = _; simp only [Act.put, setIfInBounds_toArray, set_cons_zero, set_cons_succ, i64_w, i32_w]; rfl
          exact norm_ (by simp only [putAll, Act.put, setIfInBounds_toArray, set_cons_zero, set_cons_succ]) (hCont ((Af, cf, At, ct), (g13, g14, g15)) _ (hA4.out.mkF (g0 := g13) (g1 := g14) (g2 := g15) n13_4.out n14_4.out n15_4.out hvf4.out hvt4.out (by omega) (okC (by omega)) (okC (by omega))))
        skip
        have hvf2 := Aside0.mk (Kd.R_mono (Kd.R_bound hvf2.out) (fun _ h => h.2.2.1))
        have hvt2 := Aside0.mk (Kd.R_mono (Kd.R_bound hvt2.out) (fun _ h => h.2.2.1))
        refine value_ (w1 := ?_) (v := ?_) (by rfl) rfl ?_ ?_
        rotate_left 2
        · go_simp
          constructor
          · rfl
          rfl
        obtain ⟨g15, x3, hx, hg, hB, n15_3, hga15, hgb15⟩ := newb x2 #[.int .i64 0, .int .i64 0, .int .u64 0] 27
        rw [hx, hg]
        clear hx hg
        have hA3 := Aside0.mk (hA2.out.below hB)
        have hs3 := hB.size
        have n14_3 := Aside0.mk (blk_below n14_2.out hB)
        have hvf3 := Aside0.mk (Kd.R_below hvf2.out hB)
        have hvt3 := Aside0.mk (Kd.R_below hvt2.out hB)
        clear hB
        refine hK.out _ _ (held18 hA3.out.P hA3.out.S) (fun hHeld => ?_)
        clear hK K
        refine norm_ (a' := ?_) ?_ ?_
        rotate_left
        · show Act.put _ (some 32) _ = _; simp only [Act.put, setIfInBounds_toArray, set_cons_zero, set_cons_succ, i64_w, i32_w]; rfl
        refine one_ (i := 13) (N := some 30) #[true,true,true,true,true,true,true,true,true,true,true,true,true,true,true,true,false,false,false,false] rfl rfl (by kernel_rfl) (by decide) (fun K hK => ?_)
        refine value_ (w1 := ?_) (v := ?_) (by rfl) rfl ?_ ?_
        rotate_left 2
        · go_simp
          constructor
          · rfl
          rfl
        obtain ⟨g13, x4, hx, hg, hB, n13_4, hga13, hgb13⟩ := newb x3 #[.slice none 0 0, .bool false, .int .i64 0, .int .i64 0, .int .u64 0] 29
        rw [hx, hg]
        clear hx hg
        have hA4 := Aside0.mk (hA3.out.below hB)
        have hs4 := hB.size
        have n14_4 := Aside0.mk (blk_below n14_3.out hB)
        have n15_4 := Aside0.mk (blk_below n15_3.out hB)
        have hvf4 := Aside0.mk (Kd.R_below hvf3.out hB)
        have hvt4 := Aside0.mk (Kd.R_below hvt3.out hB)
        clear hB
        refine hK.out _ _ (held18 hA4.out.P hA4.out.S) (fun hHeld => ?_)
        clear hK K
        refine norm_ (a' := ?_) ?_ ?_
        rotate_left
        · show Act.put _ (some 30) _ = _; simp only [Act.put, setIfInBounds_toArray, set_cons_zero, set_cons_succ, i64_w, i32_w]; rfl
        exact norm_ (by simp only [putAll, Act.put, setIfInBounds_toArray, set_cons_zero, set_cons_succ]) (hCont ((Af, cf, At, ct), (g13, g14, g15)) _ (hA4.out.mkF (g0 := g13) (g1 := g14) (g2 := g15) n13_4.out n14_4.out n15_4.out hvf4.out hvt4.out (by omega) (okC (by omega)) (okC (by omega))))
      skip
      have hvf1 := Aside0.mk (Kd.R_mono (Kd.R_bound hvf1.out) (fun _ h => h.2.2.1))
      have hvt1 := Aside0.mk (Kd.R_mono (Kd.R_bound hvt1.out) (fun _ h => h.2.2.1))
      refine value_ (w1 := ?_) (v := ?_) (by rfl) rfl ?_ ?_
      rotate_left 2
      · go_simp
        constructor
        · rfl
        rfl
      obtain ⟨g15, x2, hx, hg, hB, n15_2, hga15, hgb15⟩ := newb x1 #[.int .i64 0, .int .i64 0, .int .u64 0] 27
      rw [hx, hg]
      clear hx hg
      have hA2 := Aside0.mk (hA1.out.below hB)
      have hs2 := hB.size
      have hvf2 := Aside0.mk (Kd.R_below hvf1.out hB)
      have hvt2 := Aside0.mk (Kd.R_below hvt1.out hB)
      clear hB
      refine hK.out _ _ (held18 hA2.out.P hA2.out.S) (fun hHeld => ?_)
      clear hK K
      refine norm_ (a' := ?_) ?_ ?_
      rotate_left
      · show Act.put _ (some 32) _ = _; simp only [Act.put, setIfInBounds_toArray, set_cons_zero, set_cons_succ, i64_w, i32_w]; rfl
      refine two_ (i := 13) (j := 14) (Ni := some 30) (Nj := some 31) #[true,true,true,true,true,true,true,true,true,true,true,true,true,true,false,true,false,false,false,false] #[true,true,true,true,true,true,true,true,true,true,true,true,true,false,true,true,false,false,false,false] rfl rfl rfl rfl (by kernel_rfl) (by decide) (by decide) (fun K hK => ?_) (fun K hK => ?_)
      · skip
        refine value_ (w1 := ?_) (v := ?_) (by rfl) rfl ?_ ?_
        rotate_left 2
        · go_simp
          constructor
          · rfl
          rfl
        obtain ⟨g13, x3, hx, hg, hB, n13_3, hga13, hgb13⟩ := newb x2 #[.slice none 0 0, .bool false, .int .i64 0, .int .i64 0, .int .u64 0] 29
        rw [hx, hg]
        clear hx hg
        have hA3 := Aside0.mk (hA2.out.below hB)
        have hs3 := hB.size
        have n15_3 := Aside0.mk (blk_below n15_2.out hB)
        have hvf3 := Aside0.mk (Kd.R_below hvf2.out hB)
        have hvt3 := Aside0.mk (Kd.R_below hvt2.out hB)
        clear hB
        refine hK.out _ _ (held18 hA3.out.P hA3.out.S) (fun hHeld => ?_)
        clear hK K
        refine norm_ (a' := ?_) ?_ ?_
        rotate_left
        · show Act.put _ (some 30) _ = _; simp only [Act.put, setIfInBounds_toArray, set_cons_zero, set_cons_succ, i64_w, i32_w]; rfl
        refine one_ (i := 14) (N := some 31) #[true,true,true,true,true,true,true,true,true,true,true,true,true,true,true,true,false,false,false,false] rfl rfl (by kernel_rfl) (by decide) (fun K hK => ?_)
        refine value_ (w1 := ?_) (v := ?_) (by rfl) rfl ?_ ?_
        rotate_left 2
        · go_simp
          constructor
          · rfl
          rfl
        obtain ⟨g14, x4, hx, hg, hB, n14_4, hga14, hgb14⟩ := newb x3 #[.slice none 0 0, .bool false, .int .i64 0, .int .i64 0, .int .u64 0] 29
        rw [hx, hg]
        clear hx hg
        have hA4 := Aside0.mk (hA3.out.below hB)
        have hs4 := hB.size
        have n15_4 := Aside0.mk (blk_below n15_3.out hB)
        have n13_4 := Aside0.mk (blk_below n13_3.out hB)
        have hvf4 := Aside0.mk (Kd.R_below hvf3.out hB)
        have hvt4 := Aside0.mk (Kd.R_below hvt3.out hB)
        clear hB
        refine hK.out _ _ (held18 hA4.out.P hA4.out.S) (fun hHeld => ?_)
        clear hK K
        refine norm_ (a' := ?_) ?_ ?_
        rotate_left
        · show Act.put _ (some 31) _ = _; simp only [Act.put, setIfInBounds_toArray, set_cons_zero, set_cons_succ, i64_w, i32_w]; rfl
        exact norm_ (by simp only [putAll, Act.put, setIfInBounds_toArray, set_cons_zero, set_cons_succ]) (hCont ((Af, cf, At, ct), (g13, g14, g15)) _ (hA4.out.mkF (g0 := g13) (g1 := g14) (g2 := g15) n13_4.out n14_4.out n15_4.out hvf4.out hvt4.out (by omega) (okC (by omega)) (okC (by omega))))
      skip
      refine value_ (w1 := ?_) (v := ?_) (by rfl) rfl ?_ ?_
      rotate_left 2
      · go_simp
        constructor
        · rfl
        rfl
      obtain ⟨g14, x3, hx, hg, hB, n14_3, hga14, hgb14⟩ := newb x2 #[.slice none 0 0, .bool false, .int .i64 0, .int .i64 0, .int .u64 0] 29
      rw [hx, hg]
      clear hx hg
      have hA3 := Aside0.mk (hA2.out.below hB)
      have hs3 := hB.size
      have n15_3 := Aside0.mk (blk_below n15_2.out hB)
      have hvf3 := Aside0.mk (Kd.R_below hvf2.out hB)
      have hvt3 := Aside0.mk (Kd.R_below hvt2.out hB)
      clear hB
      refine hK.out _ _ (held18 hA3.out.P hA3.out.S) (fun hHeld => ?_)
      clear hK K
      refine norm_ (a' := ?_) ?_ ?_
      rotate_left
      · show Act.put _ (some 31) _ = _; simp only [Act.put, setIfInBounds_toArray, set_cons_zero, set_cons_succ, i64_w, i32_w]; rfl
      refine one_ (i := 13) (N := some 30) #[true,true,true,true,true,true,true,true,true,true,true,true,true,true,true,true,false,false,false,false] rfl rfl (by kernel_rfl) (by decide) (fun K hK => ?_)
      refine value_ (w1 := ?_) (v := ?_) (by rfl) rfl ?_ ?_
      rotate_left 2
      · go_simp
        constructor
        · rfl
        rfl
      obtain ⟨g13, x4, hx, hg, hB, n13_4, hga13, hgb13⟩ := newb x3 #[.slice none 0 0, .bool false, .int .i64 0, .int .i64 0, .int .u64 0] 29
      rw [hx, hg]
      clear hx hg
      have hA4 := Aside0.mk (hA3.out.below hB)
      have hs4 := hB.size
      have n15_4 := Aside0.mk (blk_below n15_3.out hB)
      have n14_4 := Aside0.mk (blk_below n14_3.out hB)
      have hvf4 := Aside0.mk (Kd.R_below hvf3.out hB)
      have hvt4 := Aside0.mk (Kd.R_below hvt3.out hB)
      clear hB
      refine hK.out _ _ (held18 hA4.out.P hA4.out.S) (fun hHeld => ?_)
      clear hK K
      refine norm_ (a' := ?_) ?_ ?_
      rotate_left
      · show Act.put _ (some 30) _ = _; simp only [Act.put, setIfInBounds_toArray, set_cons_zero, set_cons_succ, i64_w, i32_w]; rfl
      exact norm_ (by simp only [putAll, Act.put, setIfInBounds_toArray, set_cons_zero, set_cons_succ]) (hCont ((Af, cf, At, ct), (g13, g14, g15)) _ (hA4.out.mkF (g0 := g13) (g1 := g14) (g2 := g15) n13_4.out n14_4.out n15_4.out hvf4.out hvt4.out (by omega) (okC (by omega)) (okC (by omega))))
    · skip
      refine value_ (w1 := ?_) (v := ?_) (by rfl) rfl ?_ ?_
      rotate_left 2
      · go_simp
        constructor
        · rfl
        rfl
      obtain ⟨g13, x1, hx, hg, hB, n13_1, hga13, hgb13⟩ := newb x0 #[.slice none 0 0, .bool false, .int .i64 0, .int .i64 0, .int .u64 0] 29
      rw [hx, hg]
      clear hx hg
      have hA1 := Aside0.mk (hA0.out.below hB)
      have hs1 := hB.size
      clear hB
      refine hK.out _ _ (held18 hA1.out.P hA1.out.S) (fun hHeld => ?_)
      clear hK K
      refine norm_ (a' := ?_) ?_ ?_
      rotate_left
      · show Act.put _ (some 30) _ = _; simp only [Act.put, setIfInBounds_toArray, set_cons_zero, set_cons_succ, i64_w, i32_w]; rfl
      refine three_ (i := 7) (j := 14) (k := 15) (Ni := some 194) (Nj := some 31) (Nk := some 32) #[true,true,true,true,true,true,true,true,false,false,false,false,false,true,false,false,false,false,false,false] #[true,true,true,true,true,true,true,false,false,false,false,false,false,true,true,false,false,false,false,false] #[true,true,true,true,true,true,true,false,false,false,false,false,false,true,false,true,false,false,false,false] rfl rfl rfl rfl rfl rfl (by kernel_rfl) (by decide) (by decide) (by decide) (fun K hK => ?_) (fun K hK => ?_) (fun K hK => ?_)
      · skip
        refine goes_ Try.func44 (by kernel_rfl) rfl #[.agg #[.slice Ao ro.l.length co, .bool ro.has, .int .i64 ro.nx.s, .int .i64 ro.nx.g, .int .u64 ro.nx.t], .agg #[.slice Am rm.l.length cm, .bool rm.has, .int .i64 rm.nx.s, .int .i64 rm.nx.g, .int .u64 rm.nx.t]] (by rfl) rfl rfl (by simp only [List.map_toArray, List.map_cons, List.map_nil]; rfl) ?_
        with_reducible refine (HST.out x0.heap.size x1 hA1.out.o hA1.out.m (by omega)).mono ?_
        rintro e x2 ⟨vf, vt, rfl, hvf, hvt, hB⟩
        refine ⟨_, rfl, ?_⟩
        obtain ⟨Af, cf, rfl, -, -⟩ := Kd.R_reads hvf
        obtain ⟨At, ct, rfl, -, -⟩ := Kd.R_reads hvt
        have hA2 := Aside0.mk (hA1.out.below hB)
        have hs2 := hB.size
        have n13_2 := Aside0.mk (blk_below n13_1.out hB)
        have hvf2 := Aside0.mk hvf
        have hvt2 := Aside0.mk hvt
        clear hvf hvt hB
        refine hK.out _ _ (held18 hA2.out.P hA2.out.S) (fun hHeld => ?_)
        clear hK K
        refine norm_ (a' := ?_) ?_ ?_
        rotate_left
        · show Act.put _ (some 194) _ = _; simp only [Act.put, setIfInBounds_toArray, set_cons_zero, set_cons_succ, i64_w, i32_w]; rfl
        refine pure_ (i := 8) (N := some 186) (v := ?_) (a' := ?_) #[true,true,true,true,true,true,true,true,true,false,false,false,false,true,false,false,false,false,false,false] rfl rfl (by kernel_rfl) (fun _ _ _ h => h) (Or.inl ⟨by rfl, ?_⟩) ?_ ?_
        rotate_left
        · intro w'; go_simp; with_reducible rfl
        rotate_left
        · simp only [Act.put, setIfInBounds_toArray, set_cons_zero, set_cons_succ, i64_w, i32_w]; rfl
        refine pure_ (i := 9) (N := some 195) (v := ?_) (a' := ?_) #[true,true,true,true,true,true,true,true,true,true,false,false,false,true,false,false,false,false,false,false] rfl rfl (by kernel_rfl) (fun _ _ _ h => h) (Or.inl ⟨by rfl, ?_⟩) ?_ ?_
        rotate_left
        · intro w'; go_simp; with_reducible rfl
        rotate_left
        · simp only [Act.put, setIfInBounds_toArray, set_cons_zero, set_cons_succ, i64_w, i32_w]; rfl
        refine pure_ (i := 10) (N := some 196) (v := ?_) (a' := ?_) #[true,true,true,true,true,true,true,true,true,true,true,false,false,true,false,false,false,false,false,false] rfl rfl (by kernel_rfl) (fun _ _ _ h => h) (Or.inl ⟨by rfl, ?_⟩) ?_ ?_
        rotate_left
        · intro w'; go_simp; with_reducible rfl
        rotate_left
        · simp only [Act.put, setIfInBounds_toArray, set_cons_zero, set_cons_succ, i64_w, i32_w]; rfl
        refine pure_ (i := 11) (N := some 197) (v := ?_) (a' := ?_) #[true,true,true,true,true,true,true,true,true,true,true,true,false,true,false,false,false,false,false,false] rfl rfl (by kernel_rfl) (fun _ _ _ h => h) (Or.inl ⟨by rfl, ?_⟩) ?_ ?_
        rotate_left
        · intro w'; go_simp; with_reducible rfl
        rotate_left
        · simp only [Act.put, setIfInBounds_toArray, set_cons_zero, set_cons_succ, i64_w, i32_w]; rfl
        refine pure_ (i := 12) (N := some 198) (v := ?_) (a' := ?_) #[true,true,true,true,true,true,true,true,true,true,true,true,true,true,false,false,false,false,false,false] rfl rfl (by kernel_rfl) (fun _ _ _ h => h) (Or.inl ⟨by rfl, ?_⟩) ?_ ?_
        rotate_left
        · intro w'; go_simp; with_reducible rfl
        rotate_left
        · simp only [Act.put, setIfInBounds_toArray, set_cons_zero, set_cons_succ, i64_w, i32_w]; rfl
        refine two_ (i := 14) (j := 15) (Ni := some 31) (Nj := some 32) #[true,true,true,true,true,true,true,true,true,true,true,true,true,true,true,false,false,false,false,false] #[true,true,true,true,true,true,true,true,true,true,true,true,true,true,false,true,false,false,false,false] rfl rfl rfl rfl (by kernel_rfl) (by decide) (by decide) (fun K hK => ?_) (fun K hK => ?_)
        · skip
          refine value_ (w1 := ?_) (v := ?_) (by rfl) rfl ?_ ?_
          rotate_left 2
          · go_simp
            constructor
            · rfl
            rfl
          obtain ⟨g14, x3, hx, hg, hB, n14_3, hga14, hgb14⟩ := newb x2 #[.slice none 0 0, .bool false, .int .i64 0, .int .i64 0, .int .u64 0] 29
          rw [hx, hg]
          clear hx hg
          have hA3 := Aside0.mk (hA2.out.below hB)
          have hs3 := hB.size
          have n13_3 := Aside0.mk (blk_below n13_2.out hB)
          have hvf3 := Aside0.mk (Kd.R_below hvf2.out hB)
          have hvt3 := Aside0.mk (Kd.R_below hvt2.out hB)
          clear hB
          refine hK.out _ _ (held18 hA3.out.P hA3.out.S) (fun hHeld => ?_)
          clear hK K
          refine norm_ (a' := ?_) ?_ ?_
          rotate_left
          · show Act.put _ (some 31) _ = _; simp only [Act.put, setIfInBounds_toArray, set_cons_zero, set_cons_succ, i64_w, i32_w]; rfl
          refine one_ (i := 15) (N := some 32) #[true,true,true,true,true,true,true,true,true,true,true,true,true,true,true,true,false,false,false,false] rfl rfl (by kernel_rfl) (by decide) (fun K hK => ?_)
          have hvf3 := Aside0.mk (Kd.R_mono (Kd.R_bound hvf3.out) (fun _ h => h.2.2.1))
          have hvt3 := Aside0.mk (Kd.R_mono (Kd.R_bound hvt3.out) (fun _ h => h.2.2.1))
          refine value_ (w1 := ?_) (v := ?_) (by rfl) rfl ?_ ?_
          rotate_left 2
          · go_simp
            constructor
            · rfl
            rfl
          obtain ⟨g15, x4, hx, hg, hB, n15_4, hga15, hgb15⟩ := newb x3 #[.int .i64 0, .int .i64 0, .int .u64 0] 27
          rw [hx, hg]
          clear hx hg
          have hA4 := Aside0.mk (hA3.out.below hB)
          have hs4 := hB.size
          have n13_4 := Aside0.mk (blk_below n13_3.out hB)
          have n14_4 := Aside0.mk (blk_below n14_3.out hB)
          have hvf4 := Aside0.mk (Kd.R_below hvf3.out hB)
          have hvt4 := Aside0.mk (Kd.R_below hvt3.out hB)
          clear hB
          refine hK.out _ _ (held18 hA4.out.P hA4.out.S) (fun hHeld => ?_)
          clear hK K
          refine norm_ (a' := ?_) ?_ ?_
          rotate_left
          · show Act.put _ (some 32) _ = _; simp only [Act.put, setIfInBounds_toArray, set_cons_zero, set_cons_succ, i64_w, i32_w]; rfl
          exact norm_ (by simp only [putAll, Act.put, setIfInBounds_toArray, set_cons_zero, set_cons_succ]) (hCont ((Af, cf, At, ct), (g13, g14, g15)) _ (hA4.out.mkF (g0 := g13) (g1 := g14) (g2 := g15) n13_4.out n14_4.out n15_4.out hvf4.out hvt4.out (by omega) (okC (by omega)) (okC (by omega))))
        skip
        have hvf2 := Aside0.mk (Kd.R_mono (Kd.R_bound hvf2.out) (fun _ h => h.2.2.1))
        have hvt2 := Aside0.mk (Kd.R_mono (Kd.R_bound hvt2.out) (fun _ h => h.2.2.1))
        refine value_ (w1 := ?_) (v := ?_) (by rfl) rfl ?_ ?_
        rotate_left 2
        · go_simp
          constructor
          · rfl
          rfl
        obtain ⟨g15, x3, hx, hg, hB, n15_3, hga15, hgb15⟩ := newb x2 #[.int .i64 0, .int .i64 0, .int .u64 0] 27
        rw [hx, hg]
        clear hx hg
        have hA3 := Aside0.mk (hA2.out.below hB)
        have hs3 := hB.size
        have n13_3 := Aside0.mk (blk_below n13_2.out hB)
        have hvf3 := Aside0.mk (Kd.R_below hvf2.out hB)
        have hvt3 := Aside0.mk (Kd.R_below hvt2.out hB)
        clear hB
        refine hK.out _ _ (held18 hA3.out.P hA3.out.S) (fun hHeld => ?_)
        clear hK K
        refine norm_ (a' := ?_) ?_ ?_
        rotate_left
        · show Act.put _ (some 32) _ = _; simp only [Act.put, setIfInBounds_toArray, set_cons_zero, set_cons_succ, i64_w, i32_w]; rfl
        refine one_ (i := 14) (N := some 31) #[true,true,true,true,true,true,true,true,true,true,true,true,true,true,true,true,false,false,false,false] rfl rfl (by kernel_rfl) (by decide) (fun K hK => ?_)
        refine value_ (w1 := ?_) (v := ?_) (by rfl) rfl ?_ ?_
        rotate_left 2
        · go_simp
          constructor
          · rfl
          rfl
        obtain ⟨g14, x4, hx, hg, hB, n14_4, hga14, hgb14⟩ := newb x3 #[.slice none 0 0, .bool false, .int .i64 0, .int .i64 0, .int .u64 0] 29
        rw [hx, hg]
        clear hx hg
        have hA4 := Aside0.mk (hA3.out.below hB)
        have hs4 := hB.size
        have n13_4 := Aside0.mk (blk_below n13_3.out hB)
        have n15_4 := Aside0.mk (blk_below n15_3.out hB)
        have hvf4 := Aside0.mk (Kd.R_below hvf3.out hB)
        have hvt4 := Aside0.mk (Kd.R_below hvt3.out hB)
        clear hB
        refine hK.out _ _ (held18 hA4.out.P hA4.out.S) (fun hHeld => ?_)
        clear hK K
        refine norm_ (a' := ?_) ?_ ?_
        rotate_left
        · show Act.put _ (some 31) _ = _; simp only [Act.put, setIfInBounds_toArray, set_cons_zero, set_cons_succ, i64_w, i32_w]; rfl
        exact norm_ (by simp only [putAll, Act.put, setIfInBounds_toArray, set_cons_zero, set_cons_succ]) (hCont ((Af, cf, At, ct), (g13, g14, g15)) _ (hA4.out.mkF (g0 := g13) (g1 := g14) (g2 := g15) n13_4.out n14_4.out n15_4.out hvf4.out hvt4.out (by omega) (okC (by omega)) (okC (by omega))))
      · skip
        refine value_ (w1 := ?_) (v := ?_) (by rfl) rfl ?_ ?_
        rotate_left 2
        · go_simp
          constructor
          · rfl
          rfl
        obtain ⟨g14, x2, hx, hg, hB, n14_2, hga14, hgb14⟩ := newb x1 #[.slice none 0 0, .bool false, .int .i64 0, .int .i64 0, .int .u64 0] 29
        rw [hx, hg]
        clear hx hg
        have hA2 := Aside0.mk (hA1.out.below hB)
        have hs2 := hB.size
        have n13_2 := Aside0.mk (blk_below n13_1.out hB)
        clear hB
        refine hK.out _ _ (held18 hA2.out.P hA2.out.S) (fun hHeld => ?_)
        clear hK K
        refine norm_ (a' := ?_) ?_ ?_
        rotate_left
        · show Act.put _ (some 31) _ = _; simp only [Act.put, setIfInBounds_toArray, set_cons_zero, set_cons_succ, i64_w, i32_w]; rfl
        refine two_ (i := 7) (j := 15) (Ni := some 194) (Nj := some 32) #[true,true,true,true,true,true,true,true,false,false,false,false,false,true,true,false,false,false,false,false] #[true,true,true,true,true,true,true,false,false,false,false,false,false,true,true,true,false,false,false,false] rfl rfl rfl rfl (by kernel_rfl) (by decide) (by decide) (fun K hK => ?_) (fun K hK => ?_)
        · skip
          refine goes_ Try.func44 (by kernel_rfl) rfl #[.agg #[.slice Ao ro.l.length co, .bool ro.has, .int .i64 ro.nx.s, .int .i64 ro.nx.g, .int .u64 ro.nx.t], .agg #[.slice Am rm.l.length cm, .bool rm.has, .int .i64 rm.nx.s, .int .i64 rm.nx.g, .int .u64 rm.nx.t]] (by rfl) rfl rfl (by simp only [List.map_toArray, List.map_cons, List.map_nil]; rfl) ?_
          with_reducible refine (HST.out x0.heap.size x2 hA2.out.o hA2.out.m (by omega)).mono ?_
          rintro e x3 ⟨vf, vt, rfl, hvf, hvt, hB⟩
          refine ⟨_, rfl, ?_⟩
          obtain ⟨Af, cf, rfl, -, -⟩ := Kd.R_reads hvf
          obtain ⟨At, ct, rfl, -, -⟩ := Kd.R_reads hvt
          have hA3 := Aside0.mk (hA2.out.below hB)
          have hs3 := hB.size
          have n13_3 := Aside0.mk (blk_below n13_2.out hB)
          have n14_3 := Aside0.mk (blk_below n14_2.out hB)
          have hvf3 := Aside0.mk hvf
          have hvt3 := Aside0.mk hvt
          clear hvf hvt hB
          refine hK.out _ _ (held18 hA3.out.P hA3.out.S) (fun hHeld => ?_)
          clear hK K
          refine norm_ (a' := ?_) ?_ ?_
          rotate_left
          · show Act.put _ (some 194) _ = _; simp only [Act.put, setIfInBounds_toArray, set_cons_zero, set_cons_succ, i64_w, i32_w]; rfl
          refine pure_ (i := 8) (N := some 186) (v := ?_) (a' := ?_) #[true,true,true,true,true,true,true,true,true,false,false,false,false,true,true,false,false,false,false,false] rfl rfl (by kernel_rfl) (fun _ _ _ h => h) (Or.inl ⟨by rfl, ?_⟩) ?_ ?_
          rotate_left
          · intro w'; go_simp; with_reducible rfl
          rotate_left
          · simp only [Act.put, setIfInBounds_toArray, set_cons_zero, set_cons_succ, i64_w, i32_w]; rfl
          refine pure_ (i := 9) (N := some 195) (v := ?_) (a' := ?_) #[true,true,true,true,true,true,true,true,true,true,false,false,false,true,true,false,false,false,false,false] rfl rfl (by kernel_rfl) (fun _ _ _ h => h) (Or.inl ⟨by rfl, ?_⟩) ?_ ?_
          rotate_left
          · intro w'; go_simp; with_reducible rfl
          rotate_left
          · simp only [Act.put, setIfInBounds_toArray, set_cons_zero, set_cons_succ, i64_w, i32_w]; rfl
          refine pure_ (i := 10) (N := some 196) (v := ?_) (a' := ?_) #[true,true,true,true,true,true,true,true,true,true,true,false,false,true,true,false,false,false,false,false] rfl rfl (by kernel_rfl) (fun _ _ _ h => h) (Or.inl ⟨by rfl, ?_⟩) ?_ ?_
          rotate_left
          · intro w'; go_simp; with_reducible rfl
          rotate_left
          · simp only [Act.put, setIfInBounds_toArray, set_cons_zero, set_cons_succ, i64_w, i32_w]; rfl
          refine pure_ (i := 11) (N := some 197) (v := ?_) (a' := ?_) #[true,true,true,true,true,true,true,true,true,true,true,true,false,true,true,false,false,false,false,false] rfl rfl (by kernel_rfl) (fun _ _ _ h => h) (Or.inl ⟨by rfl, ?_⟩) ?_ ?_
          rotate_left
          · intro w'; go_simp; with_reducible rfl
          rotate_left
          · simp only [Act.put, setIfInBounds_toArray, set_cons_zero, set_cons_succ, i64_w, i32_w]; rfl
          refine pure_ (i := 12) (N := some 198) (v := ?_) (a' := ?_) #[true,true,true,true,true,true,true,true,true,true,true,true,true,true,true,false,false,false,false,false] rfl rfl (by kernel_rfl) (fun _ _ _ h => h) (Or.inl ⟨by rfl, ?_⟩) ?_ ?_
          rotate_left
          · intro w'; go_simp; with_reducible rfl
          rotate_left
          · simp only [Act.put, setIfInBounds_toArray, set_cons_zero, set_cons_succ, i64_w, i32_w]; rfl
          refine one_ (i := 15) (N := some 32) #[true,true,true,true,true,true,true,true,true,true,true,true,true,true,true,true,false,false,false,false] rfl rfl (by kernel_rfl) (by decide) (fun K hK => ?_)
          have hvf3 := Aside0.mk (Kd.R_mono (Kd.R_bound hvf3.out) (fun _ h => h.2.2.1))
          have hvt3 := Aside0.mk (Kd.R_mono (Kd.R_bound hvt3.out) (fun _ h => h.2.2.1))
          refine value_ (w1 := ?_) (v := ?_) (by rfl) rfl ?_ ?_
          rotate_left 2
          · go_simp
            constructor
            · rfl
            rfl
          obtain ⟨g15, x4, hx, hg, hB, n15_4, hga15, hgb15⟩ := newb x3 #[.int .i64 0, .int .i64 0, .int .u64 0] 27
          rw [hx, hg]
          clear hx hg
          have hA4 := Aside0.mk (hA3.out.below hB)
          have hs4 := hB.size
          have n13_4 := Aside0.mk (blk_below n13_3.out hB)
          have n14_4 := Aside0.mk (blk_below n14_3.out hB)
          have hvf4 := Aside0.mk (Kd.R_below hvf3.out hB)
          have hvt4 := Aside0.mk (Kd.R_below hvt3.out hB)
          clear hB
          refine hK.out _ _ (held18 hA4.out.P hA4.out.S) (fun hHeld => ?_)
          clear hK K
          refine norm_ (a' := ?_) ?_ ?_
          rotate_left
          · show Act.put _ (some 32) _ = _; simp only [Act.put, setIfInBounds_toArray, set_cons_zero, set_cons_succ, i64_w, i32_w]; rfl
          exact norm_ (by simp only [putAll, Act.put, setIfInBounds_toArray, set_cons_zero, set_cons_succ]) (hCont ((Af, cf, At, ct), (g13, g14, g15)) _ (hA4.out.mkF (g0 := g13) (g1 := g14) (g2 := g15) n13_4.out n14_4.out n15_4.out hvf4.out hvt4.out (by omega) (okC (by omega)) (okC (by omega))))
        skip
        refine value_ (w1 := ?_) (v := ?_) (by rfl) rfl ?_ ?_
        rotate_left 2
        · go_simp
          constructor
          · rfl
          rfl
        obtain ⟨g15, x3, hx, hg, hB, n15_3, hga15, hgb15⟩ := newb x2 #[.int .i64 0, .int .i64 0, .int .u64 0] 27
        rw [hx, hg]
        clear hx hg
        have hA3 := Aside0.mk (hA2.out.below hB)
        have hs3 := hB.size
        have n13_3 := Aside0.mk (blk_below n13_2.out hB)
        have n14_3 := Aside0.mk (blk_below n14_2.out hB)
        clear hB
        refine hK.out _ _ (held18 hA3.out.P hA3.out.S) (fun hHeld => ?_)
        clear hK K
        refine norm_ (a' := ?_) ?_ ?_
        rotate_left
        · show Act.put _ (some 32) _ = _; simp only [Act.put, setIfInBounds_toArray, set_cons_zero, set_cons_succ, i64_w, i32_w]; rfl
        refine one_ (i := 7) (N := some 194) #[true,true,true,true,true,true,true,true,false,false,false,false,false,true,true,true,false,false,false,false] rfl rfl (by kernel_rfl) (by decide) (fun K hK => ?_)
        refine goes_ Try.func44 (by kernel_rfl) rfl #[.agg #[.slice Ao ro.l.length co, .bool ro.has, .int .i64 ro.nx.s, .int .i64 ro.nx.g, .int .u64 ro.nx.t], .agg #[.slice Am rm.l.length cm, .bool rm.has, .int .i64 rm.nx.s, .int .i64 rm.nx.g, .int .u64 rm.nx.t]] (by rfl) rfl rfl (by simp only [List.map_toArray, List.map_cons, List.map_nil]; rfl) ?_
        with_reducible refine (HST.out x0.heap.size x3 hA3.out.o hA3.out.m (by omega)).mono ?_
        rintro e x4 ⟨vf, vt, rfl, hvf, hvt, hB⟩
        refine ⟨_, rfl, ?_⟩
        obtain ⟨Af, cf, rfl, -, -⟩ := Kd.R_reads hvf
        obtain ⟨At, ct, rfl, -, -⟩ := Kd.R_reads hvt
        have hA4 := Aside0.mk (hA3.out.below hB)
        have hs4 := hB.size
        have n13_4 := Aside0.mk (blk_below n13_3.out hB)
        have n14_4 := Aside0.mk (blk_below n14_3.out hB)
        have n15_4 := Aside0.mk (blk_below n15_3.out hB)
        have hvf4 := Aside0.mk hvf
        have hvt4 := Aside0.mk hvt
        clear hvf hvt hB
        refine hK.out _ _ (held18 hA4.out.P hA4.out.S) (fun hHeld => ?_)
        clear hK K
        refine norm_ (a' := ?_) ?_ ?_
        rotate_left
        · show Act.put _ (some 194) _ = _; simp only [Act.put, setIfInBounds_toArray, set_cons_zero, set_cons_succ, i64_w, i32_w]; rfl
        refine pure_ (i := 8) (N := some 186) (v := ?_) (a' := ?_) #[true,true,true,true,true,true,true,true,true,false,false,false,false,true,true,true,false,false,false,false] rfl rfl (by kernel_rfl) (fun _ _ _ h => h) (Or.inl ⟨by rfl, ?_⟩) ?_ ?_
        rotate_left
        · intro w'; go_simp; with_reducible rfl
        rotate_left
        · simp only [Act.put, setIfInBounds_toArray, set_cons_zero, set_cons_succ, i64_w, i32_w]; rfl
        refine pure_ (i := 9) (N := some 195) (v := ?_) (a' := ?_) #[true,true,true,true,true,true,true,true,true,true,false,false,false,true,true,true,false,false,false,false] rfl rfl (by kernel_rfl) (fun _ _ _ h => h) (Or.inl ⟨by rfl, ?_⟩) ?_ ?_
        rotate_left
        · intro w'; go_simp; with_reducible rfl
        rotate_left
        · simp only [Act.put, setIfInBounds_toArray, set_cons_zero, set_cons_succ, i64_w, i32_w]; rfl
        refine pure_ (i := 10) (N := some 196) (v := ?_) (a' := ?_) #[true,true,true,true,true,true,true,true,true,true,true,false,false,true,true,true,false,false,false,false] rfl rfl (by kernel_rfl) (fun _ _ _ h => h) (Or.inl ⟨by rfl, ?_⟩) ?_ ?_
        rotate_left
        · intro w'; go_simp; with_reducible rfl
        rotate_left
        · simp only [Act.put, setIfInBounds_toArray, set_cons_zero, set_cons_succ, i64_w, i32_w]; rfl
        refine pure_ (i := 11) (N := some 197) (v := ?_) (a' := ?_) #[true,true,true,true,true,true,true,true,true,true,true,true,false,true,true,true,false,false,false,false] rfl rfl (by kernel_rfl) (fun _ _ _ h => h) (Or.inl ⟨by rfl, ?_⟩) ?_ ?_
        rotate_left
        · intro w'; go_simp; with_reducible rfl
        rotate_left
        · simp only [Act.put, setIfInBounds_toArray, set_cons_zero, set_cons_succ, i64_w, i32_w]; rfl
        refine pure_ (i := 12) (N := some 198) (v := ?_) (a' := ?_) #[true,true,true,true,true,true,true,true,true,true,true,true,true,true,true,true,false,false,false,false] rfl rfl (by kernel_rfl) (fun _ _ _ h => h) (Or.inl ⟨by rfl, ?_⟩) ?_ ?_
        rotate_left
        · intro w'; go_simp; with_reducible rfl
        rotate_left
        · simp only [Act.put, setIfInBounds_toArray, set_cons_zero, set_cons_succ, i64_w, i32_w]; rfl
        exact norm_ (by simp only [putAll, Act.put, setIfInBounds_toArray, set_cons_zero, set_cons_succ]) (hCont ((Af, cf, At, ct), (g13, g14, g15)) _ (hA4.out.mkF (g0 := g13) (g1 := g14) (g2 := g15) n13_4.out n14_4.out n15_4.out hvf4.out hvt4.out (by omega) (okA (M := x3.heap.size) (by omega) (by omega)) (okA (M := x3.heap.size) (by omega) (by omega))))
      skip
      refine value_ (w1 := ?_) (v := ?_) (by rfl) rfl ?_ ?_
      rotate_left 2
      · go_simp
        constructor
        · rfl
        rfl
      obtain ⟨g15, x2, hx, hg, hB, n15_2, hga15, hgb15⟩ := newb x1 #[.int .i64 0, .int .i64 0, .int .u64 0] 27
      rw [hx, hg]
      clear hx hg
      have hA2 := Aside0.mk (hA1.out.below hB)
      have hs2 := hB.size
      have n13_2 := Aside0.mk (blk_below n13_1.out hB)
      clear hB
      refine hK.out _ _ (held18 hA2.out.P hA2.out.S) (fun hHeld => ?_)
      clear hK K
      refine norm_ (a' := ?_) ?_ ?_
      rotate_left
      · show Act.put _ (some 32) _ = _; simp only [Act.put, setIfInBounds_toArray, set_cons_zero, set_cons_succ, i64_w, i32_w]; rfl
      refine two_ (i := 7) (j := 14) (Ni := some 194) (Nj := some 31) #[true,true,true,true,true,true,true,true,false,false,false,false,false,true,false,true,false,false,false,false] #[true,true,true,true,true,true,true,false,false,false,false,false,false,true,true,true,false,false,false,false] rfl rfl rfl rfl (by kernel_rfl) (by decide) (by decide) (fun K hK => ?_) (fun K hK => ?_)
      · skip
        refine goes_ Try.func44 (by kernel_rfl) rfl #[.agg #[.slice Ao ro.l.length co, .bool ro.has, .int .i64 ro.nx.s, .int .i64 ro.nx.g, .int .u64 ro.nx.t], .agg #[.slice Am rm.l.length cm, .bool rm.has, .int .i64 rm.nx.s, .int .i64 rm.nx.g, .int .u64 rm.nx.t]] (by rfl) rfl rfl (by simp only [List.map_toArray, List.map_cons, List.map_nil]; rfl) ?_
        with_reducible refine (HST.out x0.heap.size x2 hA2.out.o hA2.out.m (by omega)).mono ?_
        rintro e x3 ⟨vf, vt, rfl, hvf, hvt, hB⟩
        refine ⟨_, rfl, ?_⟩
        obtain ⟨Af, cf, rfl, -, -⟩ := Kd.R_reads hvf
        obtain ⟨At, ct, rfl, -, -⟩ := Kd.R_reads hvt
        have hA3 := Aside0.mk (hA2.out.below hB)
        have hs3 := hB.size
        have n13_3 := Aside0.mk (blk_below n13_2.out hB)
        have n15_3 := Aside0.mk (blk_below n15_2.out hB)
        have hvf3 := Aside0.mk hvf
        have hvt3 := Aside0.mk hvt
        clear hvf hvt hB
        refine hK.out _ _ (held18 hA3.out.P hA3.out.S) (fun hHeld => ?_)
        clear hK K
        refine norm_ (a' := ?_) ?_ ?_
        rotate_left
        · show Act.put _ (some 194) _ = _; simp only [Act.put, setIfInBounds_toArray, set_cons_zero, set_cons_succ, i64_w, i32_w]; rfl
        refine pure_ (i := 8) (N := some 186) (v := ?_) (a' := ?_) #[true,true,true,true,true,true,true,true,true,false,false,false,false,true,false,true,false,false,false,false] rfl rfl (by kernel_rfl) (fun _ _ _ h => h) (Or.inl ⟨by rfl, ?_⟩) ?_ ?_
        rotate_left
        · intro w'; go_simp; with_reducible rfl
        rotate_left
        · simp only [Act.put, setIfInBounds_toArray, set_cons_zero, set_cons_succ, i64_w, i32_w]; rfl
        refine pure_ (i := 9) (N := some 195) (v := ?_) (a' := ?_) #[true,true,true,true,true,true,true,true,true,true,false,false,false,true,false,true,false,false,false,false] rfl rfl (by kernel_rfl) (fun _ _ _ h => h) (Or.inl ⟨by rfl, ?_⟩) ?_ ?_
        rotate_left
        · intro w'; go_simp; with_reducible rfl
        rotate_left
        · simp only [Act.put, setIfInBounds_toArray, set_cons_zero, set_cons_succ, i64_w, i32_w]; rfl
        refine pure_ (i := 10) (N := some 196) (v := ?_) (a' := ?_) #[true,true,true,true,true,true,true,true,true,true,true,false,false,true,false,true,false,false,false,false] rfl rfl (by kernel_rfl) (fun _ _ _ h => h) (Or.inl ⟨by rfl, ?_⟩) ?_ ?_
        rotate_left
        · intro w'; go_simp; with_reducible rfl
        rotate_left
        · simp only [Act.put, setIfInBounds_toArray, set_cons_zero, set_cons_succ, i64_w, i32_w]; rfl
        refine pure_ (i := 11) (N := some 197) (v := ?_) (a' := ?_) #[true,true,true,true,true,true,true,true,true,true,true,true,false,true,false,true,false,false,false,false] rfl rfl (by kernel_rfl) (fun _ _ _ h => h) (Or.inl ⟨by rfl, ?_⟩) ?_ ?_
        rotate_left
        · intro w'; go_simp; with_reducible rfl
        rotate_left
        · simp only [Act.put, setIfInBounds_toArray, set_cons_zero, set_cons_succ, i64_w, i32_w]; rfl
        refine pure_ (i := 12) (N := some 198) (v := ?_) (a' := ?_) #[true,true,true,true,true,true,true,true,true,true,true,true,true,true,false,true,false,false,false,false] rfl rfl (by kernel_rfl) (fun _ _ _ h => h) (Or.inl ⟨by rfl, ?_⟩) ?_ ?_
        rotate_left
        · intro w'; go_simp; with_reducible rfl
        rotate_left
        · simp only [Act.put, setIfInBounds_toArray, set_cons_zero, set_cons_succ, i64_w, i32_w]; rfl
        refine one_ (i := 14) (N := some 31) #[true,true,true,true,true,true,true,true,true,true,true,true,true,true,true,true,false,false,false,false] rfl rfl (by kernel_rfl) (by decide) (fun K hK => ?_)
        refine value_ (w1 := ?_) (v := ?_) (by rfl) rfl ?_ ?_
        rotate_left 2
        · go_simp
          constructor
          · rfl
          rfl
        obtain ⟨g14, x4, hx, hg, hB, n14_4, hga14, hgb14⟩ := newb x3 #[.slice none 0 0, .bool false, .int .i64 0, .int .i64 0, .int .u64 0] 29
        rw [hx, hg]
        clear hx hg
        have hA4 := Aside0.mk (hA3.out.below hB)
        have hs4 := hB.size
        have n13_4 := Aside0.mk (blk_below n13_3.out hB)
        have n15_4 := Aside0.mk (blk_below n15_3.out hB)
        have hvf4 := Aside0.mk (Kd.R_below hvf3.out hB)
        have hvt4 := Aside0.mk (Kd.R_below hvt3.out hB)
        clear hB
        refine hK.out _ _ (held18 hA4.out.P hA4.out.S) (fun hHeld => ?_)
        clear hK K
        refine norm_ (a' := ?_) ?_ ?_
        rotate_left
        · show Act.put _ (some 31) _ = _; simp only [Act.put, setIfInBounds_toArray, set_cons_zero, set_cons_succ, i64_w, i32_w]; rfl
        exact norm_ (by simp only [putAll, Act.put, setIfInBounds_toArray, set_cons_zero, set_cons_succ]) (hCont ((Af, cf, At, ct), (g13, g14, g15)) _ (hA4.out.mkF (g0 := g13) (g1 := g14) (g2 := g15) n13_4.out n14_4.out n15_4.out hvf4.out hvt4.out (by omega) (okA (M := x2.heap.size) (by omega) (by omega)) (okA (M := x2.heap.size) (by omega) (by omega))))
      skip
      refine value_ (w1 := ?_) (v := ?_) (by rfl) rfl ?_ ?_
      rotate_left 2
      · go_simp
        constructor
        · rfl
        rfl
      obtain ⟨g14, x3, hx, hg, hB, n14_3, hga14, hgb14⟩ := newb x2 #[.slice none 0 0, .bool false, .int .i64 0, .int .i64 0, .int .u64 0] 29
      rw [hx, hg]
      clear hx hg
      have hA3 := Aside0.mk (hA2.out.below hB)
      have hs3 := hB.size
      have n13_3 := Aside0.mk (blk_below n13_2.out hB)
      have n15_3 := Aside0.mk (blk_below n15_2.out hB)
      clear hB
      refine hK.out _ _ (held18 hA3.out.P hA3.out.S) (fun hHeld => ?_)
      clear hK K
      refine norm_ (a' := ?_) ?_ ?_
      rotate_left
      · show Act.put _ (some 31) _ = _; simp only [Act.put, setIfInBounds_toArray, set_cons_zero, set_cons_succ, i64_w, i32_w]; rfl
      refine one_ (i := 7) (N := some 194) #[true,true,true,true,true,true,true,true,false,false,false,false,false,true,true,true,false,false,false,false] rfl rfl (by kernel_rfl) (by decide) (fun K hK => ?_)
      refine goes_ Try.func44 (by kernel_rfl) rfl #[.agg #[.slice Ao ro.l.length co, .bool ro.has, .int .i64 ro.nx.s, .int .i64 ro.nx.g, .int .u64 ro.nx.t], .agg #[.slice Am rm.l.length cm, .bool rm.has, .int .i64 rm.nx.s, .int .i64 rm.nx.g, .int .u64 rm.nx.t]] (by rfl) rfl rfl (by simp only [List.map_toArray, List.map_cons, List.map_nil]; rfl) ?_
      with_reducible refine (HST.out x0.heap.size x3 hA3.out.o hA3.out.m (by omega)).mono ?_
      rintro e x4 ⟨vf, vt, rfl, hvf, hvt, hB⟩
      refine ⟨_, rfl, ?_⟩
      obtain ⟨Af, cf, rfl, -, -⟩ := Kd.R_reads hvf
      obtain ⟨At, ct, rfl, -, -⟩ := Kd.R_reads hvt
      have hA4 := Aside0.mk (hA3.out.below hB)
      have hs4 := hB.size
      have n13_4 := Aside0.mk (blk_below n13_3.out hB)
      have n15_4 := Aside0.mk (blk_below n15_3.out hB)
      have n14_4 := Aside0.mk (blk_below n14_3.out hB)
      have hvf4 := Aside0.mk hvf
      have hvt4 := Aside0.mk hvt
      clear hvf hvt hB
      refine hK.out _ _ (held18 hA4.out.P hA4.out.S) (fun hHeld => ?_)
      clear hK K
      refine norm_ (a' := ?_) ?_ ?_
      rotate_left
      · show Act.put _ (some 194) _ = _; simp only [Act.put, setIfInBounds_toArray, set_cons_zero, set_cons_succ, i64_w, i32_w]; rfl
      refine pure_ (i := 8) (N := some 186) (v := ?_) (a' := ?_) #[true,true,true,true,true,true,true,true,true,false,false,false,false,true,true,true,false,false,false,false] rfl rfl (by kernel_rfl) (fun _ _ _ h => h) (Or.inl ⟨by rfl, ?_⟩) ?_ ?_
      rotate_left
      · intro w'; go_simp; with_reducible rfl
      rotate_left
      · simp only [Act.put, setIfInBounds_toArray, set_cons_zero, set_cons_succ, i64_w, i32_w]; rfl
      refine pure_ (i := 9) (N := some 195) (v := ?_) (a' := ?_) #[true,true,true,true,true,true,true,true,true,true,false,false,false,true,true,true,false,false,false,false] rfl rfl (by kernel_rfl) (fun _ _ _ h => h) (Or.inl ⟨by rfl, ?_⟩) ?_ ?_
      rotate_left
      · intro w'; go_simp; with_reducible rfl
      rotate_left
      · simp only [Act.put, setIfInBounds_toArray, set_cons_zero, set_cons_succ, i64_w, i32_w]; rfl
      refine pure_ (i := 10) (N := some 196) (v := ?_) (a' := ?_) #[true,true,true,true,true,true,true,true,true,true,true,false,false,true,true,true,false,false,false,false] rfl rfl (by kernel_rfl) (fun _ _ _ h => h) (Or.inl ⟨by rfl, ?_⟩) ?_ ?_
      rotate_left
      · intro w'; go_simp; with_reducible rfl
      rotate_left
      · simp only [Act.put, setIfInBounds_toArray, set_cons_zero, set_cons_succ, i64_w, i32_w]; rfl
      refine pure_ (i := 11) (N := some 197) (v := ?_) (a' := ?_) #[true,true,true,true,true,true,true,true,true,true,true,true,false,true,true,true,false,false,false,false] rfl rfl (by kernel_rfl) (fun _ _ _ h => h) (Or.inl ⟨by rfl, ?_⟩) ?_ ?_
      rotate_left
      · intro w'; go_simp; with_reducible rfl
      rotate_left
      · simp only [Act.put, setIfInBounds_toArray, set_cons_zero, set_cons_succ, i64_w, i32_w]; rfl
      refine pure_ (i := 12) (N := some 198) (v := ?_) (a' := ?_) #[true,true,true,true,true,true,true,true,true,true,true,true,true,true,true,true,false,false,false,false] rfl rfl (by kernel_rfl) (fun _ _ _ h => h) (Or.inl ⟨by rfl, ?_⟩) ?_ ?_
      rotate_left
      · intro w'; go_simp; with_reducible rfl
      rotate_left
      · simp only [Act.put, setIfInBounds_toArray, set_cons_zero, set_cons_succ, i64_w, i32_w]; rfl
      exact norm_ (by simp only [putAll, Act.put, setIfInBounds_toArray, set_cons_zero, set_cons_succ]) (hCont ((Af, cf, At, ct), (g13, g14, g15)) _ (hA4.out.mkF (g0 := g13) (g1 := g14) (g2 := g15) n13_4.out n14_4.out n15_4.out hvf4.out hvt4.out (by omega) (okA (M := x3.heap.size) (by omega) (by omega)) (okA (M := x3.heap.size) (by omega) (by omega))))
    · skip
      refine value_ (w1 := ?_) (v := ?_) (by rfl) rfl ?_ ?_
      rotate_left 2
      · go_simp
        constructor
        · rfl
        rfl
      obtain ⟨g14, x1, hx, hg, hB, n14_1, hga14, hgb14⟩ := newb x0 #[.slice none 0 0, .bool false, .int .i64 0, .int .i64 0, .int .u64 0] 29
      rw [hx, hg]
      clear hx hg
      have hA1 := Aside0.mk (hA0.out.below hB)
      have hs1 := hB.size
      clear hB
      refine hK.out _ _ (held18 hA1.out.P hA1.out.S) (fun hHeld => ?_)
      clear hK K
      refine norm_ (a' := ?_) ?_ ?_
      rotate_left
      · show Act.put _ (some 31) _ = _; simp only [Act.put, setIfInBounds_toArray, set_cons_zero, set_cons_succ, i64_w, i32_w]; rfl
      refine three_ (i := 7) (j := 13) (k := 15) (Ni := some 194) (Nj := some 30) (Nk := some 32) #[true,true,true,true,true,true,true,true,false,false,false,false,false,false,true,false,false,false,false,false] #[true,true,true,true,true,true,true,false,false,false,false,false,false,true,true,false,false,false,false,false] #[true,true,true,true,true,true,true,false,false,false,false,false,false,false,true,true,false,false,false,false] rfl rfl rfl rfl rfl rfl (by kernel_rfl) (by decide) (by decide) (by decide) (fun K hK => ?_) (fun K hK => ?_) (fun K hK => ?_)
      · skip
        refine goes_ Try.func44 (by kernel_rfl) rfl #[.agg #[.slice Ao ro.l.length co, .bool ro.has, .int .i64 ro.nx.s, .int .i64 ro.nx.g, .int .u64 ro.nx.t], .agg #[.slice Am rm.l.length cm, .bool rm.has, .int .i64 rm.nx.s, .int .i64 rm.nx.g, .int .u64 rm.nx.t]] (by rfl) rfl rfl (by simp only [List.map_toArray, List.map_cons, List.map_nil]; rfl) ?_
        with_reducible refine (HST.out x0.heap.size x1 hA1.out.o hA1.out.m (by omega)).mono ?_
        rintro e x2 ⟨vf, vt, rfl, hvf, hvt, hB⟩
        refine ⟨_, rfl, ?_⟩
        obtain ⟨Af, cf, rfl, -, -⟩ := Kd.R_reads hvf
        obtain ⟨At, ct, rfl, -, -⟩ := Kd.R_reads hvt
        have hA2 := Aside0.mk (hA1.out.below hB)
        have hs2 := hB.size
        have n14_2 := Aside0.mk (blk_below n14_1.out hB)
        have hvf2 := Aside0.mk hvf
        have hvt2 := Aside0.mk hvt
        clear hvf hvt hB
        refine hK.out _ _ (held18 hA2.out.P hA2.out.S) (fun hHeld => ?_)
        clear hK K
        refine norm_ (a' := ?_) ?_ ?_
        rotate_left
        · show Act.put _ (some 194) _ = _; simp only [Act.put, setIfInBounds_toArray, set_cons_zero, set_cons_succ, i64_w, i32_w]; rfl
        refine pure_ (i := 8) (N := some 186) (v := ?_) (a' := ?_) #[true,true,true,true,true,true,true,true,true,false,false,false,false,false,true,false,false,false,false,false] rfl rfl (by kernel_rfl) (fun _ _ _ h => h) (Or.inl ⟨by rfl, ?_⟩) ?_ ?_
        rotate_left
        · intro w'; go_simp; with_reducible rfl
        rotate_left
        · simp only [Act.put, setIfInBounds_toArray, set_cons_zero, set_cons_succ, i64_w, i32_w]; rfl
        refine pure_ (i := 9) (N := some 195) (v := ?_) (a' := ?_) #[true,true,true,true,true,true,true,true,true,true,false,false,false,false,true,false,false,false,false,false] rfl rfl (by kernel_rfl) (fun _ _ _ h => h) (Or.inl ⟨by rfl, ?_⟩) ?_ ?_
        rotate_left
        · intro w'; go_simp; with_reducible rfl
        rotate_left
        · simp only [Act.put, setIfInBounds_toArray, set_cons_zero, set_cons_succ, i64_w, i32_w]; rfl
        refine pure_ (i := 10) (N := some 196) (v := ?_) (a' := ?_) #[true,true,true,true,true,true,true,true,true,true,true,false,false,false,true,false,false,false,false,false] rfl rfl (by kernel_rfl) (fun _ _ _ h => h) (Or.inl ⟨by rfl, ?_⟩) ?_ ?_
        rotate_left
        · intro w'; go_simp; with_reducible rfl
        rotate_left
        · simp only [Act.put, setIfInBounds_toArray, set_cons_zero, set_cons_succ, i64_w, i32_w]; rfl
        refine pure_ (i := 11) (N := some 197) (v := ?_) (a' := ?_) #[true,true,true,true,true,true,true,true,true,true,true,true,false,false,true,false,false,false,false,false] rfl rfl (by kernel_rfl) (fun _ _ _ h => h) (Or.inl ⟨by rfl, ?_⟩) ?_ ?_
        rotate_left
        · intro w'; go_simp; with_reducible rfl
        rotate_left
        · simp only [Act.put, setIfInBounds_toArray, set_cons_zero, set_cons_succ, i64_w, i32_w]; rfl
        refine pure_ (i := 12) (N := some 198) (v := ?_) (a' := ?_) #[true,true,true,true,true,true,true,true,true,true,true,true,true,false,true,false,false,false,false,false] rfl rfl (by kernel_rfl) (fun _ _ _ h => h) (Or.inl ⟨by rfl, ?_⟩) ?_ ?_
        rotate_left
        · intro w'; go_simp; with_reducible rfl
        rotate_left
        · simp only [Act.put, setIfInBounds_toArray, set_cons_zero, set_cons_succ, i64_w, i32_w]; rfl
        refine two_ (i := 13) (j := 15) (Ni := some 30) (Nj := some 32) #[true,true,true,true,true,true,true,true,true,true,true,true,true,true,true,false,false,false,false,false] #[true,true,true,true,true,true,true,true,true,true,true,true,true,false,true,true,false,false,false,false] rfl rfl rfl rfl (by kernel_rfl) (by decide) (by decide) (fun K hK => ?_) (fun K hK => ?_)
        · skip
          refine value_ (w1 := ?_) (v := ?_) (by rfl) rfl ?_ ?_
          rotate_left 2
          · go_simp
            constructor
            · rfl
            rfl
          obtain ⟨g13, x3, hx, hg, hB, n13_3, hga13, hgb13⟩ := newb x2 #[.slice none 0 0, .bool false, .int .i64 0, .int .i64 0, .int .u64 0] 29
          rw [hx, hg]
          clear hx hg
          have hA3 := Aside0.mk (hA2.out.below hB)
          have hs3 := hB.size
          have n14_3 := Aside0.mk (blk_below n14_2.out hB)
          have hvf3 := Aside0.mk (Kd.R_below hvf2.out hB)
          have hvt3 := Aside0.mk (Kd.R_below hvt2.out hB)
          clear hB
          refine hK.out _ _ (held18 hA3.out.P hA3.out.S) (fun hHeld => ?_)
          clear hK K
          refine norm_ (a' := ?_) ?_ ?_
          rotate_left
          · show Act.put _ (some 30) _ = _; simp only [Act.put, setIfInBounds_toArray, set_cons_zero, set_cons_succ, i64_w, i32_w]; rfl
          refine one_ (i := 15) (N := some 32) #[true,true,true,true,true,true,true,true,true,true,true,true,true,true,true,true,false,false,false,false] rfl rfl (by kernel_rfl) (by decide) (fun K hK => ?_)
          have hvf3 := Aside0.mk (Kd.R_mono (Kd.R_bound hvf3.out) (fun _ h => h.2.2.1))
          have hvt3 := Aside0.mk (Kd.R_mono (Kd.R_bound hvt3.out) (fun _ h => h.2.2.1))
          refine value_ (w1 := ?_) (v := ?_) (by rfl) rfl ?_ ?_
          rotate_left 2
          · go_simp
            constructor
            · rfl
            rfl
          obtain ⟨g15, x4, hx, hg, hB, n15_4, hga15, hgb15⟩ := newb x3 #[.int .i64 0, .int .i64 0, .int .u64 0] 27
          rw [hx, hg]
          clear hx hg
          have hA4 := Aside0.mk (hA3.out.below hB)
          have hs4 := hB.size
          have n14_4 := Aside0.mk (blk_below n14_3.out hB)
          have n13_4 := Aside0.mk (blk_below n13_3.out hB)
          have hvf4 := Aside0.mk (Kd.R_below hvf3.out hB)
          have hvt4 := Aside0.mk (Kd.R_below hvt3.out hB)
          clear hB
          refine hK.out _ _ (held18 hA4.out.P hA4.out.S) (fun hHeld => ?_)
          clear hK K
          refine norm_ (a' := ?_) ?_ ?_
          rotate_left
          · show Act.put _ (some 32) _ = _; simp only [Act.put, setIfInBounds_toArray, set_cons_zero, set_cons_succ, i64_w, i32_w]; rfl
          exact norm_ (by simp only [putAll, Act.put, setIfInBounds_toArray, set_cons_zero, set_cons_succ]) (hCont ((Af, cf, At, ct), (g13, g14, g15)) _ (hA4.out.mkF (g0 := g13) (g1 := g14) (g2 := g15) n13_4.out n14_4.out n15_4.out hvf4.out hvt4.out (by omega) (okC (by omega)) (okC (by omega))))
        skip
        have hvf2 := Aside0.mk (Kd.R_mono (Kd.R_bound hvf2.out) (fun _ h => h.2.2.1))
        have hvt2 := Aside0.mk (Kd.R_mono (Kd.R_bound hvt2.out) (fun _ h => h.2.2.1))
        refine value_ (w1 := ?_) (v := ?_) (by rfl) rfl ?_ ?_
        rotate_left 2
        · go_simp
          constructor
          · rfl
          rfl
        obtain ⟨g15, x3, hx, hg, hB, n15_3, hga15, hgb15⟩ := newb x2 #[.int .i64 0, .int .i64 0, .int .u64 0] 27
        rw [hx, hg]
        clear hx hg
        have hA3 := Aside0.mk (hA2.out.below hB)
        have hs3 := hB.size
        have n14_3 := Aside0.mk (blk_below n14_2.out hB)
        have hvf3 := Aside0.mk (Kd.R_below hvf2.out hB)
        have hvt3 := Aside0.mk (Kd.R_below hvt2.out hB)
        clear hB
        refine hK.out _ _ (held18 hA3.out.P hA3.out.S) (fun hHeld => ?_)
        clear hK K
        refine norm_ (a' := ?_) ?_ ?_
        rotate_left
        · show Act.put _ (some 32) _ = _; simp only [Act.put, setIfInBounds_toArray, set_cons_zero, set_cons_succ, i64_w, i32_w]; rfl
        refine one_ (i := 13) (N := some 30) #[true,true,true,true,true,true,true,true,true,true,true,true,true,true,true,true,false,false,false,false] rfl rfl (by kernel_rfl) (by decide) (fun K hK => ?_)
        refine value_ (w1 := ?_) (v := ?_) (by rfl) rfl ?_ ?_
        rotate_left 2
        · go_simp
          constructor
          · rfl
          rfl
        obtain ⟨g13, x4, hx, hg, hB, n13_4, hga13, hgb13⟩ := newb x3 #[.slice none 0 0, .bool false, .int .i64 0, .int .i64 0, .int .u64 0] 29
        rw [hx, hg]
        clear hx hg
        have hA4 := Aside0.mk (hA3.out.below hB)
        have hs4 := hB.size
        have n14_4 := Aside0.mk (blk_below n14_3.out hB)
        have n15_4 := Aside0.mk (blk_below n15_3.out hB)
        have hvf4 := Aside0.mk (Kd.R_below hvf3.out hB)
        have hvt4 := Aside0.mk (Kd.R_below hvt3.out hB)
        clear hB
        refine hK.out _ _ (held18 hA4.out.P hA4.out.S) (fun hHeld => ?_)
        clear hK K
        refine norm_ (a' := ?_) ?_ ?_
        rotate_left
        · show Act.put _ (some 30) _ = _; simp only [Act.put, setIfInBounds_toArray, set_cons_zero, set_cons_succ, i64_w, i32_w]; rfl
        exact norm_ (by simp only [putAll, Act.put, setIfInBounds_toArray, set_cons_zero, set_cons_succ]) (hCont ((Af, cf, At, ct), (g13, g14, g15)) _ (hA4.out.mkF (g0 := g13) (g1 := g14) (g2 := g15) n13_4.out n14_4.out n15_4.out hvf4.out hvt4.out (by omega) (okC (by omega)) (okC (by omega))))
      · skip
        refine value_ (w1 := ?_) (v := ?_) (by rfl) rfl ?_ ?_
        rotate_left 2
        · go_simp
          constructor
          · rfl
          rfl
        obtain ⟨g13, x2, hx, hg, hB, n13_2, hga13, hgb13⟩ := newb x1 #[.slice none 0 0, .bool false, .int .i64 0, .int .i64 0, .int .u64 0] 29
        rw [hx, hg]
        clear hx hg
        have hA2 := Aside0.mk (hA1.out.below hB)
        have hs2 := hB.size
        have n14_2 := Aside0.mk (blk_below n14_1.out hB)
        clear hB
        refine hK.out _ _ (held18 hA2.out.P hA2.out.S) (fun hHeld => ?_)
        clear hK K
        refine norm_ (a' := ?_) ?_ ?_
        rotate_left
        · show Act.put _ (some 30) _ = _; simp only [Act.put, setIfInBounds_toArray, set_cons_zero, set_cons_succ, i64_w, i32_w]; rfl
        refine two_ (i := 7) (j := 15) (Ni := some 194) (Nj := some 32) #[true,true,true,true,true,true,true,true,false,false,false,false,false,true,true,false,false,false,false,false] #[true,true,true,true,true,true,true,false,false,false,false,false,false,true,true,true,false,false,false,false] rfl rfl rfl rfl (by kernel_rfl) (by decide) (by decide) (fun K hK => ?_) (fun K hK => ?_)
        · skip
          refine goes_ Try.func44 (by kernel_rfl) rfl #[.agg #[.slice Ao ro.l.length co, .bool ro.has, .int .i64 ro.nx.s, .int .i64 ro.nx.g, .int .u64 ro.nx.t], .agg #[.slice Am rm.l.length cm, .bool rm.has, .int .i64 rm.nx.s, .int .i64 rm.nx.g, .int .u64 rm.nx.t]] (by rfl) rfl rfl (by simp only [List.map_toArray, List.map_cons, List.map_nil]; rfl) ?_
          with_reducible refine (HST.out x0.heap.size x2 hA2.out.o hA2.out.m (by omega)).mono ?_
          rintro e x3 ⟨vf, vt, rfl, hvf, hvt, hB⟩
          refine ⟨_, rfl, ?_⟩
          obtain ⟨Af, cf, rfl, -, -⟩ := Kd.R_reads hvf
          obtain ⟨At, ct, rfl, -, -⟩ := Kd.R_reads hvt
          have hA3 := Aside0.mk (hA2.out.below hB)
          have hs3 := hB.size
          have n14_3 := Aside0.mk (blk_below n14_2.out hB)
          have n13_3 := Aside0.mk (blk_below n13_2.out hB)
          have hvf3 := Aside0.mk hvf
          have hvt3 := Aside0.mk hvt
          clear hvf hvt hB
          refine hK.out _ _ (held18 hA3.out.P hA3.out.S) (fun hHeld => ?_)
          clear hK K
          refine norm_ (a' := ?_) ?_ ?_
          rotate_left
          · show Act.put _ (some 194) _ = _; simp only [Act.put, setIfInBounds_toArray, set_cons_zero, set_cons_succ, i64_w, i32_w]; rfl
          refine pure_ (i := 8) (N := some 186) (v := ?_) (a' := ?_) #[true,true,true,true,true,true,true,true,true,false,false,false,false,true,true,false,false,false,false,false] rfl rfl (by kernel_rfl) (fun _ _ _ h => h) (Or.inl ⟨by rfl, ?_⟩) ?_ ?_
          rotate_left
          · intro w'; go_simp; with_reducible rfl
          rotate_left
          · simp only [Act.put, setIfInBounds_toArray, set_cons_zero, set_cons_succ, i64_w, i32_w]; rfl
          refine pure_ (i := 9) (N := some 195) (v := ?_) (a' := ?_) #[true,true,true,true,true,true,true,true,true,true,false,false,false,true,true,false,false,false,false,false] rfl rfl (by kernel_rfl) (fun _ _ _ h => h) (Or.inl ⟨by rfl, ?_⟩) ?_ ?_
          rotate_left
          · intro w'; go_simp; with_reducible rfl
          rotate_left
          · simp only [Act.put, setIfInBounds_toArray, set_cons_zero, set_cons_succ, i64_w, i32_w]; rfl
          refine pure_ (i := 10) (N := some 196) (v := ?_) (a' := ?_) #[true,true,true,true,true,true,true,true,true,true,true,false,false,true,true,false,false,false,false,false] rfl rfl (by kernel_rfl) (fun _ _ _ h => h) (Or.inl ⟨by rfl, ?_⟩) ?_ ?_
          rotate_left
          · intro w'; go_simp; with_reducible rfl
          rotate_left
          · simp only [Act.put, setIfInBounds_toArray, set_cons_zero, set_cons_succ, i64_w, i32_w]; rfl
          refine pure_ (i := 11) (N := some 197) (v := ?_) (a' := ?_) #[true,true,true,true,true,true,true,true,true,true,true,true,false,true,true,false,false,false,false,false] rfl rfl (by kernel_rfl) (fun _ _ _ h => h) (Or.inl ⟨by rfl, ?_⟩) ?_ ?_
          rotate_left
          · intro w'; go_simp; with_reducible rfl
          rotate_left
          · simp only [Act.put, setIfInBounds_toArray, set_cons_zero, set_cons_succ, i64_w, i32_w]; rfl
          refine pure_ (i := 12) (N := some 198) (v := ?_) (a' := ?_) #[true,true,true,true,true,true,true,true,true,true,true,true,true,true,true,false,false,false,false,false] rfl rfl (by kernel_rfl) (fun _ _ _ h => h) (Or.inl ⟨by rfl, ?_⟩) ?_ ?_
          rotate_left
          · intro w'; go_simp; with_reducible rfl
          rotate_left
          · simp only [Act.put, setIfInBounds_toArray, set_cons_zero, set_cons_succ, i64_w, i32_w]; rfl
          refine one_ (i := 15) (N := some 32) #[true,true,true,true,true,true,true,true,true,true,true,true,true,true,true,true,false,false,false,false] rfl rfl (by kernel_rfl) (by decide) (fun K hK => ?_)
          have hvf3 := Aside0.mk (Kd.R_mono (Kd.R_bound hvf3.out) (fun _ h => h.2.2.1))
          have hvt3 := Aside0.mk (Kd.R_mono (Kd.R_bound hvt3.out) (fun _ h => h.2.2.1))
          refine value_ (w1 := ?_) (v := ?_) (by rfl) rfl ?_ ?_
          rotate_left 2
          · go_simp
            constructor
            · rfl
            rfl
          obtain ⟨g15, x4, hx, hg, hB, n15_4, hga15, hgb15⟩ := newb x3 #[.int .i64 0, .int .i64 0, .int .u64 0] 27
          rw [hx, hg]
          clear hx hg
          have hA4 := Aside0.mk (hA3.out.below hB)
          have hs4 := hB.size
          have n14_4 := Aside0.mk (blk_below n14_3.out hB)
          have n13_4 := Aside0.mk (blk_below n13_3.out hB)
          have hvf4 := Aside0.mk (Kd.R_below hvf3.out hB)
          have hvt4 := Aside0.mk (Kd.R_below hvt3.out hB)
          clear hB
          refine hK.out _ _ (held18 hA4.out.P hA4.out.S) (fun hHeld => ?_)
          clear hK K
          refine norm_ (a' := ?_) ?_ ?_
          rotate_left
          · show Act.put _ (some 32) _ = _; simp only [Act.put, setIfInBounds_toArray, set_cons_zero, set_cons_succ, i64_w, i32_w]; rfl
          exact norm_ (by simp only [putAll, Act.put, setIfInBounds_toArray, set_cons_zero, set_cons_succ]) (hCont ((Af, cf, At, ct), (g13, g14, g15)) _ (hA4.out.mkF (g0 := g13) (g1 := g14) (g2 := g15) n13_4.out n14_4.out n15_4.out hvf4.out hvt4.out (by omega) (okC (by omega)) (okC (by omega))))
        skip
        refine value_ (w1 := ?_) (v := ?_) (by rfl) rfl ?_ ?_
        rotate_left 2
        · go_simp
          constructor
          · rfl
          rfl
        obtain ⟨g15, x3, hx, hg, hB, n15_3, hga15, hgb15⟩ := newb x2 #[.int .i64 0, .int .i64 0, .int .u64 0] 27
        rw [hx, hg]
        clear hx hg
        have hA3 := Aside0.mk (hA2.out.below hB)
        have hs3 := hB.size
        have n14_3 := Aside0.mk (blk_below n14_2.out hB)
        have n13_3 := Aside0.mk (blk_below n13_2.out hB)
        clear hB
        refine hK.out _ _ (held18 hA3.out.P hA3.out.S) (fun hHeld => ?_)
        clear hK K
        refine norm_ (a' := ?_) ?_ ?_
        rotate_left
        · show Act.put _ (some 32) _ = _; simp only [Act.put, setIfInBounds_toArray, set_cons_zero, set_cons_succ, i64_w, i32_w]; rfl
        refine one_ (i := 7) (N := some 194) #[true,true,true,true,true,true,true,true,false,false,false,false,false,true,true,true,false,false,false,false] rfl rfl (by kernel_rfl) (by decide) (fun K hK => ?_)
        refine goes_ Try.func44 (by kernel_rfl) rfl #[.agg #[.slice Ao ro.l.length co, .bool ro.has, .int .i64 ro.nx.s, .int .i64 ro.nx.g, .int .u64 ro.nx.t], .agg #[.slice Am rm.l.length cm, .bool rm.has, .int .i64 rm.nx.s, .int .i64 rm.nx.g, .int .u64 rm.nx.t]] (by rfl) rfl rfl (by simp only [List.map_toArray, List.map_cons, List.map_nil]; rfl) ?_
        with_reducible refine (HST.out x0.heap.size x3 hA3.out.o hA3.out.m (by omega)).mono ?_
        rintro e x4 ⟨vf, vt, rfl, hvf, hvt, hB⟩
        refine ⟨_, rfl, ?_⟩
        obtain ⟨Af, cf, rfl, -, -⟩ := Kd.R_reads hvf
        obtain ⟨At, ct, rfl, -, -⟩ := Kd.R_reads hvt
        have hA4 := Aside0.mk (hA3.out.below hB)
        have hs4 := hB.size
        have n14_4 := Aside0.mk (blk_below n14_3.out hB)
        have n13_4 := Aside0.mk (blk_below n13_3.out hB)
        have n15_4 := Aside0.mk (blk_below n15_3.out hB)
        have hvf4 := Aside0.mk hvf
        have hvt4 := Aside0.mk hvt
        clear hvf hvt hB
        refine hK.out _ _ (held18 hA4.out.P hA4.out.S) (fun hHeld => ?_)
        clear hK K
        refine norm_ (a' := ?_) ?_ ?_
        rotate_left
        · show Act.put _ (some 194) _ = _; simp only [Act.put, setIfInBounds_toArray, set_cons_zero, set_cons_succ, i64_w, i32_w]; rfl
        refine pure_ (i := 8) (N := some 186) (v := ?_) (a' := ?_) #[true,true,true,true,true,true,true,true,true,false,false,false,false,true,true,true,false,false,false,false] rfl rfl (by kernel_rfl) (fun _ _ _ h => h) (Or.inl ⟨by rfl, ?_⟩) ?_ ?_
        rotate_left
        · intro w'; go_simp; with_reducible rfl
        rotate_left
        · simp only [Act.put, setIfInBounds_toArray, set_cons_zero, set_cons_succ, i64_w, i32_w]; rfl
        refine pure_ (i := 9) (N := some 195) (v := ?_) (a' := ?_) #[true,true,true,true,true,true,true,true,true,true,false,false,false,true,true,true,false,false,false,false] rfl rfl (by kernel_rfl) (fun _ _ _ h => h) (Or.inl ⟨by rfl, ?_⟩) ?_ ?_
        rotate_left
        · intro w'; go_simp; with_reducible rfl
        rotate_left
        · simp only [Act.put, setIfInBounds_toArray, set_cons_zero, set_cons_succ, i64_w, i32_w]; rfl
        refine pure_ (i := 10) (N := some 196) (v := ?_) (a' := ?_) #[true,true,true,true,true,true,true,true,true,true,true,false,false,true,true,true,false,false,false,false] rfl rfl (by kernel_rfl) (fun _ _ _ h => h) (Or.inl ⟨by rfl, ?_⟩) ?_ ?_
        rotate_left
        · intro w'; go_simp; with_reducible rfl
        rotate_left
        · simp only [Act.put, setIfInBounds_toArray, set_cons_zero, set_cons_succ, i64_w, i32_w]; rfl
        refine pure_ (i := 11) (N := some 197) (v := ?_) (a' := ?_) #[true,true,true,true,true,true,true,true,true,true,true,true,false,true,true,true,false,false,false,false] rfl rfl (by kernel_rfl) (fun _ _ _ h => h) (Or.inl ⟨by rfl, ?_⟩) ?_ ?_
        rotate_left
        · intro w'; go_simp; with_reducible rfl
        rotate_left
        · simp only [Act.put, setIfInBounds_toArray, set_cons_zero, set_cons_succ, i64_w, i32_w]; rfl
        refine pure_ (i := 12) (N := some 198) (v := ?_) (a' := ?_) #[true,true,true,true,true,true,true,true,true,true,true,true,true,true,true,true,false,false,false,false] rfl rfl (by kernel_rfl) (fun _ _ _ h => h) (Or.inl ⟨by rfl, ?_⟩) ?_ ?_
        rotate_left
        · intro w'; go_simp; with_reducible rfl
        rotate_left
        · simp only [Act.put, setIfInBounds_toArray, set_cons_zero, set_cons_succ, i64_w, i32_w]; rfl
        exact norm_ (by simp only [putAll, Act.put, setIfInBounds_toArray, set_cons_zero, set_cons_succ]) (hCont ((Af, cf, At, ct), (g13, g14, g15)) _ (hA4.out.mkF (g0 := g13) (g1 := g14) (g2 := g15) n13_4.out n14_4.out n15_4.out hvf4.out hvt4.out (by omega) (okA (M := x3.heap.size) (by omega) (by omega)) (okA (M := x3.heap.size) (by omega) (by omega))))
      skip
      refine value_ (w1 := ?_) (v := ?_) (by rfl) rfl ?_ ?_
      rotate_left 2
      · go_simp
        constructor
        · rfl
        rfl
      obtain ⟨g15, x2, hx, hg, hB, n15_2, hga15, hgb15⟩ := newb x1 #[.int .i64 0, .int .i64 0, .int .u64 0] 27
      rw [hx, hg]
      clear hx hg
      have hA2 := Aside0.mk (hA1.out.below hB)
      have hs2 := hB.size
      have n14_2 := Aside0.mk (blk_below n14_1.out hB)
      clear hB
      refine hK.out _ _ (held18 hA2.out.P hA2.out.S) (fun hHeld => ?_)
      clear hK K
      refine norm_ (a' := ?_) ?_ ?_
      rotate_left
      · show Act.put _ (some 32) _ = _; simp only [Act.put, setIfInBounds_toArray, set_cons_zero, set_cons_succ, i64_w, i32_w]; rfl
      refine two_ (i := 7) (j := 13) (Ni := some 194) (Nj := some 30) #[true,true,true,true,true,true,true,true,false,false,false,false,false,false,true,true,false,false,false,false] #[true,true,true,true,true,true,true,false,false,false,false,false,false,true,true,true,false,false,false,false] rfl rfl rfl rfl (by kernel_rfl) (by decide) (by decide) (fun K hK => ?_) (fun K hK => ?_)
      · skip
        refine goes_ Try.func44 (by kernel_rfl) rfl #[.agg #[.slice Ao ro.l.length co, .bool ro.has, .int .i64 ro.nx.s, .int .i64 ro.nx.g, .int .u64 ro.nx.t], .agg #[.slice Am rm.l.length cm, .bool rm.has, .int .i64 rm.nx.s, .int .i64 rm.nx.g, .int .u64 rm.nx.t]] (by rfl) rfl rfl (by simp only [List.map_toArray, List.map_cons, List.map_nil]; rfl) ?_
        with_reducible refine (HST.out x0.heap.size x2 hA2.out.o hA2.out.m (by omega)).mono ?_
        rintro e x3 ⟨vf, vt, rfl, hvf, hvt, hB⟩
        refine ⟨_, rfl, ?_⟩
        obtain ⟨Af, cf, rfl, -, -⟩ := Kd.R_reads hvf
        obtain ⟨At, ct, rfl, -, -⟩ := Kd.R_reads hvt
        have hA3 := Aside0.mk (hA2.out.below hB)
        have hs3 := hB.size
        have n14_3 := Aside0.mk (blk_below n14_2.out hB)
        have n15_3 := Aside0.mk (blk_below n15_2.out hB)
        have hvf3 := Aside0.mk hvf
        have hvt3 := Aside0.mk hvt
        clear hvf hvt hB
        refine hK.out _ _ (held18 hA3.out.P hA3.out.S) (fun hHeld => ?_)
        clear hK K
        refine norm_ (a' := ?_) ?_ ?_
        rotate_left
        · show Act.put _ (some 194) _ = _; simp only [Act.put, setIfInBounds_toArray, set_cons_zero, set_cons_succ, i64_w, i32_w]; rfl
        refine pure_ (i := 8) (N := some 186) (v := ?_) (a' := ?_) #[true,true,true,true,true,true,true,true,true,false,false,false,false,false,true,true,false,false,false,false] rfl rfl (by kernel_rfl) (fun _ _ _ h => h) (Or.inl ⟨by rfl, ?_⟩) ?_ ?_
        rotate_left
        · intro w'; go_simp; with_reducible rfl
        rotate_left
        · simp only [Act.put, setIfInBounds_toArray, set_cons_zero, set_cons_succ, i64_w, i32_w]; rfl
        refine pure_ (i := 9) (N := some 195) (v := ?_) (a' := ?_) #[true,true,true,true,true,true,true,true,true,true,false,false,false,false,true,true,false,false,false,false] rfl rfl (by kernel_rfl) (fun _ _ _ h => h) (Or.inl ⟨by rfl, ?_⟩) ?_ ?_
        rotate_left
        · intro w'; go_simp; with_reducible rfl
        rotate_left
        · simp only [Act.put, setIfInBounds_toArray, set_cons_zero, set_cons_succ, i64_w, i32_w]; rfl
        refine pure_ (i := 10) (N := some 196) (v := ?_) (a' := ?_) #[true,true,true,true,true,true,true,true,true,true,true,false,false,false,true,true,false,false,false,false] rfl rfl (by kernel_rfl) (fun _ _ _ h => h) (Or.inl ⟨by rfl, ?_⟩) ?_ ?_
        rotate_left
        · intro w'; go_simp; with_reducible rfl
        rotate_left
        · simp only [Act.put, setIfInBounds_toArray, set_cons_zero, set_cons_succ, i64_w, i32_w]; rfl
        refine pure_ (i := 11) (N := some 197) (v := ?_) (a' := ?_) #[true,true,true,true,true,true,true,true,true,true,true,true,false,false,true,true,false,false,false,false] rfl rfl (by kernel_rfl) (fun _ _ _ h => h) (Or.inl ⟨by rfl, ?_⟩) ?_ ?_
        rotate_left
        · intro w'; go_simp; with_reducible rfl
        rotate_left
        · simp only [Act.put, setIfInBounds_toArray, set_cons_zero, set_cons_succ, i64_w, i32_w]; rfl
        refine pure_ (i := 12) (N := some 198) (v := ?_) (a' := ?_) #[true,true,true,true,true,true,true,true,true,true,true,true,true,false,true,true,false,false,false,false] rfl rfl (by kernel_rfl) (fun _ _ _ h => h) (Or.inl ⟨by rfl, ?_⟩) ?_ ?_
        rotate_left
        · intro w'; go_simp; with_reducible rfl
        rotate_left
        · simp only [Act.put, setIfInBounds_toArray, set_cons_zero, set_cons_succ, i64_w, i32_w]; rfl
        refine one_ (i := 13) (N := some 30) #[true,true,true,true,true,true,true,true,true,true,true,true,true,true,true,true,false,false,false,false] rfl rfl (by kernel_rfl) (by decide) (fun K hK => ?_)
        refine value_ (w1 := ?_) (v := ?_) (by rfl) rfl ?_ ?_
        rotate_left 2
        · go_simp
          constructor
          · rfl
          rfl
        obtain ⟨g13, x4, hx, hg, hB, n13_4, hga13, hgb13⟩ := newb x3 #[.slice none 0 0, .bool false, .int .i64 0, .int .i64 0, .int .u64 0] 29
        rw [hx, hg]
        clear hx hg
        have hA4 := Aside0.mk (hA3.out.below hB)
        have hs4 := hB.size
        have n14_4 := Aside0.mk (blk_below n14_3.out hB)
        have n15_4 := Aside0.mk (blk_below n15_3.out hB)
        have hvf4 := Aside0.mk (Kd.R_below hvf3.out hB)
        have hvt4 := Aside0.mk (Kd.R_below hvt3.out hB)
        clear hB
        refine hK.out _ _ (held18 hA4.out.P hA4.out.S) (fun hHeld => ?_)
        clear hK K
        refine norm_ (a' := ?_) ?_ ?_
        rotate_left
        · show Act.put _ (some 30) _ = _; simp only [Act.put, setIfInBounds_toArray, set_cons_zero, set_cons_succ, i64_w, i32_w]; rfl
        exact norm_ (by simp only [putAll, Act.put, setIfInBounds_toArray, set_cons_zero, set_cons_succ]) (hCont ((Af, cf, At, ct), (g13, g14, g15)) _ (hA4.out.mkF (g0 := g13) (g1 := g14) (g2 := g15) n13_4.out n14_4.out n15_4.out hvf4.out hvt4.out (by omega) (okA (M := x2.heap.size) (by omega) (by omega)) (okA (M := x2.heap.size) (by omega) (by omega))))
      skip
      refine value_ (w1 := ?_) (v := ?_) (by rfl) rfl ?_ ?_
      rotate_left 2
      · go_simp
        constructor
        · rfl
        rfl
      obtain ⟨g13, x3, hx, hg, hB, n13_3, hga13, hgb13⟩ := newb x2 #[.slice none 0 0, .bool false, .int .i64 0, .int .i64 0, .int .u64 0] 29
      rw [hx, hg]
      clear hx hg
      have hA3 := Aside0.mk (hA2.out.below hB)
      have hs3 := hB.size
      have n14_3 := Aside0.mk (blk_below n14_2.out hB)
      have n15_3 := Aside0.mk (blk_below n15_2.out hB)
      clear hB
      refine hK.out _ _ (held18 hA3.out.P hA3.out.S) (fun hHeld => ?_)
      clear hK K
      refine norm_ (a' := ?_) ?_ ?_
      rotate_left
      · show Act.put _ (some 30) _ = _; simp only [Act.put, setIfInBounds_toArray, set_cons_zero, set_cons_succ, i64_w, i32_w]; rfl
      refine one_ (i := 7) (N := some 194) #[true,true,true,true,true,true,true,true,false,false,false,false,false,true,true,true,false,false,false,false] rfl rfl (by kernel_rfl) (by decide) (fun K hK => ?_)
      refine goes_ Try.func44 (by kernel_rfl) rfl #[.agg #[.slice Ao ro.l.length co, .bool ro.has, .int .i64 ro.nx.s, .int .i64 ro.nx.g, .int .u64 ro.nx.t], .agg #[.slice Am rm.l.length cm, .bool rm.has, .int .i64 rm.nx.s, .int .i64 rm.nx.g, .int .u64 rm.nx.t]] (by rfl) rfl rfl (by simp only [List.map_toArray, List.map_cons, List.map_nil]; rfl) ?_
      with_reducible refine (HST.out x0.heap.size x3 hA3.out.o hA3.out.m (by omega)).mono ?_
      rintro e x4 ⟨vf, vt, rfl, hvf, hvt, hB⟩
      refine ⟨_, rfl, ?_⟩
      obtain ⟨Af, cf, rfl, -, -⟩ := Kd.R_reads hvf
      obtain ⟨At, ct, rfl, -, -⟩ := Kd.R_reads hvt
      have hA4 := Aside0.mk (hA3.out.below hB)
      have hs4 := hB.size
      have n14_4 := Aside0.mk (blk_below n14_3.out hB)
      have n15_4 := Aside0.mk (blk_below n15_3.out hB)
      have n13_4 := Aside0.mk (blk_below n13_3.out hB)
      have hvf4 := Aside0.mk hvf
      have hvt4 := Aside0.mk hvt
      clear hvf hvt hB
      refine hK.out _ _ (held18 hA4.out.P hA4.out.S) (fun hHeld => ?_)
      clear hK K
      refine norm_ (a' := ?_) ?_ ?_
      rotate_left
      · show Act.put _ (some 194) _ = _; simp only [Act.put, setIfInBounds_toArray, set_cons_zero, set_cons_succ, i64_w, i32_w]; rfl
      refine pure_ (i := 8) (N := some 186) (v := ?_) (a' := ?_) #[true,true,true,true,true,true,true,true,true,false,false,false,false,true,true,true,false,false,false,false] rfl rfl (by kernel_rfl) (fun _ _ _ h => h) (Or.inl ⟨by rfl, ?_⟩) ?_ ?_
      rotate_left
      · intro w'; go_simp; with_reducible rfl
      rotate_left
      · simp only [Act.put, setIfInBounds_toArray, set_cons_zero, set_cons_succ, i64_w, i32_w]; rfl
      refine pure_ (i := 9) (N := some 195) (v := ?_) (a' := ?_) #[true,true,true,true,true,true,true,true,true,true,false,false,false,true,true,true,false,false,false,false] rfl rfl (by kernel_rfl) (fun _ _ _ h => h) (Or.inl ⟨by rfl, ?_⟩) ?_ ?_
      rotate_left
      · intro w'; go_simp; with_reducible rfl
      rotate_left
      · simp only [Act.put, setIfInBounds_toArray, set_cons_zero, set_cons_succ, i64_w, i32_w]; rfl
      refine pure_ (i := 10) (N := some 196) (v := ?_) (a' := ?_) #[true,true,true,true,true,true,true,true,true,true,true,false,false,true,true,true,false,false,false,false] rfl rfl (by kernel_rfl) (fun _ _ _ h => h) (Or.inl ⟨by rfl, ?_⟩) ?_ ?_
      rotate_left
      · intro w'; go_simp; with_reducible rfl
      rotate_left
      · simp only [Act.put, setIfInBounds_toArray, set_cons_zero, set_cons_succ, i64_w, i32_w]; rfl
      refine pure_ (i := 11) (N := some 197) (v := ?_) (a' := ?_) #[true,true,true,true,true,true,true,true,true,true,true,true,false,true,true,true,false,false,false,false] rfl rfl (by kernel_rfl) (fun _ _ _ h => h) (Or.inl ⟨by rfl, ?_⟩) ?_ ?_
      rotate_left
      · intro w'; go_simp; with_reducible rfl
      rotate_left
      · simp only [Act.put, setIfInBounds_toArray, set_cons_zero, set_cons_succ, i64_w, i32_w]; rfl
      refine pure_ (i := 12) (N := some 198) (v := ?_) (a' := ?_) #[true,true,true,true,true,true,true,true,true,true,true,true,true,true,true,true,false,false,false,false] rfl rfl (by kernel_rfl) (fun _ _ _ h => h) (Or.inl ⟨by rfl, ?_⟩) ?_ ?_
      rotate_left
      · intro w'; go_simp; with_reducible rfl
      rotate_left
      · simp only [Act.put, setIfInBounds_toArray, set_cons_zero, set_cons_succ, i64_w, i32_w]; rfl
      exact norm_ (by simp only [putAll, Act.put, setIfInBounds_toArray, set_cons_zero, set_cons_succ]) (hCont ((Af, cf, At, ct), (g13, g14, g15)) _ (hA4.out.mkF (g0 := g13) (g1 := g14) (g2 := g15) n13_4.out n14_4.out n15_4.out hvf4.out hvt4.out (by omega) (okA (M := x3.heap.size) (by omega) (by omega)) (okA (M := x3.heap.size) (by omega) (by omega))))
    skip
    refine value_ (w1 := ?_) (v := ?_) (by rfl) rfl ?_ ?_
    rotate_left 2
    · go_simp
      constructor
      · rfl
      rfl
    obtain ⟨g15, x1, hx, hg, hB, n15_1, hga15, hgb15⟩ := newb x0 #[.int .i64 0, .int .i64 0, .int .u64 0] 27
    rw [hx, hg]
    clear hx hg
    have hA1 := Aside0.mk (hA0.out.below hB)
    have hs1 := hB.size
    clear hB
    refine hK.out _ _ (held18 hA1.out.P hA1.out.S) (fun hHeld => ?_)
    clear hK K
    refine norm_ (a' := ?_) ?_ ?_
    rotate_left
    · show Act.put _ (some 32) _ = _; simp only [Act.put, setIfInBounds_toArray, set_cons_zero, set_cons_succ, i64_w, i32_w]; rfl
    refine three_ (i := 7) (j := 13) (k := 14) (Ni := some 194) (Nj := some 30) (Nk := some 31) #[true,true,true,true,true,true,true,true,false,false,false,false,false,false,false,true,false,false,false,false] #[true,true,true,true,true,true,true,false,false,false,false,false,false,true,false,true,false,false,false,false] #[true,true,true,true,true,true,true,false,false,false,false,false,false,false,true,true,false,false,false,false] rfl rfl rfl rfl rfl rfl (by kernel_rfl) (by decide) (by decide) (by decide) (fun K hK => ?_) (fun K hK => ?_) (fun K hK => ?_)
    · skip
      refine goes_ Try.func44 (by kernel_rfl) rfl #[.agg #[.slice Ao ro.l.length co, .bool ro.has, .int .i64 ro.nx.s, .int .i64 ro.nx.g, .int .u64 ro.nx.t], .agg #[.slice Am rm.l.length cm, .bool rm.has, .int .i64 rm.nx.s, .int .i64 rm.nx.g, .int .u64 rm.nx.t]] (by rfl) rfl rfl (by simp only [List.map_toArray, List.map_cons, List.map_nil]; rfl) ?_
      with_reducible refine (HST.out x0.heap.size x1 hA1.out.o hA1.out.m (by omega)).mono ?_
      rintro e x2 ⟨vf, vt, rfl, hvf, hvt, hB⟩
      refine ⟨_, rfl, ?_⟩
      obtain ⟨Af, cf, rfl, -, -⟩ := Kd.R_reads hvf
      obtain ⟨At, ct, rfl, -, -⟩ := Kd.R_reads hvt
      have hA2 := Aside0.mk (hA1.out.below hB)
      have hs2 := hB.size
      have n15_2 := Aside0.mk (blk_below n15_1.out hB)
      have hvf2 := Aside0.mk hvf
      have hvt2 := Aside0.mk hvt
      clear hvf hvt hB
      refine hK.out _ _ (held18 hA2.out.P hA2.out.S) (fun hHeld => ?_)
      clear hK K
      refine norm_ (a' := ?_) ?_ ?_
      rotate_left
      · show Act.put _ (some 194) _ = _; simp only [Act.put, setIfInBounds_toArray, set_cons_zero, set_cons_succ, i64_w, i32_w]; rfl
      refine pure_ (i := 8) (N := some 186) (v := ?_) (a' := ?_) #[true,true,true,true,true,true,true,true,true,false,false,false,false,false,false,true,false,false,false,false] rfl rfl (by kernel_rfl) (fun _ _ _ h => h) (Or.inl ⟨by rfl, ?_⟩) ?_ ?_
      rotate_left
      · intro w'; go_simp; with_reducible rfl
      rotate_left
      · simp only [Act.put, setIfInBounds_toArray, set_cons_zero, set_cons_succ, i64_w, i32_w]; rfl
      refine pure_ (i := 9) (N := some 195) (v := ?_) (a' := ?_) #[true,true,true,true,true,true,true,true,true,true,false,false,false,false,false,true,false,false,false,false] rfl rfl (by kernel_rfl) (fun _ _ _ h => h) (Or.inl ⟨by rfl, ?_⟩) ?_ ?_
      rotate_left
      · intro w'; go_simp; with_reducible rfl
      rotate_left
      · simp only [Act.put, setIfInBounds_toArray, set_cons_zero, set_cons_succ, i64_w, i32_w]; rfl
      refine pure_ (i := 10) (N := some 196) (v := ?_) (a' := ?_) #[true,true,true,true,true,true,true,true,true,true,true,false,false,false,false,true,false,false,false,false] rfl rfl (by kernel_rfl) (fun _ _ _ h => h) (Or.inl ⟨by rfl, ?_⟩) ?_ ?_
      rotate_left
      · intro w'; go_simp; with_reducible rfl
      rotate_left
      · simp only [Act.put, setIfInBounds_toArray, set_cons_zero, set_cons_succ, i64_w, i32_w]; rfl
      refine pure_ (i := 11) (N := some 197) (v := ?_) (a' := ?_) #[true,true,true,true,true,true,true,true,true,true,true,true,false,false,false,true,false,false,false,false] rfl rfl (by kernel_rfl) (fun _ _ _ h => h) (Or.inl ⟨by rfl, ?_⟩) ?_ ?_
      rotate_left
      · intro w'; go_simp; with_reducible rfl
      rotate_left
      · simp only [Act.put, setIfInBounds_toArray, set_cons_zero, set_cons_succ, i64_w, i32_w]; rfl
      refine pure_ (i := 12) (N := some 198) (v := ?_) (a' := ?_) #[true,true,true,true,true,true,true,true,true,true,true,true,true,false,false,true,false,false,false,false] rfl rfl (by kernel_rfl) (fun _ _ _ h => h) (Or.inl ⟨by rfl, ?_⟩) ?_ ?_
      rotate_left
      · intro w'; go_simp; with_reducible rfl
      rotate_left
      · simp only [Act.put, setIfInBounds_toArray, set_cons_zero, set_cons_succ, i64_w, i32_w]; rfl
      refine two_ (i := 13) (j := 14) (Ni := some 30) (Nj := some 31) #[true,true,true,true,true,true,true,true,true,true,true,true,true,true,false,true,false,false,false,false] #[true,true,true,true,true,true,true,true,true,true,true,true,true,false,true,true,false,false,false,false] rfl rfl rfl rfl (by kernel_rfl) (by decide) (by decide) (fun K hK => ?_) (fun K hK => ?_)
      · skip
        refine value_ (w1 := ?_) (v := ?_) (by rfl) rfl ?_ ?_
        rotate_left 2
        · go_simp
          constructor
          · rfl
          rfl
        obtain ⟨g13, x3, hx, hg, hB, n13_3, hga13, hgb13⟩ := newb x2 #[.slice none 0 0, .bool false, .int .i64 0, .int .i64 0, .int .u64 0] 29
        rw [hx, hg]
        clear hx hg
        have hA3 := Aside0.mk (hA2.out.below hB)
        have hs3 := hB.size
        have n15_3 := Aside0.mk (blk_below n15_2.out hB)
        have hvf3 := Aside0.mk (Kd.R_below hvf2.out hB)
        have hvt3 := Aside0.mk (Kd.R_below hvt2.out hB)
        clear hB
        refine hK.out _ _ (held18 hA3.out.P hA3.out.S) (fun hHeld => ?_)
        clear hK K
        refine norm_ (a' := ?_) ?_ ?_
        rotate_left
        · show Act.put _ (some 30) _ = _; simp only [Act.put, setIfInBounds_toArray, set_cons_zero, set_cons_succ, i64_w, i32_w]; rfl
        refine one_ (i := 14) (N := some 31) #[true,true,true,true,true,true,true,true,true,true,true,true,true,true,true,true,false,false,false,false] rfl rfl (by kernel_rfl) (by decide) (fun K hK => ?_)
        refine value_ (w1 := ?_) (v := ?_) (by rfl) rfl ?_ ?_
        rotate_left 2
        · go_simp
          constructor
          · rfl
          rfl
        obtain ⟨g14, x4, hx, hg, hB, n14_4, hga14, hgb14⟩ := newb x3 #[.slice none 0 0, .bool false, .int .i64 0, .int .i64 0, .int .u64 0] 29
        rw [hx, hg]
        clear hx hg
        have hA4 := Aside0.mk (hA3.out.below hB)
        have hs4 := hB.size
        have n15_4 := Aside0.mk (blk_below n15_3.out hB)
        have n13_4 := Aside0.mk (blk_below n13_3.out hB)
        have hvf4 := Aside0.mk (Kd.R_below hvf3.out hB)
        have hvt4 := Aside0.mk (Kd.R_below hvt3.out hB)
        clear hB
        refine hK.out _ _ (held18 hA4.out.P hA4.out.S) (fun hHeld => ?_)
        clear hK K
        refine norm_ (a' := ?_) ?_ ?_
        rotate_left
        · show Act.put _ (some 31) _ = _; simp only [Act.put, setIfInBounds_toArray, set_cons_zero, set_cons_succ, i64_w, i32_w]; rfl
        exact norm_ (by simp only [putAll, Act.put, setIfInBounds_toArray, set_cons_zero, set_cons_succ]) (hCont ((Af, cf, At, ct), (g13, g14, g15)) _ (hA4.out.mkF (g0 := g13) (g1 := g14) (g2 := g15) n13_4.out n14_4.out n15_4.out hvf4.out hvt4.out (by omega) (okA (M := x1.heap.size) (by omega) (by omega)) (okA (M := x1.heap.size) (by omega) (by omega))))
      skip
      refine value_ (w1 := ?_) (v := ?_) (by rfl) rfl ?_ ?_
      rotate_left 2
      · go_simp
        constructor
        · rfl
        rfl
      obtain ⟨g14, x3, hx, hg, hB, n14_3, hga14, hgb14⟩ := newb x2 #[.slice none 0 0, .bool false, .int .i64 0, .int .i64 0, .int .u64 0] 29
      rw [hx, hg]
      clear hx hg
      have hA3 := Aside0.mk (hA2.out.below hB)
      have hs3 := hB.size
      have n15_3 := Aside0.mk (blk_below n15_2.out hB)
      have hvf3 := Aside0.mk (Kd.R_below hvf2.out hB)
      have hvt3 := Aside0.mk (Kd.R_below hvt2.out hB)
      clear hB
      refine hK.out _ _ (held18 hA3.out.P hA3.out.S) (fun hHeld => ?_)
      clear hK K
      refine norm_ (a' := ?_) ?_ ?_
      rotate_left
      · show Act.put _ (some 31) _ = _; simp only [Act.put, setIfInBounds_toArray, set_cons_zero, set_cons_succ, i64_w, i32_w]; rfl
      refine one_ (i := 13) (N := some 30) #[true,true,true,true,true,true,true,true,true,true,true,true,true,true,true,true,false,false,false,false] rfl rfl (by kernel_rfl) (by decide) (fun K hK => ?_)
      refine value_ (w1 := ?_) (v := ?_) (by rfl) rfl ?_ ?_
      rotate_left 2
      · go_simp
        constructor
        · rfl
        rfl
      obtain ⟨g13, x4, hx, hg, hB, n13_4, hga13, hgb13⟩ := newb x3 #[.slice none 0 0, .bool false, .int .i64 0, .int .i64 0, .int .u64 0] 29
      rw [hx, hg]
      clear hx hg
      have hA4 := Aside0.mk (hA3.out.below hB)
      have hs4 := hB.size
      have n15_4 := Aside0.mk (blk_below n15_3.out hB)
      have n14_4 := Aside0.mk (blk_below n14_3.out hB)
      have hvf4 := Aside0.mk (Kd.R_below hvf3.out hB)
      have hvt4 := Aside0.mk (Kd.R_below hvt3.out hB)
      clear hB
      refine hK.out _ _ (held18 hA4.out.P hA4.out.S) (fun hHeld => ?_)
      clear hK K
      refine norm_ (a' := ?_) ?_ ?_
      rotate_left
      · show Act.put _ (some 30) _ = _; simp only [Act.put, setIfInBounds_toArray, set_cons_zero, set_cons_succ, i64_w, i32_w]; rfl
      exact norm_ (by simp only [putAll, Act.put, setIfInBounds_toArray, set_cons_zero, set_cons_succ]) (hCont ((Af, cf, At, ct), (g13, g14, g15)) _ (hA4.out.mkF (g0 := g13) (g1 := g14) (g2 := g15) n13_4.out n14_4.out n15_4.out hvf4.out hvt4.out (by omega) (okA (M := x1.heap.size) (by omega) (by omega)) (okA (M := x1.heap.size) (by omega) (by omega))))
    · skip
      refine value_ (w1 := ?_) (v := ?_) (by rfl) rfl ?_ ?_
      rotate_left 2
      · go_simp
        constructor
        · rfl
        rfl
      obtain ⟨g13, x2, hx, hg, hB, n13_2, hga13, hgb13⟩ := newb x1 #[.slice none 0 0, .bool false, .int .i64 0, .int .i64 0, .int .u64 0] 29
      rw [hx, hg]
      clear hx hg
      have hA2 := Aside0.mk (hA1.out.below hB)
      have hs2 := hB.size
      have n15_2 := Aside0.mk (blk_below n15_1.out hB)
      clear hB
      refine hK.out _ _ (held18 hA2.out.P hA2.out.S) (fun hHeld => ?_)
      clear hK K
      refine norm_ (a' := ?_) ?_ ?_
      rotate_left
      · show Act.put _ (some 30) _ = _; simp only [Act.put, setIfInBounds_toArray, set_cons_zero, set_cons_succ, i64_w, i32_w]; rfl
      refine two_ (i := 7) (j := 14) (Ni := some 194) (Nj := some 31) #[true,true,true,true,true,true,true,true,false,false,false,false,false,true,false,true,false,false,false,false] #[true,true,true,true,true,true,true,false,false,false,false,false,false,true,true,true,false,false,false,false] rfl rfl rfl rfl (by kernel_rfl) (by decide) (by decide) (fun K hK => ?_) (fun K hK => ?_)
      · skip
        refine goes_ Try.func44 (by kernel_rfl) rfl #[.agg #[.slice Ao ro.l.length co, .bool ro.has, .int .i64 ro.nx.s, .int .i64 ro.nx.g, .int .u64 ro.nx.t], .agg #[.slice Am rm.l.length cm, .bool rm.has, .int .i64 rm.nx.s, .int .i64 rm.nx.g, .int .u64 rm.nx.t]] (by rfl) rfl rfl (by simp only [List.map_toArray, List.map_cons, List.map_nil]; rfl) ?_
        with_reducible refine (HST.out x0.heap.size x2 hA2.out.o hA2.out.m (by omega)).mono ?_
        rintro e x3 ⟨vf, vt, rfl, hvf, hvt, hB⟩
        refine ⟨_, rfl, ?_⟩
        obtain ⟨Af, cf, rfl, -, -⟩ := Kd.R_reads hvf
        obtain ⟨At, ct, rfl, -, -⟩ := Kd.R_reads hvt
        have hA3 := Aside0.mk (hA2.out.below hB)
        have hs3 := hB.size
        have n15_3 := Aside0.mk (blk_below n15_2.out hB)
        have n13_3 := Aside0.mk (blk_below n13_2.out hB)
        have hvf3 := Aside0.mk hvf
        have hvt3 := Aside0.mk hvt
        clear hvf hvt hB
        refine hK.out _ _ (held18 hA3.out.P hA3.out.S) (fun hHeld => ?_)
        clear hK K
        refine norm_ (a' := ?_) ?_ ?_
        rotate_left
        · show Act.put _ (some 194) _ = _; simp only [Act.put, setIfInBounds_toArray, set_cons_zero, set_cons_succ, i64_w, i32_w]; rfl
        refine pure_ (i := 8) (N := some 186) (v := ?_) (a' := ?_) #[true,true,true,true,true,true,true,true,true,false,false,false,false,true,false,true,false,false,false,false] rfl rfl (by kernel_rfl) (fun _ _ _ h => h) (Or.inl ⟨by rfl, ?_⟩) ?_ ?_
        rotate_left
        · intro w'; go_simp; with_reducible rfl
        rotate_left
        · simp only [Act.put, setIfInBounds_toArray, set_cons_zero, set_cons_succ, i64_w, i32_w]; rfl
        refine pure_ (i := 9) (N := some 195) (v := ?_) (a' := ?_) #[true,true,true,true,true,true,true,true,true,true,false,false,false,true,false,true,false,false,false,false] rfl rfl (by kernel_rfl) (fun _ _ _ h => h) (Or.inl ⟨by rfl, ?_⟩) ?_ ?_
        rotate_left
        · intro w'; go_simp; with_reducible rfl
        rotate_left
        · simp only [Act.put, setIfInBounds_toArray, set_cons_zero, set_cons_succ, i64_w, i32_w]; rfl
        refine pure_ (i := 10) (N := some 196) (v := ?_) (a' := ?_) #[true,true,true,true,true,true,true,true,true,true,true,false,false,true,false,true,false,false,false,false] rfl rfl (by kernel_rfl) (fun _ _ _ h => h) (Or.inl ⟨by rfl, ?_⟩) ?_ ?_
        rotate_left
        · intro w'; go_simp; with_reducible rfl
        rotate_left
        · simp only [Act.put, setIfInBounds_toArray, set_cons_zero, set_cons_succ, i64_w, i32_w]; rfl
        refine pure_ (i := 11) (N := some 197) (v := ?_) (a' := ?_) #[true,true,true,true,true,true,true,true,true,true,true,true,false,true,false,true,false,false,false,false] rfl rfl (by kernel_rfl) (fun _ _ _ h => h) (Or.inl ⟨by rfl, ?_⟩) ?_ ?_
        rotate_left
        · intro w'; go_simp; with_reducible rfl
        rotate_left
        · simp only [Act.put, setIfInBounds_toArray, set_cons_zero, set_cons_succ, i64_w, i32_w]; rfl
        refine pure_ (i := 12) (N := some 198) (v := ?_) (a' := ?_) #[true,true,true,true,true,true,true,true,true,true,true,true,true,true,false,true,false,false,false,false] rfl rfl (by kernel_rfl) (fun _ _ _ h => h) (Or.inl ⟨by rfl, ?_⟩) ?_ ?_
        rotate_left
        · intro w'; go_simp; with_reducible rfl
        rotate_left
        · simp only [Act.put, setIfInBounds_toArray, set_cons_zero, set_cons_succ, i64_w, i32_w]; rfl
        refine one_ (i := 14) (N := some 31) #[true,true,true,true,true,true,true,true,true,true,true,true,true,true,true,true,false,false,false,false] rfl rfl (by kernel_rfl) (by decide) (fun K hK => ?_)
        refine value_ (w1 := ?_) (v := ?_) (by rfl) rfl ?_ ?_
        rotate_left 2
        · go_simp
          constructor
          · rfl
          rfl
        obtain ⟨g14, x4, hx, hg, hB, n14_4, hga14, hgb14⟩ := newb x3 #[.slice none 0 0, .bool false, .int .i64 0, .int .i64 0, .int .u64 0] 29
        rw [hx, hg]
        clear hx hg
        have hA4 := Aside0.mk (hA3.out.below hB)
        have hs4 := hB.size
        have n15_4 := Aside0.mk (blk_below n15_3.out hB)
        have n13_4 := Aside0.mk (blk_below n13_3.out hB)
        have hvf4 := Aside0.mk (Kd.R_below hvf3.out hB)
        have hvt4 := Aside0.mk (Kd.R_below hvt3.out hB)
        clear hB
        refine hK.out _ _ (held18 hA4.out.P hA4.out.S) (fun hHeld => ?_)
        clear hK K
        refine norm_ (a' := ?_) ?_ ?_
        rotate_left
        · show Act.put _ (some 31) _ = _; simp only [Act.put, setIfInBounds_toArray, set_cons_zero, set_cons_succ, i64_w, i32_w]; rfl
        exact norm_ (by simp only [putAll, Act.put, setIfInBounds_toArray, set_cons_zero, set_cons_succ]) (hCont ((Af, cf, At, ct), (g13, g14, g15)) _ (hA4.out.mkF (g0 := g13) (g1 := g14) (g2 := g15) n13_4.out n14_4.out n15_4.out hvf4.out hvt4.out (by omega) (okA (M := x2.heap.size) (by omega) (by omega)) (okA (M := x2.heap.size) (by omega) (by omega))))
      skip
      refine value_ (w1 := ?_) (v := ?_) (by rfl) rfl ?_ ?_
      rotate_left 2
      · go_simp
        constructor
        · rfl
        rfl
      obtain ⟨g14, x3, hx, hg, hB, n14_3, hga14, hgb14⟩ := newb x2 #[.slice none 0 0, .bool false, .int .i64 0, .int .i64 0, .int .u64 0] 29
      rw [hx, hg]
      clear hx hg
      have hA3 := Aside0.mk (hA2.out.below hB)
      have hs3 := hB.size
      have n15_3 := Aside0.mk (blk_below n15_2.out hB)
      have n13_3 := Aside0.mk (blk_below n13_2.out hB)
      clear hB
      refine hK.out _ _ (held18 hA3.out.P hA3.out.S) (fun hHeld => ?_)
      clear hK K
      refine norm_ (a' := ?_) ?_ ?_
      rotate_left
      · show Act.put _ (some 31) _ = _; simp only [Act.put, setIfInBounds_toArray, set_cons_zero, set_cons_succ, i64_w, i32_w]; rfl
      refine one_ (i := 7) (N := some 194) #[true,true,true,true,true,true,true,true,false,false,false,false,false,true,true,true,false,false,false,false] rfl rfl (by kernel_rfl) (by decide) (fun K hK => ?_)
      refine goes_ Try.func44 (by kernel_rfl) rfl #[.agg #[.slice Ao ro.l.length co, .bool ro.has, .int .i64 ro.nx.s, .int .i64 ro.nx.g, .int .u64 ro.nx.t], .agg #[.slice Am rm.l.length cm, .bool rm.has, .int .i64 rm.nx.s, .int .i64 rm.nx.g, .int .u64 rm.nx.t]] (by rfl) rfl rfl (by simp only [List.map_toArray, List.map_cons, List.map_nil]; rfl) ?_
      with_reducible refine (HST.out x0.heap.size x3 hA3.out.o hA3.out.m (by omega)).mono ?_
      rintro e x4 ⟨vf, vt, rfl, hvf, hvt, hB⟩
      refine ⟨_, rfl, ?_⟩
      obtain ⟨Af, cf, rfl, -, -⟩ := Kd.R_reads hvf
      obtain ⟨At, ct, rfl, -, -⟩ := Kd.R_reads hvt
      have hA4 := Aside0.mk (hA3.out.below hB)
      have hs4 := hB.size
      have n15_4 := Aside0.mk (blk_below n15_3.out hB)
      have n13_4 := Aside0.mk (blk_below n13_3.out hB)
      have n14_4 := Aside0.mk (blk_below n14_3.out hB)
      have hvf4 := Aside0.mk hvf
      have hvt4 := Aside0.mk hvt
      clear hvf hvt hB
      refine hK.out _ _ (held18 hA4.out.P hA4.out.S) (fun hHeld => ?_)
      clear hK K
      refine norm_ (a' := ?_) ?_ ?_
      rotate_left
      · show Act.put _ (some 194) _ = _; simp only [Act.put, setIfInBounds_toArray, set_cons_zero, set_cons_succ, i64_w, i32_w]; rfl
      refine pure_ (i := 8) (N := some 186) (v := ?_) (a' := ?_) #[true,true,true,true,true,true,true,true,true,false,false,false,false,true,true,true,false,false,false,false] rfl rfl (by kernel_rfl) (fun _ _ _ h => h) (Or.inl ⟨by rfl, ?_⟩) ?_ ?_
      rotate_left
      · intro w'; go_simp; with_reducible rfl
      rotate_left
      · simp only [Act.put, setIfInBounds_toArray, set_cons_zero, set_cons_succ, i64_w, i32_w]; rfl
      refine pure_ (i := 9) (N := some 195) (v := ?_) (a' := ?_) #[true,true,true,true,true,true,true,true,true,true,false,false,false,true,true,true,false,false,false,false] rfl rfl (by kernel_rfl) (fun _ _ _ h => h) (Or.inl ⟨by rfl, ?_⟩) ?_ ?_
      rotate_left
      · intro w'; go_simp; with_reducible rfl
      rotate_left
      · simp only [Act.put, setIfInBounds_toArray, set_cons_zero, set_cons_succ, i64_w, i32_w]; rfl
      refine pure_ (i := 10) (N := some 196) (v := ?_) (a' := ?_) #[true,true,true,true,true,true,true,true,true,true,true,false,false,true,true,true,false,false,false,false] rfl rfl (by kernel_rfl) (fun _ _ _ h => h) (Or.inl ⟨by rfl, ?_⟩) ?_ ?_
      rotate_left
      · intro w'; go_simp; with_reducible rfl
      rotate_left
      · simp only [Act.put, setIfInBounds_toArray, set_cons_zero, set_cons_succ, i64_w, i32_w]; rfl
      refine pure_ (i := 11) (N := some 197) (v := ?_) (a' := ?_) #[true,true,true,true,true,true,true,true,true,true,true,true,false,true,true,true,false,false,false,false] rfl rfl (by kernel_rfl) (fun _ _ _ h => h) (Or.inl ⟨by rfl, ?_⟩) ?_ ?_
      rotate_left
      · intro w'; go_simp; with_reducible rfl
      rotate_left
      · simp only [Act.put, setIfInBounds_toArray, set_cons_zero, set_cons_succ, i64_w, i32_w]; rfl
      refine pure_ (i := 12) (N := some 198) (v := ?_) (a' := ?_) #[true,true,true,true,true,true,true,true,true,true,true,true,true,true,true,true,false,false,false,false] rfl rfl (by kernel_rfl) (fun _ _ _ h => h) (Or.inl ⟨by rfl, ?_⟩) ?_ ?_
      rotate_left
      · intro w'; go_simp; with_reducible rfl
      rotate_left
      · simp only [Act.put, setIfInBounds_toArray, set_cons_zero, set_cons_succ, i64_w, i32_w]; rfl
      exact norm_ (by simp only [putAll, Act.put, setIfInBounds_toArray, set_cons_zero, set_cons_succ]) (hCont ((Af, cf, At, ct), (g13, g14, g15)) _ (hA4.out.mkF (g0 := g13) (g1 := g14) (g2 := g15) n13_4.out n14_4.out n15_4.out hvf4.out hvt4.out (by omega) (okA (M := x3.heap.size) (by omega) (by omega)) (okA (M := x3.heap.size) (by omega) (by omega))))
    skip
    refine value_ (w1 := ?_) (v := ?_) (by rfl) rfl ?_ ?_
    rotate_left 2
    · go_simp
      constructor
      · rfl
      rfl
    obtain ⟨g14, x2, hx, hg, hB, n14_2, hga14, hgb14⟩ := newb x1 #[.slice none 0 0, .bool false, .int .i64 0, .int .i64 0, .int .u64 0] 29
    rw [hx, hg]
    clear hx hg
    have hA2 := Aside0.mk (hA1.out.below hB)
    have hs2 := hB.size
    have n15_2 := Aside0.mk (blk_below n15_1.out hB)
    clear hB
    refine hK.out _ _ (held18 hA2.out.P hA2.out.S) (fun hHeld => ?_)
    clear hK K
    refine norm_ (a' := ?_) ?_ ?_
    rotate_left
    · show Act.put _ (some 31) _ = _; simp only [Act.put, setIfInBounds_toArray, set_cons_zero, set_cons_succ, i64_w, i32_w]; rfl
    refine two_ (i := 7) (j := 13) (Ni := some 194) (Nj := some 30) #[true,true,true,true,true,true,true,true,false,false,false,false,false,false,true,true,false,false,false,false] #[true,true,true,true,true,true,true,false,false,false,false,false,false,true,true,true,false,false,false,false] rfl rfl rfl rfl (by kernel_rfl) (by decide) (by decide) (fun K hK => ?_) (fun K hK => ?_)
    · skip
      refine goes_ Try.func44 (by kernel_rfl) rfl #[.agg #[.slice Ao ro.l.length co, .bool ro.has, .int .i64 ro.nx.s, .int .i64 ro.nx.g, .int .u64 ro.nx.t], .agg #[.slice Am rm.l.length cm, .bool rm.has, .int .i64 rm.nx.s, .int .i64 rm.nx.g, .int .u64 rm.nx.t]] (by rfl) rfl rfl (by simp only [List.map_toArray, List.map_cons, List.map_nil]; rfl) ?_
      with_reducible refine (HST.out x0.heap.size x2 hA2.out.o hA2.out.m (by omega)).mono ?_
      rintro e x3 ⟨vf, vt, rfl, hvf, hvt, hB⟩
      refine ⟨_, rfl, ?_⟩
      obtain ⟨Af, cf, rfl, -, -⟩ := Kd.R_reads hvf
      obtain ⟨At, ct, rfl, -, -⟩ := Kd.R_reads hvt
      have hA3 := Aside0.mk (hA2.out.below hB)
      have hs3 := hB.size
      have n15_3 := Aside0.mk (blk_below n15_2.out hB)
      have n14_3 := Aside0.mk (blk_below n14_2.out hB)
      have hvf3 := Aside0.mk hvf
      have hvt3 := Aside0.mk hvt
      clear hvf hvt hB
      refine hK.out _ _ (held18 hA3.out.P hA3.out.S) (fun hHeld => ?_)
      clear hK K
      refine norm_ (a' := ?_) ?_ ?_
      rotate_left
      · show Act.put _ (some 194) _ = _; simp only [Act.put, setIfInBounds_toArray, set_cons_zero, set_cons_succ, i64_w, i32_w]; rfl
      refine pure_ (i := 8) (N := some 186) (v := ?_) (a' := ?_) #[true,true,true,true,true,true,true,true,true,false,false,false,false,false,true,true,false,false,false,false] rfl rfl (by kernel_rfl) (fun _ _ _ h => h) (Or.inl ⟨by rfl, ?_⟩) ?_ ?_
      rotate_left
      · intro w'; go_simp; with_reducible rfl
      rotate_left
      · simp only [Act.put, setIfInBounds_toArray, set_cons_zero, set_cons_succ, i64_w, i32_w]; rfl
      refine pure_ (i := 9) (N := some 195) (v := ?_) (a' := ?_) #[true,true,true,true,true,true,true,true,true,true,false,false,false,false,true,true,false,false,false,false] rfl rfl (by kernel_rfl) (fun _ _ _ h => h) (Or.inl ⟨by rfl, ?_⟩) ?_ ?_
      rotate_left
      · intro w'; go_simp; with_reducible rfl
      rotate_left
      · simp only [Act.put, setIfInBounds_toArray, set_cons_zero, set_cons_succ, i64_w, i32_w]; rfl
      refine pure_ (i := 10) (N := some 196) (v := ?_) (a' := ?_) #[true,true,true,true,true,true,true,true,true,true,true,false,false,false,true,true,false,false,false,false] rfl rfl (by kernel_rfl) (fun _ _ _ h => h) (Or.inl ⟨by rfl, ?_⟩) ?_ ?_
      rotate_left
      · intro w'; go_simp; with_reducible rfl
      rotate_left
      · simp only [Act.put, setIfInBounds_toArray, set_cons_zero, set_cons_succ, i64_w, i32_w]; rfl
      refine pure_ (i := 11) (N := some 197) (v := ?_) (a' := ?_) #[true,true,true,true,true,true,true,true,true,true,true,true,false,false,true,true,false,false,false,false] rfl rfl (by kernel_rfl) (fun _ _ _ h => h) (Or.inl ⟨by rfl, ?_⟩) ?_ ?_
      rotate_left
      · intro w'; go_simp; with_reducible rfl
      rotate_left
      · simp only [Act.put, setIfInBounds_toArray, set_cons_zero, set_cons_succ, i64_w, i32_w]; rfl
      refine pure_ (i := 12) (N := some 198) (v := ?_) (a' := ?_) #[true,true,true,true,true,true,true,true,true,true,true,true,true,false,true,true,false,false,false,false] rfl rfl (by kernel_rfl) (fun _ _ _ h => h) (Or.inl ⟨by rfl, ?_⟩) ?_ ?_
      rotate_left
      · intro w'; go_simp; with_reducible rfl
      rotate_left
      · simp only [Act.put, setIfInBounds_toArray, set_cons_zero, set_cons_succ, i64_w, i32_w]; rfl
      refine one_ (i := 13) (N := some 30) #[true,true,true,true,true,true,true,true,true,true,true,true,true,true,true,true,false,false,false,false] rfl rfl (by kernel_rfl) (by decide) (fun K hK => ?_)
      refine value_ (w1 := ?_) (v := ?_) (by rfl) rfl ?_ ?_
      rotate_left 2
      · go_simp
        constructor
        · rfl
        rfl
      obtain ⟨g13, x4, hx, hg, hB, n13_4, hga13, hgb13⟩ := newb x3 #[.slice none 0 0, .bool false, .int .i64 0, .int .i64 0, .int .u64 0] 29
      rw [hx, hg]
      clear hx hg
      have hA4 := Aside0.mk (hA3.out.below hB)
      have hs4 := hB.size
      have n15_4 := Aside0.mk (blk_below n15_3.out hB)
      have n14_4 := Aside0.mk (blk_below n14_3.out hB)
      have hvf4 := Aside0.mk (Kd.R_below hvf3.out hB)
      have hvt4 := Aside0.mk (Kd.R_below hvt3.out hB)
      clear hB
      refine hK.out _ _ (held18 hA4.out.P hA4.out.S) (fun hHeld => ?_)
      clear hK K
      refine norm_ (a' := ?_) ?_ ?_
      rotate_left
      · show Act.put _ (some 30) _ = _; simp only [Act.put, setIfInBounds_toArray, set_cons_zero, set_cons_succ, i64_w, i32_w]; rfl
      exact norm_ (by simp only [putAll, Act.put, setIfInBounds_toArray, set_cons_zero, set_cons_succ]) (hCont ((Af, cf, At, ct), (g13, g14, g15)) _ (hA4.out.mkF (g0 := g13) (g1 := g14) (g2 := g15) n13_4.out n14_4.out n15_4.out hvf4.out hvt4.out (by omega) (okA (M := x2.heap.size) (by omega) (by omega)) (okA (M := x2.heap.size) (by omega) (by omega))))
    skip
    refine value_ (w1 := ?_) (v := ?_) (by rfl) rfl ?_ ?_
    rotate_left 2
    · go_simp
      constructor
      · rfl
      rfl
    obtain ⟨g13, x3, hx, hg, hB, n13_3, hga13, hgb13⟩ := newb x2 #[.slice none 0 0, .bool false, .int .i64 0, .int .i64 0, .int .u64 0] 29
    rw [hx, hg]
    clear hx hg
    have hA3 := Aside0.mk (hA2.out.below hB)
    have hs3 := hB.size
    have n15_3 := Aside0.mk (blk_below n15_2.out hB)
    have n14_3 := Aside0.mk (blk_below n14_2.out hB)
    clear hB
    refine hK.out _ _ (held18 hA3.out.P hA3.out.S) (fun hHeld => ?_)
    clear hK K
    refine norm_ (a' := ?_) ?_ ?_
    rotate_left
    · show Act.put _ (some 30) _ = _; simp only [Act.put, setIfInBounds_toArray, set_cons_zero, set_cons_succ, i64_w, i32_w]; rfl
    refine one_ (i := 7) (N := some 194) #[true,true,true,true,true,true,true,true,false,false,false,false,false,true,true,true,false,false,false,false] rfl rfl (by kernel_rfl) (by decide) (fun K hK => ?_)
    refine goes_ Try.func44 (by kernel_rfl) rfl #[.agg #[.slice Ao ro.l.length co, .bool ro.has, .int .i64 ro.nx.s, .int .i64 ro.nx.g, .int .u64 ro.nx.t], .agg #[.slice Am rm.l.length cm, .bool rm.has, .int .i64 rm.nx.s, .int .i64 rm.nx.g, .int .u64 rm.nx.t]] (by rfl) rfl rfl (by simp only [List.map_toArray, List.map_cons, List.map_nil]; rfl) ?_
    with_reducible refine (HST.out x0.heap.size x3 hA3.out.o hA3.out.m (by omega)).mono ?_
    rintro e x4 ⟨vf, vt, rfl, hvf, hvt, hB⟩
    refine ⟨_, rfl, ?_⟩
    obtain ⟨Af, cf, rfl, -, -⟩ := Kd.R_reads hvf
    obtain ⟨At, ct, rfl, -, -⟩ := Kd.R_reads hvt
    have hA4 := Aside0.mk (hA3.out.below hB)
    have hs4 := hB.size
    have n15_4 := Aside0.mk (blk_below n15_3.out hB)
    have n14_4 := Aside0.mk (blk_below n14_3.out hB)
    have n13_4 := Aside0.mk (blk_below n13_3.out hB)
    have hvf4 := Aside0.mk hvf
    have hvt4 := Aside0.mk hvt
    clear hvf hvt hB
    refine hK.out _ _ (held18 hA4.out.P hA4.out.S) (fun hHeld => ?_)
    clear hK K
    refine norm_ (a' := ?_) ?_ ?_
    rotate_left
    · show Act.put _ (some 194) _ = _; simp only [Act.put, setIfInBounds_toArray, set_cons_zero, set_cons_succ, i64_w, i32_w]; rfl
    refine pure_ (i := 8) (N := some 186) (v := ?_) (a' := ?_) #[true,true,true,true,true,true,true,true,true,false,false,false,false,true,true,true,false,false,false,false] rfl rfl (by kernel_rfl) (fun _ _ _ h => h) (Or.inl ⟨by rfl, ?_⟩) ?_ ?_
    rotate_left
    · intro w'; go_simp; with_reducible rfl
    rotate_left
    · simp only [Act.put, setIfInBounds_toArray, set_cons_zero, set_cons_succ, i64_w, i32_w]; rfl
    refine pure_ (i := 9) (N := some 195) (v := ?_) (a' := ?_) #[true,true,true,true,true,true,true,true,true,true,false,false,false,true,true,true,false,false,false,false] rfl rfl (by kernel_rfl) (fun _ _ _ h => h) (Or.inl ⟨by rfl, ?_⟩) ?_ ?_
    rotate_left
    · intro w'; go_simp; with_reducible rfl
    rotate_left
    · simp only [Act.put, setIfInBounds_toArray, set_cons_zero, set_cons_succ, i64_w, i32_w]; rfl
    refine pure_ (i := 10) (N := some 196) (v := ?_) (a' := ?_) #[true,true,true,true,true,true,true,true,true,true,true,false,false,true,true,true,false,false,false,false] rfl rfl (by kernel_rfl) (fun _ _ _ h => h) (Or.inl ⟨by rfl, ?_⟩) ?_ ?_
    rotate_left
    · intro w'; go_simp; with_reducible rfl
    rotate_left
    · simp only [Act.put, setIfInBounds_toArray, set_cons_zero, set_cons_succ, i64_w, i32_w]; rfl
    refine pure_ (i := 11) (N := some 197) (v := ?_) (a' := ?_) #[true,true,true,true,true,true,true,true,true,true,true,true,false,true,true,true,false,false,false,false] rfl rfl (by kernel_rfl) (fun _ _ _ h => h) (Or.inl ⟨by rfl, ?_⟩) ?_ ?_
    rotate_left
    · intro w'; go_simp; with_reducible rfl
    rotate_left
    · simp only [Act.put, setIfInBounds_toArray, set_cons_zero, set_cons_succ, i64_w, i32_w]; rfl
    refine pure_ (i := 12) (N := some 198) (v := ?_) (a' := ?_) #[true,true,true,true,true,true,true,true,true,true,true,true,true,true,true,true,false,false,false,false] rfl rfl (by kernel_rfl) (fun _ _ _ h => h) (Or.inl ⟨by rfl, ?_⟩) ?_ ?_
    rotate_left
    · intro w'; go_simp; with_reducible rfl
    rotate_left
    · simp only [Act.put, setIfInBounds_toArray, set_cons_zero, set_cons_succ, i64_w, i32_w]; rfl
    exact norm_ (by simp only [putAll, Act.put, setIfInBounds_toArray, set_cons_zero, set_cons_succ]) (hCont ((Af, cf, At, ct), (g13, g14, g15)) _ (hA4.out.mkF (g0 := g13) (g1 := g14) (g2 := g15) n13_4.out n14_4.out n15_4.out hvf4.out hvt4.out (by omega) (okA (M := x3.heap.size) (by omega) (by omega)) (okA (M := x3.heap.size) (by omega) (by omega))))
  rintro ⟨⟨Af, cf, At, ct⟩, g0, g1, g2⟩ x4 ⟨n0, n1, n2, d01, d02, d12, l0, l1, l2, l4, hP4, hR4, hY4, hI4, hJ4, hKW4, hvf4, hvt4, hS4⟩
  dsimp only at n0 n1 n2 d01 d02 d12 l0 l1 l2 hvf4 hvt4
  have hHeld : x4.cell? ⟨w.heap.size, 0, none⟩ = some (.pointer (some ⟨bo, 0, none⟩)) ∧ x4.cell? ⟨w.heap.size, 1, none⟩ = some (.pointer (some ⟨bm, 0, none⟩)) ∧ x4.cell? ⟨w.heap.size, 2, none⟩ = some (.slice Ao ro.l.length co) ∧ x4.cell? ⟨w.heap.size, 3, none⟩ = some (.bool ro.has) ∧ x4.cell? ⟨w.heap.size, 4, none⟩ = some (.int .i64 ro.nx.s) ∧ x4.cell? ⟨w.heap.size, 5, none⟩ = some (.int .i64 ro.nx.g) ∧ x4.cell? ⟨w.heap.size, 6, none⟩ = some (.int .u64 ro.nx.t) ∧ x4.cell? ⟨w.heap.size, 7, none⟩ = some (.slice Am rm.l.length cm) ∧ x4.cell? ⟨w.heap.size, 8, none⟩ = some (.bool rm.has) ∧ x4.cell? ⟨w.heap.size, 9, none⟩ = some (.int .i64 rm.nx.s) ∧ x4.cell? ⟨w.heap.size, 10, none⟩ = some (.int .i64 rm.nx.g) ∧ x4.cell? ⟨w.heap.size, 11, none⟩ = some (.int .u64 rm.nx.t) ∧ x4.cell? ⟨w.heap.size, 12, none⟩ = some (.int .i64 1) ∧ x4.cell? ⟨w.heap.size + 1 + 1 + 1, 0, none⟩ = some (.slice Am rm.l.length cm) ∧ x4.cell? ⟨w.heap.size + 1 + 1 + 1, 1, none⟩ = some (.bool rm.has) ∧ x4.cell? ⟨w.heap.size + 1 + 1 + 1, 2, none⟩ = some (.int .i64 rm.nx.s) ∧ x4.cell? ⟨w.heap.size + 1 + 1 + 1, 3, none⟩ = some (.int .i64 rm.nx.g) ∧ x4.cell? ⟨w.heap.size + 1 + 1 + 1, 4, none⟩ = some (.int .u64 rm.nx.t) := ⟨cell_blk hP4 0, cell_blk hP4 1, cell_blk hP4 2, cell_blk hP4 3, cell_blk hP4 4, cell_blk hP4 5, cell_blk hP4 6, cell_blk hP4 7, cell_blk hP4 8, cell_blk hP4 9, cell_blk hP4 10, cell_blk hP4 11, cell_blk hP4 12, cell_blk hS4 0, cell_blk hS4 1, cell_blk hS4 2, cell_blk hS4 3, cell_blk hS4 4⟩
  have hP4 := Aside0.mk hP4
  have hR4 := Aside0.mk hR4
  have hY4 := Aside0.mk hY4
  have hI4 := Aside0.mk hI4
  have hJ4 := Aside0.mk hJ4
  have hKW4 := Aside0.mk hKW4
  have hvf4 := Aside0.mk hvf4
  have hvt4 := Aside0.mk hvt4
  clear hS4
  obtain ⟨a0, a1, a2, a3, a4, af0, af1, af2, af3, af4⟩ := blk5 n0
  obtain ⟨b0, b1, b2, b3, b4, bf0, bf1, bf2, bf3, bf4⟩ := blk5 n1
  obtain ⟨c0, c1, c2, cf0, cf1, cf2⟩ := blk3 n2
  have d10 : g1 ≠ g0 := fun e => d01 e.symm
  have d20 : g2 ≠ g0 := fun e => d02 e.symm
  have d21 : g2 ≠ g1 := fun e => d12 e.symm
  have al := lt_blk n0
  have bl := lt_blk n1
  have cl := lt_blk n2
  have n0 := Aside0.mk n0
  have n1 := Aside0.mk n1
  have n2 := Aside0.mk n2
  have uPg0 : g0 ≠ w.heap.size := by omega
  have vPg0 : w.heap.size ≠ g0 := by omega
  have uPg1 : g1 ≠ w.heap.size := by omega
  have vPg1 : w.heap.size ≠ g1 := by omega
  have uPg2 : g2 ≠ w.heap.size := by omega
  have vPg2 : w.heap.size ≠ g2 := by omega
  have uRg0 : g0 ≠ w.heap.size + 1 + 1 := by omega
  have vRg0 : w.heap.size + 1 + 1 ≠ g0 := by omega
  have uRg1 : g1 ≠ w.heap.size + 1 + 1 := by omega
  have vRg1 : w.heap.size + 1 + 1 ≠ g1 := by omega
  have uRg2 : g2 ≠ w.heap.size + 1 + 1 := by omega
  have vRg2 : w.heap.size + 1 + 1 ≠ g2 := by omega
  have uYg0 : g0 ≠ w1.heap.size := by omega
  have vYg0 : w1.heap.size ≠ g0 := by omega
  have uYg1 : g1 ≠ w1.heap.size := by omega
  have vYg1 : w1.heap.size ≠ g1 := by omega
  have uYg2 : g2 ≠ w1.heap.size := by omega
  have vYg2 : w1.heap.size ≠ g2 := by omega
  have m0 : bm ≠ g0 := by omega
  have m1 : bm ≠ g1 := by omega
  have m2 : bm ≠ g2 := by omega
  have o0 : bo ≠ g0 := by omega
  have o1 : bo ≠ g1 := by omega
  have o2 : bo ≠ g2 := by omega
  refine norm_ (a' := ?_) ?_ ?_
  rotate_left
  · simp only [putAll, Act.put, setIfInBounds_toArray, set_cons_zero, set_cons_succ]
    rfl
  refine last_ (i := 16) (N := none) #[true,true,true,true,true,true,true,true,true,true,true,true,true,true,true,true,true,false,false,false] rfl rfl (by kernel_rfl) (by decide) (fun K hK => ?_)
  refine skip_ (w1 := ?_) (by rfl) rfl ?_ ?_
  rotate_left
  · go_simp
    first | with_reducible rfl | rfl
  refine hK.out _ _ ?_
  clear hK K
  have hk : Keep (fun i => i = g0) x4 (((((x4.setCell ⟨g0, 0, none⟩ (.slice Af f2.l.length cf)).setCell ⟨g0, 1, none⟩ (.bool f2.has)).setCell ⟨g0, 2, none⟩ (.int .i64 f2.nx.s)).setCell ⟨g0, 3, none⟩ (.int .i64 f2.nx.g)).setCell ⟨g0, 4, none⟩ (.int .u64 f2.nx.t)) := (by repeat (first | (with_reducible exact Keep.refl _ _) | (with_reducible refine Keep.drewN ?_ _) | (with_reducible refine Keep.drew ?_) | (with_reducible refine Keep.setCell ?_ _ _ (by first | (right; with_reducible rfl) | (left; simp; done) | (left; simp; omega) | (right; simp; done) | (right; assumption))) | (with_reducible refine Keep.alloc ?_ _)))
  have hI4 := Aside0.mk (hI4.out.keep hk m0)
  have hJ4 := Aside0.mk (hJ4.out.keep hk o0)
  have hKW4 := Aside0.mk (hKW4.out.trans' hk (fun i hi e => by omega))
  have hvf4 := Aside0.mk (R_keepT hvf4.out n0.out (by decide) hk)
  have hvt4 := Aside0.mk (R_keepT hvt4.out n0.out (by decide) hk)
  have hP4 : Aside0 ((((((x4.setCell ⟨g0, 0, none⟩ (.slice Af f2.l.length cf)).setCell ⟨g0, 1, none⟩ (.bool f2.has)).setCell ⟨g0, 2, none⟩ (.int .i64 f2.nx.s)).setCell ⟨g0, 3, none⟩ (.int .i64 f2.nx.g)).setCell ⟨g0, 4, none⟩ (.int .u64 f2.nx.t)).heap[w.heap.size]? = some (.cells #[.pointer (some ⟨bo, 0, none⟩), .pointer (some ⟨bm, 0, none⟩), .slice Ao ro.l.length co, .bool ro.has, .int .i64 ro.nx.s, .int .i64 ro.nx.g, .int .u64 ro.nx.t, .slice Am rm.l.length cm, .bool rm.has, .int .i64 rm.nx.s, .int .i64 rm.nx.g, .int .u64 rm.nx.t, .int .i64 1] 55 (0, 0))) := ⟨blk_set_ne (blk_set_ne (blk_set_ne (blk_set_ne (blk_set_ne (hP4.out) vPg0) vPg0) vPg0) vPg0) vPg0⟩
  have hR4 : Aside0 ((((((x4.setCell ⟨g0, 0, none⟩ (.slice Af f2.l.length cf)).setCell ⟨g0, 1, none⟩ (.bool f2.has)).setCell ⟨g0, 2, none⟩ (.int .i64 f2.nx.s)).setCell ⟨g0, 3, none⟩ (.int .i64 f2.nx.g)).setCell ⟨g0, 4, none⟩ (.int .u64 f2.nx.t)).heap[w.heap.size + 1 + 1]? = some (.cells #[.pointer none, .pointer none, .slice none 0 0, .bool false, .int .i64 0, .int .i64 0, .int .u64 0, .slice none 0 0, .bool false, .int .i64 0, .int .i64 0, .int .u64 0, .int .i64 0] 55 (0, 0))) := ⟨blk_set_ne (blk_set_ne (blk_set_ne (blk_set_ne (blk_set_ne (hR4.out) vRg0) vRg0) vRg0) vRg0) vRg0⟩
  have hY4 : Aside0 ((((((x4.setCell ⟨g0, 0, none⟩ (.slice Af f2.l.length cf)).setCell ⟨g0, 1, none⟩ (.bool f2.has)).setCell ⟨g0, 2, none⟩ (.int .i64 f2.nx.s)).setCell ⟨g0, 3, none⟩ (.int .i64 f2.nx.g)).setCell ⟨g0, 4, none⟩ (.int .u64 f2.nx.t)).heap[w1.heap.size]? = some (.cells #[.int .i64 y.s, .int .i64 y.g, .int .u64 y.t] 27 (0, 0))) := ⟨blk_set_ne (blk_set_ne (blk_set_ne (blk_set_ne (blk_set_ne (hY4.out) vYg0) vYg0) vYg0) vYg0) vYg0⟩
  have n0 : Aside0 ((((((x4.setCell ⟨g0, 0, none⟩ (.slice Af f2.l.length cf)).setCell ⟨g0, 1, none⟩ (.bool f2.has)).setCell ⟨g0, 2, none⟩ (.int .i64 f2.nx.s)).setCell ⟨g0, 3, none⟩ (.int .i64 f2.nx.g)).setCell ⟨g0, 4, none⟩ (.int .u64 f2.nx.t)).heap[g0]? = some (.cells #[.slice Af f2.l.length cf, .bool f2.has, .int .i64 f2.nx.s, .int .i64 f2.nx.g, .int .u64 f2.nx.t] 29 (0, 0))) := ⟨blk_set (blk_set (blk_set (blk_set (blk_set (n0.out)))))⟩
  have n1 : Aside0 ((((((x4.setCell ⟨g0, 0, none⟩ (.slice Af f2.l.length cf)).setCell ⟨g0, 1, none⟩ (.bool f2.has)).setCell ⟨g0, 2, none⟩ (.int .i64 f2.nx.s)).setCell ⟨g0, 3, none⟩ (.int .i64 f2.nx.g)).setCell ⟨g0, 4, none⟩ (.int .u64 f2.nx.t)).heap[g1]? = some (.cells #[.slice none 0 0, .bool false, .int .i64 0, .int .i64 0, .int .u64 0] 29 (0, 0))) := ⟨blk_set_ne (blk_set_ne (blk_set_ne (blk_set_ne (blk_set_ne (n1.out) d10) d10) d10) d10) d10⟩
  have n2 : Aside0 ((((((x4.setCell ⟨g0, 0, none⟩ (.slice Af f2.l.length cf)).setCell ⟨g0, 1, none⟩ (.bool f2.has)).setCell ⟨g0, 2, none⟩ (.int .i64 f2.nx.s)).setCell ⟨g0, 3, none⟩ (.int .i64 f2.nx.g)).setCell ⟨g0, 4, none⟩ (.int .u64 f2.nx.t)).heap[g2]? = some (.cells #[.int .i64 0, .int .i64 0, .int .u64 0] 27 (0, 0))) := ⟨blk_set_ne (blk_set_ne (blk_set_ne (blk_set_ne (blk_set_ne (n2.out) d20) d20) d20) d20) d20⟩
  have hsx5 : x4.heap.size ≤ (((((x4.setCell ⟨g0, 0, none⟩ (.slice Af f2.l.length cf)).setCell ⟨g0, 1, none⟩ (.bool f2.has)).setCell ⟨g0, 2, none⟩ (.int .i64 f2.nx.s)).setCell ⟨g0, 3, none⟩ (.int .i64 f2.nx.g)).setCell ⟨g0, 4, none⟩ (.int .u64 f2.nx.t)).heap.size := hk.size
  clear hk a0 a1 a2 a3 a4 af0 af1 af2 af3 af4 b0 b1 b2 b3 b4 bf0 bf1 bf2 bf3 bf4 c0 c1 c2 cf0 cf1 cf2 al bl cl
  generalize (((((x4.setCell ⟨g0, 0, none⟩ (.slice Af f2.l.length cf)).setCell ⟨g0, 1, none⟩ (.bool f2.has)).setCell ⟨g0, 2, none⟩ (.int .i64 f2.nx.s)).setCell ⟨g0, 3, none⟩ (.int .i64 f2.nx.g)).setCell ⟨g0, 4, none⟩ (.int .u64 f2.nx.t)) = x5 at *
  obtain ⟨b0, b1, b2, b3, b4, bf0, bf1, bf2, bf3, bf4⟩ := blk5 n1.out
  have bl := lt_blk n1.out
  refine last_ (i := 17) (N := none) #[true,true,true,true,true,true,true,true,true,true,true,true,true,true,true,true,true,true,false,false] rfl rfl (by kernel_rfl) (by decide) (fun K hK => ?_)
  refine skip_ (w1 := ?_) (by rfl) rfl ?_ ?_
  rotate_left
  · go_simp
    first | with_reducible rfl | rfl
  refine hK.out _ _ ?_
  clear hK K
  have hk : Keep (fun i => i = g1) x5 (((((x5.setCell ⟨g1, 0, none⟩ (.slice At t2.l.length ct)).setCell ⟨g1, 1, none⟩ (.bool t2.has)).setCell ⟨g1, 2, none⟩ (.int .i64 t2.nx.s)).setCell ⟨g1, 3, none⟩ (.int .i64 t2.nx.g)).setCell ⟨g1, 4, none⟩ (.int .u64 t2.nx.t)) := (by repeat (first | (with_reducible exact Keep.refl _ _) | (with_reducible refine Keep.drewN ?_ _) | (with_reducible refine Keep.drew ?_) | (with_reducible refine Keep.setCell ?_ _ _ (by first | (right; with_reducible rfl) | (left; simp; done) | (left; simp; omega) | (right; simp; done) | (right; assumption))) | (with_reducible refine Keep.alloc ?_ _)))
  have hI4 := Aside0.mk (hI4.out.keep hk m1)
  have hJ4 := Aside0.mk (hJ4.out.keep hk o1)
  have hKW4 := Aside0.mk (hKW4.out.trans' hk (fun i hi e => by omega))
  have hvf4 := Aside0.mk (R_keepT hvf4.out n1.out (by decide) hk)
  have hvt4 := Aside0.mk (R_keepT hvt4.out n1.out (by decide) hk)
  have hP4 : Aside0 ((((((x5.setCell ⟨g1, 0, none⟩ (.slice At t2.l.length ct)).setCell ⟨g1, 1, none⟩ (.bool t2.has)).setCell ⟨g1, 2, none⟩ (.int .i64 t2.nx.s)).setCell ⟨g1, 3, none⟩ (.int .i64 t2.nx.g)).setCell ⟨g1, 4, none⟩ (.int .u64 t2.nx.t)).heap[w.heap.size]? = some (.cells #[.pointer (some ⟨bo, 0, none⟩), .pointer (some ⟨bm, 0, none⟩), .slice Ao ro.l.length co, .bool ro.has, .int .i64 ro.nx.s, .int .i64 ro.nx.g, .int .u64 ro.nx.t, .slice Am rm.l.length cm, .bool rm.has, .int .i64 rm.nx.s, .int .i64 rm.nx.g, .int .u64 rm.nx.t, .int .i64 1] 55 (0, 0))) := ⟨blk_set_ne (blk_set_ne (blk_set_ne (blk_set_ne (blk_set_ne (hP4.out) vPg1) vPg1) vPg1) vPg1) vPg1⟩
  have hR4 : Aside0 ((((((x5.setCell ⟨g1, 0, none⟩ (.slice At t2.l.length ct)).setCell ⟨g1, 1, none⟩ (.bool t2.has)).setCell ⟨g1, 2, none⟩ (.int .i64 t2.nx.s)).setCell ⟨g1, 3, none⟩ (.int .i64 t2.nx.g)).setCell ⟨g1, 4, none⟩ (.int .u64 t2.nx.t)).heap[w.heap.size + 1 + 1]? = some (.cells #[.pointer none, .pointer none, .slice none 0 0, .bool false, .int .i64 0, .int .i64 0, .int .u64 0, .slice none 0 0, .bool false, .int .i64 0, .int .i64 0, .int .u64 0, .int .i64 0] 55 (0, 0))) := ⟨blk_set_ne (blk_set_ne (blk_set_ne (blk_set_ne (blk_set_ne (hR4.out) vRg1) vRg1) vRg1) vRg1) vRg1⟩
  have hY4 : Aside0 ((((((x5.setCell ⟨g1, 0, none⟩ (.slice At t2.l.length ct)).setCell ⟨g1, 1, none⟩ (.bool t2.has)).setCell ⟨g1, 2, none⟩ (.int .i64 t2.nx.s)).setCell ⟨g1, 3, none⟩ (.int .i64 t2.nx.g)).setCell ⟨g1, 4, none⟩ (.int .u64 t2.nx.t)).heap[w1.heap.size]? = some (.cells #[.int .i64 y.s, .int .i64 y.g, .int .u64 y.t] 27 (0, 0))) := ⟨blk_set_ne (blk_set_ne (blk_set_ne (blk_set_ne (blk_set_ne (hY4.out) vYg1) vYg1) vYg1) vYg1) vYg1⟩
  have n1 : Aside0 ((((((x5.setCell ⟨g1, 0, none⟩ (.slice At t2.l.length ct)).setCell ⟨g1, 1, none⟩ (.bool t2.has)).setCell ⟨g1, 2, none⟩ (.int .i64 t2.nx.s)).setCell ⟨g1, 3, none⟩ (.int .i64 t2.nx.g)).setCell ⟨g1, 4, none⟩ (.int .u64 t2.nx.t)).heap[g1]? = some (.cells #[.slice At t2.l.length ct, .bool t2.has, .int .i64 t2.nx.s, .int .i64 t2.nx.g, .int .u64 t2.nx.t] 29 (0, 0))) := ⟨blk_set (blk_set (blk_set (blk_set (blk_set (n1.out)))))⟩
  have n0 : Aside0 ((((((x5.setCell ⟨g1, 0, none⟩ (.slice At t2.l.length ct)).setCell ⟨g1, 1, none⟩ (.bool t2.has)).setCell ⟨g1, 2, none⟩ (.int .i64 t2.nx.s)).setCell ⟨g1, 3, none⟩ (.int .i64 t2.nx.g)).setCell ⟨g1, 4, none⟩ (.int .u64 t2.nx.t)).heap[g0]? = some (.cells #[.slice Af f2.l.length cf, .bool f2.has, .int .i64 f2.nx.s, .int .i64 f2.nx.g, .int .u64 f2.nx.t] 29 (0, 0))) := ⟨blk_set_ne (blk_set_ne (blk_set_ne (blk_set_ne (blk_set_ne (n0.out) d01) d01) d01) d01) d01⟩
  have n2 : Aside0 ((((((x5.setCell ⟨g1, 0, none⟩ (.slice At t2.l.length ct)).setCell ⟨g1, 1, none⟩ (.bool t2.has)).setCell ⟨g1, 2, none⟩ (.int .i64 t2.nx.s)).setCell ⟨g1, 3, none⟩ (.int .i64 t2.nx.g)).setCell ⟨g1, 4, none⟩ (.int .u64 t2.nx.t)).heap[g2]? = some (.cells #[.int .i64 0, .int .i64 0, .int .u64 0] 27 (0, 0))) := ⟨blk_set_ne (blk_set_ne (blk_set_ne (blk_set_ne (blk_set_ne (n2.out) d21) d21) d21) d21) d21⟩
  have hsx6 : x5.heap.size ≤ (((((x5.setCell ⟨g1, 0, none⟩ (.slice At t2.l.length ct)).setCell ⟨g1, 1, none⟩ (.bool t2.has)).setCell ⟨g1, 2, none⟩ (.int .i64 t2.nx.s)).setCell ⟨g1, 3, none⟩ (.int .i64 t2.nx.g)).setCell ⟨g1, 4, none⟩ (.int .u64 t2.nx.t)).heap.size := hk.size
  clear hk b0 b1 b2 b3 b4 bf0 bf1 bf2 bf3 bf4 bl
  generalize (((((x5.setCell ⟨g1, 0, none⟩ (.slice At t2.l.length ct)).setCell ⟨g1, 1, none⟩ (.bool t2.has)).setCell ⟨g1, 2, none⟩ (.int .i64 t2.nx.s)).setCell ⟨g1, 3, none⟩ (.int .i64 t2.nx.g)).setCell ⟨g1, 4, none⟩ (.int .u64 t2.nx.t)) = x6 at *
  obtain ⟨c0, c1, c2, cf0, cf1, cf2⟩ := blk3 n2.out
  have cl := lt_blk n2.out
  refine last_ (i := 18) (N := none) #[true,true,true,true,true,true,true,true,true,true,true,true,true,true,true,true,true,true,true,false] rfl rfl (by kernel_rfl) (by decide) (fun K hK => ?_)
  refine skip_ (w1 := ?_) (by rfl) rfl ?_ ?_
  rotate_left
  · go_simp
    first | with_reducible rfl | rfl
  refine hK.out _ _ ?_
  clear hK K
  have hk : Keep (fun i => i = g2) x6 (((x6.setCell ⟨g2, 0, none⟩ (.int .i64 y.s)).setCell ⟨g2, 1, none⟩ (.int .i64 y.g)).setCell ⟨g2, 2, none⟩ (.int .u64 y.t)) := (by repeat (first | (with_reducible exact Keep.refl _ _) | (with_reducible refine Keep.drewN ?_ _) | (with_reducible refine Keep.drew ?_) | (with_reducible refine Keep.setCell ?_ _ _ (by first | (right; with_reducible rfl) | (left; simp; done) | (left; simp; omega) | (right; simp; done) | (right; assumption))) | (with_reducible refine Keep.alloc ?_ _)))
  have hI4 := Aside0.mk (hI4.out.keep hk m2)
  have hJ4 := Aside0.mk (hJ4.out.keep hk o2)
  have hKW4 := Aside0.mk (hKW4.out.trans' hk (fun i hi e => by omega))
  have hvf4 := Aside0.mk (Kd.R_step hvf4.out (fun k hk2 hlt => hk.block k hlt hk2))
  have hvt4 := Aside0.mk (Kd.R_step hvt4.out (fun k hk2 hlt => hk.block k hlt hk2))
  have hP4 : Aside0 ((((x6.setCell ⟨g2, 0, none⟩ (.int .i64 y.s)).setCell ⟨g2, 1, none⟩ (.int .i64 y.g)).setCell ⟨g2, 2, none⟩ (.int .u64 y.t)).heap[w.heap.size]? = some (.cells #[.pointer (some ⟨bo, 0, none⟩), .pointer (some ⟨bm, 0, none⟩), .slice Ao ro.l.length co, .bool ro.has, .int .i64 ro.nx.s, .int .i64 ro.nx.g, .int .u64 ro.nx.t, .slice Am rm.l.length cm, .bool rm.has, .int .i64 rm.nx.s, .int .i64 rm.nx.g, .int .u64 rm.nx.t, .int .i64 1] 55 (0, 0))) := ⟨blk_set_ne (blk_set_ne (blk_set_ne (hP4.out) vPg2) vPg2) vPg2⟩
  have hR4 : Aside0 ((((x6.setCell ⟨g2, 0, none⟩ (.int .i64 y.s)).setCell ⟨g2, 1, none⟩ (.int .i64 y.g)).setCell ⟨g2, 2, none⟩ (.int .u64 y.t)).heap[w.heap.size + 1 + 1]? = some (.cells #[.pointer none, .pointer none, .slice none 0 0, .bool false, .int .i64 0, .int .i64 0, .int .u64 0, .slice none 0 0, .bool false, .int .i64 0, .int .i64 0, .int .u64 0, .int .i64 0] 55 (0, 0))) := ⟨blk_set_ne (blk_set_ne (blk_set_ne (hR4.out) vRg2) vRg2) vRg2⟩
  have hY4 : Aside0 ((((x6.setCell ⟨g2, 0, none⟩ (.int .i64 y.s)).setCell ⟨g2, 1, none⟩ (.int .i64 y.g)).setCell ⟨g2, 2, none⟩ (.int .u64 y.t)).heap[w1.heap.size]? = some (.cells #[.int .i64 y.s, .int .i64 y.g, .int .u64 y.t] 27 (0, 0))) := ⟨blk_set_ne (blk_set_ne (blk_set_ne (hY4.out) vYg2) vYg2) vYg2⟩
  have n2 : Aside0 ((((x6.setCell ⟨g2, 0, none⟩ (.int .i64 y.s)).setCell ⟨g2, 1, none⟩ (.int .i64 y.g)).setCell ⟨g2, 2, none⟩ (.int .u64 y.t)).heap[g2]? = some (.cells #[.int .i64 y.s, .int .i64 y.g, .int .u64 y.t] 27 (0, 0))) := ⟨blk_set (blk_set (blk_set (n2.out)))⟩
  have n0 : Aside0 ((((x6.setCell ⟨g2, 0, none⟩ (.int .i64 y.s)).setCell ⟨g2, 1, none⟩ (.int .i64 y.g)).setCell ⟨g2, 2, none⟩ (.int .u64 y.t)).heap[g0]? = some (.cells #[.slice Af f2.l.length cf, .bool f2.has, .int .i64 f2.nx.s, .int .i64 f2.nx.g, .int .u64 f2.nx.t] 29 (0, 0))) := ⟨blk_set_ne (blk_set_ne (blk_set_ne (n0.out) d02) d02) d02⟩
  have n1 : Aside0 ((((x6.setCell ⟨g2, 0, none⟩ (.int .i64 y.s)).setCell ⟨g2, 1, none⟩ (.int .i64 y.g)).setCell ⟨g2, 2, none⟩ (.int .u64 y.t)).heap[g1]? = some (.cells #[.slice At t2.l.length ct, .bool t2.has, .int .i64 t2.nx.s, .int .i64 t2.nx.g, .int .u64 t2.nx.t] 29 (0, 0))) := ⟨blk_set_ne (blk_set_ne (blk_set_ne (n1.out) d12) d12) d12⟩
  have hsx7 : x6.heap.size ≤ (((x6.setCell ⟨g2, 0, none⟩ (.int .i64 y.s)).setCell ⟨g2, 1, none⟩ (.int .i64 y.g)).setCell ⟨g2, 2, none⟩ (.int .u64 y.t)).heap.size := hk.size
  clear hk c0 c1 c2 cf0 cf1 cf2 cl
  generalize (((x6.setCell ⟨g2, 0, none⟩ (.int .i64 y.s)).setCell ⟨g2, 1, none⟩ (.int .i64 y.g)).setCell ⟨g2, 2, none⟩ (.int .u64 y.t)) = x7 at *
  refine pure_ (i := 19) (N := some 33) (v := ?_) (a' := ?_) #[true,true,true,true,true,true,true,true,true,true,true,true,true,true,true,true,true,true,true,true] rfl rfl (by kernel_rfl) (fun _ _ _ h => h) (Or.inl ⟨by rfl, ?_⟩) ?_ ?_
  rotate_left
  · intro w'; go_simp; with_reducible rfl
  rotate_left
  · simp only [Act.put, setIfInBounds_toArray, set_cons_zero, set_cons_succ, i64_w, i32_w]; rfl
  refine done_ (by kernel_rfl) ?_
  obtain ⟨a0, a1, a2, a3, a4, -, -, -, -, -⟩ := blk5 n0.out
  have al := lt_blk n0.out
  obtain ⟨p0, p1, p2, p3, p4, p5, p6, p7, p8, p9, p10, p11, p12⟩ := cells13 hP4.out rfl
  obtain ⟨fz0, fz1, fz2, fz3, fz4, fz5, fz6, fz7, fz8, fz9, fz10, fz11, fz12⟩ := froz13 hP4.out
  have hPl := lt_blk hP4.out
  go_upto_region 31 with (fail)
  have hPQ7 : PQ x7 base bm bo At ct Af cf t2 f2 t2 f2 := ⟨hI4.out, hJ4.out, R_any hvt4.out, R_any hvf4.out, hne, by omega, HZT.out, HZF.out⟩
  have hk30 : Keep (fun i => i = w.heap.size) x7 (((((x7.setCell ⟨w.heap.size, 2, none⟩ (.slice Af f2.l.length cf)).setCell ⟨w.heap.size, 3, none⟩ (.bool f2.has)).setCell ⟨w.heap.size, 4, none⟩ (.int .i64 f2.nx.s)).setCell ⟨w.heap.size, 5, none⟩ (.int .i64 f2.nx.g)).setCell ⟨w.heap.size, 6, none⟩ (.int .u64 f2.nx.t)) := (by repeat (first | (with_reducible exact Keep.refl _ _) | (with_reducible refine Keep.drewN ?_ _) | (with_reducible refine Keep.drew ?_) | (with_reducible refine Keep.setCell ?_ _ _ (by first | (right; with_reducible rfl) | (left; simp; done) | (left; simp; omega) | (right; simp; done) | (right; assumption))) | (with_reducible refine Keep.alloc ?_ _)))
  have HQ2 := Aside0.mk (hPQ7.store hP4.out (by decide) (show bm ≠ w.heap.size by omega) (show bo ≠ w.heap.size by omega) hk30)
  have HKW2 := Aside0.mk (hKW4.out.trans' hk30 (fun i hi e => by omega))
  have hR2' := Aside0.mk (blk_keep hR4.out hk30 (show ¬ w.heap.size + 1 + 1 = w.heap.size by omega))
  have hY2 := Aside0.mk (blk_keep hY4.out hk30 (show ¬ w1.heap.size = w.heap.size by omega))
  have hN2 := Aside0.mk (blk_keep n2.out hk30 uPg2)
  have hB1 := Aside0.mk (blk_keep n1.out hk30 uPg1)
  have hP2 : (((((x7.setCell ⟨w.heap.size, 2, none⟩ (.slice Af f2.l.length cf)).setCell ⟨w.heap.size, 3, none⟩ (.bool f2.has)).setCell ⟨w.heap.size, 4, none⟩ (.int .i64 f2.nx.s)).setCell ⟨w.heap.size, 5, none⟩ (.int .i64 f2.nx.g)).setCell ⟨w.heap.size, 6, none⟩ (.int .u64 f2.nx.t)).heap[w.heap.size]? = some (.cells #[.pointer (some ⟨bo, 0, none⟩), .pointer (some ⟨bm, 0, none⟩), .slice Af f2.l.length cf, .bool f2.has, .int .i64 f2.nx.s, .int .i64 f2.nx.g, .int .u64 f2.nx.t, .slice Am rm.l.length cm, .bool rm.has, .int .i64 rm.nx.s, .int .i64 rm.nx.g, .int .u64 rm.nx.t, .int .i64 1] 55 (0, 0)) := blk_set (blk_set (blk_set (blk_set (blk_set (hP4.out)))))
  clear hPQ7 hk30 hR4 hY4 n0 n1 n2 hP4 hI4 hJ4 hKW4 hvf4 hvt4 a0 a1 a2 a3 a4 al p0 p1 p2 p3 p4 p5 p6 p7 p8 p9 p10 p11 p12 fz0 fz1 fz2 fz3 fz4 fz5 fz6 fz7 fz8 fz9 fz10 fz11 fz12 hPl
  generalize (((((x7.setCell ⟨w.heap.size, 2, none⟩ (.slice Af f2.l.length cf)).setCell ⟨w.heap.size, 3, none⟩ (.bool f2.has)).setCell ⟨w.heap.size, 4, none⟩ (.int .i64 f2.nx.s)).setCell ⟨w.heap.size, 5, none⟩ (.int .i64 f2.nx.g)).setCell ⟨w.heap.size, 6, none⟩ (.int .u64 f2.nx.t)) = w2 at *
  obtain ⟨p0, p1, p2, p3, p4, p5, p6, p7, p8, p9, p10, p11, p12⟩ := cells13 hP2 rfl
  obtain ⟨f_0, f_1, f_2, f_3, f_4, f_5, f_6, f_7, f_8, f_9, f_10, f_11, f_12⟩ := froz13 hP2
  obtain ⟨b0, b1, b2, b3, b4, -, -, -, -, -⟩ := blk5 hB1.out
  have bl := lt_blk hB1.out
  have hPl := lt_blk hP2
  have hP2 := Aside0.mk hP2
  go_wp2_with fail
  clear b0 b1 b2 b3 b4 bl hB1
  have hbmP : bm ≠ w.heap.size := by omega
  have hboP : bo ≠ w.heap.size := by omega
  obtain ⟨C8, hC8⟩ : ∃ C8, C8 = (((((w2.setCell ⟨w.heap.size, 7, none⟩ (.slice At t2.l.length ct)).setCell ⟨w.heap.size, 8, none⟩ (.bool t2.has)).setCell ⟨w.heap.size, 9, none⟩ (.int .i64 t2.nx.s)).setCell ⟨w.heap.size, 10, none⟩ (.int .i64 t2.nx.g)).setCell ⟨w.heap.size, 11, none⟩ (.int .u64 t2.nx.t)) := ⟨_, rfl⟩
  obtain ⟨W8, hW8⟩ : ∃ W8, W8 = C8 := ⟨_, rfl⟩
  have hK8 : Keep (fun i => i = w.heap.size) w2 C8 := by rw [hC8]; exact (by repeat (first | (with_reducible exact Keep.refl _ _) | (with_reducible refine Keep.drewN ?_ _) | (with_reducible refine Keep.drew ?_) | (with_reducible refine Keep.setCell ?_ _ _ (by first | (right; with_reducible rfl) | (left; simp; done) | (left; simp; omega) | (right; simp; done) | (right; assumption))) | (with_reducible refine Keep.alloc ?_ _)))
  have hA8 : Below C8.heap.size C8 W8 := by rw [hW8]; exact (by repeat (first | (with_reducible exact Below.refl _ _) | (with_reducible refine Below.drew ?_) | (with_reducible refine below_drewN ?_ _) | (with_reducible refine below_al ?_ _) | (with_reducible refine Below.alloc ?_ (by first | exact Nat.le_refl _ | omega | (simp; done) | (simp; omega)) _) | (with_reducible refine Below.setCell ?_ (by first | (simp only []; omega) | (simp; done) | (simp; omega)) _)))
  have hP8 : W8.heap[w.heap.size]? = some (.cells #[.pointer (some ⟨bo, 0, none⟩), .pointer (some ⟨bm, 0, none⟩), .slice Af f2.l.length cf, .bool f2.has, .int .i64 f2.nx.s, .int .i64 f2.nx.g, .int .u64 f2.nx.t, .slice At t2.l.length ct, .bool t2.has, .int .i64 t2.nx.s, .int .i64 t2.nx.g, .int .u64 t2.nx.t, .int .i64 1] 55 (0, 0)) := by rw [hW8, hC8]; exact blk_set (blk_set (blk_set (blk_set (blk_set (hP2.out)))))
  have hR8 := blk_below (blk_keep hR2'.out hK8 (show ¬ w.heap.size + 1 + 1 = w.heap.size by omega)) hA8
  have HQ8 := Aside0.mk ((HQ2.out.store hP2.out (by decide) hbmP hboP hK8).below hA8)
  have HKW8 := Aside0.mk ((HKW2.out.trans' hK8 (fun i hi e => by omega)).trans' (Keep.of_below hA8) (G := fun _ => False) (fun _ _ h => h.elim))
  have hY8 : W8.heap[w1.heap.size]? = some (.cells #[.int .i64 y.s, .int .i64 y.g, .int .u64 y.t] 27 (0, 0)) := blk_below (blk_keep hY2.out hK8 (show ¬ w1.heap.size = w.heap.size by omega)) hA8
  have hX8 : W8.heap[g2]? = some (.cells #[.int .i64 y.s, .int .i64 y.g, .int .u64 y.t] 27 (0, 0)) := blk_below (blk_keep hN2.out hK8 uPg2) hA8
  clear hY2 hN2
  clear hK8 hA8 p0 p1 p2 p3 p4 p5 p6 p7 p8 p9 p10 p11 p12 f_0 f_1 f_2 f_3 f_4 f_5 f_6 f_7 f_8 f_9 f_10 f_11 f_12 hPl hP2 hR2' HQ2 HKW2 
  rw [← hC8]
  subst hW8
  clear hC8
  obtain ⟨q0, q1, q2, q3, q4, q5, q6, q7, q8, q9, q10, q11, q12⟩ := cells13 hP8 rfl
  have hP8 := Aside0.mk hP8
  have hR8 := Aside0.mk hR8
  have hBd : Below W8.heap.size W8 W8.drew := (Below.refl _ _).drew
  obtain ⟨y0, y1, y2, -, -, -⟩ := blk3 hY8
  obtain ⟨z0, z1, z2, -, -, -⟩ := blk3 hX8
  have HQ9 := HQ8
  have hR9 := hR8.out
  have HKW9 := HKW8
  refine start_ (n := 11) (S := fun w' => w'.cell? ⟨w.heap.size, 0, none⟩ = some (.pointer (some ⟨bo, 0, none⟩)) ∧ w'.cell? ⟨w.heap.size, 1, none⟩ = some (.pointer (some ⟨bm, 0, none⟩)) ∧ w'.cell? ⟨w.heap.size, 2, none⟩ = some (.slice Af f2.l.length cf) ∧ w'.cell? ⟨w.heap.size, 3, none⟩ = some (.bool f2.has) ∧ w'.cell? ⟨w.heap.size, 4, none⟩ = some (.int .i64 f2.nx.s) ∧ w'.cell? ⟨w.heap.size, 5, none⟩ = some (.int .i64 f2.nx.g) ∧ w'.cell? ⟨w.heap.size, 6, none⟩ = some (.int .u64 f2.nx.t) ∧ w'.cell? ⟨w.heap.size, 7, none⟩ = some (.slice At t2.l.length ct) ∧ w'.cell? ⟨w.heap.size, 8, none⟩ = some (.bool t2.has) ∧ w'.cell? ⟨w.heap.size, 9, none⟩ = some (.int .i64 t2.nx.s) ∧ w'.cell? ⟨w.heap.size, 10, none⟩ = some (.int .i64 t2.nx.g) ∧ w'.cell? ⟨w.heap.size, 11, none⟩ = some (.int .u64 t2.nx.t) ∧ w'.cell? ⟨w.heap.size, 12, none⟩ = some (.int .i64 1) ∧ w'.cell? ⟨w1.heap.size, 0, none⟩ = some (.int .i64 y.s) ∧ w'.cell? ⟨w1.heap.size, 1, none⟩ = some (.int .i64 y.g) ∧ w'.cell? ⟨w1.heap.size, 2, none⟩ = some (.int .u64 y.t) ∧ w'.cell? ⟨g2, 0, none⟩ = some (.int .i64 y.s) ∧ w'.cell? ⟨g2, 1, none⟩ = some (.int .i64 y.g) ∧ w'.cell? ⟨g2, 2, none⟩ = some (.int .u64 y.t)) (ds := [9]) #[false,false,false,false,false,false,false,false,false,false,false] (by kernel_rfl) rfl rfl ⟨q0, q1, q2, q3, q4, q5, q6, q7, q8, q9, q10, q11, q12, y0, y1, y2, z0, z1, z2⟩ (fun hHeld => ?_)
  refine take_ (i := 0) (N := some 210) (v := ?_) (a' := ?_) #[true,false,false,false,false,false,false,false,false,false,false] rfl rfl (by kernel_rfl) (fun _ _ _ h => h) (Or.inl ⟨by rfl, ?_⟩) hHeld ?_ ?_
  rotate_left
  · rintro w' ⟨s0, s1, s2, s3, s4, s5, s6, s7, s8, s9, s10, s11, s12, s13, s14, s15, s16, s17, s18⟩; go_simp; with_reducible rfl
  rotate_left
  · simp only [Act.put, setIfInBounds_toArray, set_cons_zero, set_cons_succ, i64_w, i32_w]; rfl
  refine take_ (i := 1) (N := some 211) (v := ?_) (a' := ?_) #[true,true,false,false,false,false,false,false,false,false,false] rfl rfl (by kernel_rfl) (fun _ _ _ h => h) (Or.inl ⟨by rfl, ?_⟩) hHeld ?_ ?_
  rotate_left
  · rintro w' ⟨s0, s1, s2, s3, s4, s5, s6, s7, s8, s9, s10, s11, s12, s13, s14, s15, s16, s17, s18⟩; go_simp; with_reducible rfl
  rotate_left
  · simp only [Act.put, setIfInBounds_toArray, set_cons_zero, set_cons_succ, i64_w, i32_w]; rfl
  refine take_ (i := 2) (N := some 212) (v := ?_) (a' := ?_) #[true,true,true,false,false,false,false,false,false,false,false] rfl rfl (by kernel_rfl) (fun _ _ _ h => h) (Or.inl ⟨by rfl, ?_⟩) hHeld ?_ ?_
  rotate_left
  · rintro w' ⟨s0, s1, s2, s3, s4, s5, s6, s7, s8, s9, s10, s11, s12, s13, s14, s15, s16, s17, s18⟩; go_simp; with_reducible rfl
  rotate_left
  · simp only [Act.put, setIfInBounds_toArray, set_cons_zero, set_cons_succ, i64_w, i32_w]; rfl
  refine pure_ (i := 3) (N := some 213) (v := ?_) (a' := ?_) #[true,true,true,true,false,false,false,false,false,false,false] rfl rfl (by kernel_rfl) (fun _ _ _ h => h) (Or.inl ⟨by rfl, ?_⟩) ?_ ?_
  rotate_left
  · intro w'; go_simp; with_reducible rfl
  rotate_left
  · simp only [Act.put, setIfInBounds_toArray, set_cons_zero, set_cons_succ, i64_w, i32_w]; rfl
  refine pure_ (i := 4) (N := some 214) (v := ?_) (a' := ?_) #[true,true,true,true,true,false,false,false,false,false,false] rfl rfl (by kernel_rfl) (fun _ _ _ h => h) (Or.inl ⟨by rfl, ?_⟩) ?_ ?_
  rotate_left
  · intro w'; go_simp; with_reducible rfl
  rotate_left
  · simp only [Act.put, setIfInBounds_toArray, set_cons_zero, set_cons_succ, i64_w, i32_w]; rfl
  refine pure_ (i := 5) (N := some 215) (v := ?_) (a' := ?_) #[true,true,true,true,true,true,false,false,false,false,false] rfl rfl (by kernel_rfl) (fun _ _ _ h => h) (Or.inl ⟨by rfl, ?_⟩) ?_ ?_
  rotate_left
  · intro w'; go_simp; with_reducible rfl
  rotate_left
  · simp only [Act.put, setIfInBounds_toArray, set_cons_zero, set_cons_succ, i64_w, i32_w]; rfl
  refine pure_ (i := 6) (N := some 216) (v := ?_) (a' := ?_) #[true,true,true,true,true,true,true,false,false,false,false] rfl rfl (by kernel_rfl) (fun _ _ _ h => h) (Or.inl ⟨by rfl, ?_⟩) ?_ ?_
  rotate_left
  · intro w'; go_simp; with_reducible rfl
  rotate_left
  · simp only [Act.put, setIfInBounds_toArray, set_cons_zero, set_cons_succ, i64_w, i32_w]; rfl
  refine pure_ (i := 7) (N := some 217) (v := ?_) (a' := ?_) #[true,true,true,true,true,true,true,true,false,false,false] rfl rfl (by kernel_rfl) (fun _ _ _ h => h) (Or.inl ⟨by rfl, ?_⟩) ?_ ?_
  rotate_left
  · intro w'; go_simp; with_reducible rfl
  rotate_left
  · simp only [Act.put, setIfInBounds_toArray, set_cons_zero, set_cons_succ, i64_w, i32_w]; rfl
  refine pure_ (i := 8) (N := some 218) (v := ?_) (a' := ?_) #[true,true,true,true,true,true,true,true,true,false,false] rfl rfl (by kernel_rfl) (fun _ _ _ h => h) (Or.inl ⟨by rfl, ?_⟩) ?_ ?_
  rotate_left
  · intro w'; go_simp; with_reducible rfl
  rotate_left
  · simp only [Act.put, setIfInBounds_toArray, set_cons_zero, set_cons_succ, i64_w, i32_w]; rfl
  refine last_ (i := 9) (N := none) #[true,true,true,true,true,true,true,true,true,true,false] rfl rfl (by kernel_rfl) (by decide) (fun K hK => ?_)
  obtain ⟨ra0, ra1, ra2, ra3, ra4, ra5, ra6, ra7, ra8, ra9, ra10, ra11, ra12⟩ := cells13 hR9 rfl
  obtain ⟨ga0, ga1, ga2, ga3, ga4, ga5, ga6, ga7, ga8, ga9, ga10, ga11, ga12⟩ := froz13 hR9
  have hRl := lt_blk hR9
  refine skip_ (w1 := ?_) (by rfl) rfl ?_ ?_
  rotate_left
  · go_simp
    first | with_reducible rfl | rfl
  refine hK.out _ _ ?_
  clear hK K
  refine pure_ (i := 10) (N := some 5) (v := ?_) (a' := ?_) #[true,true,true,true,true,true,true,true,true,true,true] rfl rfl (by kernel_rfl) (fun _ _ _ h => h) (Or.inl ⟨by rfl, ?_⟩) ?_ ?_
  rotate_left
  · intro w'; go_simp; with_reducible rfl
  rotate_left
  · simp only [Act.put, setIfInBounds_toArray, set_cons_zero, set_cons_succ, i64_w, i32_w]; rfl
  refine done_ (by kernel_rfl) ?_
  go_wp2
  refine bodyPost_ret (v := .tuple #[.agg #[.pointer (some ⟨bo, 0, none⟩), .pointer (some ⟨bm, 0, none⟩), .slice Af f2.l.length cf, .bool f2.has, .int .i64 f2.nx.s, .int .i64 f2.nx.g, .int .u64 f2.nx.t, .slice At t2.l.length ct, .bool t2.has, .int .i64 t2.nx.s, .int .i64 t2.nx.g, .int .u64 t2.nx.t, .int .i64 1], .bool true]) (by simp [results, Try.results28, go_sem, ra0, ra1, ra2, ra3, ra4, ra5, ra6, ra7, ra8, ra9, ra10, ra11, ra12, hRl]) rfl ?_
  refine calls_done1 HQ9.out HKW9.out hR9 (by omega) (by omega) (.inr rfl) (by omega) ?_
  exact (by repeat (first | (with_reducible exact Keep.refl _ _) | (with_reducible refine Keep.drewN ?_ _) | (with_reducible refine Keep.drew ?_) | (with_reducible refine Keep.setCell ?_ _ _ (by first | (right; with_reducible rfl) | (left; simp; done) | (left; simp; omega) | (right; simp; done) | (right; assumption))) | (with_reducible refine Keep.alloc ?_ _)))
end Go.Proofs.Ytjjdojnnomokaaa
