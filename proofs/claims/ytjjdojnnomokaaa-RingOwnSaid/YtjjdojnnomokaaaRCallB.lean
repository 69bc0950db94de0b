import Derived.Test.YtjjdojnnomokaaaRCallA
import Derived.Deep.DrawnRows
set_option linter.unusedSimpArgs false
set_option linter.unusedVariables false
namespace Go.Proofs.Ytjjdojnnomokaaa
open Go.RowKit Go.ChangeShapes Go.WideShapes Go.ChangeAt Go.Proofs.YtjjdojnnomokaaaW.PrintWords Go.Proofs.YtjjdojnnomokaaaW.PrintMore Go.Proofs.YtjjdojnnomokaaaW.PrintLast
open List (setIfInBounds_toArray set_cons_zero set_cons_succ)
attribute [local go_sem high] PRingLoads.eqA27
/-! rotalaw02.calls: printed by gen02c.py. -/
theorem cells13 {W : World} {R t : Nat} {cs : Array Value} {a0 a1 a2 a3 a4 a5 a6 a7 a8 a9 a10 a11 a12 : Value} (h : W.heap[R]? = some (.cells cs t (0, 0))) (hc : cs = #[a0, a1, a2, a3, a4, a5, a6, a7, a8, a9, a10, a11, a12]) : W.cell? ⟨R, 0, none⟩ = some a0 ∧ W.cell? ⟨R, 1, none⟩ = some a1 ∧ W.cell? ⟨R, 2, none⟩ = some a2 ∧ W.cell? ⟨R, 3, none⟩ = some a3 ∧ W.cell? ⟨R, 4, none⟩ = some a4 ∧ W.cell? ⟨R, 5, none⟩ = some a5 ∧ W.cell? ⟨R, 6, none⟩ = some a6 ∧ W.cell? ⟨R, 7, none⟩ = some a7 ∧ W.cell? ⟨R, 8, none⟩ = some a8 ∧ W.cell? ⟨R, 9, none⟩ = some a9 ∧ W.cell? ⟨R, 10, none⟩ = some a10 ∧ W.cell? ⟨R, 11, none⟩ = some a11 ∧ W.cell? ⟨R, 12, none⟩ = some a12 := by
  subst hc
  exact ⟨cell_blk h 0, cell_blk h 1, cell_blk h 2, cell_blk h 3, cell_blk h 4, cell_blk h 5, cell_blk h 6, cell_blk h 7, cell_blk h 8, cell_blk h 9, cell_blk h 10, cell_blk h 11, cell_blk h 12⟩
theorem chain4 {w W : World} {o0 o1 o2 o3 : Obj} (h : W = (((w.alloc o0).alloc o1).alloc o2).alloc o3) : Below w.heap.size w W ∧ W.heap[w.heap.size]? = some o0 ∧ W.heap[w.heap.size + 1]? = some o1 ∧ W.heap[w.heap.size + 1 + 1]? = some o2 ∧ W.heap[w.heap.size + 1 + 1 + 1]? = some o3 := by
  subst h
  refine ⟨below_al (below_al (below_al (below_al (Below.refl _ _) _) _) _) _, blk_alloc (blk_alloc (blk_alloc (blk_new _ _))), blk_alloc (blk_alloc (blk_new1 _ _ _)), blk_alloc (blk_new2 _ _ _ _), ?_⟩
  have h := blk_new (((w.alloc o0).alloc o1).alloc o2) o3
  simpa using h
theorem froz13 {W : World} {R t : Nat} {cs : Array Value} (h : W.heap[R]? = some (.cells cs t (0, 0))) : W.frozen? ⟨R, 0, none⟩ = false ∧ W.frozen? ⟨R, 1, none⟩ = false ∧ W.frozen? ⟨R, 2, none⟩ = false ∧ W.frozen? ⟨R, 3, none⟩ = false ∧ W.frozen? ⟨R, 4, none⟩ = false ∧ W.frozen? ⟨R, 5, none⟩ = false ∧ W.frozen? ⟨R, 6, none⟩ = false ∧ W.frozen? ⟨R, 7, none⟩ = false ∧ W.frozen? ⟨R, 8, none⟩ = false ∧ W.frozen? ⟨R, 9, none⟩ = false ∧ W.frozen? ⟨R, 10, none⟩ = false ∧ W.frozen? ⟨R, 11, none⟩ = false ∧ W.frozen? ⟨R, 12, none⟩ = false :=
  ⟨frozen_blk h 0, frozen_blk h 1, frozen_blk h 2, frozen_blk h 3, frozen_blk h 4, frozen_blk h 5, frozen_blk h 6, frozen_blk h 7, frozen_blk h 8, frozen_blk h 9, frozen_blk h 10, frozen_blk h 11, frozen_blk h 12⟩
def CallsP0 (base bm bo : Nat) (w : World) (e : Ending) (w' : World) : Prop := ∃ (Am : Option Addr) (cm : Nat) (Ao : Option Addr) (co : Nat) (rm ro : Rg) (k : Int), e = .returned (.tuple #[.agg #[.pointer (some ⟨bm, 0, none⟩), .pointer (some ⟨bo, 0, none⟩), .slice Am rm.l.length cm, .bool rm.has, .int .i64 rm.nx.s, .int .i64 rm.nx.g, .int .u64 rm.nx.t, .slice Ao ro.l.length co, .bool ro.has, .int .i64 ro.nx.s, .int .i64 ro.nx.g, .int .u64 ro.nx.t, .int .i64 k], .bool true]) ∧ PQ w' base bm bo Am cm Ao co rm ro rm ro ∧ (k = 0 ∨ k = 1) ∧ Keep (fun i => i = bm ∨ i = bo) w w'
def CallsP1 (base bm bo : Nat) (w : World) (e : Ending) (w' : World) : Prop := ∃ (Am : Option Addr) (cm : Nat) (Ao : Option Addr) (co : Nat) (rm ro : Rg) (k : Int), e = .returned (.tuple #[.agg #[.pointer (some ⟨bo, 0, none⟩), .pointer (some ⟨bm, 0, none⟩), .slice Ao ro.l.length co, .bool ro.has, .int .i64 ro.nx.s, .int .i64 ro.nx.g, .int .u64 ro.nx.t, .slice Am rm.l.length cm, .bool rm.has, .int .i64 rm.nx.s, .int .i64 rm.nx.g, .int .u64 rm.nx.t, .int .i64 k], .bool true]) ∧ PQ w' base bm bo Am cm Ao co rm ro rm ro ∧ (k = 0 ∨ k = 1) ∧ Keep (fun i => i = bm ∨ i = bo) w w'
theorem calls_done0 {w w9 w' : World} {base bm bo cm co g : Nat} {Am Ao : Option Addr} {rm ro : Rg} {k : Int} {cs : Array Value} (h : PQ w9 base bm bo Am cm Ao co rm ro rm ro) (hk : Keep (fun i => i = bm ∨ i = bo) w w9) (hg : w9.heap[g]? = some (.cells cs 55 (0, 0))) (hm : bm < g) (ho : bo < g) (h01 : k = 0 ∨ k = 1) (hw : w.heap.size ≤ g) (k9 : Keep (fun i => i = g) w9 w') :
    CallsP0 base bm bo w (.returned (.tuple #[.agg #[.pointer (some ⟨bm, 0, none⟩), .pointer (some ⟨bo, 0, none⟩), .slice Am rm.l.length cm, .bool rm.has, .int .i64 rm.nx.s, .int .i64 rm.nx.g, .int .u64 rm.nx.t, .slice Ao ro.l.length co, .bool ro.has, .int .i64 ro.nx.s, .int .i64 ro.nx.g, .int .u64 ro.nx.t, .int .i64 k], .bool true])) w' :=
  ⟨Am, cm, Ao, co, rm, ro, k, rfl, h.store hg (by decide) (by omega) (by omega) k9, h01, hk.trans' k9 (fun i hi e => by omega)⟩
theorem calls_done1 {w w9 w' : World} {base bm bo cm co g : Nat} {Am Ao : Option Addr} {rm ro : Rg} {k : Int} {cs : Array Value} (h : PQ w9 base bm bo Am cm Ao co rm ro rm ro) (hk : Keep (fun i => i = bm ∨ i = bo) w w9) (hg : w9.heap[g]? = some (.cells cs 55 (0, 0))) (hm : bm < g) (ho : bo < g) (h01 : k = 0 ∨ k = 1) (hw : w.heap.size ≤ g) (k9 : Keep (fun i => i = g) w9 w') :
    CallsP1 base bm bo w (.returned (.tuple #[.agg #[.pointer (some ⟨bo, 0, none⟩), .pointer (some ⟨bm, 0, none⟩), .slice Ao ro.l.length co, .bool ro.has, .int .i64 ro.nx.s, .int .i64 ro.nx.g, .int .u64 ro.nx.t, .slice Am rm.l.length cm, .bool rm.has, .int .i64 rm.nx.s, .int .i64 rm.nx.g, .int .u64 rm.nx.t, .int .i64 k], .bool true])) w' :=
  ⟨Am, cm, Ao, co, rm, ro, k, rfl, h.store hg (by decide) (by omega) (by omega) k9, h01, hk.trans' k9 (fun i hi e => by omega)⟩
set_option maxRecDepth 100000 in
set_option maxHeartbeats 8000000 in
theorem calls_put0 (base bm bo : Nat) (Am : Option Addr) (cm : Nat) (Ao : Option Addr) (co : Nat) (rm ro : Rg) (x : Wt) (w : World) (h : PQ w base bm bo Am cm Ao co rm ro rm ro) :
    Calls Try.prog 28 #[.agg #[.pointer (some ⟨bm, 0, none⟩), .pointer (some ⟨bo, 0, none⟩), .slice Am rm.l.length cm, .bool rm.has, .int .i64 rm.nx.s, .int .i64 rm.nx.g, .int .u64 rm.nx.t, .slice Ao ro.l.length co, .bool ro.has, .int .i64 ro.nx.s, .int .i64 ro.nx.g, .int .u64 ro.nx.t, .int .i64 0], .agg #[.int .i64 0, .int .i64 x.s, .int .i64 x.g, .int .u64 x.t]] w (CallsP0 base bm bo w) := by
  have hbm := h.im.lt
  have hbo := h.io.lt
  have hlm := h.im.len
  have hlo := h.io.len
  obtain ⟨W, hWe⟩ : ∃ W, W = ((((w.alloc (.cells #[.pointer (some ⟨bm, 0, none⟩), .pointer (some ⟨bo, 0, none⟩), .slice Am rm.l.length cm, .bool rm.has, .int .i64 rm.nx.s, .int .i64 rm.nx.g, .int .u64 rm.nx.t, .slice Ao ro.l.length co, .bool ro.has, .int .i64 ro.nx.s, .int .i64 ro.nx.g, .int .u64 ro.nx.t, .int .i64 0] 55)).alloc (.cells #[.int .i64 0, .int .i64 x.s, .int .i64 x.g, .int .u64 x.t] 65)).alloc (.cells #[.pointer none, .pointer none, .slice none 0 0, .bool false, .int .i64 0, .int .i64 0, .int .u64 0, .slice none 0 0, .bool false, .int .i64 0, .int .i64 0, .int .u64 0, .int .i64 0] 55)).alloc (.cells #[.slice Am rm.l.length cm, .bool rm.has, .int .i64 rm.nx.s, .int .i64 rm.nx.g, .int .u64 rm.nx.t] 29)) := ⟨_, rfl⟩
  obtain ⟨hW, hP, hO, hR, hS⟩ := chain4 hWe
  have hWe := Aside0.mk hWe
  have hP := Aside0.mk hP
  have hO := Aside0.mk hO
  have hR := Aside0.mk hR
  have hS := Aside0.mk hS
  have HQ := Aside0.mk (h.below hW)
  have HZ := Aside0.mk h.zm
  obtain ⟨r2, hr2⟩ : ∃ r2, r2 = putR rm x := ⟨_, rfl⟩
  obtain ⟨L, hL⟩ : ∃ L, L = putOut rm x := ⟨_, rfl⟩
  obtain ⟨E, hE⟩ : ∃ E, E = putE rm x := ⟨_, rfl⟩
  have hLl : L.length ≤ 1000 := by rw [hL]; exact putOut_le
  have hz2 : Zr r2 := by rw [hr2]; exact zr_put h.zm
  have HR2 := Aside0.mk hr2
  have HL := Aside0.mk hL
  have HE := Aside0.mk hE
  have HZ2 := Aside0.mk hz2
  clear hr2 hL hE hz2 h
  go_enter Try.func28, Try.ntmps28
  go_wp2_with fail
  rw [← hWe.out]
  clear hWe
  refine (put_any bm rm x W HQ.out.im).mono ?_
  rw [← HR2.out, ← HL.out, ← HE.out]
  rintro e w1 ⟨v, rfl, hv, hI1, hK1⟩
  obtain ⟨Av, cv, rfl, hcv, -⟩ := Kd.R_reads hv
  have HQ1 := Aside0.mk (HQ.out.ringm hK1 hI1)
  have hP1 := Aside0.mk (blk_keep hP.out hK1 (show ¬ w.heap.size = bm by omega))
  have hO1 := blk_keep hO.out hK1 (show ¬ w.heap.size + 1 = bm by omega)
  have hR1 := Aside0.mk (blk_keep hR.out hK1 (show ¬ w.heap.size + 1 + 1 = bm by omega))
  have hS1 := blk_keep hS.out hK1 (show ¬ w.heap.size + 1 + 1 + 1 = bm by omega)
  have HV1 := Aside0.mk hv
  have hWs := hW.size
  have HKW : Aside0 (Keep (fun i => i = bm ∨ i = bo) w w1) := ⟨(Keep.of_below hW).trans' (hK1.mono (fun _ _ h => .inl h)) (fun _ _ h => h)⟩
  have HS1 := Aside0.mk hK1.size
  clear hv hI1 hK1 HQ hP hO hR hS hW
  obtain ⟨s0, s1, s2, s3, s4, -, -, -, -, -⟩ := blk5 hS1
  obtain ⟨o0, o1, o2, o3⟩ : w1.cell? ⟨w.heap.size + 1, 0, none⟩ = some (.int .i64 0) ∧ w1.cell? ⟨w.heap.size + 1, 1, none⟩ = some (.int .i64 x.s) ∧ w1.cell? ⟨w.heap.size + 1, 2, none⟩ = some (.int .i64 x.g) ∧ w1.cell? ⟨w.heap.size + 1, 3, none⟩ = some (.int .u64 x.t) := ⟨cell_blk hO1 0, cell_blk hO1 1, cell_blk hO1 2, cell_blk hO1 3⟩
  have hSl := lt_blk hS1
  have hOl := lt_blk hO1
  clear hS1 hO1
  go_wp2_with fail
  have hrp := rput_any Am cm rm x base w1 HQ1.out.qm HQ1.out.hb hlm
  rw [← HR2.out, ← HL.out, ← HE.out] at hrp
  refine hrp.mono ?_
  clear hrp
  rintro e w2 ⟨v2, vo, rfl, hv2, hvo, hB2⟩
  obtain ⟨A2, c2, rfl, -, -⟩ := Kd.R_reads hv2
  obtain ⟨A3, c3, rfl, hc3, -⟩ := Kd.R_reads hvo
  have HQ2 := Aside0.mk ((HQ1.out.below hB2).listm hv2 HZ2.out)
  have hP2 := blk_below hP1.out hB2
  have hR2' := Aside0.mk (blk_below hR1.out hB2)
  have HV2 := Aside0.mk (Kd.R_below HV1.out hB2)
  have HO2 := Aside0.mk hvo
  have HKW2 := Aside0.mk (HKW.out.trans' (Keep.of_below hB2) (G := fun _ => False) (fun _ _ h => h.elim))
  have HB2 := Aside0.mk hB2.size
  clear hv2 hvo hB2 HQ1 hP1 hR1 HV1 HKW s0 s1 s2 s3 s4 o0 o1 o2 o3 hSl hOl
  obtain ⟨p0, p1, p2, p3, p4, p5, p6, p7, p8, p9, p10, p11, p12⟩ := cells13 hP2 rfl
  obtain ⟨f0, f1, f2, f3, f4, f5, f6, f7, f8, f9, f10, f11, f12⟩ := froz13 hP2
  have hPl := lt_blk hP2
  have hP2 := Aside0.mk hP2
  go_wp2_with fail
  have hbmP : bm ≠ w.heap.size := by omega
  have hboP : bo ≠ w.heap.size := by omega
  obtain ⟨C8, hC8⟩ : ∃ C8, C8 = (((((w2.setCell ⟨w.heap.size, 2, none⟩ (.slice A2 r2.l.length c2)).setCell ⟨w.heap.size, 3, none⟩ (.bool r2.has)).setCell ⟨w.heap.size, 4, none⟩ (.int .i64 r2.nx.s)).setCell ⟨w.heap.size, 5, none⟩ (.int .i64 r2.nx.g)).setCell ⟨w.heap.size, 6, none⟩ (.int .u64 r2.nx.t)) := ⟨_, rfl⟩
  obtain ⟨W8, hW8⟩ : ∃ W8, W8 = (C8.alloc (.cells #[.slice A2 r2.l.length c2, .bool r2.has, .int .i64 r2.nx.s, .int .i64 r2.nx.g, .int .u64 r2.nx.t] 29)) := ⟨_, rfl⟩
  have hK8 : Keep (fun i => i = w.heap.size) w2 C8 := by rw [hC8]; exact (by repeat (first | (with_reducible exact Keep.refl _ _) | (with_reducible refine Keep.drewN ?_ _) | (with_reducible refine Keep.drew ?_) | (with_reducible refine Keep.setCell ?_ _ _ (by first | (right; with_reducible rfl) | (left; simp; done) | (left; simp; omega) | (right; simp; done) | (right; assumption))) | (with_reducible refine Keep.alloc ?_ _)))
  have hA8 : Below C8.heap.size C8 W8 := by rw [hW8]; exact (by repeat (first | (with_reducible exact Below.refl _ _) | (with_reducible refine Below.drew ?_) | (with_reducible refine below_drewN ?_ _) | (with_reducible refine below_al ?_ _) | (with_reducible refine Below.alloc ?_ (by first | exact Nat.le_refl _ | omega | (simp; done) | (simp; omega)) _) | (with_reducible refine Below.setCell ?_ (by first | (simp only []; omega) | (simp; done) | (simp; omega)) _)))
  have hP8 : W8.heap[w.heap.size]? = some (.cells #[.pointer (some ⟨bm, 0, none⟩), .pointer (some ⟨bo, 0, none⟩), .slice A2 r2.l.length c2, .bool r2.has, .int .i64 r2.nx.s, .int .i64 r2.nx.g, .int .u64 r2.nx.t, .slice Ao ro.l.length co, .bool ro.has, .int .i64 ro.nx.s, .int .i64 ro.nx.g, .int .u64 ro.nx.t, .int .i64 0] 55 (0, 0)) := by rw [hW8, hC8]; exact blk_alloc (blk_set (blk_set (blk_set (blk_set (blk_set (hP2.out))))))
  have hR8 := blk_below (blk_keep hR2'.out hK8 (show ¬ w.heap.size + 1 + 1 = w.heap.size by omega)) hA8
  have HQ8 := Aside0.mk ((HQ2.out.store hP2.out (by decide) hbmP hboP hK8).below hA8)
  have HKW8 := Aside0.mk ((HKW2.out.trans' hK8 (fun i hi e => by omega)).trans' (Keep.of_below hA8) (G := fun _ => False) (fun _ _ h => h.elim))
  have HV8 := Aside0.mk (Kd.R_below (R_keepT HV2.out hP2.out (by decide) hK8) hA8)
  have HO8 := Aside0.mk (Kd.R_below (R_keepT HO2.out hP2.out (by decide) hK8) hA8)
  clear hK8 hA8 p0 p1 p2 p3 p4 p5 p6 p7 p8 p9 p10 p11 p12 f0 f1 f2 f3 f4 f5 f6 f7 f8 f9 f10 f11 f12 hPl hP2 hR2' HQ2 HKW2 HV2 HO2
  rw [← hC8, ← hW8]
  clear hC8 hW8
  obtain ⟨q0, q1, q2, q3, q4, q5, q6, q7, q8, q9, q10, q11, q12⟩ := cells13 hP8 rfl
  have hP8 := Aside0.mk hP8
  have hR8 := Aside0.mk hR8
  have hBd : Below W8.heap.size W8 W8.drew := (Below.refl _ _).drew
  refine start_ (n := 11) (S := fun w' => w'.cell? ⟨w.heap.size, 0, none⟩ = some (.pointer (some ⟨bm, 0, none⟩)) ∧ w'.cell? ⟨w.heap.size, 1, none⟩ = some (.pointer (some ⟨bo, 0, none⟩)) ∧ w'.cell? ⟨w.heap.size, 2, none⟩ = some (.slice A2 r2.l.length c2) ∧ w'.cell? ⟨w.heap.size, 3, none⟩ = some (.bool r2.has) ∧ w'.cell? ⟨w.heap.size, 4, none⟩ = some (.int .i64 r2.nx.s) ∧ w'.cell? ⟨w.heap.size, 5, none⟩ = some (.int .i64 r2.nx.g) ∧ w'.cell? ⟨w.heap.size, 6, none⟩ = some (.int .u64 r2.nx.t) ∧ w'.cell? ⟨w.heap.size, 7, none⟩ = some (.slice Ao ro.l.length co) ∧ w'.cell? ⟨w.heap.size, 8, none⟩ = some (.bool ro.has) ∧ w'.cell? ⟨w.heap.size, 9, none⟩ = some (.int .i64 ro.nx.s) ∧ w'.cell? ⟨w.heap.size, 10, none⟩ = some (.int .i64 ro.nx.g) ∧ w'.cell? ⟨w.heap.size, 11, none⟩ = some (.int .u64 ro.nx.t) ∧ w'.cell? ⟨w.heap.size, 12, none⟩ = some (.int .i64 0)) (ds := [9]) #[false,false,false,false,false,false,false,false,false,false,false] (by kernel_rfl) rfl rfl ⟨q0, q1, q2, q3, q4, q5, q6, q7, q8, q9, q10, q11, q12⟩ (fun hHeld => ?_)
  refine pure_ (i := 1) (N := some 69) (v := ?_) (a' := ?_) #[false,true,false,false,false,false,false,false,false,false,false] rfl rfl (by kernel_rfl) (fun _ _ _ h => h) (Or.inl ⟨by rfl, ?_⟩) ?_ ?_
  rotate_left
  · intro w'; go_simp; with_reducible rfl
  rotate_left
  · simp only [Act.put, setIfInBounds_toArray, set_cons_zero, set_cons_succ, i64_w, i32_w]; rfl
  refine pure_ (i := 2) (N := some 70) (v := ?_) (a' := ?_) #[false,true,true,false,false,false,false,false,false,false,false] rfl rfl (by kernel_rfl) (fun _ _ _ h => h) (Or.inl ⟨by rfl, ?_⟩) ?_ ?_
  rotate_left
  · intro w'; go_simp; with_reducible rfl
  rotate_left
  · simp only [Act.put, setIfInBounds_toArray, set_cons_zero, set_cons_succ, i64_w, i32_w]; rfl
  refine pure_ (i := 3) (N := some 71) (v := ?_) (a' := ?_) #[false,true,true,true,false,false,false,false,false,false,false] rfl rfl (by kernel_rfl) (fun _ _ _ h => h) (Or.inl ⟨by rfl, ?_⟩) ?_ ?_
  rotate_left
  · intro w'; go_simp; with_reducible rfl
  rotate_left
  · simp only [Act.put, setIfInBounds_toArray, set_cons_zero, set_cons_succ, i64_w, i32_w]; rfl
  refine pure_ (i := 4) (N := some 72) (v := ?_) (a' := ?_) #[false,true,true,true,true,false,false,false,false,false,false] rfl rfl (by kernel_rfl) (fun _ _ _ h => h) (Or.inl ⟨by rfl, ?_⟩) ?_ ?_
  rotate_left
  · intro w'; go_simp; with_reducible rfl
  rotate_left
  · simp only [Act.put, setIfInBounds_toArray, set_cons_zero, set_cons_succ, i64_w, i32_w]; rfl
  refine pure_ (i := 5) (N := some 73) (v := ?_) (a' := ?_) #[false,true,true,true,true,true,false,false,false,false,false] rfl rfl (by kernel_rfl) (fun _ _ _ h => h) (Or.inl ⟨by rfl, ?_⟩) ?_ ?_
  rotate_left
  · intro w'; go_simp; with_reducible rfl
  rotate_left
  · simp only [Act.put, setIfInBounds_toArray, set_cons_zero, set_cons_succ, i64_w, i32_w]; rfl
  refine pure_ (i := 6) (N := some 74) (v := ?_) (a' := ?_) #[false,true,true,true,true,true,true,false,false,false,false] rfl rfl (by kernel_rfl) (fun _ _ _ h => h) (Or.inl ⟨by rfl, ?_⟩) ?_ ?_
  rotate_left
  · intro w'; go_simp; with_reducible rfl
  rotate_left
  · simp only [Act.put, setIfInBounds_toArray, set_cons_zero, set_cons_succ, i64_w, i32_w]; rfl
  refine take_ (i := 0) (N := some 68) (v := ?_) (a' := ?_) #[true,true,true,true,true,true,true,false,false,false,false] rfl rfl (by kernel_rfl) (fun _ _ _ h => h) (Or.inl ⟨by rfl, ?_⟩) hHeld ?_ ?_
  rotate_left
  · rintro w' ⟨s0, s1, s2, s3, s4, s5, s6, s7, s8, s9, s10, s11, s12⟩; go_simp; with_reducible rfl
  rotate_left
  · simp only [Act.put, setIfInBounds_toArray, set_cons_zero, set_cons_succ, i64_w, i32_w]; rfl
  refine one_ (i := 7) (N := some 75) #[true,true,true,true,true,true,true,true,false,false,false] rfl rfl (by kernel_rfl) (by decide) (fun K hK => ?_)
  refine goes_ Try.func23 (by kernel_rfl) rfl #[.slice Av L.length cv, .slice A3 L.length c3] (by rfl) rfl rfl (by simp only [List.map_toArray, List.map_cons, List.map_nil]; rfl) ?_
  with_reducible refine (sameList_eq (Kd.R_reads' (Kd.R_below HV8.out hBd)).2.2 hcv (Kd.R_reads' (Kd.R_below HO8.out hBd)).2.2 hc3 hLl).mono ?_
  rintro e w9 ⟨rfl, hB9⟩
  refine ⟨_, rfl, ?_⟩
  have hB9t := below_then hBd hB9
  have hP9 := blk_below hP8.out hB9t
  obtain ⟨z0, z1, z2, z3, z4, z5, z6, z7, z8, z9, z10, z11, z12⟩ := cells13 hP9 rfl
  have hR9 := blk_below hR8.out hB9t
  have HQ9 := Aside0.mk (HQ8.out.below hB9t)
  have HKW9 := Aside0.mk (HKW8.out.trans' (Keep.of_below hB9t) (G := fun _ => False) (fun _ _ h => h.elim))
  refine hK.out _ _ ⟨z0, z1, z2, z3, z4, z5, z6, z7, z8, z9, z10, z11, z12⟩ (fun hHeld => ?_)
  clear hK K
  refine norm_ (a' := ?_) ?_ ?_
  rotate_left
  · show Act.put _ (some 75) _ = _; simp only [Act.put, setIfInBounds_toArray, set_cons_zero, set_cons_succ, i64_w, i32_w]; rfl
  refine pure_ (i := 8) (N := some 76) (v := ?_) (a' := ?_) #[true,true,true,true,true,true,true,true,true,false,false] rfl rfl (by kernel_rfl) (fun _ _ _ h => h) (Or.inl ⟨by rfl, ?_⟩) ?_ ?_
  rotate_left
  · intro w'; go_simp; with_reducible rfl
  rotate_left
  · simp only [Act.put, setIfInBounds_toArray, set_cons_zero, set_cons_succ, i64_w, i32_w]; rfl
  refine last_ (i := 9) (N := none) #[true,true,true,true,true,true,true,true,true,true,false] rfl rfl (by kernel_rfl) (by decide) (fun K hK => ?_)
  obtain ⟨ra0, ra1, ra2, ra3, ra4, ra5, ra6, ra7, ra8, ra9, ra10, ra11, ra12⟩ := cells13 hR9 rfl
  obtain ⟨ga0, ga1, ga2, ga3, ga4, ga5, ga6, ga7, ga8, ga9, ga10, ga11, ga12⟩ := froz13 hR9
  have hRl := lt_blk hR9
  refine skip_ (w1 := ?_) (by rfl) rfl ?_ ?_
  rotate_left
  · go_simp
    first | with_reducible rfl | rfl
  refine hK.out _ _ ?_
  clear hK K
  refine pure_ (i := 10) (N := some 5) (v := ?_) (a' := ?_) #[true,true,true,true,true,true,true,true,true,true,true] rfl rfl (by kernel_rfl) (fun _ _ _ h => h) (Or.inl ⟨by rfl, ?_⟩) ?_ ?_
  rotate_left
  · intro w'; go_simp; with_reducible rfl
  rotate_left
  · simp only [Act.put, setIfInBounds_toArray, set_cons_zero, set_cons_succ, i64_w, i32_w]; rfl
  refine done_ (by kernel_rfl) ?_
  go_wp2
  refine bodyPost_ret (v := .tuple #[.agg #[.pointer (some ⟨bm, 0, none⟩), .pointer (some ⟨bo, 0, none⟩), .slice A2 r2.l.length c2, .bool r2.has, .int .i64 r2.nx.s, .int .i64 r2.nx.g, .int .u64 r2.nx.t, .slice Ao ro.l.length co, .bool ro.has, .int .i64 ro.nx.s, .int .i64 ro.nx.g, .int .u64 ro.nx.t, .int .i64 0], .bool true]) (by simp [results, Try.results28, go_sem, ra0, ra1, ra2, ra3, ra4, ra5, ra6, ra7, ra8, ra9, ra10, ra11, ra12, hRl]) rfl ?_
  refine calls_done0 HQ9.out HKW9.out hR9 (by omega) (by omega) (.inl rfl) (by omega) ?_
  exact (by repeat (first | (with_reducible exact Keep.refl _ _) | (with_reducible refine Keep.drewN ?_ _) | (with_reducible refine Keep.drew ?_) | (with_reducible refine Keep.setCell ?_ _ _ (by first | (right; with_reducible rfl) | (left; simp; done) | (left; simp; omega) | (right; simp; done) | (right; assumption))) | (with_reducible refine Keep.alloc ?_ _)))
set_option maxRecDepth 100000 in
set_option maxHeartbeats 8000000 in
theorem calls_put1 (base bm bo : Nat) (Am : Option Addr) (cm : Nat) (Ao : Option Addr) (co : Nat) (rm ro : Rg) (x : Wt) (w : World) (h : PQ w base bm bo Am cm Ao co rm ro rm ro) :
    Calls Try.prog 28 #[.agg #[.pointer (some ⟨bo, 0, none⟩), .pointer (some ⟨bm, 0, none⟩), .slice Ao ro.l.length co, .bool ro.has, .int .i64 ro.nx.s, .int .i64 ro.nx.g, .int .u64 ro.nx.t, .slice Am rm.l.length cm, .bool rm.has, .int .i64 rm.nx.s, .int .i64 rm.nx.g, .int .u64 rm.nx.t, .int .i64 1], .agg #[.int .i64 0, .int .i64 x.s, .int .i64 x.g, .int .u64 x.t]] w (CallsP1 base bm bo w) := by
  have hbm := h.im.lt
  have hbo := h.io.lt
  have hlm := h.im.len
  have hlo := h.io.len
  obtain ⟨W, hWe⟩ : ∃ W, W = ((((w.alloc (.cells #[.pointer (some ⟨bo, 0, none⟩), .pointer (some ⟨bm, 0, none⟩), .slice Ao ro.l.length co, .bool ro.has, .int .i64 ro.nx.s, .int .i64 ro.nx.g, .int .u64 ro.nx.t, .slice Am rm.l.length cm, .bool rm.has, .int .i64 rm.nx.s, .int .i64 rm.nx.g, .int .u64 rm.nx.t, .int .i64 1] 55)).alloc (.cells #[.int .i64 0, .int .i64 x.s, .int .i64 x.g, .int .u64 x.t] 65)).alloc (.cells #[.pointer none, .pointer none, .slice none 0 0, .bool false, .int .i64 0, .int .i64 0, .int .u64 0, .slice none 0 0, .bool false, .int .i64 0, .int .i64 0, .int .u64 0, .int .i64 0] 55)).alloc (.cells #[.slice Am rm.l.length cm, .bool rm.has, .int .i64 rm.nx.s, .int .i64 rm.nx.g, .int .u64 rm.nx.t] 29)) := ⟨_, rfl⟩
  obtain ⟨hW, hP, hO, hR, hS⟩ := chain4 hWe
  have hWe := Aside0.mk hWe
  have hP := Aside0.mk hP
  have hO := Aside0.mk hO
  have hR := Aside0.mk hR
  have hS := Aside0.mk hS
  have HQ := Aside0.mk (h.below hW)
  have HZ := Aside0.mk h.zm
  obtain ⟨r2, hr2⟩ : ∃ r2, r2 = putR rm x := ⟨_, rfl⟩
  obtain ⟨L, hL⟩ : ∃ L, L = putOut rm x := ⟨_, rfl⟩
  obtain ⟨E, hE⟩ : ∃ E, E = putE rm x := ⟨_, rfl⟩
  have hLl : L.length ≤ 1000 := by rw [hL]; exact putOut_le
  have hz2 : Zr r2 := by rw [hr2]; exact zr_put h.zm
  have HR2 := Aside0.mk hr2
  have HL := Aside0.mk hL
  have HE := Aside0.mk hE
  have HZ2 := Aside0.mk hz2
  clear hr2 hL hE hz2 h
  go_enter Try.func28, Try.ntmps28
  go_wp2_with fail
  rw [← hWe.out]
  clear hWe
  refine (put_any bm rm x W HQ.out.im).mono ?_
  rw [← HR2.out, ← HL.out, ← HE.out]
  rintro e w1 ⟨v, rfl, hv, hI1, hK1⟩
  obtain ⟨Av, cv, rfl, hcv, -⟩ := Kd.R_reads hv
  have HQ1 := Aside0.mk (HQ.out.ringm hK1 hI1)
  have hP1 := Aside0.mk (blk_keep hP.out hK1 (show ¬ w.heap.size = bm by omega))
  have hO1 := blk_keep hO.out hK1 (show ¬ w.heap.size + 1 = bm by omega)
  have hR1 := Aside0.mk (blk_keep hR.out hK1 (show ¬ w.heap.size + 1 + 1 = bm by omega))
  have hS1 := blk_keep hS.out hK1 (show ¬ w.heap.size + 1 + 1 + 1 = bm by omega)
  have HV1 := Aside0.mk hv
  have hWs := hW.size
  have HKW : Aside0 (Keep (fun i => i = bm ∨ i = bo) w w1) := ⟨(Keep.of_below hW).trans' (hK1.mono (fun _ _ h => .inl h)) (fun _ _ h => h)⟩
  have HS1 := Aside0.mk hK1.size
  clear hv hI1 hK1 HQ hP hO hR hS hW
  obtain ⟨s0, s1, s2, s3, s4, -, -, -, -, -⟩ := blk5 hS1
  obtain ⟨o0, o1, o2, o3⟩ : w1.cell? ⟨w.heap.size + 1, 0, none⟩ = some (.int .i64 0) ∧ w1.cell? ⟨w.heap.size + 1, 1, none⟩ = some (.int .i64 x.s) ∧ w1.cell? ⟨w.heap.size + 1, 2, none⟩ = some (.int .i64 x.g) ∧ w1.cell? ⟨w.heap.size + 1, 3, none⟩ = some (.int .u64 x.t) := ⟨cell_blk hO1 0, cell_blk hO1 1, cell_blk hO1 2, cell_blk hO1 3⟩
  have hSl := lt_blk hS1
  have hOl := lt_blk hO1
  clear hS1 hO1
  go_wp2_with fail
  have hrp := rput_any Am cm rm x base w1 HQ1.out.qm HQ1.out.hb hlm
  rw [← HR2.out, ← HL.out, ← HE.out] at hrp
  refine hrp.mono ?_
  clear hrp
  rintro e w2 ⟨v2, vo, rfl, hv2, hvo, hB2⟩
  obtain ⟨A2, c2, rfl, -, -⟩ := Kd.R_reads hv2
  obtain ⟨A3, c3, rfl, hc3, -⟩ := Kd.R_reads hvo
  have HQ2 := Aside0.mk ((HQ1.out.below hB2).listm hv2 HZ2.out)
  have hP2 := blk_below hP1.out hB2
  have hR2' := Aside0.mk (blk_below hR1.out hB2)
  have HV2 := Aside0.mk (Kd.R_below HV1.out hB2)
  have HO2 := Aside0.mk hvo
  have HKW2 := Aside0.mk (HKW.out.trans' (Keep.of_below hB2) (G := fun _ => False) (fun _ _ h => h.elim))
  have HB2 := Aside0.mk hB2.size
  clear hv2 hvo hB2 HQ1 hP1 hR1 HV1 HKW s0 s1 s2 s3 s4 o0 o1 o2 o3 hSl hOl
  obtain ⟨p0, p1, p2, p3, p4, p5, p6, p7, p8, p9, p10, p11, p12⟩ := cells13 hP2 rfl
  obtain ⟨f0, f1, f2, f3, f4, f5, f6, f7, f8, f9, f10, f11, f12⟩ := froz13 hP2
  have hPl := lt_blk hP2
  have hP2 := Aside0.mk hP2
  go_wp2_with fail
  have hbmP : bm ≠ w.heap.size := by omega
  have hboP : bo ≠ w.heap.size := by omega
  obtain ⟨C8, hC8⟩ : ∃ C8, C8 = (((((w2.setCell ⟨w.heap.size, 7, none⟩ (.slice A2 r2.l.length c2)).setCell ⟨w.heap.size, 8, none⟩ (.bool r2.has)).setCell ⟨w.heap.size, 9, none⟩ (.int .i64 r2.nx.s)).setCell ⟨w.heap.size, 10, none⟩ (.int .i64 r2.nx.g)).setCell ⟨w.heap.size, 11, none⟩ (.int .u64 r2.nx.t)) := ⟨_, rfl⟩
  obtain ⟨W8, hW8⟩ : ∃ W8, W8 = (C8.alloc (.cells #[.slice A2 r2.l.length c2, .bool r2.has, .int .i64 r2.nx.s, .int .i64 r2.nx.g, .int .u64 r2.nx.t] 29)) := ⟨_, rfl⟩
  have hK8 : Keep (fun i => i = w.heap.size) w2 C8 := by rw [hC8]; exact (by repeat (first | (with_reducible exact Keep.refl _ _) | (with_reducible refine Keep.drewN ?_ _) | (with_reducible refine Keep.drew ?_) | (with_reducible refine Keep.setCell ?_ _ _ (by first | (right; with_reducible rfl) | (left; simp; done) | (left; simp; omega) | (right; simp; done) | (right; assumption))) | (with_reducible refine Keep.alloc ?_ _)))
  have hA8 : Below C8.heap.size C8 W8 := by rw [hW8]; exact (by repeat (first | (with_reducible exact Below.refl _ _) | (with_reducible refine Below.drew ?_) | (with_reducible refine below_drewN ?_ _) | (with_reducible refine below_al ?_ _) | (with_reducible refine Below.alloc ?_ (by first | exact Nat.le_refl _ | omega | (simp; done) | (simp; omega)) _) | (with_reducible refine Below.setCell ?_ (by first | (simp only []; omega) | (simp; done) | (simp; omega)) _)))
  have hP8 : W8.heap[w.heap.size]? = some (.cells #[.pointer (some ⟨bo, 0, none⟩), .pointer (some ⟨bm, 0, none⟩), .slice Ao ro.l.length co, .bool ro.has, .int .i64 ro.nx.s, .int .i64 ro.nx.g, .int .u64 ro.nx.t, .slice A2 r2.l.length c2, .bool r2.has, .int .i64 r2.nx.s, .int .i64 r2.nx.g, .int .u64 r2.nx.t, .int .i64 1] 55 (0, 0)) := by rw [hW8, hC8]; exact blk_alloc (blk_set (blk_set (blk_set (blk_set (blk_set (hP2.out))))))
  have hR8 := blk_below (blk_keep hR2'.out hK8 (show ¬ w.heap.size + 1 + 1 = w.heap.size by omega)) hA8
  have HQ8 := Aside0.mk ((HQ2.out.store hP2.out (by decide) hbmP hboP hK8).below hA8)
  have HKW8 := Aside0.mk ((HKW2.out.trans' hK8 (fun i hi e => by omega)).trans' (Keep.of_below hA8) (G := fun _ => False) (fun _ _ h => h.elim))
  have HV8 := Aside0.mk (Kd.R_below (R_keepT HV2.out hP2.out (by decide) hK8) hA8)
  have HO8 := Aside0.mk (Kd.R_below (R_keepT HO2.out hP2.out (by decide) hK8) hA8)
  clear hK8 hA8 p0 p1 p2 p3 p4 p5 p6 p7 p8 p9 p10 p11 p12 f0 f1 f2 f3 f4 f5 f6 f7 f8 f9 f10 f11 f12 hPl hP2 hR2' HQ2 HKW2 HV2 HO2
  rw [← hC8, ← hW8]
  clear hC8 hW8
  obtain ⟨q0, q1, q2, q3, q4, q5, q6, q7, q8, q9, q10, q11, q12⟩ := cells13 hP8 rfl
  have hP8 := Aside0.mk hP8
  have hR8 := Aside0.mk hR8
  have hBd : Below W8.heap.size W8 W8.drew := (Below.refl _ _).drew
  refine start_ (n := 11) (S := fun w' => w'.cell? ⟨w.heap.size, 0, none⟩ = some (.pointer (some ⟨bo, 0, none⟩)) ∧ w'.cell? ⟨w.heap.size, 1, none⟩ = some (.pointer (some ⟨bm, 0, none⟩)) ∧ w'.cell? ⟨w.heap.size, 2, none⟩ = some (.slice Ao ro.l.length co) ∧ w'.cell? ⟨w.heap.size, 3, none⟩ = some (.bool ro.has) ∧ w'.cell? ⟨w.heap.size, 4, none⟩ = some (.int .i64 ro.nx.s) ∧ w'.cell? ⟨w.heap.size, 5, none⟩ = some (.int .i64 ro.nx.g) ∧ w'.cell? ⟨w.heap.size, 6, none⟩ = some (.int .u64 ro.nx.t) ∧ w'.cell? ⟨w.heap.size, 7, none⟩ = some (.slice A2 r2.l.length c2) ∧ w'.cell? ⟨w.heap.size, 8, none⟩ = some (.bool r2.has) ∧ w'.cell? ⟨w.heap.size, 9, none⟩ = some (.int .i64 r2.nx.s) ∧ w'.cell? ⟨w.heap.size, 10, none⟩ = some (.int .i64 r2.nx.g) ∧ w'.cell? ⟨w.heap.size, 11, none⟩ = some (.int .u64 r2.nx.t) ∧ w'.cell? ⟨w.heap.size, 12, none⟩ = some (.int .i64 1)) (ds := [9]) #[false,false,false,false,false,false,false,false,false,false,false] (by kernel_rfl) rfl rfl ⟨q0, q1, q2, q3, q4, q5, q6, q7, q8, q9, q10, q11, q12⟩ (fun hHeld => ?_)
  refine pure_ (i := 1) (N := some 69) (v := ?_) (a' := ?_) #[false,true,false,false,false,false,false,false,false,false,false] rfl rfl (by kernel_rfl) (fun _ _ _ h => h) (Or.inl ⟨by rfl, ?_⟩) ?_ ?_
  rotate_left
  · intro w'; go_simp; with_reducible rfl
  rotate_left
  · simp only [Act.put, setIfInBounds_toArray, set_cons_zero, set_cons_succ, i64_w, i32_w]; rfl
  refine pure_ (i := 2) (N := some 70) (v := ?_) (a' := ?_) #[false,true,true,false,false,false,false,false,false,false,false] rfl rfl (by kernel_rfl) (fun _ _ _ h => h) (Or.inl ⟨by rfl, ?_⟩) ?_ ?_
  rotate_left
  · intro w'; go_simp; with_reducible rfl
  rotate_left
  · simp only [Act.put, setIfInBounds_toArray, set_cons_zero, set_cons_succ, i64_w, i32_w]; rfl
  refine pure_ (i := 3) (N := some 71) (v := ?_) (a' := ?_) #[false,true,true,true,false,false,false,false,false,false,false] rfl rfl (by kernel_rfl) (fun _ _ _ h => h) (Or.inl ⟨by rfl, ?_⟩) ?_ ?_
  rotate_left
  · intro w'; go_simp; with_reducible rfl
  rotate_left
  · simp only [Act.put, setIfInBounds_toArray, set_cons_zero, set_cons_succ, i64_w, i32_w]; rfl
  refine pure_ (i := 4) (N := some 72) (v := ?_) (a' := ?_) #[false,true,true,true,true,false,false,false,false,false,false] rfl rfl (by kernel_rfl) (fun _ _ _ h => h) (Or.inl ⟨by rfl, ?_⟩) ?_ ?_
  rotate_left
  · intro w'; go_simp; with_reducible rfl
  rotate_left
  · simp only [Act.put, setIfInBounds_toArray, set_cons_zero, set_cons_succ, i64_w, i32_w]; rfl
  refine pure_ (i := 5) (N := some 73) (v := ?_) (a' := ?_) #[false,true,true,true,true,true,false,false,false,false,false] rfl rfl (by kernel_rfl) (fun _ _ _ h => h) (Or.inl ⟨by rfl, ?_⟩) ?_ ?_
  rotate_left
  · intro w'; go_simp; with_reducible rfl
  rotate_left
  · simp only [Act.put, setIfInBounds_toArray, set_cons_zero, set_cons_succ, i64_w, i32_w]; rfl
  refine pure_ (i := 6) (N := some 74) (v := ?_) (a' := ?_) #[false,true,true,true,true,true,true,false,false,false,false] rfl rfl (by kernel_rfl) (fun _ _ _ h => h) (Or.inl ⟨by rfl, ?_⟩) ?_ ?_
  rotate_left
  · intro w'; go_simp; with_reducible rfl
  rotate_left
  · simp only [Act.put, setIfInBounds_toArray, set_cons_zero, set_cons_succ, i64_w, i32_w]; rfl
  refine take_ (i := 0) (N := some 68) (v := ?_) (a' := ?_) #[true,true,true,true,true,true,true,false,false,false,false] rfl rfl (by kernel_rfl) (fun _ _ _ h => h) (Or.inl ⟨by rfl, ?_⟩) hHeld ?_ ?_
  rotate_left
  · rintro w' ⟨s0, s1, s2, s3, s4, s5, s6, s7, s8, s9, s10, s11, s12⟩; go_simp; with_reducible rfl
  rotate_left
  · simp only [Act.put, setIfInBounds_toArray, set_cons_zero, set_cons_succ, i64_w, i32_w]; rfl
  refine one_ (i := 7) (N := some 75) #[true,true,true,true,true,true,true,true,false,false,false] rfl rfl (by kernel_rfl) (by decide) (fun K hK => ?_)
  refine goes_ Try.func23 (by kernel_rfl) rfl #[.slice Av L.length cv, .slice A3 L.length c3] (by rfl) rfl rfl (by simp only [List.map_toArray, List.map_cons, List.map_nil]; rfl) ?_
  with_reducible refine (sameList_eq (Kd.R_reads' (Kd.R_below HV8.out hBd)).2.2 hcv (Kd.R_reads' (Kd.R_below HO8.out hBd)).2.2 hc3 hLl).mono ?_
  rintro e w9 ⟨rfl, hB9⟩
  refine ⟨_, rfl, ?_⟩
  have hB9t := below_then hBd hB9
  have hP9 := blk_below hP8.out hB9t
  obtain ⟨z0, z1, z2, z3, z4, z5, z6, z7, z8, z9, z10, z11, z12⟩ := cells13 hP9 rfl
  have hR9 := blk_below hR8.out hB9t
  have HQ9 := Aside0.mk (HQ8.out.below hB9t)
  have HKW9 := Aside0.mk (HKW8.out.trans' (Keep.of_below hB9t) (G := fun _ => False) (fun _ _ h => h.elim))
  refine hK.out _ _ ⟨z0, z1, z2, z3, z4, z5, z6, z7, z8, z9, z10, z11, z12⟩ (fun hHeld => ?_)
  clear hK K
  refine norm_ (a' := ?_) ?_ ?_
  rotate_left
  · show Act.put _ (some 75) _ = _; simp only [Act.put, setIfInBounds_toArray, set_cons_zero, set_cons_succ, i64_w, i32_w]; rfl
  refine pure_ (i := 8) (N := some 76) (v := ?_) (a' := ?_) #[true,true,true,true,true,true,true,true,true,false,false] rfl rfl (by kernel_rfl) (fun _ _ _ h => h) (Or.inl ⟨by rfl, ?_⟩) ?_ ?_
  rotate_left
  · intro w'; go_simp; with_reducible rfl
  rotate_left
  · simp only [Act.put, setIfInBounds_toArray, set_cons_zero, set_cons_succ, i64_w, i32_w]; rfl
  refine last_ (i := 9) (N := none) #[true,true,true,true,true,true,true,true,true,true,false] rfl rfl (by kernel_rfl) (by decide) (fun K hK => ?_)
  obtain ⟨ra0, ra1, ra2, ra3, ra4, ra5, ra6, ra7, ra8, ra9, ra10, ra11, ra12⟩ := cells13 hR9 rfl
  obtain ⟨ga0, ga1, ga2, ga3, ga4, ga5, ga6, ga7, ga8, ga9, ga10, ga11, ga12⟩ := froz13 hR9
  have hRl := lt_blk hR9
  refine skip_ (w1 := ?_) (by rfl) rfl ?_ ?_
  rotate_left
  · go_simp
    first | with_reducible rfl | rfl
  refine hK.out _ _ ?_
  clear hK K
  refine pure_ (i := 10) (N := some 5) (v := ?_) (a' := ?_) #[true,true,true,true,true,true,true,true,true,true,true] rfl rfl (by kernel_rfl) (fun _ _ _ h => h) (Or.inl ⟨by rfl, ?_⟩) ?_ ?_
  rotate_left
  · intro w'; go_simp; with_reducible rfl
  rotate_left
  · simp only [Act.put, setIfInBounds_toArray, set_cons_zero, set_cons_succ, i64_w, i32_w]; rfl
  refine done_ (by kernel_rfl) ?_
  go_wp2
  refine bodyPost_ret (v := .tuple #[.agg #[.pointer (some ⟨bo, 0, none⟩), .pointer (some ⟨bm, 0, none⟩), .slice Ao ro.l.length co, .bool ro.has, .int .i64 ro.nx.s, .int .i64 ro.nx.g, .int .u64 ro.nx.t, .slice A2 r2.l.length c2, .bool r2.has, .int .i64 r2.nx.s, .int .i64 r2.nx.g, .int .u64 r2.nx.t, .int .i64 1], .bool true]) (by simp [results, Try.results28, go_sem, ra0, ra1, ra2, ra3, ra4, ra5, ra6, ra7, ra8, ra9, ra10, ra11, ra12, hRl]) rfl ?_
  refine calls_done1 HQ9.out HKW9.out hR9 (by omega) (by omega) (.inr rfl) (by omega) ?_
  exact (by repeat (first | (with_reducible exact Keep.refl _ _) | (with_reducible refine Keep.drewN ?_ _) | (with_reducible refine Keep.drew ?_) | (with_reducible refine Keep.setCell ?_ _ _ (by first | (right; with_reducible rfl) | (left; simp; done) | (left; simp; omega) | (right; simp; done) | (right; assumption))) | (with_reducible refine Keep.alloc ?_ _)))
set_option maxRecDepth 100000 in
set_option maxHeartbeats 8000000 in
theorem calls_rdy0 (base bm bo : Nat) (Am : Option Addr) (cm : Nat) (Ao : Option Addr) (co : Nat) (rm ro : Rg) (x : Wt) (w : World) (h : PQ w base bm bo Am cm Ao co rm ro rm ro) :
    Calls Try.prog 28 #[.agg #[.pointer (some ⟨bm, 0, none⟩), .pointer (some ⟨bo, 0, none⟩), .slice Am rm.l.length cm, .bool rm.has, .int .i64 rm.nx.s, .int .i64 rm.nx.g, .int .u64 rm.nx.t, .slice Ao ro.l.length co, .bool ro.has, .int .i64 ro.nx.s, .int .i64 ro.nx.g, .int .u64 ro.nx.t, .int .i64 0], .agg #[.int .i64 1, .int .i64 x.s, .int .i64 x.g, .int .u64 x.t]] w (CallsP0 base bm bo w) := by
  have hbm := h.im.lt
  have hbo := h.io.lt
  have hlm := h.im.len
  have hlo := h.io.len
  obtain ⟨W, hWe⟩ : ∃ W, W = ((((w.alloc (.cells #[.pointer (some ⟨bm, 0, none⟩), .pointer (some ⟨bo, 0, none⟩), .slice Am rm.l.length cm, .bool rm.has, .int .i64 rm.nx.s, .int .i64 rm.nx.g, .int .u64 rm.nx.t, .slice Ao ro.l.length co, .bool ro.has, .int .i64 ro.nx.s, .int .i64 ro.nx.g, .int .u64 ro.nx.t, .int .i64 0] 55)).alloc (.cells #[.int .i64 1, .int .i64 x.s, .int .i64 x.g, .int .u64 x.t] 65)).alloc (.cells #[.pointer none, .pointer none, .slice none 0 0, .bool false, .int .i64 0, .int .i64 0, .int .u64 0, .slice none 0 0, .bool false, .int .i64 0, .int .i64 0, .int .u64 0, .int .i64 0] 55)).alloc (.cells #[.slice Am rm.l.length cm, .bool rm.has, .int .i64 rm.nx.s, .int .i64 rm.nx.g, .int .u64 rm.nx.t] 29)) := ⟨_, rfl⟩
  obtain ⟨hW, hP, hO, hR, hS⟩ := chain4 hWe
  have hWe := Aside0.mk hWe
  have hP := Aside0.mk hP
  have hO := Aside0.mk hO
  have hR := Aside0.mk hR
  have hS := Aside0.mk hS
  have HQ := Aside0.mk (h.below hW)
  have HZ := Aside0.mk h.zm
  obtain ⟨r2, hr2⟩ : ∃ r2, r2 = rdyR rm x := ⟨_, rfl⟩
  obtain ⟨L, hL⟩ : ∃ L, L = rdyOut rm x := ⟨_, rfl⟩
  obtain ⟨E, hE⟩ : ∃ E, E = rdyE rm x := ⟨_, rfl⟩
  have hLl : L.length ≤ 1000 := by rw [hL]; exact rdyOut_le
  have hz2 : Zr r2 := by rw [hr2]; exact zr_rdy h.zm
  have HR2 := Aside0.mk hr2
  have HL := Aside0.mk hL
  have HE := Aside0.mk hE
  have HZ2 := Aside0.mk hz2
  clear hr2 hL hE hz2 h
  go_enter Try.func28, Try.ntmps28
  go_wp2_with fail
  rw [← hWe.out]
  clear hWe
  refine (rdy_any bm rm x W HQ.out.im).mono ?_
  rw [← HR2.out, ← HL.out, ← HE.out]
  rintro e w1 ⟨v, rfl, hv, hI1, hK1⟩
  obtain ⟨Av, cv, rfl, hcv, -⟩ := Kd.R_reads hv
  have HQ1 := Aside0.mk (HQ.out.ringm hK1 hI1)
  have hP1 := Aside0.mk (blk_keep hP.out hK1 (show ¬ w.heap.size = bm by omega))
  have hO1 := blk_keep hO.out hK1 (show ¬ w.heap.size + 1 = bm by omega)
  have hR1 := Aside0.mk (blk_keep hR.out hK1 (show ¬ w.heap.size + 1 + 1 = bm by omega))
  have hS1 := blk_keep hS.out hK1 (show ¬ w.heap.size + 1 + 1 + 1 = bm by omega)
  have HV1 := Aside0.mk hv
  have hWs := hW.size
  have HKW : Aside0 (Keep (fun i => i = bm ∨ i = bo) w w1) := ⟨(Keep.of_below hW).trans' (hK1.mono (fun _ _ h => .inl h)) (fun _ _ h => h)⟩
  have HS1 := Aside0.mk hK1.size
  clear hv hI1 hK1 HQ hP hO hR hS hW
  obtain ⟨s0, s1, s2, s3, s4, -, -, -, -, -⟩ := blk5 hS1
  obtain ⟨o0, o1, o2, o3⟩ : w1.cell? ⟨w.heap.size + 1, 0, none⟩ = some (.int .i64 1) ∧ w1.cell? ⟨w.heap.size + 1, 1, none⟩ = some (.int .i64 x.s) ∧ w1.cell? ⟨w.heap.size + 1, 2, none⟩ = some (.int .i64 x.g) ∧ w1.cell? ⟨w.heap.size + 1, 3, none⟩ = some (.int .u64 x.t) := ⟨cell_blk hO1 0, cell_blk hO1 1, cell_blk hO1 2, cell_blk hO1 3⟩
  have hSl := lt_blk hS1
  have hOl := lt_blk hO1
  clear hS1 hO1
  go_wp2_with fail
  have hrp := rrdy_any Am cm rm x base w1 HQ1.out.qm HQ1.out.hb hlm
  rw [← HR2.out, ← HL.out, ← HE.out] at hrp
  refine hrp.mono ?_
  clear hrp
  rintro e w2 ⟨v2, vo, rfl, hv2, hvo, hB2⟩
  obtain ⟨A2, c2, rfl, -, -⟩ := Kd.R_reads hv2
  obtain ⟨A3, c3, rfl, hc3, -⟩ := Kd.R_reads hvo
  have HQ2 := Aside0.mk ((HQ1.out.below hB2).listm hv2 HZ2.out)
  have hP2 := blk_below hP1.out hB2
  have hR2' := Aside0.mk (blk_below hR1.out hB2)
  have HV2 := Aside0.mk (Kd.R_below HV1.out hB2)
  have HO2 := Aside0.mk hvo
  have HKW2 := Aside0.mk (HKW.out.trans' (Keep.of_below hB2) (G := fun _ => False) (fun _ _ h => h.elim))
  have HB2 := Aside0.mk hB2.size
  clear hv2 hvo hB2 HQ1 hP1 hR1 HV1 HKW s0 s1 s2 s3 s4 o0 o1 o2 o3 hSl hOl
  obtain ⟨p0, p1, p2, p3, p4, p5, p6, p7, p8, p9, p10, p11, p12⟩ := cells13 hP2 rfl
  obtain ⟨f0, f1, f2, f3, f4, f5, f6, f7, f8, f9, f10, f11, f12⟩ := froz13 hP2
  have hPl := lt_blk hP2
  have hP2 := Aside0.mk hP2
  go_wp2_with fail
  have hbmP : bm ≠ w.heap.size := by omega
  have hboP : bo ≠ w.heap.size := by omega
  obtain ⟨C8, hC8⟩ : ∃ C8, C8 = (((((w2.setCell ⟨w.heap.size, 2, none⟩ (.slice A2 r2.l.length c2)).setCell ⟨w.heap.size, 3, none⟩ (.bool r2.has)).setCell ⟨w.heap.size, 4, none⟩ (.int .i64 r2.nx.s)).setCell ⟨w.heap.size, 5, none⟩ (.int .i64 r2.nx.g)).setCell ⟨w.heap.size, 6, none⟩ (.int .u64 r2.nx.t)) := ⟨_, rfl⟩
  obtain ⟨W8, hW8⟩ : ∃ W8, W8 = (C8.alloc (.cells #[.slice A2 r2.l.length c2, .bool r2.has, .int .i64 r2.nx.s, .int .i64 r2.nx.g, .int .u64 r2.nx.t] 29)) := ⟨_, rfl⟩
  have hK8 : Keep (fun i => i = w.heap.size) w2 C8 := by rw [hC8]; exact (by repeat (first | (with_reducible exact Keep.refl _ _) | (with_reducible refine Keep.drewN ?_ _) | (with_reducible refine Keep.drew ?_) | (with_reducible refine Keep.setCell ?_ _ _ (by first | (right; with_reducible rfl) | (left; simp; done) | (left; simp; omega) | (right; simp; done) | (right; assumption))) | (with_reducible refine Keep.alloc ?_ _)))
  have hA8 : Below C8.heap.size C8 W8 := by rw [hW8]; exact (by repeat (first | (with_reducible exact Below.refl _ _) | (with_reducible refine Below.drew ?_) | (with_reducible refine below_drewN ?_ _) | (with_reducible refine below_al ?_ _) | (with_reducible refine Below.alloc ?_ (by first | exact Nat.le_refl _ | omega | (simp; done) | (simp; omega)) _) | (with_reducible refine Below.setCell ?_ (by first | (simp only []; omega) | (simp; done) | (simp; omega)) _)))
  have hP8 : W8.heap[w.heap.size]? = some (.cells #[.pointer (some ⟨bm, 0, none⟩), .pointer (some ⟨bo, 0, none⟩), .slice A2 r2.l.length c2, .bool r2.has, .int .i64 r2.nx.s, .int .i64 r2.nx.g, .int .u64 r2.nx.t, .slice Ao ro.l.length co, .bool ro.has, .int .i64 ro.nx.s, .int .i64 ro.nx.g, .int .u64 ro.nx.t, .int .i64 0] 55 (0, 0)) := by rw [hW8, hC8]; exact blk_alloc (blk_set (blk_set (blk_set (blk_set (blk_set (hP2.out))))))
  have hR8 := blk_below (blk_keep hR2'.out hK8 (show ¬ w.heap.size + 1 + 1 = w.heap.size by omega)) hA8
  have HQ8 := Aside0.mk ((HQ2.out.store hP2.out (by decide) hbmP hboP hK8).below hA8)
  have HKW8 := Aside0.mk ((HKW2.out.trans' hK8 (fun i hi e => by omega)).trans' (Keep.of_below hA8) (G := fun _ => False) (fun _ _ h => h.elim))
  have HV8 := Aside0.mk (Kd.R_below (R_keepT HV2.out hP2.out (by decide) hK8) hA8)
  have HO8 := Aside0.mk (Kd.R_below (R_keepT HO2.out hP2.out (by decide) hK8) hA8)
  clear hK8 hA8 p0 p1 p2 p3 p4 p5 p6 p7 p8 p9 p10 p11 p12 f0 f1 f2 f3 f4 f5 f6 f7 f8 f9 f10 f11 f12 hPl hP2 hR2' HQ2 HKW2 HV2 HO2
  rw [← hC8, ← hW8]
  clear hC8 hW8
  obtain ⟨q0, q1, q2, q3, q4, q5, q6, q7, q8, q9, q10, q11, q12⟩ := cells13 hP8 rfl
  have hP8 := Aside0.mk hP8
  have hR8 := Aside0.mk hR8
  have hBd : Below W8.heap.size W8 W8.drew := (Below.refl _ _).drew
  refine start_ (n := 11) (S := fun w' => w'.cell? ⟨w.heap.size, 0, none⟩ = some (.pointer (some ⟨bm, 0, none⟩)) ∧ w'.cell? ⟨w.heap.size, 1, none⟩ = some (.pointer (some ⟨bo, 0, none⟩)) ∧ w'.cell? ⟨w.heap.size, 2, none⟩ = some (.slice A2 r2.l.length c2) ∧ w'.cell? ⟨w.heap.size, 3, none⟩ = some (.bool r2.has) ∧ w'.cell? ⟨w.heap.size, 4, none⟩ = some (.int .i64 r2.nx.s) ∧ w'.cell? ⟨w.heap.size, 5, none⟩ = some (.int .i64 r2.nx.g) ∧ w'.cell? ⟨w.heap.size, 6, none⟩ = some (.int .u64 r2.nx.t) ∧ w'.cell? ⟨w.heap.size, 7, none⟩ = some (.slice Ao ro.l.length co) ∧ w'.cell? ⟨w.heap.size, 8, none⟩ = some (.bool ro.has) ∧ w'.cell? ⟨w.heap.size, 9, none⟩ = some (.int .i64 ro.nx.s) ∧ w'.cell? ⟨w.heap.size, 10, none⟩ = some (.int .i64 ro.nx.g) ∧ w'.cell? ⟨w.heap.size, 11, none⟩ = some (.int .u64 ro.nx.t) ∧ w'.cell? ⟨w.heap.size, 12, none⟩ = some (.int .i64 0)) (ds := [9]) #[false,false,false,false,false,false,false,false,false,false,false] (by kernel_rfl) rfl rfl ⟨q0, q1, q2, q3, q4, q5, q6, q7, q8, q9, q10, q11, q12⟩ (fun hHeld => ?_)
  refine pure_ (i := 1) (N := some 100) (v := ?_) (a' := ?_) #[false,true,false,false,false,false,false,false,false,false,false] rfl rfl (by kernel_rfl) (fun _ _ _ h => h) (Or.inl ⟨by rfl, ?_⟩) ?_ ?_
  rotate_left
  · intro w'; go_simp; with_reducible rfl
  rotate_left
  · simp only [Act.put, setIfInBounds_toArray, set_cons_zero, set_cons_succ, i64_w, i32_w]; rfl
  refine pure_ (i := 2) (N := some 101) (v := ?_) (a' := ?_) #[false,true,true,false,false,false,false,false,false,false,false] rfl rfl (by kernel_rfl) (fun _ _ _ h => h) (Or.inl ⟨by rfl, ?_⟩) ?_ ?_
  rotate_left
  · intro w'; go_simp; with_reducible rfl
  rotate_left
  · simp only [Act.put, setIfInBounds_toArray, set_cons_zero, set_cons_succ, i64_w, i32_w]; rfl
  refine pure_ (i := 3) (N := some 102) (v := ?_) (a' := ?_) #[false,true,true,true,false,false,false,false,false,false,false] rfl rfl (by kernel_rfl) (fun _ _ _ h => h) (Or.inl ⟨by rfl, ?_⟩) ?_ ?_
  rotate_left
  · intro w'; go_simp; with_reducible rfl
  rotate_left
  · simp only [Act.put, setIfInBounds_toArray, set_cons_zero, set_cons_succ, i64_w, i32_w]; rfl
  refine pure_ (i := 4) (N := some 103) (v := ?_) (a' := ?_) #[false,true,true,true,true,false,false,false,false,false,false] rfl rfl (by kernel_rfl) (fun _ _ _ h => h) (Or.inl ⟨by rfl, ?_⟩) ?_ ?_
  rotate_left
  · intro w'; go_simp; with_reducible rfl
  rotate_left
  · simp only [Act.put, setIfInBounds_toArray, set_cons_zero, set_cons_succ, i64_w, i32_w]; rfl
  refine pure_ (i := 5) (N := some 104) (v := ?_) (a' := ?_) #[false,true,true,true,true,true,false,false,false,false,false] rfl rfl (by kernel_rfl) (fun _ _ _ h => h) (Or.inl ⟨by rfl, ?_⟩) ?_ ?_
  rotate_left
  · intro w'; go_simp; with_reducible rfl
  rotate_left
  · simp only [Act.put, setIfInBounds_toArray, set_cons_zero, set_cons_succ, i64_w, i32_w]; rfl
  refine pure_ (i := 6) (N := some 105) (v := ?_) (a' := ?_) #[false,true,true,true,true,true,true,false,false,false,false] rfl rfl (by kernel_rfl) (fun _ _ _ h => h) (Or.inl ⟨by rfl, ?_⟩) ?_ ?_
  rotate_left
  · intro w'; go_simp; with_reducible rfl
  rotate_left
  · simp only [Act.put, setIfInBounds_toArray, set_cons_zero, set_cons_succ, i64_w, i32_w]; rfl
  refine take_ (i := 0) (N := some 99) (v := ?_) (a' := ?_) #[true,true,true,true,true,true,true,false,false,false,false] rfl rfl (by kernel_rfl) (fun _ _ _ h => h) (Or.inl ⟨by rfl, ?_⟩) hHeld ?_ ?_
  rotate_left
  · rintro w' ⟨s0, s1, s2, s3, s4, s5, s6, s7, s8, s9, s10, s11, s12⟩; go_simp; with_reducible rfl
  rotate_left
  · simp only [Act.put, setIfInBounds_toArray, set_cons_zero, set_cons_succ, i64_w, i32_w]; rfl
  refine one_ (i := 7) (N := some 106) #[true,true,true,true,true,true,true,true,false,false,false] rfl rfl (by kernel_rfl) (by decide) (fun K hK => ?_)
  refine goes_ Try.func23 (by kernel_rfl) rfl #[.slice Av L.length cv, .slice A3 L.length c3] (by rfl) rfl rfl (by simp only [List.map_toArray, List.map_cons, List.map_nil]; rfl) ?_
  with_reducible refine (sameList_eq (Kd.R_reads' (Kd.R_below HV8.out hBd)).2.2 hcv (Kd.R_reads' (Kd.R_below HO8.out hBd)).2.2 hc3 hLl).mono ?_
  rintro e w9 ⟨rfl, hB9⟩
  refine ⟨_, rfl, ?_⟩
  have hB9t := below_then hBd hB9
  have hP9 := blk_below hP8.out hB9t
  obtain ⟨z0, z1, z2, z3, z4, z5, z6, z7, z8, z9, z10, z11, z12⟩ := cells13 hP9 rfl
  have hR9 := blk_below hR8.out hB9t
  have HQ9 := Aside0.mk (HQ8.out.below hB9t)
  have HKW9 := Aside0.mk (HKW8.out.trans' (Keep.of_below hB9t) (G := fun _ => False) (fun _ _ h => h.elim))
  refine hK.out _ _ ⟨z0, z1, z2, z3, z4, z5, z6, z7, z8, z9, z10, z11, z12⟩ (fun hHeld => ?_)
  clear hK K
  refine norm_ (a' := ?_) ?_ ?_
  rotate_left
  · show Act.put _ (some 106) _ = _; simp only [Act.put, setIfInBounds_toArray, set_cons_zero, set_cons_succ, i64_w, i32_w]; rfl
  refine pure_ (i := 8) (N := some 107) (v := ?_) (a' := ?_) #[true,true,true,true,true,true,true,true,true,false,false] rfl rfl (by kernel_rfl) (fun _ _ _ h => h) (Or.inl ⟨by rfl, ?_⟩) ?_ ?_
  rotate_left
  · intro w'; go_simp; with_reducible rfl
  rotate_left
  · simp only [Act.put, setIfInBounds_toArray, set_cons_zero, set_cons_succ, i64_w, i32_w]; rfl
  refine last_ (i := 9) (N := none) #[true,true,true,true,true,true,true,true,true,true,false] rfl rfl (by kernel_rfl) (by decide) (fun K hK => ?_)
  obtain ⟨ra0, ra1, ra2, ra3, ra4, ra5, ra6, ra7, ra8, ra9, ra10, ra11, ra12⟩ := cells13 hR9 rfl
  obtain ⟨ga0, ga1, ga2, ga3, ga4, ga5, ga6, ga7, ga8, ga9, ga10, ga11, ga12⟩ := froz13 hR9
  have hRl := lt_blk hR9
  refine skip_ (w1 := ?_) (by rfl) rfl ?_ ?_
  rotate_left
  · go_simp
    first | with_reducible rfl | rfl
  refine hK.out _ _ ?_
  clear hK K
  refine pure_ (i := 10) (N := some 5) (v := ?_) (a' := ?_) #[true,true,true,true,true,true,true,true,true,true,true] rfl rfl (by kernel_rfl) (fun _ _ _ h => h) (Or.inl ⟨by rfl, ?_⟩) ?_ ?_
  rotate_left
  · intro w'; go_simp; with_reducible rfl
  rotate_left
  · simp only [Act.put, setIfInBounds_toArray, set_cons_zero, set_cons_succ, i64_w, i32_w]; rfl
  refine done_ (by kernel_rfl) ?_
  go_wp2
  refine bodyPost_ret (v := .tuple #[.agg #[.pointer (some ⟨bm, 0, none⟩), .pointer (some ⟨bo, 0, none⟩), .slice A2 r2.l.length c2, .bool r2.has, .int .i64 r2.nx.s, .int .i64 r2.nx.g, .int .u64 r2.nx.t, .slice Ao ro.l.length co, .bool ro.has, .int .i64 ro.nx.s, .int .i64 ro.nx.g, .int .u64 ro.nx.t, .int .i64 0], .bool true]) (by simp [results, Try.results28, go_sem, ra0, ra1, ra2, ra3, ra4, ra5, ra6, ra7, ra8, ra9, ra10, ra11, ra12, hRl]) rfl ?_
  refine calls_done0 HQ9.out HKW9.out hR9 (by omega) (by omega) (.inl rfl) (by omega) ?_
  exact (by repeat (first | (with_reducible exact Keep.refl _ _) | (with_reducible refine Keep.drewN ?_ _) | (with_reducible refine Keep.drew ?_) | (with_reducible refine Keep.setCell ?_ _ _ (by first | (right; with_reducible rfl) | (left; simp; done) | (left; simp; omega) | (right; simp; done) | (right; assumption))) | (with_reducible refine Keep.alloc ?_ _)))
set_option maxRecDepth 100000 in
set_option maxHeartbeats 8000000 in
theorem calls_rdy1 (base bm bo : Nat) (Am : Option Addr) (cm : Nat) (Ao : Option Addr) (co : Nat) (rm ro : Rg) (x : Wt) (w : World) (h : PQ w base bm bo Am cm Ao co rm ro rm ro) :
    Calls Try.prog 28 #[.agg #[.pointer (some ⟨bo, 0, none⟩), .pointer (some ⟨bm, 0, none⟩), .slice Ao ro.l.length co, .bool ro.has, .int .i64 ro.nx.s, .int .i64 ro.nx.g, .int .u64 ro.nx.t, .slice Am rm.l.length cm, .bool rm.has, .int .i64 rm.nx.s, .int .i64 rm.nx.g, .int .u64 rm.nx.t, .int .i64 1], .agg #[.int .i64 1, .int .i64 x.s, .int .i64 x.g, .int .u64 x.t]] w (CallsP1 base bm bo w) := by
  have hbm := h.im.lt
  have hbo := h.io.lt
  have hlm := h.im.len
  have hlo := h.io.len
  obtain ⟨W, hWe⟩ : ∃ W, W = ((((w.alloc (.cells #[.pointer (some ⟨bo, 0, none⟩), .pointer (some ⟨bm, 0, none⟩), .slice Ao ro.l.length co, .bool ro.has, .int .i64 ro.nx.s, .int .i64 ro.nx.g, .int .u64 ro.nx.t, .slice Am rm.l.length cm, .bool rm.has, .int .i64 rm.nx.s, .int .i64 rm.nx.g, .int .u64 rm.nx.t, .int .i64 1] 55)).alloc (.cells #[.int .i64 1, .int .i64 x.s, .int .i64 x.g, .int .u64 x.t] 65)).alloc (.cells #[.pointer none, .pointer none, .slice none 0 0, .bool false, .int .i64 0, .int .i64 0, .int .u64 0, .slice none 0 0, .bool false, .int .i64 0, .int .i64 0, .int .u64 0, .int .i64 0] 55)).alloc (.cells #[.slice Am rm.l.length cm, .bool rm.has, .int .i64 rm.nx.s, .int .i64 rm.nx.g, .int .u64 rm.nx.t] 29)) := ⟨_, rfl⟩
  obtain ⟨hW, hP, hO, hR, hS⟩ := chain4 hWe
  have hWe := Aside0.mk hWe
  have hP := Aside0.mk hP
  have hO := Aside0.mk hO
  have hR := Aside0.mk hR
  have hS := Aside0.mk hS
  have HQ := Aside0.mk (h.below hW)
  have HZ := Aside0.mk h.zm
  obtain ⟨r2, hr2⟩ : ∃ r2, r2 = rdyR rm x := ⟨_, rfl⟩
  obtain ⟨L, hL⟩ : ∃ L, L = rdyOut rm x := ⟨_, rfl⟩
  obtain ⟨E, hE⟩ : ∃ E, E = rdyE rm x := ⟨_, rfl⟩
  have hLl : L.length ≤ 1000 := by rw [hL]; exact rdyOut_le
  have hz2 : Zr r2 := by rw [hr2]; exact zr_rdy h.zm
  have HR2 := Aside0.mk hr2
  have HL := Aside0.mk hL
  have HE := Aside0.mk hE
  have HZ2 := Aside0.mk hz2
  clear hr2 hL hE hz2 h
  go_enter Try.func28, Try.ntmps28
  go_wp2_with fail
  rw [← hWe.out]
  clear hWe
  refine (rdy_any bm rm x W HQ.out.im).mono ?_
  rw [← HR2.out, ← HL.out, ← HE.out]
  rintro e w1 ⟨v, rfl, hv, hI1, hK1⟩
  obtain ⟨Av, cv, rfl, hcv, -⟩ := Kd.R_reads hv
  have HQ1 := Aside0.mk (HQ.out.ringm hK1 hI1)
  have hP1 := Aside0.mk (blk_keep hP.out hK1 (show ¬ w.heap.size = bm by omega))
  have hO1 := blk_keep hO.out hK1 (show ¬ w.heap.size + 1 = bm by omega)
  have hR1 := Aside0.mk (blk_keep hR.out hK1 (show ¬ w.heap.size + 1 + 1 = bm by omega))
  have hS1 := blk_keep hS.out hK1 (show ¬ w.heap.size + 1 + 1 + 1 = bm by omega)
  have HV1 := Aside0.mk hv
  have hWs := hW.size
  have HKW : Aside0 (Keep (fun i => i = bm ∨ i = bo) w w1) := ⟨(Keep.of_below hW).trans' (hK1.mono (fun _ _ h => .inl h)) (fun _ _ h => h)⟩
  have HS1 := Aside0.mk hK1.size
  clear hv hI1 hK1 HQ hP hO hR hS hW
  obtain ⟨s0, s1, s2, s3, s4, -, -, -, -, -⟩ := blk5 hS1
  obtain ⟨o0, o1, o2, o3⟩ : w1.cell? ⟨w.heap.size + 1, 0, none⟩ = some (.int .i64 1) ∧ w1.cell? ⟨w.heap.size + 1, 1, none⟩ = some (.int .i64 x.s) ∧ w1.cell? ⟨w.heap.size + 1, 2, none⟩ = some (.int .i64 x.g) ∧ w1.cell? ⟨w.heap.size + 1, 3, none⟩ = some (.int .u64 x.t) := ⟨cell_blk hO1 0, cell_blk hO1 1, cell_blk hO1 2, cell_blk hO1 3⟩
  have hSl := lt_blk hS1
  have hOl := lt_blk hO1
  clear hS1 hO1
  go_wp2_with fail
  have hrp := rrdy_any Am cm rm x base w1 HQ1.out.qm HQ1.out.hb hlm
  rw [← HR2.out, ← HL.out, ← HE.out] at hrp
  refine hrp.mono ?_
  clear hrp
  rintro e w2 ⟨v2, vo, rfl, hv2, hvo, hB2⟩
  obtain ⟨A2, c2, rfl, -, -⟩ := Kd.R_reads hv2
  obtain ⟨A3, c3, rfl, hc3, -⟩ := Kd.R_reads hvo
  have HQ2 := Aside0.mk ((HQ1.out.below hB2).listm hv2 HZ2.out)
  have hP2 := blk_below hP1.out hB2
  have hR2' := Aside0.mk (blk_below hR1.out hB2)
  have HV2 := Aside0.mk (Kd.R_below HV1.out hB2)
  have HO2 := Aside0.mk hvo
  have HKW2 := Aside0.mk (HKW.out.trans' (Keep.of_below hB2) (G := fun _ => False) (fun _ _ h => h.elim))
  have HB2 := Aside0.mk hB2.size
  clear hv2 hvo hB2 HQ1 hP1 hR1 HV1 HKW s0 s1 s2 s3 s4 o0 o1 o2 o3 hSl hOl
  obtain ⟨p0, p1, p2, p3, p4, p5, p6, p7, p8, p9, p10, p11, p12⟩ := cells13 hP2 rfl
  obtain ⟨f0, f1, f2, f3, f4, f5, f6, f7, f8, f9, f10, f11, f12⟩ := froz13 hP2
  have hPl := lt_blk hP2
  have hP2 := Aside0.mk hP2
  go_wp2_with fail
  have hbmP : bm ≠ w.heap.size := by omega
  have hboP : bo ≠ w.heap.size := by omega
  obtain ⟨C8, hC8⟩ : ∃ C8, C8 = (((((w2.setCell ⟨w.heap.size, 7, none⟩ (.slice A2 r2.l.length c2)).setCell ⟨w.heap.size, 8, none⟩ (.bool r2.has)).setCell ⟨w.heap.size, 9, none⟩ (.int .i64 r2.nx.s)).setCell ⟨w.heap.size, 10, none⟩ (.int .i64 r2.nx.g)).setCell ⟨w.heap.size, 11, none⟩ (.int .u64 r2.nx.t)) := ⟨_, rfl⟩
  obtain ⟨W8, hW8⟩ : ∃ W8, W8 = (C8.alloc (.cells #[.slice A2 r2.l.length c2, .bool r2.has, .int .i64 r2.nx.s, .int .i64 r2.nx.g, .int .u64 r2.nx.t] 29)) := ⟨_, rfl⟩
  have hK8 : Keep (fun i => i = w.heap.size) w2 C8 := by rw [hC8]; exact (by repeat (first | (with_reducible exact Keep.refl _ _) | (with_reducible refine Keep.drewN ?_ _) | (with_reducible refine Keep.drew ?_) | (with_reducible refine Keep.setCell ?_ _ _ (by first | (right; with_reducible rfl) | (left; simp; done) | (left; simp; omega) | (right; simp; done) | (right; assumption))) | (with_reducible refine Keep.alloc ?_ _)))
  have hA8 : Below C8.heap.size C8 W8 := by rw [hW8]; exact (by repeat (first | (with_reducible exact Below.refl _ _) | (with_reducible refine Below.drew ?_) | (with_reducible refine below_drewN ?_ _) | (with_reducible refine below_al ?_ _) | (with_reducible refine Below.alloc ?_ (by first | exact Nat.le_refl _ | omega | (simp; done) | (simp; omega)) _) | (with_reducible refine Below.setCell ?_ (by first | (simp only []; omega) | (simp; done) | (simp; omega)) _)))
  have hP8 : W8.heap[w.heap.size]? = some (.cells #[.pointer (some ⟨bo, 0, none⟩), .pointer (some ⟨bm, 0, none⟩), .slice Ao ro.l.length co, .bool ro.has, .int .i64 ro.nx.s, .int .i64 ro.nx.g, .int .u64 ro.nx.t, .slice A2 r2.l.length c2, .bool r2.has, .int .i64 r2.nx.s, .int .i64 r2.nx.g, .int .u64 r2.nx.t, .int .i64 1] 55 (0, 0)) := by rw [hW8, hC8]; exact blk_alloc (blk_set (blk_set (blk_set (blk_set (blk_set (hP2.out))))))
  have hR8 := blk_below (blk_keep hR2'.out hK8 (show ¬ w.heap.size + 1 + 1 = w.heap.size by omega)) hA8
  have HQ8 := Aside0.mk ((HQ2.out.store hP2.out (by decide) hbmP hboP hK8).below hA8)
  have HKW8 := Aside0.mk ((HKW2.out.trans' hK8 (fun i hi e => by omega)).trans' (Keep.of_below hA8) (G := fun _ => False) (fun _ _ h => h.elim))
  have HV8 := Aside0.mk (Kd.R_below (R_keepT HV2.out hP2.out (by decide) hK8) hA8)
  have HO8 := Aside0.mk (Kd.R_below (R_keepT HO2.out hP2.out (by decide) hK8) hA8)
  clear hK8 hA8 p0 p1 p2 p3 p4 p5 p6 p7 p8 p9 p10 p11 p12 f0 f1 f2 f3 f4 f5 f6 f7 f8 f9 f10 f11 f12 hPl hP2 hR2' HQ2 HKW2 HV2 HO2
  rw [← hC8, ← hW8]
  clear hC8 hW8
  obtain ⟨q0, q1, q2, q3, q4, q5, q6, q7, q8, q9, q10, q11, q12⟩ := cells13 hP8 rfl
  have hP8 := Aside0.mk hP8
  have hR8 := Aside0.mk hR8
  have hBd : Below W8.heap.size W8 W8.drew := (Below.refl _ _).drew
  refine start_ (n := 11) (S := fun w' => w'.cell? ⟨w.heap.size, 0, none⟩ = some (.pointer (some ⟨bo, 0, none⟩)) ∧ w'.cell? ⟨w.heap.size, 1, none⟩ = some (.pointer (some ⟨bm, 0, none⟩)) ∧ w'.cell? ⟨w.heap.size, 2, none⟩ = some (.slice Ao ro.l.length co) ∧ w'.cell? ⟨w.heap.size, 3, none⟩ = some (.bool ro.has) ∧ w'.cell? ⟨w.heap.size, 4, none⟩ = some (.int .i64 ro.nx.s) ∧ w'.cell? ⟨w.heap.size, 5, none⟩ = some (.int .i64 ro.nx.g) ∧ w'.cell? ⟨w.heap.size, 6, none⟩ = some (.int .u64 ro.nx.t) ∧ w'.cell? ⟨w.heap.size, 7, none⟩ = some (.slice A2 r2.l.length c2) ∧ w'.cell? ⟨w.heap.size, 8, none⟩ = some (.bool r2.has) ∧ w'.cell? ⟨w.heap.size, 9, none⟩ = some (.int .i64 r2.nx.s) ∧ w'.cell? ⟨w.heap.size, 10, none⟩ = some (.int .i64 r2.nx.g) ∧ w'.cell? ⟨w.heap.size, 11, none⟩ = some (.int .u64 r2.nx.t) ∧ w'.cell? ⟨w.heap.size, 12, none⟩ = some (.int .i64 1)) (ds := [9]) #[false,false,false,false,false,false,false,false,false,false,false] (by kernel_rfl) rfl rfl ⟨q0, q1, q2, q3, q4, q5, q6, q7, q8, q9, q10, q11, q12⟩ (fun hHeld => ?_)
  refine pure_ (i := 1) (N := some 100) (v := ?_) (a' := ?_) #[false,true,false,false,false,false,false,false,false,false,false] rfl rfl (by kernel_rfl) (fun _ _ _ h => h) (Or.inl ⟨by rfl, ?_⟩) ?_ ?_
  rotate_left
  · intro w'; go_simp; with_reducible rfl
  rotate_left
  · simp only [Act.put, setIfInBounds_toArray, set_cons_zero, set_cons_succ, i64_w, i32_w]; rfl
  refine pure_ (i := 2) (N := some 101) (v := ?_) (a' := ?_) #[false,true,true,false,false,false,false,false,false,false,false] rfl rfl (by kernel_rfl) (fun _ _ _ h => h) (Or.inl ⟨by rfl, ?_⟩) ?_ ?_
  rotate_left
  · intro w'; go_simp; with_reducible rfl
  rotate_left
  · simp only [Act.put, setIfInBounds_toArray, set_cons_zero, set_cons_succ, i64_w, i32_w]; rfl
  refine pure_ (i := 3) (N := some 102) (v := ?_) (a' := ?_) #[false,true,true,true,false,false,false,false,false,false,false] rfl rfl (by kernel_rfl) (fun _ _ _ h => h) (Or.inl ⟨by rfl, ?_⟩) ?_ ?_
  rotate_left
  · intro w'; go_simp; with_reducible rfl
  rotate_left
  · simp only [Act.put, setIfInBounds_toArray, set_cons_zero, set_cons_succ, i64_w, i32_w]; rfl
  refine pure_ (i := 4) (N := some 103) (v := ?_) (a' := ?_) #[false,true,true,true,true,false,false,false,false,false,false] rfl rfl (by kernel_rfl) (fun _ _ _ h => h) (Or.inl ⟨by rfl, ?_⟩) ?_ ?_
  rotate_left
  · intro w'; go_simp; with_reducible rfl
  rotate_left
  · simp only [Act.put, setIfInBounds_toArray, set_cons_zero, set_cons_succ, i64_w, i32_w]; rfl
  refine pure_ (i := 5) (N := some 104) (v := ?_) (a' := ?_) #[false,true,true,true,true,true,false,false,false,false,false] rfl rfl (by kernel_rfl) (fun _ _ _ h => h) (Or.inl ⟨by rfl, ?_⟩) ?_ ?_
  rotate_left
  · intro w'; go_simp; with_reducible rfl
  rotate_left
  · simp only [Act.put, setIfInBounds_toArray, set_cons_zero, set_cons_succ, i64_w, i32_w]; rfl
  refine pure_ (i := 6) (N := some 105) (v := ?_) (a' := ?_) #[false,true,true,true,true,true,true,false,false,false,false] rfl rfl (by kernel_rfl) (fun _ _ _ h => h) (Or.inl ⟨by rfl, ?_⟩) ?_ ?_
  rotate_left
  · intro w'; go_simp; with_reducible rfl
  rotate_left
  · simp only [Act.put, setIfInBounds_toArray, set_cons_zero, set_cons_succ, i64_w, i32_w]; rfl
  refine take_ (i := 0) (N := some 99) (v := ?_) (a' := ?_) #[true,true,true,true,true,true,true,false,false,false,false] rfl rfl (by kernel_rfl) (fun _ _ _ h => h) (Or.inl ⟨by rfl, ?_⟩) hHeld ?_ ?_
  rotate_left
  · rintro w' ⟨s0, s1, s2, s3, s4, s5, s6, s7, s8, s9, s10, s11, s12⟩; go_simp; with_reducible rfl
  rotate_left
  · simp only [Act.put, setIfInBounds_toArray, set_cons_zero, set_cons_succ, i64_w, i32_w]; rfl
  refine one_ (i := 7) (N := some 106) #[true,true,true,true,true,true,true,true,false,false,false] rfl rfl (by kernel_rfl) (by decide) (fun K hK => ?_)
  refine goes_ Try.func23 (by kernel_rfl) rfl #[.slice Av L.length cv, .slice A3 L.length c3] (by rfl) rfl rfl (by simp only [List.map_toArray, List.map_cons, List.map_nil]; rfl) ?_
  with_reducible refine (sameList_eq (Kd.R_reads' (Kd.R_below HV8.out hBd)).2.2 hcv (Kd.R_reads' (Kd.R_below HO8.out hBd)).2.2 hc3 hLl).mono ?_
  rintro e w9 ⟨rfl, hB9⟩
  refine ⟨_, rfl, ?_⟩
  have hB9t := below_then hBd hB9
  have hP9 := blk_below hP8.out hB9t
  obtain ⟨z0, z1, z2, z3, z4, z5, z6, z7, z8, z9, z10, z11, z12⟩ := cells13 hP9 rfl
  have hR9 := blk_below hR8.out hB9t
  have HQ9 := Aside0.mk (HQ8.out.below hB9t)
  have HKW9 := Aside0.mk (HKW8.out.trans' (Keep.of_below hB9t) (G := fun _ => False) (fun _ _ h => h.elim))
  refine hK.out _ _ ⟨z0, z1, z2, z3, z4, z5, z6, z7, z8, z9, z10, z11, z12⟩ (fun hHeld => ?_)
  clear hK K
  refine norm_ (a' := ?_) ?_ ?_
  rotate_left
  · show Act.put _ (some 106) _ = _; simp only [Act.put, setIfInBounds_toArray, set_cons_zero, set_cons_succ, i64_w, i32_w]; rfl
  refine pure_ (i := 8) (N := some 107) (v := ?_) (a' := ?_) #[true,true,true,true,true,true,true,true,true,false,false] rfl rfl (by kernel_rfl) (fun _ _ _ h => h) (Or.inl ⟨by rfl, ?_⟩) ?_ ?_
  rotate_left
  · intro w'; go_simp; with_reducible rfl
  rotate_left
  · simp only [Act.put, setIfInBounds_toArray, set_cons_zero, set_cons_succ, i64_w, i32_w]; rfl
  refine last_ (i := 9) (N := none) #[true,true,true,true,true,true,true,true,true,true,false] rfl rfl (by kernel_rfl) (by decide) (fun K hK => ?_)
  obtain ⟨ra0, ra1, ra2, ra3, ra4, ra5, ra6, ra7, ra8, ra9, ra10, ra11, ra12⟩ := cells13 hR9 rfl
  obtain ⟨ga0, ga1, ga2, ga3, ga4, ga5, ga6, ga7, ga8, ga9, ga10, ga11, ga12⟩ := froz13 hR9
  have hRl := lt_blk hR9
  refine skip_ (w1 := ?_) (by rfl) rfl ?_ ?_
  rotate_left
  · go_simp
    first | with_reducible rfl | rfl
  refine hK.out _ _ ?_
  clear hK K
  refine pure_ (i := 10) (N := some 5) (v := ?_) (a' := ?_) #[true,true,true,true,true,true,true,true,true,true,true] rfl rfl (by kernel_rfl) (fun _ _ _ h => h) (Or.inl ⟨by rfl, ?_⟩) ?_ ?_
  rotate_left
  · intro w'; go_simp; with_reducible rfl
  rotate_left
  · simp only [Act.put, setIfInBounds_toArray, set_cons_zero, set_cons_succ, i64_w, i32_w]; rfl
  refine done_ (by kernel_rfl) ?_
  go_wp2
  refine bodyPost_ret (v := .tuple #[.agg #[.pointer (some ⟨bo, 0, none⟩), .pointer (some ⟨bm, 0, none⟩), .slice Ao ro.l.length co, .bool ro.has, .int .i64 ro.nx.s, .int .i64 ro.nx.g, .int .u64 ro.nx.t, .slice A2 r2.l.length c2, .bool r2.has, .int .i64 r2.nx.s, .int .i64 r2.nx.g, .int .u64 r2.nx.t, .int .i64 1], .bool true]) (by simp [results, Try.results28, go_sem, ra0, ra1, ra2, ra3, ra4, ra5, ra6, ra7, ra8, ra9, ra10, ra11, ra12, hRl]) rfl ?_
  refine calls_done1 HQ9.out HKW9.out hR9 (by omega) (by omega) (.inr rfl) (by omega) ?_
  exact (by repeat (first | (with_reducible exact Keep.refl _ _) | (with_reducible refine Keep.drewN ?_ _) | (with_reducible refine Keep.drew ?_) | (with_reducible refine Keep.setCell ?_ _ _ (by first | (right; with_reducible rfl) | (left; simp; done) | (left; simp; omega) | (right; simp; done) | (right; assumption))) | (with_reducible refine Keep.alloc ?_ _)))
set_option maxRecDepth 100000 in
set_option maxHeartbeats 8000000 in
theorem calls_kick0 (base bm bo : Nat) (Am : Option Addr) (cm : Nat) (Ao : Option Addr) (co : Nat) (rm ro : Rg) (x : Wt) (w : World) (h : PQ w base bm bo Am cm Ao co rm ro rm ro) :
    Calls Try.prog 28 #[.agg #[.pointer (some ⟨bm, 0, none⟩), .pointer (some ⟨bo, 0, none⟩), .slice Am rm.l.length cm, .bool rm.has, .int .i64 rm.nx.s, .int .i64 rm.nx.g, .int .u64 rm.nx.t, .slice Ao ro.l.length co, .bool ro.has, .int .i64 ro.nx.s, .int .i64 ro.nx.g, .int .u64 ro.nx.t, .int .i64 0], .agg #[.int .i64 2, .int .i64 x.s, .int .i64 x.g, .int .u64 x.t]] w (CallsP0 base bm bo w) := by
  have hbm := h.im.lt
  have hbo := h.io.lt
  have hlm := h.im.len
  have hlo := h.io.len
  obtain ⟨W, hWe⟩ : ∃ W, W = ((((w.alloc (.cells #[.pointer (some ⟨bm, 0, none⟩), .pointer (some ⟨bo, 0, none⟩), .slice Am rm.l.length cm, .bool rm.has, .int .i64 rm.nx.s, .int .i64 rm.nx.g, .int .u64 rm.nx.t, .slice Ao ro.l.length co, .bool ro.has, .int .i64 ro.nx.s, .int .i64 ro.nx.g, .int .u64 ro.nx.t, .int .i64 0] 55)).alloc (.cells #[.int .i64 2, .int .i64 x.s, .int .i64 x.g, .int .u64 x.t] 65)).alloc (.cells #[.pointer none, .pointer none, .slice none 0 0, .bool false, .int .i64 0, .int .i64 0, .int .u64 0, .slice none 0 0, .bool false, .int .i64 0, .int .i64 0, .int .u64 0, .int .i64 0] 55)).alloc (.cells #[.slice Am rm.l.length cm, .bool rm.has, .int .i64 rm.nx.s, .int .i64 rm.nx.g, .int .u64 rm.nx.t] 29)) := ⟨_, rfl⟩
  obtain ⟨hW, hP, hO, hR, hS⟩ := chain4 hWe
  have hWe := Aside0.mk hWe
  have hP := Aside0.mk hP
  have hO := Aside0.mk hO
  have hR := Aside0.mk hR
  have hS := Aside0.mk hS
  have HQ := Aside0.mk (h.below hW)
  have HZ := Aside0.mk h.zm
  obtain ⟨r2, hr2⟩ : ∃ r2, r2 = kickR rm := ⟨_, rfl⟩
  obtain ⟨L, hL⟩ : ∃ L, L = kickOut rm := ⟨_, rfl⟩
  have hLl : L.length ≤ 1000 := by rw [hL]; exact kickOut_le
  have hz2 : Zr r2 := by rw [hr2]; exact zr_kick h.zm
  have HR2 := Aside0.mk hr2
  have HL := Aside0.mk hL
  have HZ2 := Aside0.mk hz2
  clear hr2 hL hz2 h
  go_enter Try.func28, Try.ntmps28
  go_wp2_with fail
  rw [← hWe.out]
  clear hWe
  have hrk := rkick_any Am cm rm base W HQ.out.qm HQ.out.hb hlm
  rw [← HR2.out, ← HL.out] at hrk
  refine hrk.mono ?_
  clear hrk
  rintro e w2 ⟨v2, vo, rfl, hv2, hvo, hB2⟩
  obtain ⟨A2, c2, rfl, -, -⟩ := Kd.R_reads hv2
  obtain ⟨A3, c3, rfl, hc3, -⟩ := Kd.R_reads hvo
  have HQ2 := Aside0.mk ((HQ.out.below hB2).listm hv2 HZ2.out)
  have hP2 := blk_below hP.out hB2
  have hR2' := Aside0.mk (blk_below hR.out hB2)
  have HO2 := Aside0.mk hvo
  have HKW2 : Aside0 (Keep (fun i => i = bm ∨ i = bo) w w2) := ⟨(Keep.of_below hW).trans' (Keep.of_below hB2) (G := fun _ => False) (fun _ _ h => h.elim)⟩
  clear hv2 hvo HQ hP hO hR hS hW hB2
  obtain ⟨p0, p1, p2, p3, p4, p5, p6, p7, p8, p9, p10, p11, p12⟩ := cells13 hP2 rfl
  obtain ⟨f0, f1, f2, f3, f4, f5, f6, f7, f8, f9, f10, f11, f12⟩ := froz13 hP2
  have hPl := lt_blk hP2
  have hP2 := Aside0.mk hP2
  go_wp2_with fail
  have hbmP : bm ≠ w.heap.size := by omega
  have hboP : bo ≠ w.heap.size := by omega
  obtain ⟨C8, hC8⟩ : ∃ C8, C8 = (((((w2.setCell ⟨w.heap.size, 2, none⟩ (.slice A2 r2.l.length c2)).setCell ⟨w.heap.size, 3, none⟩ (.bool r2.has)).setCell ⟨w.heap.size, 4, none⟩ (.int .i64 r2.nx.s)).setCell ⟨w.heap.size, 5, none⟩ (.int .i64 r2.nx.g)).setCell ⟨w.heap.size, 6, none⟩ (.int .u64 r2.nx.t)) := ⟨_, rfl⟩
  obtain ⟨W8, hW8⟩ : ∃ W8, W8 = (C8.alloc (.cells #[.slice A2 r2.l.length c2, .bool r2.has, .int .i64 r2.nx.s, .int .i64 r2.nx.g, .int .u64 r2.nx.t] 29)) := ⟨_, rfl⟩
  have hK8 : Keep (fun i => i = w.heap.size) w2 C8 := by rw [hC8]; exact (by repeat (first | (with_reducible exact Keep.refl _ _) | (with_reducible refine Keep.drewN ?_ _) | (with_reducible refine Keep.drew ?_) | (with_reducible refine Keep.setCell ?_ _ _ (by first | (right; with_reducible rfl) | (left; simp; done) | (left; simp; omega) | (right; simp; done) | (right; assumption))) | (with_reducible refine Keep.alloc ?_ _)))
  have hA8 : Below C8.heap.size C8 W8 := by rw [hW8]; exact (by repeat (first | (with_reducible exact Below.refl _ _) | (with_reducible refine Below.drew ?_) | (with_reducible refine below_drewN ?_ _) | (with_reducible refine below_al ?_ _) | (with_reducible refine Below.alloc ?_ (by first | exact Nat.le_refl _ | omega | (simp; done) | (simp; omega)) _) | (with_reducible refine Below.setCell ?_ (by first | (simp only []; omega) | (simp; done) | (simp; omega)) _)))
  have hP8 : W8.heap[w.heap.size]? = some (.cells #[.pointer (some ⟨bm, 0, none⟩), .pointer (some ⟨bo, 0, none⟩), .slice A2 r2.l.length c2, .bool r2.has, .int .i64 r2.nx.s, .int .i64 r2.nx.g, .int .u64 r2.nx.t, .slice Ao ro.l.length co, .bool ro.has, .int .i64 ro.nx.s, .int .i64 ro.nx.g, .int .u64 ro.nx.t, .int .i64 0] 55 (0, 0)) := by rw [hW8, hC8]; exact blk_alloc (blk_set (blk_set (blk_set (blk_set (blk_set (hP2.out))))))
  have hR8 := blk_below (blk_keep hR2'.out hK8 (show ¬ w.heap.size + 1 + 1 = w.heap.size by omega)) hA8
  have HQ8 := Aside0.mk ((HQ2.out.store hP2.out (by decide) hbmP hboP hK8).below hA8)
  have HKW8 := Aside0.mk ((HKW2.out.trans' hK8 (fun i hi e => by omega)).trans' (Keep.of_below hA8) (G := fun _ => False) (fun _ _ h => h.elim))
  have HO8 := Aside0.mk (Kd.R_below (R_keepT HO2.out hP2.out (by decide) hK8) hA8)
  clear hK8 hA8 p0 p1 p2 p3 p4 p5 p6 p7 p8 p9 p10 p11 p12 f0 f1 f2 f3 f4 f5 f6 f7 f8 f9 f10 f11 f12 hPl hP2 hR2' HQ2 HKW2 HO2
  rw [← hC8, ← hW8]
  clear hC8 hW8
  obtain ⟨q0, q1, q2, q3, q4, q5, q6, q7, q8, q9, q10, q11, q12⟩ := cells13 hP8 rfl
  have hP8 := Aside0.mk hP8
  have hR8 := Aside0.mk hR8
  have hBd : Below W8.heap.size W8 W8.drew := (Below.refl _ _).drew
  have hkk := kick_any bm rm W8.drew (HQ8.out.im.below hBd)
  rw [← HR2.out, ← HL.out] at hkk
  have HKK := Aside0.mk hkk
  clear hkk
  refine start_ (n := 7) (S := fun w' => w'.cell? ⟨w.heap.size, 0, none⟩ = some (.pointer (some ⟨bm, 0, none⟩)) ∧ w'.cell? ⟨w.heap.size, 1, none⟩ = some (.pointer (some ⟨bo, 0, none⟩)) ∧ w'.cell? ⟨w.heap.size, 2, none⟩ = some (.slice A2 r2.l.length c2) ∧ w'.cell? ⟨w.heap.size, 3, none⟩ = some (.bool r2.has) ∧ w'.cell? ⟨w.heap.size, 4, none⟩ = some (.int .i64 r2.nx.s) ∧ w'.cell? ⟨w.heap.size, 5, none⟩ = some (.int .i64 r2.nx.g) ∧ w'.cell? ⟨w.heap.size, 6, none⟩ = some (.int .u64 r2.nx.t) ∧ w'.cell? ⟨w.heap.size, 7, none⟩ = some (.slice Ao ro.l.length co) ∧ w'.cell? ⟨w.heap.size, 8, none⟩ = some (.bool ro.has) ∧ w'.cell? ⟨w.heap.size, 9, none⟩ = some (.int .i64 ro.nx.s) ∧ w'.cell? ⟨w.heap.size, 10, none⟩ = some (.int .i64 ro.nx.g) ∧ w'.cell? ⟨w.heap.size, 11, none⟩ = some (.int .u64 ro.nx.t) ∧ w'.cell? ⟨w.heap.size, 12, none⟩ = some (.int .i64 0)) (ds := [5]) #[false,false,false,false,false,false,false] (by kernel_rfl) rfl rfl ⟨q0, q1, q2, q3, q4, q5, q6, q7, q8, q9, q10, q11, q12⟩ (fun hHeld => ?_)
  refine pure_ (i := 1) (N := some 121) (v := ?_) (a' := ?_) #[false,true,false,false,false,false,false] rfl rfl (by kernel_rfl) (fun _ _ _ h => h) (Or.inl ⟨by rfl, ?_⟩) ?_ ?_
  rotate_left
  · intro w'; go_simp; with_reducible rfl
  rotate_left
  · simp only [Act.put, setIfInBounds_toArray, set_cons_zero, set_cons_succ, i64_w, i32_w]; rfl
  refine pure_ (i := 3) (N := some 123) (v := ?_) (a' := ?_) #[false,true,false,true,false,false,false] rfl rfl (by kernel_rfl) (fun _ _ _ h => h) (Or.inl ⟨by rfl, ?_⟩) ?_ ?_
  rotate_left
  · intro w'; go_simp; with_reducible rfl
  rotate_left
  · simp only [Act.put, setIfInBounds_toArray, set_cons_zero, set_cons_succ, i64_w, i32_w]; rfl
  refine take_ (i := 0) (N := some 120) (v := ?_) (a' := ?_) #[true,true,false,true,false,false,false] rfl rfl (by kernel_rfl) (fun _ _ _ h => h) (Or.inl ⟨by rfl, ?_⟩) hHeld ?_ ?_
  rotate_left
  · rintro w' ⟨s0, s1, s2, s3, s4, s5, s6, s7, s8, s9, s10, s11, s12⟩; go_simp; with_reducible rfl
  rotate_left
  · simp only [Act.put, setIfInBounds_toArray, set_cons_zero, set_cons_succ, i64_w, i32_w]; rfl
  refine one_ (i := 2) (N := some 122) #[true,true,true,true,false,false,false] rfl rfl (by kernel_rfl) (by decide) (fun K hK => ?_)
  refine goes_ Try.func33 (by kernel_rfl) rfl #[.pointer (some ⟨bm, 0, none⟩)] (by rfl) rfl rfl (by simp only [List.map_toArray, List.map_cons, List.map_nil]; rfl) ?_
  with_reducible refine (HKK.out).mono ?_
  rintro e wa ⟨v, rfl, hv, hI9, hK9⟩
  refine ⟨_, rfl, ?_⟩
  obtain ⟨Av, cv, rfl, hcv, -⟩ := Kd.R_reads hv
  have HQa := Aside0.mk ((HQ8.out.below hBd).ringm hK9 hI9)
  have hPa := blk_keep (blk_below hP8.out hBd) hK9 (show ¬ w.heap.size = bm by omega)
  obtain ⟨z0, z1, z2, z3, z4, z5, z6, z7, z8, z9, z10, z11, z12⟩ := cells13 hPa rfl
  have hRa := Aside0.mk (blk_keep (blk_below hR8.out hBd) hK9 (show ¬ w.heap.size + 1 + 1 = bm by omega))
  have HKWa := Aside0.mk ((HKW8.out.trans' (Keep.of_below hBd) (G := fun _ => False) (fun _ _ h => h.elim)).trans' hK9 (fun _ _ h => .inl h))
  have HOa := Aside0.mk (R_keepR (Kd.R_below HO8.out hBd) (HQ8.out.im.below hBd) hK9)
  have HVa := Aside0.mk hv
  clear hv hI9 hK9
  have hPa := Aside0.mk hPa
  refine hK.out _ _ ⟨z0, z1, z2, z3, z4, z5, z6, z7, z8, z9, z10, z11, z12⟩ (fun hHeld => ?_)
  clear hK K
  refine norm_ (a' := ?_) ?_ ?_
  rotate_left
  · show Act.put _ (some 122) _ = _; simp only [Act.put, setIfInBounds_toArray, set_cons_zero, set_cons_succ, i64_w, i32_w]; rfl
  refine one_ (i := 4) (N := some 124) #[true,true,true,true,true,false,false] rfl rfl (by kernel_rfl) (by decide) (fun K hK => ?_)
  refine goes_ Try.func23 (by kernel_rfl) rfl #[.slice Av L.length cv, .slice A3 L.length c3] (by rfl) rfl rfl (by simp only [List.map_toArray, List.map_cons, List.map_nil]; rfl) ?_
  with_reducible refine (sameList_eq (Kd.R_reads' HVa.out).2.2 hcv (Kd.R_reads' HOa.out).2.2 hc3 hLl).mono ?_
  rintro e w9 ⟨rfl, hB9⟩
  refine ⟨_, rfl, ?_⟩
  have hP9 := blk_below hPa.out hB9
  obtain ⟨y0, y1, y2, y3, y4, y5, y6, y7, y8, y9, y10, y11, y12⟩ := cells13 hP9 rfl
  have hR9 := blk_below hRa.out hB9
  have HQ9 := Aside0.mk (HQa.out.below hB9)
  have HKW9 := Aside0.mk (HKWa.out.trans' (Keep.of_below hB9) (G := fun _ => False) (fun _ _ h => h.elim))
  refine hK.out _ _ ⟨y0, y1, y2, y3, y4, y5, y6, y7, y8, y9, y10, y11, y12⟩ (fun hHeld => ?_)
  clear hK K
  refine norm_ (a' := ?_) ?_ ?_
  rotate_left
  · show Act.put _ (some 124) _ = _; simp only [Act.put, setIfInBounds_toArray, set_cons_zero, set_cons_succ, i64_w, i32_w]; rfl
  refine last_ (i := 5) (N := none) #[true,true,true,true,true,true,false] rfl rfl (by kernel_rfl) (by decide) (fun K hK => ?_)
  obtain ⟨ra0, ra1, ra2, ra3, ra4, ra5, ra6, ra7, ra8, ra9, ra10, ra11, ra12⟩ := cells13 hR9 rfl
  obtain ⟨ga0, ga1, ga2, ga3, ga4, ga5, ga6, ga7, ga8, ga9, ga10, ga11, ga12⟩ := froz13 hR9
  have hRl := lt_blk hR9
  refine skip_ (w1 := ?_) (by rfl) rfl ?_ ?_
  rotate_left
  · go_simp
    first | with_reducible rfl | rfl
  refine hK.out _ _ ?_
  clear hK K
  refine pure_ (i := 6) (N := some 5) (v := ?_) (a' := ?_) #[true,true,true,true,true,true,true] rfl rfl (by kernel_rfl) (fun _ _ _ h => h) (Or.inl ⟨by rfl, ?_⟩) ?_ ?_
  rotate_left
  · intro w'; go_simp; with_reducible rfl
  rotate_left
  · simp only [Act.put, setIfInBounds_toArray, set_cons_zero, set_cons_succ, i64_w, i32_w]; rfl
  refine done_ (by kernel_rfl) ?_
  go_wp2
  refine bodyPost_ret (v := .tuple #[.agg #[.pointer (some ⟨bm, 0, none⟩), .pointer (some ⟨bo, 0, none⟩), .slice A2 r2.l.length c2, .bool r2.has, .int .i64 r2.nx.s, .int .i64 r2.nx.g, .int .u64 r2.nx.t, .slice Ao ro.l.length co, .bool ro.has, .int .i64 ro.nx.s, .int .i64 ro.nx.g, .int .u64 ro.nx.t, .int .i64 0], .bool true]) (by simp [results, Try.results28, go_sem, ra0, ra1, ra2, ra3, ra4, ra5, ra6, ra7, ra8, ra9, ra10, ra11, ra12, hRl]) rfl ?_
  refine calls_done0 HQ9.out HKW9.out hR9 (by omega) (by omega) (.inl rfl) (by omega) ?_
  exact (by repeat (first | (with_reducible exact Keep.refl _ _) | (with_reducible refine Keep.drewN ?_ _) | (with_reducible refine Keep.drew ?_) | (with_reducible refine Keep.setCell ?_ _ _ (by first | (right; with_reducible rfl) | (left; simp; done) | (left; simp; omega) | (right; simp; done) | (right; assumption))) | (with_reducible refine Keep.alloc ?_ _)))
set_option maxRecDepth 100000 in
set_option maxHeartbeats 8000000 in
theorem calls_kick1 (base bm bo : Nat) (Am : Option Addr) (cm : Nat) (Ao : Option Addr) (co : Nat) (rm ro : Rg) (x : Wt) (w : World) (h : PQ w base bm bo Am cm Ao co rm ro rm ro) :
    Calls Try.prog 28 #[.agg #[.pointer (some ⟨bo, 0, none⟩), .pointer (some ⟨bm, 0, none⟩), .slice Ao ro.l.length co, .bool ro.has, .int .i64 ro.nx.s, .int .i64 ro.nx.g, .int .u64 ro.nx.t, .slice Am rm.l.length cm, .bool rm.has, .int .i64 rm.nx.s, .int .i64 rm.nx.g, .int .u64 rm.nx.t, .int .i64 1], .agg #[.int .i64 2, .int .i64 x.s, .int .i64 x.g, .int .u64 x.t]] w (CallsP1 base bm bo w) := by
  have hbm := h.im.lt
  have hbo := h.io.lt
  have hlm := h.im.len
  have hlo := h.io.len
  obtain ⟨W, hWe⟩ : ∃ W, W = ((((w.alloc (.cells #[.pointer (some ⟨bo, 0, none⟩), .pointer (some ⟨bm, 0, none⟩), .slice Ao ro.l.length co, .bool ro.has, .int .i64 ro.nx.s, .int .i64 ro.nx.g, .int .u64 ro.nx.t, .slice Am rm.l.length cm, .bool rm.has, .int .i64 rm.nx.s, .int .i64 rm.nx.g, .int .u64 rm.nx.t, .int .i64 1] 55)).alloc (.cells #[.int .i64 2, .int .i64 x.s, .int .i64 x.g, .int .u64 x.t] 65)).alloc (.cells #[.pointer none, .pointer none, .slice none 0 0, .bool false, .int .i64 0, .int .i64 0, .int .u64 0, .slice none 0 0, .bool false, .int .i64 0, .int .i64 0, .int .u64 0, .int .i64 0] 55)).alloc (.cells #[.slice Am rm.l.length cm, .bool rm.has, .int .i64 rm.nx.s, .int .i64 rm.nx.g, .int .u64 rm.nx.t] 29)) := ⟨_, rfl⟩
  obtain ⟨hW, hP, hO, hR, hS⟩ := chain4 hWe
  have hWe := Aside0.mk hWe
  have hP := Aside0.mk hP
  have hO := Aside0.mk hO
  have hR := Aside0.mk hR
  have hS := Aside0.mk hS
  have HQ := Aside0.mk (h.below hW)
  have HZ := Aside0.mk h.zm
  obtain ⟨r2, hr2⟩ : ∃ r2, r2 = kickR rm := ⟨_, rfl⟩
  obtain ⟨L, hL⟩ : ∃ L, L = kickOut rm := ⟨_, rfl⟩
  have hLl : L.length ≤ 1000 := by rw [hL]; exact kickOut_le
  have hz2 : Zr r2 := by rw [hr2]; exact zr_kick h.zm
  have HR2 := Aside0.mk hr2
  have HL := Aside0.mk hL
  have HZ2 := Aside0.mk hz2
  clear hr2 hL hz2 h
  go_enter Try.func28, Try.ntmps28
  go_wp2_with fail
  rw [← hWe.out]
  clear hWe
  have hrk := rkick_any Am cm rm base W HQ.out.qm HQ.out.hb hlm
  rw [← HR2.out, ← HL.out] at hrk
  refine hrk.mono ?_
  clear hrk
  rintro e w2 ⟨v2, vo, rfl, hv2, hvo, hB2⟩
  obtain ⟨A2, c2, rfl, -, -⟩ := Kd.R_reads hv2
  obtain ⟨A3, c3, rfl, hc3, -⟩ := Kd.R_reads hvo
  have HQ2 := Aside0.mk ((HQ.out.below hB2).listm hv2 HZ2.out)
  have hP2 := blk_below hP.out hB2
  have hR2' := Aside0.mk (blk_below hR.out hB2)
  have HO2 := Aside0.mk hvo
  have HKW2 : Aside0 (Keep (fun i => i = bm ∨ i = bo) w w2) := ⟨(Keep.of_below hW).trans' (Keep.of_below hB2) (G := fun _ => False) (fun _ _ h => h.elim)⟩
  clear hv2 hvo HQ hP hO hR hS hW hB2
  obtain ⟨p0, p1, p2, p3, p4, p5, p6, p7, p8, p9, p10, p11, p12⟩ := cells13 hP2 rfl
  obtain ⟨f0, f1, f2, f3, f4, f5, f6, f7, f8, f9, f10, f11, f12⟩ := froz13 hP2
  have hPl := lt_blk hP2
  have hP2 := Aside0.mk hP2
  go_wp2_with fail
  have hbmP : bm ≠ w.heap.size := by omega
  have hboP : bo ≠ w.heap.size := by omega
  obtain ⟨C8, hC8⟩ : ∃ C8, C8 = (((((w2.setCell ⟨w.heap.size, 7, none⟩ (.slice A2 r2.l.length c2)).setCell ⟨w.heap.size, 8, none⟩ (.bool r2.has)).setCell ⟨w.heap.size, 9, none⟩ (.int .i64 r2.nx.s)).setCell ⟨w.heap.size, 10, none⟩ (.int .i64 r2.nx.g)).setCell ⟨w.heap.size, 11, none⟩ (.int .u64 r2.nx.t)) := ⟨_, rfl⟩
  obtain ⟨W8, hW8⟩ : ∃ W8, W8 = (C8.alloc (.cells #[.slice A2 r2.l.length c2, .bool r2.has, .int .i64 r2.nx.s, .int .i64 r2.nx.g, .int .u64 r2.nx.t] 29)) := ⟨_, rfl⟩
  have hK8 : Keep (fun i => i = w.heap.size) w2 C8 := by rw [hC8]; exact (by repeat (first | (with_reducible exact Keep.refl _ _) | (with_reducible refine Keep.drewN ?_ _) | (with_reducible refine Keep.drew ?_) | (with_reducible refine Keep.setCell ?_ _ _ (by first | (right; with_reducible rfl) | (left; simp; done) | (left; simp; omega) | (right; simp; done) | (right; assumption))) | (with_reducible refine Keep.alloc ?_ _)))
  have hA8 : Below C8.heap.size C8 W8 := by rw [hW8]; exact (by repeat (first | (with_reducible exact Below.refl _ _) | (with_reducible refine Below.drew ?_) | (with_reducible refine below_drewN ?_ _) | (with_reducible refine below_al ?_ _) | (with_reducible refine Below.alloc ?_ (by first | exact Nat.le_refl _ | omega | (simp; done) | (simp; omega)) _) | (with_reducible refine Below.setCell ?_ (by first | (simp only []; omega) | (simp; done) | (simp; omega)) _)))
  have hP8 : W8.heap[w.heap.size]? = some (.cells #[.pointer (some ⟨bo, 0, none⟩), .pointer (some ⟨bm, 0, none⟩), .slice Ao ro.l.length co, .bool ro.has, .int .i64 ro.nx.s, .int .i64 ro.nx.g, .int .u64 ro.nx.t, .slice A2 r2.l.length c2, .bool r2.has, .int .i64 r2.nx.s, .int .i64 r2.nx.g, .int .u64 r2.nx.t, .int .i64 1] 55 (0, 0)) := by rw [hW8, hC8]; exact blk_alloc (blk_set (blk_set (blk_set (blk_set (blk_set (hP2.out))))))
  have hR8 := blk_below (blk_keep hR2'.out hK8 (show ¬ w.heap.size + 1 + 1 = w.heap.size by omega)) hA8
  have HQ8 := Aside0.mk ((HQ2.out.store hP2.out (by decide) hbmP hboP hK8).below hA8)
  have HKW8 := Aside0.mk ((HKW2.out.trans' hK8 (fun i hi e => by omega)).trans' (Keep.of_below hA8) (G := fun _ => False) (fun _ _ h => h.elim))
  have HO8 := Aside0.mk (Kd.R_below (R_keepT HO2.out hP2.out (by decide) hK8) hA8)
  clear hK8 hA8 p0 p1 p2 p3 p4 p5 p6 p7 p8 p9 p10 p11 p12 f0 f1 f2 f3 f4 f5 f6 f7 f8 f9 f10 f11 f12 hPl hP2 hR2' HQ2 HKW2 HO2
  rw [← hC8, ← hW8]
  clear hC8 hW8
  obtain ⟨q0, q1, q2, q3, q4, q5, q6, q7, q8, q9, q10, q11, q12⟩ := cells13 hP8 rfl
  have hP8 := Aside0.mk hP8
  have hR8 := Aside0.mk hR8
  have hBd : Below W8.heap.size W8 W8.drew := (Below.refl _ _).drew
  have hkk := kick_any bm rm W8.drew (HQ8.out.im.below hBd)
  rw [← HR2.out, ← HL.out] at hkk
  have HKK := Aside0.mk hkk
  clear hkk
  refine start_ (n := 7) (S := fun w' => w'.cell? ⟨w.heap.size, 0, none⟩ = some (.pointer (some ⟨bo, 0, none⟩)) ∧ w'.cell? ⟨w.heap.size, 1, none⟩ = some (.pointer (some ⟨bm, 0, none⟩)) ∧ w'.cell? ⟨w.heap.size, 2, none⟩ = some (.slice Ao ro.l.length co) ∧ w'.cell? ⟨w.heap.size, 3, none⟩ = some (.bool ro.has) ∧ w'.cell? ⟨w.heap.size, 4, none⟩ = some (.int .i64 ro.nx.s) ∧ w'.cell? ⟨w.heap.size, 5, none⟩ = some (.int .i64 ro.nx.g) ∧ w'.cell? ⟨w.heap.size, 6, none⟩ = some (.int .u64 ro.nx.t) ∧ w'.cell? ⟨w.heap.size, 7, none⟩ = some (.slice A2 r2.l.length c2) ∧ w'.cell? ⟨w.heap.size, 8, none⟩ = some (.bool r2.has) ∧ w'.cell? ⟨w.heap.size, 9, none⟩ = some (.int .i64 r2.nx.s) ∧ w'.cell? ⟨w.heap.size, 10, none⟩ = some (.int .i64 r2.nx.g) ∧ w'.cell? ⟨w.heap.size, 11, none⟩ = some (.int .u64 r2.nx.t) ∧ w'.cell? ⟨w.heap.size, 12, none⟩ = some (.int .i64 1)) (ds := [5]) #[false,false,false,false,false,false,false] (by kernel_rfl) rfl rfl ⟨q0, q1, q2, q3, q4, q5, q6, q7, q8, q9, q10, q11, q12⟩ (fun hHeld => ?_)
  refine pure_ (i := 1) (N := some 121) (v := ?_) (a' := ?_) #[false,true,false,false,false,false,false] rfl rfl (by kernel_rfl) (fun _ _ _ h => h) (Or.inl ⟨by rfl, ?_⟩) ?_ ?_
  rotate_left
  · intro w'; go_simp; with_reducible rfl
  rotate_left
  · simp only [Act.put, setIfInBounds_toArray, set_cons_zero, set_cons_succ, i64_w, i32_w]; rfl
  refine pure_ (i := 3) (N := some 123) (v := ?_) (a' := ?_) #[false,true,false,true,false,false,false] rfl rfl (by kernel_rfl) (fun _ _ _ h => h) (Or.inl ⟨by rfl, ?_⟩) ?_ ?_
  rotate_left
  · intro w'; go_simp; with_reducible rfl
  rotate_left
  · simp only [Act.put, setIfInBounds_toArray, set_cons_zero, set_cons_succ, i64_w, i32_w]; rfl
  refine take_ (i := 0) (N := some 120) (v := ?_) (a' := ?_) #[true,true,false,true,false,false,false] rfl rfl (by kernel_rfl) (fun _ _ _ h => h) (Or.inl ⟨by rfl, ?_⟩) hHeld ?_ ?_
  rotate_left
  · rintro w' ⟨s0, s1, s2, s3, s4, s5, s6, s7, s8, s9, s10, s11, s12⟩; go_simp; with_reducible rfl
  rotate_left
  · simp only [Act.put, setIfInBounds_toArray, set_cons_zero, set_cons_succ, i64_w, i32_w]; rfl
  refine one_ (i := 2) (N := some 122) #[true,true,true,true,false,false,false] rfl rfl (by kernel_rfl) (by decide) (fun K hK => ?_)
  refine goes_ Try.func33 (by kernel_rfl) rfl #[.pointer (some ⟨bm, 0, none⟩)] (by rfl) rfl rfl (by simp only [List.map_toArray, List.map_cons, List.map_nil]; rfl) ?_
  with_reducible refine (HKK.out).mono ?_
  rintro e wa ⟨v, rfl, hv, hI9, hK9⟩
  refine ⟨_, rfl, ?_⟩
  obtain ⟨Av, cv, rfl, hcv, -⟩ := Kd.R_reads hv
  have HQa := Aside0.mk ((HQ8.out.below hBd).ringm hK9 hI9)
  have hPa := blk_keep (blk_below hP8.out hBd) hK9 (show ¬ w.heap.size = bm by omega)
  obtain ⟨z0, z1, z2, z3, z4, z5, z6, z7, z8, z9, z10, z11, z12⟩ := cells13 hPa rfl
  have hRa := Aside0.mk (blk_keep (blk_below hR8.out hBd) hK9 (show ¬ w.heap.size + 1 + 1 = bm by omega))
  have HKWa := Aside0.mk ((HKW8.out.trans' (Keep.of_below hBd) (G := fun _ => False) (fun _ _ h => h.elim)).trans' hK9 (fun _ _ h => .inl h))
  have HOa := Aside0.mk (R_keepR (Kd.R_below HO8.out hBd) (HQ8.out.im.below hBd) hK9)
  have HVa := Aside0.mk hv
  clear hv hI9 hK9
  have hPa := Aside0.mk hPa
  refine hK.out _ _ ⟨z0, z1, z2, z3, z4, z5, z6, z7, z8, z9, z10, z11, z12⟩ (fun hHeld => ?_)
  clear hK K
  refine norm_ (a' := ?_) ?_ ?_
  rotate_left
  · show Act.put _ (some 122) _ = _; simp only [Act.put, setIfInBounds_toArray, set_cons_zero, set_cons_succ, i64_w, i32_w]; rfl
  refine one_ (i := 4) (N := some 124) #[true,true,true,true,true,false,false] rfl rfl (by kernel_rfl) (by decide) (fun K hK => ?_)
  refine goes_ Try.func23 (by kernel_rfl) rfl #[.slice Av L.length cv, .slice A3 L.length c3] (by rfl) rfl rfl (by simp only [List.map_toArray, List.map_cons, List.map_nil]; rfl) ?_
  with_reducible refine (sameList_eq (Kd.R_reads' HVa.out).2.2 hcv (Kd.R_reads' HOa.out).2.2 hc3 hLl).mono ?_
  rintro e w9 ⟨rfl, hB9⟩
  refine ⟨_, rfl, ?_⟩
  have hP9 := blk_below hPa.out hB9
  obtain ⟨y0, y1, y2, y3, y4, y5, y6, y7, y8, y9, y10, y11, y12⟩ := cells13 hP9 rfl
  have hR9 := blk_below hRa.out hB9
  have HQ9 := Aside0.mk (HQa.out.below hB9)
  have HKW9 := Aside0.mk (HKWa.out.trans' (Keep.of_below hB9) (G := fun _ => False) (fun _ _ h => h.elim))
  refine hK.out _ _ ⟨y0, y1, y2, y3, y4, y5, y6, y7, y8, y9, y10, y11, y12⟩ (fun hHeld => ?_)
  clear hK K
  refine norm_ (a' := ?_) ?_ ?_
  rotate_left
  · show Act.put _ (some 124) _ = _; simp only [Act.put, setIfInBounds_toArray, set_cons_zero, set_cons_succ, i64_w, i32_w]; rfl
  refine last_ (i := 5) (N := none) #[true,true,true,true,true,true,false] rfl rfl (by kernel_rfl) (by decide) (fun K hK => ?_)
  obtain ⟨ra0, ra1, ra2, ra3, ra4, ra5, ra6, ra7, ra8, ra9, ra10, ra11, ra12⟩ := cells13 hR9 rfl
  obtain ⟨ga0, ga1, ga2, ga3, ga4, ga5, ga6, ga7, ga8, ga9, ga10, ga11, ga12⟩ := froz13 hR9
  have hRl := lt_blk hR9
  refine skip_ (w1 := ?_) (by rfl) rfl ?_ ?_
  rotate_left
  · go_simp
    first | with_reducible rfl | rfl
  refine hK.out _ _ ?_
  clear hK K
  refine pure_ (i := 6) (N := some 5) (v := ?_) (a' := ?_) #[true,true,true,true,true,true,true] rfl rfl (by kernel_rfl) (fun _ _ _ h => h) (Or.inl ⟨by rfl, ?_⟩) ?_ ?_
  rotate_left
  · intro w'; go_simp; with_reducible rfl
  rotate_left
  · simp only [Act.put, setIfInBounds_toArray, set_cons_zero, set_cons_succ, i64_w, i32_w]; rfl
  refine done_ (by kernel_rfl) ?_
  go_wp2
  refine bodyPost_ret (v := .tuple #[.agg #[.pointer (some ⟨bo, 0, none⟩), .pointer (some ⟨bm, 0, none⟩), .slice Ao ro.l.length co, .bool ro.has, .int .i64 ro.nx.s, .int .i64 ro.nx.g, .int .u64 ro.nx.t, .slice A2 r2.l.length c2, .bool r2.has, .int .i64 r2.nx.s, .int .i64 r2.nx.g, .int .u64 r2.nx.t, .int .i64 1], .bool true]) (by simp [results, Try.results28, go_sem, ra0, ra1, ra2, ra3, ra4, ra5, ra6, ra7, ra8, ra9, ra10, ra11, ra12, hRl]) rfl ?_
  refine calls_done1 HQ9.out HKW9.out hR9 (by omega) (by omega) (.inr rfl) (by omega) ?_
  exact (by repeat (first | (with_reducible exact Keep.refl _ _) | (with_reducible refine Keep.drewN ?_ _) | (with_reducible refine Keep.drew ?_) | (with_reducible refine Keep.setCell ?_ _ _ (by first | (right; with_reducible rfl) | (left; simp; done) | (left; simp; omega) | (right; simp; done) | (right; assumption))) | (with_reducible refine Keep.alloc ?_ _)))
set_option maxRecDepth 100000 in
set_option maxHeartbeats 8000000 in
theorem calls_take0 (base bm bo : Nat) (Am : Option Addr) (cm : Nat) (Ao : Option Addr) (co : Nat) (rm ro : Rg) (x : Wt) (w : World) (h : PQ w base bm bo Am cm Ao co rm ro rm ro) :
    Calls Try.prog 28 #[.agg #[.pointer (some ⟨bm, 0, none⟩), .pointer (some ⟨bo, 0, none⟩), .slice Am rm.l.length cm, .bool rm.has, .int .i64 rm.nx.s, .int .i64 rm.nx.g, .int .u64 rm.nx.t, .slice Ao ro.l.length co, .bool ro.has, .int .i64 ro.nx.s, .int .i64 ro.nx.g, .int .u64 ro.nx.t, .int .i64 0], .agg #[.int .i64 3, .int .i64 x.s, .int .i64 x.g, .int .u64 x.t]] w (CallsP0 base bm bo w) := by
  have hbm := h.im.lt
  have hbo := h.io.lt
  have hlm := h.im.len
  have hlo := h.io.len
  obtain ⟨W, hWe⟩ : ∃ W, W = ((((w.alloc (.cells #[.pointer (some ⟨bm, 0, none⟩), .pointer (some ⟨bo, 0, none⟩), .slice Am rm.l.length cm, .bool rm.has, .int .i64 rm.nx.s, .int .i64 rm.nx.g, .int .u64 rm.nx.t, .slice Ao ro.l.length co, .bool ro.has, .int .i64 ro.nx.s, .int .i64 ro.nx.g, .int .u64 ro.nx.t, .int .i64 0] 55)).alloc (.cells #[.int .i64 3, .int .i64 x.s, .int .i64 x.g, .int .u64 x.t] 65)).alloc (.cells #[.pointer none, .pointer none, .slice none 0 0, .bool false, .int .i64 0, .int .i64 0, .int .u64 0, .slice none 0 0, .bool false, .int .i64 0, .int .i64 0, .int .u64 0, .int .i64 0] 55)).alloc (.cells #[.slice Am rm.l.length cm, .bool rm.has, .int .i64 rm.nx.s, .int .i64 rm.nx.g, .int .u64 rm.nx.t] 29)) := ⟨_, rfl⟩
  obtain ⟨hW, hP, hO, hR, hS⟩ := chain4 hWe
  have hWe := Aside0.mk hWe
  have hP := Aside0.mk hP
  have hO := Aside0.mk hO
  have hR := Aside0.mk hR
  have hS := Aside0.mk hS
  have HQ := Aside0.mk (h.below hW)
  have HZ := Aside0.mk h.zm
  obtain ⟨r2, hr2⟩ : ∃ r2, r2 = takeR rm := ⟨_, rfl⟩
  obtain ⟨y, hy⟩ : ∃ y, y = takeW rm := ⟨_, rfl⟩
  obtain ⟨E, hE⟩ : ∃ E, E = takeE rm := ⟨_, rfl⟩
  have hz2 : Zr r2 := by rw [hr2]; exact zr_take h.zm
  have HR2 := Aside0.mk hr2
  have HY := Aside0.mk hy
  have HE := Aside0.mk hE
  have HZ2 := Aside0.mk hz2
  clear hr2 hy hE hz2 h
  go_enter Try.func28, Try.ntmps28
  go_wp2_with fail
  rw [← hWe.out]
  clear hWe
  have htk := take_any bm rm W HQ.out.im
  rw [← HR2.out, ← HY.out, ← HE.out] at htk
  refine htk.mono ?_
  clear htk
  rintro e w1 ⟨rfl, hI1, hK1⟩
  have HQ1 := HQ.out.ringm hK1 hI1
  have hP1 := blk_keep hP.out hK1 (show ¬ w.heap.size = bm by omega)
  have hR1 := blk_keep hR.out hK1 (show ¬ w.heap.size + 1 + 1 = bm by omega)
  have hS1 := blk_keep hS.out hK1 (show ¬ w.heap.size + 1 + 1 + 1 = bm by omega)
  have hKW1 : Keep (fun i => i = bm ∨ i = bo) w w1 := (Keep.of_below hW).trans' (hK1.mono (fun _ _ h => .inl h)) (fun _ _ h => h)
  have hAl : Below w1.heap.size w1 (w1.alloc (.cells #[.int .i64 y.s, .int .i64 y.g, .int .u64 y.t] 27)) := below_al (Below.refl _ _) _
  have hY1 : (w1.alloc (.cells #[.int .i64 y.s, .int .i64 y.g, .int .u64 y.t] 27)).heap[w1.heap.size]? = some (.cells #[.int .i64 y.s, .int .i64 y.g, .int .u64 y.t] 27 (0, 0)) := blk_new _ _
  have HQ1 := Aside0.mk (HQ1.below hAl)
  have hP1 := Aside0.mk (blk_below hP1 hAl)
  have hR1 := Aside0.mk (blk_below hR1 hAl)
  have HKW1 := Aside0.mk (hKW1.trans' (Keep.of_below hAl) (G := fun _ => False) (fun _ _ h => h.elim))
  obtain ⟨s0, s1, s2, s3, s4, -, -, -, -, -⟩ := blk5 hS1
  have hSl := lt_blk hS1
  have hY1 := Aside0.mk hY1
  clear hI1 hK1 HQ hP hO hR hS hW hKW1 hAl
  go_wp2_with fail
  generalize (w1.alloc (.cells #[.int .i64 y.s, .int .i64 y.g, .int .u64 y.t] 27)) = W1 at *
  have hrt := rtake_any Am cm rm base (fun _ => True) W1 HQ1.out.qm HQ1.out.hb hlm
  unfold TakeP at hrt
  rw [← HR2.out, ← HY.out, ← HE.out] at hrt
  refine hrt.mono ?_
  clear hrt
  rintro e w2 ⟨v2, rfl, hv2, hB2⟩
  have hv2 := R_any hv2
  obtain ⟨A2, c2, rfl, -, -⟩ := Kd.R_reads hv2
  have HQ2 := Aside0.mk ((HQ1.out.below hB2).listm hv2 HZ2.out)
  have hP2 := blk_below hP1.out hB2
  have hR2' := Aside0.mk (blk_below hR1.out hB2)
  have hY2 := Aside0.mk (blk_below hY1.out hB2)
  have HKW2 := Aside0.mk (HKW1.out.trans' (Keep.of_below hB2) (G := fun _ => False) (fun _ _ h => h.elim))
  clear hv2 hB2 HQ1 hP1 hR1 hY1 HKW1 s0 s1 s2 s3 s4
  obtain ⟨p0, p1, p2, p3, p4, p5, p6, p7, p8, p9, p10, p11, p12⟩ := cells13 hP2 rfl
  obtain ⟨f0, f1, f2, f3, f4, f5, f6, f7, f8, f9, f10, f11, f12⟩ := froz13 hP2
  have hPl := lt_blk hP2
  have hYl := lt_blk hY2.out
  have hP2 := Aside0.mk hP2
  go_wp2_with fail
  have hbmP : bm ≠ w.heap.size := by omega
  have hboP : bo ≠ w.heap.size := by omega
  obtain ⟨C8, hC8⟩ : ∃ C8, C8 = (((((w2.setCell ⟨w.heap.size, 2, none⟩ (.slice A2 r2.l.length c2)).setCell ⟨w.heap.size, 3, none⟩ (.bool r2.has)).setCell ⟨w.heap.size, 4, none⟩ (.int .i64 r2.nx.s)).setCell ⟨w.heap.size, 5, none⟩ (.int .i64 r2.nx.g)).setCell ⟨w.heap.size, 6, none⟩ (.int .u64 r2.nx.t)) := ⟨_, rfl⟩
  obtain ⟨W8, hW8⟩ : ∃ W8, W8 = ((C8.alloc (.cells #[.slice A2 r2.l.length c2, .bool r2.has, .int .i64 r2.nx.s, .int .i64 r2.nx.g, .int .u64 r2.nx.t] 29)).alloc (.cells #[.int .i64 y.s, .int .i64 y.g, .int .u64 y.t] 27)) := ⟨_, rfl⟩
  have hK8 : Keep (fun i => i = w.heap.size) w2 C8 := by rw [hC8]; exact (by repeat (first | (with_reducible exact Keep.refl _ _) | (with_reducible refine Keep.drewN ?_ _) | (with_reducible refine Keep.drew ?_) | (with_reducible refine Keep.setCell ?_ _ _ (by first | (right; with_reducible rfl) | (left; simp; done) | (left; simp; omega) | (right; simp; done) | (right; assumption))) | (with_reducible refine Keep.alloc ?_ _)))
  have hA8 : Below C8.heap.size C8 W8 := by rw [hW8]; exact (by repeat (first | (with_reducible exact Below.refl _ _) | (with_reducible refine Below.drew ?_) | (with_reducible refine below_drewN ?_ _) | (with_reducible refine below_al ?_ _) | (with_reducible refine Below.alloc ?_ (by first | exact Nat.le_refl _ | omega | (simp; done) | (simp; omega)) _) | (with_reducible refine Below.setCell ?_ (by first | (simp only []; omega) | (simp; done) | (simp; omega)) _)))
  have hP8 : W8.heap[w.heap.size]? = some (.cells #[.pointer (some ⟨bm, 0, none⟩), .pointer (some ⟨bo, 0, none⟩), .slice A2 r2.l.length c2, .bool r2.has, .int .i64 r2.nx.s, .int .i64 r2.nx.g, .int .u64 r2.nx.t, .slice Ao ro.l.length co, .bool ro.has, .int .i64 ro.nx.s, .int .i64 ro.nx.g, .int .u64 ro.nx.t, .int .i64 0] 55 (0, 0)) := by rw [hW8, hC8]; exact blk_alloc (blk_alloc (blk_set (blk_set (blk_set (blk_set (blk_set (hP2.out)))))))
  have hR8 := blk_below (blk_keep hR2'.out hK8 (show ¬ w.heap.size + 1 + 1 = w.heap.size by omega)) hA8
  have HQ8 := Aside0.mk ((HQ2.out.store hP2.out (by decide) hbmP hboP hK8).below hA8)
  have HKW8 := Aside0.mk ((HKW2.out.trans' hK8 (fun i hi e => by omega)).trans' (Keep.of_below hA8) (G := fun _ => False) (fun _ _ h => h.elim))
  have hY8 : W8.heap[w1.heap.size]? = some (.cells #[.int .i64 y.s, .int .i64 y.g, .int .u64 y.t] 27 (0, 0)) := blk_below (blk_keep hY2.out hK8 (show ¬ w1.heap.size = w.heap.size by omega)) hA8
  have hX8 : W8.heap[w2.heap.size + 1]? = some (.cells #[.int .i64 y.s, .int .i64 y.g, .int .u64 y.t] 27 (0, 0)) := by rw [hW8, hC8]; simpa using blk_new ((((((w2.setCell ⟨w.heap.size, 2, none⟩ (.slice A2 r2.l.length c2)).setCell ⟨w.heap.size, 3, none⟩ (.bool r2.has)).setCell ⟨w.heap.size, 4, none⟩ (.int .i64 r2.nx.s)).setCell ⟨w.heap.size, 5, none⟩ (.int .i64 r2.nx.g)).setCell ⟨w.heap.size, 6, none⟩ (.int .u64 r2.nx.t)).alloc (.cells #[.slice A2 r2.l.length c2, .bool r2.has, .int .i64 r2.nx.s, .int .i64 r2.nx.g, .int .u64 r2.nx.t] 29)) (.cells #[.int .i64 y.s, .int .i64 y.g, .int .u64 y.t] 27)
  clear hY2
  clear hK8 hA8 p0 p1 p2 p3 p4 p5 p6 p7 p8 p9 p10 p11 p12 f0 f1 f2 f3 f4 f5 f6 f7 f8 f9 f10 f11 f12 hPl hP2 hR2' HQ2 HKW2 
  rw [← hC8, ← hW8]
  clear hC8 hW8
  obtain ⟨q0, q1, q2, q3, q4, q5, q6, q7, q8, q9, q10, q11, q12⟩ := cells13 hP8 rfl
  have hP8 := Aside0.mk hP8
  have hR8 := Aside0.mk hR8
  have hBd : Below W8.heap.size W8 W8.drew := (Below.refl _ _).drew
  obtain ⟨y0, y1, y2, -, -, -⟩ := blk3 hY8
  obtain ⟨x0, x1, x2, -, -, -⟩ := blk3 hX8
  have HQ9 := HQ8
  have hR9 := hR8.out
  have HKW9 := HKW8
  refine start_ (n := 16) (S := fun w' => w'.cell? ⟨w.heap.size, 0, none⟩ = some (.pointer (some ⟨bm, 0, none⟩)) ∧ w'.cell? ⟨w.heap.size, 1, none⟩ = some (.pointer (some ⟨bo, 0, none⟩)) ∧ w'.cell? ⟨w.heap.size, 2, none⟩ = some (.slice A2 r2.l.length c2) ∧ w'.cell? ⟨w.heap.size, 3, none⟩ = some (.bool r2.has) ∧ w'.cell? ⟨w.heap.size, 4, none⟩ = some (.int .i64 r2.nx.s) ∧ w'.cell? ⟨w.heap.size, 5, none⟩ = some (.int .i64 r2.nx.g) ∧ w'.cell? ⟨w.heap.size, 6, none⟩ = some (.int .u64 r2.nx.t) ∧ w'.cell? ⟨w.heap.size, 7, none⟩ = some (.slice Ao ro.l.length co) ∧ w'.cell? ⟨w.heap.size, 8, none⟩ = some (.bool ro.has) ∧ w'.cell? ⟨w.heap.size, 9, none⟩ = some (.int .i64 ro.nx.s) ∧ w'.cell? ⟨w.heap.size, 10, none⟩ = some (.int .i64 ro.nx.g) ∧ w'.cell? ⟨w.heap.size, 11, none⟩ = some (.int .u64 ro.nx.t) ∧ w'.cell? ⟨w.heap.size, 12, none⟩ = some (.int .i64 0) ∧ w'.cell? ⟨w1.heap.size, 0, none⟩ = some (.int .i64 y.s) ∧ w'.cell? ⟨w1.heap.size, 1, none⟩ = some (.int .i64 y.g) ∧ w'.cell? ⟨w1.heap.size, 2, none⟩ = some (.int .u64 y.t) ∧ w'.cell? ⟨w2.heap.size + 1, 0, none⟩ = some (.int .i64 y.s) ∧ w'.cell? ⟨w2.heap.size + 1, 1, none⟩ = some (.int .i64 y.g) ∧ w'.cell? ⟨w2.heap.size + 1, 2, none⟩ = some (.int .u64 y.t)) (ds := [14]) #[false,false,false,false,false,false,false,false,false,false,false,false,false,false,false,false] (by kernel_rfl) rfl rfl ⟨q0, q1, q2, q3, q4, q5, q6, q7, q8, q9, q10, q11, q12, y0, y1, y2, x0, x1, x2⟩ (fun hHeld => ?_)
  refine take_ (i := 0) (N := some 145) (v := ?_) (a' := ?_) #[true,false,false,false,false,false,false,false,false,false,false,false,false,false,false,false] rfl rfl (by kernel_rfl) (fun _ _ _ h => h) (Or.inl ⟨by rfl, ?_⟩) hHeld ?_ ?_
  rotate_left
  · rintro w' ⟨s0, s1, s2, s3, s4, s5, s6, s7, s8, s9, s10, s11, s12, s13, s14, s15, s16, s17, s18⟩; go_simp; with_reducible rfl
  rotate_left
  · simp only [Act.put, setIfInBounds_toArray, set_cons_zero, set_cons_succ, i64_w, i32_w]; rfl
  refine take_ (i := 1) (N := some 146) (v := ?_) (a' := ?_) #[true,true,false,false,false,false,false,false,false,false,false,false,false,false,false,false] rfl rfl (by kernel_rfl) (fun _ _ _ h => h) (Or.inl ⟨by rfl, ?_⟩) hHeld ?_ ?_
  rotate_left
  · rintro w' ⟨s0, s1, s2, s3, s4, s5, s6, s7, s8, s9, s10, s11, s12, s13, s14, s15, s16, s17, s18⟩; go_simp; with_reducible rfl
  rotate_left
  · simp only [Act.put, setIfInBounds_toArray, set_cons_zero, set_cons_succ, i64_w, i32_w]; rfl
  refine take_ (i := 2) (N := some 147) (v := ?_) (a' := ?_) #[true,true,true,false,false,false,false,false,false,false,false,false,false,false,false,false] rfl rfl (by kernel_rfl) (fun _ _ _ h => h) (Or.inl ⟨by rfl, ?_⟩) hHeld ?_ ?_
  rotate_left
  · rintro w' ⟨s0, s1, s2, s3, s4, s5, s6, s7, s8, s9, s10, s11, s12, s13, s14, s15, s16, s17, s18⟩; go_simp; with_reducible rfl
  rotate_left
  · simp only [Act.put, setIfInBounds_toArray, set_cons_zero, set_cons_succ, i64_w, i32_w]; rfl
  refine pure_ (i := 3) (N := some 148) (v := ?_) (a' := ?_) #[true,true,true,true,false,false,false,false,false,false,false,false,false,false,false,false] rfl rfl (by kernel_rfl) (fun _ _ _ h => h) (Or.inl ⟨by rfl, ?_⟩) ?_ ?_
  rotate_left
  · intro w'; go_simp; with_reducible rfl
  rotate_left
  · simp only [Act.put, setIfInBounds_toArray, set_cons_zero, set_cons_succ, i64_w, i32_w]; rfl
  refine pure_ (i := 4) (N := some 149) (v := ?_) (a' := ?_) #[true,true,true,true,true,false,false,false,false,false,false,false,false,false,false,false] rfl rfl (by kernel_rfl) (fun _ _ _ h => h) (Or.inl ⟨by rfl, ?_⟩) ?_ ?_
  rotate_left
  · intro w'; go_simp; with_reducible rfl
  rotate_left
  · simp only [Act.put, setIfInBounds_toArray, set_cons_zero, set_cons_succ, i64_w, i32_w]; rfl
  refine pure_ (i := 5) (N := some 150) (v := ?_) (a' := ?_) #[true,true,true,true,true,true,false,false,false,false,false,false,false,false,false,false] rfl rfl (by kernel_rfl) (fun _ _ _ h => h) (Or.inl ⟨by rfl, ?_⟩) ?_ ?_
  rotate_left
  · intro w'; go_simp; with_reducible rfl
  rotate_left
  · simp only [Act.put, setIfInBounds_toArray, set_cons_zero, set_cons_succ, i64_w, i32_w]; rfl
  refine pure_ (i := 6) (N := some 151) (v := ?_) (a' := ?_) #[true,true,true,true,true,true,true,false,false,false,false,false,false,false,false,false] rfl rfl (by kernel_rfl) (fun _ _ _ h => h) (Or.inl ⟨by rfl, ?_⟩) ?_ ?_
  rotate_left
  · intro w'; go_simp; with_reducible rfl
  rotate_left
  · simp only [Act.put, setIfInBounds_toArray, set_cons_zero, set_cons_succ, i64_w, i32_w]; rfl
  refine pure_ (i := 7) (N := some 152) (v := ?_) (a' := ?_) #[true,true,true,true,true,true,true,true,false,false,false,false,false,false,false,false] rfl rfl (by kernel_rfl) (fun _ _ _ h => h) (Or.inl ⟨by rfl, ?_⟩) ?_ ?_
  rotate_left
  · intro w'; go_simp; with_reducible rfl
  rotate_left
  · simp only [Act.put, setIfInBounds_toArray, set_cons_zero, set_cons_succ, i64_w, i32_w]; rfl
  refine pure_ (i := 8) (N := some 153) (v := ?_) (a' := ?_) #[true,true,true,true,true,true,true,true,true,false,false,false,false,false,false,false] rfl rfl (by kernel_rfl) (fun _ _ _ h => h) (Or.inl ⟨by rfl, ?_⟩) ?_ ?_
  rotate_left
  · intro w'; go_simp; with_reducible rfl
  rotate_left
  · simp only [Act.put, setIfInBounds_toArray, set_cons_zero, set_cons_succ, i64_w, i32_w]; rfl
  refine pure_ (i := 9) (N := some 154) (v := ?_) (a' := ?_) #[true,true,true,true,true,true,true,true,true,true,false,false,false,false,false,false] rfl rfl (by kernel_rfl) (fun _ _ _ h => h) (Or.inl ⟨by rfl, ?_⟩) ?_ ?_
  rotate_left
  · intro w'; go_simp; with_reducible rfl
  rotate_left
  · simp only [Act.put, setIfInBounds_toArray, set_cons_zero, set_cons_succ, i64_w, i32_w]; rfl
  refine pure_ (i := 10) (N := some 155) (v := ?_) (a' := ?_) #[true,true,true,true,true,true,true,true,true,true,true,false,false,false,false,false] rfl rfl (by kernel_rfl) (fun _ _ _ h => h) (Or.inl ⟨by rfl, ?_⟩) ?_ ?_
  rotate_left
  · intro w'; go_simp; with_reducible rfl
  rotate_left
  · simp only [Act.put, setIfInBounds_toArray, set_cons_zero, set_cons_succ, i64_w, i32_w]; rfl
  refine pure_ (i := 11) (N := some 156) (v := ?_) (a' := ?_) #[true,true,true,true,true,true,true,true,true,true,true,true,false,false,false,false] rfl rfl (by kernel_rfl) (fun _ _ _ h => h) (Or.inl ⟨by rfl, ?_⟩) ?_ ?_
  rotate_left
  · intro w'; go_simp; with_reducible rfl
  rotate_left
  · simp only [Act.put, setIfInBounds_toArray, set_cons_zero, set_cons_succ, i64_w, i32_w]; rfl
  refine pure_ (i := 12) (N := some 157) (v := ?_) (a' := ?_) #[true,true,true,true,true,true,true,true,true,true,true,true,true,false,false,false] rfl rfl (by kernel_rfl) (fun _ _ _ h => h) (Or.inl ⟨by rfl, ?_⟩) ?_ ?_
  rotate_left
  · intro w'; go_simp; with_reducible rfl
  rotate_left
  · simp only [Act.put, setIfInBounds_toArray, set_cons_zero, set_cons_succ, i64_w, i32_w]; rfl
  refine pure_ (i := 13) (N := some 158) (v := ?_) (a' := ?_) #[true,true,true,true,true,true,true,true,true,true,true,true,true,true,false,false] rfl rfl (by kernel_rfl) (fun _ _ _ h => h) (Or.inl ⟨by rfl, ?_⟩) ?_ ?_
  rotate_left
  · intro w'; go_simp; with_reducible rfl
  rotate_left
  · simp only [Act.put, setIfInBounds_toArray, set_cons_zero, set_cons_succ, i64_w, i32_w]; rfl
  refine last_ (i := 14) (N := none) #[true,true,true,true,true,true,true,true,true,true,true,true,true,true,true,false] rfl rfl (by kernel_rfl) (by decide) (fun K hK => ?_)
  obtain ⟨ra0, ra1, ra2, ra3, ra4, ra5, ra6, ra7, ra8, ra9, ra10, ra11, ra12⟩ := cells13 hR9 rfl
  obtain ⟨ga0, ga1, ga2, ga3, ga4, ga5, ga6, ga7, ga8, ga9, ga10, ga11, ga12⟩ := froz13 hR9
  have hRl := lt_blk hR9
  refine skip_ (w1 := ?_) (by rfl) rfl ?_ ?_
  rotate_left
  · go_simp
    first | with_reducible rfl | rfl
  refine hK.out _ _ ?_
  clear hK K
  refine pure_ (i := 15) (N := some 5) (v := ?_) (a' := ?_) #[true,true,true,true,true,true,true,true,true,true,true,true,true,true,true,true] rfl rfl (by kernel_rfl) (fun _ _ _ h => h) (Or.inl ⟨by rfl, ?_⟩) ?_ ?_
  rotate_left
  · intro w'; go_simp; with_reducible rfl
  rotate_left
  · simp only [Act.put, setIfInBounds_toArray, set_cons_zero, set_cons_succ, i64_w, i32_w]; rfl
  refine done_ (by kernel_rfl) ?_
  go_wp2
  refine bodyPost_ret (v := .tuple #[.agg #[.pointer (some ⟨bm, 0, none⟩), .pointer (some ⟨bo, 0, none⟩), .slice A2 r2.l.length c2, .bool r2.has, .int .i64 r2.nx.s, .int .i64 r2.nx.g, .int .u64 r2.nx.t, .slice Ao ro.l.length co, .bool ro.has, .int .i64 ro.nx.s, .int .i64 ro.nx.g, .int .u64 ro.nx.t, .int .i64 0], .bool true]) (by simp [results, Try.results28, go_sem, ra0, ra1, ra2, ra3, ra4, ra5, ra6, ra7, ra8, ra9, ra10, ra11, ra12, hRl]) rfl ?_
  refine calls_done0 HQ9.out HKW9.out hR9 (by omega) (by omega) (.inl rfl) (by omega) ?_
  exact (by repeat (first | (with_reducible exact Keep.refl _ _) | (with_reducible refine Keep.drewN ?_ _) | (with_reducible refine Keep.drew ?_) | (with_reducible refine Keep.setCell ?_ _ _ (by first | (right; with_reducible rfl) | (left; simp; done) | (left; simp; omega) | (right; simp; done) | (right; assumption))) | (with_reducible refine Keep.alloc ?_ _)))
set_option maxRecDepth 100000 in
set_option maxHeartbeats 8000000 in
theorem calls_take1 (base bm bo : Nat) (Am : Option Addr) (cm : Nat) (Ao : Option Addr) (co : Nat) (rm ro : Rg) (x : Wt) (w : World) (h : PQ w base bm bo Am cm Ao co rm ro rm ro) :
    Calls Try.prog 28 #[.agg #[.pointer (some ⟨bo, 0, none⟩), .pointer (some ⟨bm, 0, none⟩), .slice Ao ro.l.length co, .bool ro.has, .int .i64 ro.nx.s, .int .i64 ro.nx.g, .int .u64 ro.nx.t, .slice Am rm.l.length cm, .bool rm.has, .int .i64 rm.nx.s, .int .i64 rm.nx.g, .int .u64 rm.nx.t, .int .i64 1], .agg #[.int .i64 3, .int .i64 x.s, .int .i64 x.g, .int .u64 x.t]] w (CallsP1 base bm bo w) := by
  have hbm := h.im.lt
  have hbo := h.io.lt
  have hlm := h.im.len
  have hlo := h.io.len
  obtain ⟨W, hWe⟩ : ∃ W, W = ((((w.alloc (.cells #[.pointer (some ⟨bo, 0, none⟩), .pointer (some ⟨bm, 0, none⟩), .slice Ao ro.l.length co, .bool ro.has, .int .i64 ro.nx.s, .int .i64 ro.nx.g, .int .u64 ro.nx.t, .slice Am rm.l.length cm, .bool rm.has, .int .i64 rm.nx.s, .int .i64 rm.nx.g, .int .u64 rm.nx.t, .int .i64 1] 55)).alloc (.cells #[.int .i64 3, .int .i64 x.s, .int .i64 x.g, .int .u64 x.t] 65)).alloc (.cells #[.pointer none, .pointer none, .slice none 0 0, .bool false, .int .i64 0, .int .i64 0, .int .u64 0, .slice none 0 0, .bool false, .int .i64 0, .int .i64 0, .int .u64 0, .int .i64 0] 55)).alloc (.cells #[.slice Am rm.l.length cm, .bool rm.has, .int .i64 rm.nx.s, .int .i64 rm.nx.g, .int .u64 rm.nx.t] 29)) := ⟨_, rfl⟩
  obtain ⟨hW, hP, hO, hR, hS⟩ := chain4 hWe
  have hWe := Aside0.mk hWe
  have hP := Aside0.mk hP
  have hO := Aside0.mk hO
  have hR := Aside0.mk hR
  have hS := Aside0.mk hS
  have HQ := Aside0.mk (h.below hW)
  have HZ := Aside0.mk h.zm
  obtain ⟨r2, hr2⟩ : ∃ r2, r2 = takeR rm := ⟨_, rfl⟩
  obtain ⟨y, hy⟩ : ∃ y, y = takeW rm := ⟨_, rfl⟩
  obtain ⟨E, hE⟩ : ∃ E, E = takeE rm := ⟨_, rfl⟩
  have hz2 : Zr r2 := by rw [hr2]; exact zr_take h.zm
  have HR2 := Aside0.mk hr2
  have HY := Aside0.mk hy
  have HE := Aside0.mk hE
  have HZ2 := Aside0.mk hz2
  clear hr2 hy hE hz2 h
  go_enter Try.func28, Try.ntmps28
  go_wp2_with fail
  rw [← hWe.out]
  clear hWe
  have htk := take_any bm rm W HQ.out.im
  rw [← HR2.out, ← HY.out, ← HE.out] at htk
  refine htk.mono ?_
  clear htk
  rintro e w1 ⟨rfl, hI1, hK1⟩
  have HQ1 := HQ.out.ringm hK1 hI1
  have hP1 := blk_keep hP.out hK1 (show ¬ w.heap.size = bm by omega)
  have hR1 := blk_keep hR.out hK1 (show ¬ w.heap.size + 1 + 1 = bm by omega)
  have hS1 := blk_keep hS.out hK1 (show ¬ w.heap.size + 1 + 1 + 1 = bm by omega)
  have hKW1 : Keep (fun i => i = bm ∨ i = bo) w w1 := (Keep.of_below hW).trans' (hK1.mono (fun _ _ h => .inl h)) (fun _ _ h => h)
  have hAl : Below w1.heap.size w1 (w1.alloc (.cells #[.int .i64 y.s, .int .i64 y.g, .int .u64 y.t] 27)) := below_al (Below.refl _ _) _
  have hY1 : (w1.alloc (.cells #[.int .i64 y.s, .int .i64 y.g, .int .u64 y.t] 27)).heap[w1.heap.size]? = some (.cells #[.int .i64 y.s, .int .i64 y.g, .int .u64 y.t] 27 (0, 0)) := blk_new _ _
  have HQ1 := Aside0.mk (HQ1.below hAl)
  have hP1 := Aside0.mk (blk_below hP1 hAl)
  have hR1 := Aside0.mk (blk_below hR1 hAl)
  have HKW1 := Aside0.mk (hKW1.trans' (Keep.of_below hAl) (G := fun _ => False) (fun _ _ h => h.elim))
  obtain ⟨s0, s1, s2, s3, s4, -, -, -, -, -⟩ := blk5 hS1
  have hSl := lt_blk hS1
  have hY1 := Aside0.mk hY1
  clear hI1 hK1 HQ hP hO hR hS hW hKW1 hAl
  go_wp2_with fail
  generalize (w1.alloc (.cells #[.int .i64 y.s, .int .i64 y.g, .int .u64 y.t] 27)) = W1 at *
  have hrt := rtake_any Am cm rm base (fun _ => True) W1 HQ1.out.qm HQ1.out.hb hlm
  unfold TakeP at hrt
  rw [← HR2.out, ← HY.out, ← HE.out] at hrt
  refine hrt.mono ?_
  clear hrt
  rintro e w2 ⟨v2, rfl, hv2, hB2⟩
  have hv2 := R_any hv2
  obtain ⟨A2, c2, rfl, -, -⟩ := Kd.R_reads hv2
  have HQ2 := Aside0.mk ((HQ1.out.below hB2).listm hv2 HZ2.out)
  have hP2 := blk_below hP1.out hB2
  have hR2' := Aside0.mk (blk_below hR1.out hB2)
  have hY2 := Aside0.mk (blk_below hY1.out hB2)
  have HKW2 := Aside0.mk (HKW1.out.trans' (Keep.of_below hB2) (G := fun _ => False) (fun _ _ h => h.elim))
  clear hv2 hB2 HQ1 hP1 hR1 hY1 HKW1 s0 s1 s2 s3 s4
  obtain ⟨p0, p1, p2, p3, p4, p5, p6, p7, p8, p9, p10, p11, p12⟩ := cells13 hP2 rfl
  obtain ⟨f0, f1, f2, f3, f4, f5, f6, f7, f8, f9, f10, f11, f12⟩ := froz13 hP2
  have hPl := lt_blk hP2
  have hYl := lt_blk hY2.out
  have hP2 := Aside0.mk hP2
  go_wp2_with fail
  have hbmP : bm ≠ w.heap.size := by omega
  have hboP : bo ≠ w.heap.size := by omega
  obtain ⟨C8, hC8⟩ : ∃ C8, C8 = (((((w2.setCell ⟨w.heap.size, 7, none⟩ (.slice A2 r2.l.length c2)).setCell ⟨w.heap.size, 8, none⟩ (.bool r2.has)).setCell ⟨w.heap.size, 9, none⟩ (.int .i64 r2.nx.s)).setCell ⟨w.heap.size, 10, none⟩ (.int .i64 r2.nx.g)).setCell ⟨w.heap.size, 11, none⟩ (.int .u64 r2.nx.t)) := ⟨_, rfl⟩
  obtain ⟨W8, hW8⟩ : ∃ W8, W8 = ((C8.alloc (.cells #[.slice A2 r2.l.length c2, .bool r2.has, .int .i64 r2.nx.s, .int .i64 r2.nx.g, .int .u64 r2.nx.t] 29)).alloc (.cells #[.int .i64 y.s, .int .i64 y.g, .int .u64 y.t] 27)) := ⟨_, rfl⟩
  have hK8 : Keep (fun i => i = w.heap.size) w2 C8 := by rw [hC8]; exact (by repeat (first | (with_reducible exact Keep.refl _ _) | (with_reducible refine Keep.drewN ?_ _) | (with_reducible refine Keep.drew ?_) | (with_reducible refine Keep.setCell ?_ _ _ (by first | (right; with_reducible rfl) | (left; simp; done) | (left; simp; omega) | (right; simp; done) | (right; assumption))) | (with_reducible refine Keep.alloc ?_ _)))
  have hA8 : Below C8.heap.size C8 W8 := by rw [hW8]; exact (by repeat (first | (with_reducible exact Below.refl _ _) | (with_reducible refine Below.drew ?_) | (with_reducible refine below_drewN ?_ _) | (with_reducible refine below_al ?_ _) | (with_reducible refine Below.alloc ?_ (by first | exact Nat.le_refl _ | omega | (simp; done) | (simp; omega)) _) | (with_reducible refine Below.setCell ?_ (by first | (simp only []; omega) | (simp; done) | (simp; omega)) _)))
  have hP8 : W8.heap[w.heap.size]? = some (.cells #[.pointer (some ⟨bo, 0, none⟩), .pointer (some ⟨bm, 0, none⟩), .slice Ao ro.l.length co, .bool ro.has, .int .i64 ro.nx.s, .int .i64 ro.nx.g, .int .u64 ro.nx.t, .slice A2 r2.l.length c2, .bool r2.has, .int .i64 r2.nx.s, .int .i64 r2.nx.g, .int .u64 r2.nx.t, .int .i64 1] 55 (0, 0)) := by rw [hW8, hC8]; exact blk_alloc (blk_alloc (blk_set (blk_set (blk_set (blk_set (blk_set (hP2.out)))))))
  have hR8 := blk_below (blk_keep hR2'.out hK8 (show ¬ w.heap.size + 1 + 1 = w.heap.size by omega)) hA8
  have HQ8 := Aside0.mk ((HQ2.out.store hP2.out (by decide) hbmP hboP hK8).below hA8)
  have HKW8 := Aside0.mk ((HKW2.out.trans' hK8 (fun i hi e => by omega)).trans' (Keep.of_below hA8) (G := fun _ => False) (fun _ _ h => h.elim))
  have hY8 : W8.heap[w1.heap.size]? = some (.cells #[.int .i64 y.s, .int .i64 y.g, .int .u64 y.t] 27 (0, 0)) := blk_below (blk_keep hY2.out hK8 (show ¬ w1.heap.size = w.heap.size by omega)) hA8
  have hX8 : W8.heap[w2.heap.size + 1]? = some (.cells #[.int .i64 y.s, .int .i64 y.g, .int .u64 y.t] 27 (0, 0)) := by rw [hW8, hC8]; simpa using blk_new ((((((w2.setCell ⟨w.heap.size, 7, none⟩ (.slice A2 r2.l.length c2)).setCell ⟨w.heap.size, 8, none⟩ (.bool r2.has)).setCell ⟨w.heap.size, 9, none⟩ (.int .i64 r2.nx.s)).setCell ⟨w.heap.size, 10, none⟩ (.int .i64 r2.nx.g)).setCell ⟨w.heap.size, 11, none⟩ (.int .u64 r2.nx.t)).alloc (.cells #[.slice A2 r2.l.length c2, .bool r2.has, .int .i64 r2.nx.s, .int .i64 r2.nx.g, .int .u64 r2.nx.t] 29)) (.cells #[.int .i64 y.s, .int .i64 y.g, .int .u64 y.t] 27)
  clear hY2
  clear hK8 hA8 p0 p1 p2 p3 p4 p5 p6 p7 p8 p9 p10 p11 p12 f0 f1 f2 f3 f4 f5 f6 f7 f8 f9 f10 f11 f12 hPl hP2 hR2' HQ2 HKW2 
  rw [← hC8, ← hW8]
  clear hC8 hW8
  obtain ⟨q0, q1, q2, q3, q4, q5, q6, q7, q8, q9, q10, q11, q12⟩ := cells13 hP8 rfl
  have hP8 := Aside0.mk hP8
  have hR8 := Aside0.mk hR8
  have hBd : Below W8.heap.size W8 W8.drew := (Below.refl _ _).drew
  obtain ⟨y0, y1, y2, -, -, -⟩ := blk3 hY8
  obtain ⟨x0, x1, x2, -, -, -⟩ := blk3 hX8
  have HQ9 := HQ8
  have hR9 := hR8.out
  have HKW9 := HKW8
  refine start_ (n := 16) (S := fun w' => w'.cell? ⟨w.heap.size, 0, none⟩ = some (.pointer (some ⟨bo, 0, none⟩)) ∧ w'.cell? ⟨w.heap.size, 1, none⟩ = some (.pointer (some ⟨bm, 0, none⟩)) ∧ w'.cell? ⟨w.heap.size, 2, none⟩ = some (.slice Ao ro.l.length co) ∧ w'.cell? ⟨w.heap.size, 3, none⟩ = some (.bool ro.has) ∧ w'.cell? ⟨w.heap.size, 4, none⟩ = some (.int .i64 ro.nx.s) ∧ w'.cell? ⟨w.heap.size, 5, none⟩ = some (.int .i64 ro.nx.g) ∧ w'.cell? ⟨w.heap.size, 6, none⟩ = some (.int .u64 ro.nx.t) ∧ w'.cell? ⟨w.heap.size, 7, none⟩ = some (.slice A2 r2.l.length c2) ∧ w'.cell? ⟨w.heap.size, 8, none⟩ = some (.bool r2.has) ∧ w'.cell? ⟨w.heap.size, 9, none⟩ = some (.int .i64 r2.nx.s) ∧ w'.cell? ⟨w.heap.size, 10, none⟩ = some (.int .i64 r2.nx.g) ∧ w'.cell? ⟨w.heap.size, 11, none⟩ = some (.int .u64 r2.nx.t) ∧ w'.cell? ⟨w.heap.size, 12, none⟩ = some (.int .i64 1) ∧ w'.cell? ⟨w1.heap.size, 0, none⟩ = some (.int .i64 y.s) ∧ w'.cell? ⟨w1.heap.size, 1, none⟩ = some (.int .i64 y.g) ∧ w'.cell? ⟨w1.heap.size, 2, none⟩ = some (.int .u64 y.t) ∧ w'.cell? ⟨w2.heap.size + 1, 0, none⟩ = some (.int .i64 y.s) ∧ w'.cell? ⟨w2.heap.size + 1, 1, none⟩ = some (.int .i64 y.g) ∧ w'.cell? ⟨w2.heap.size + 1, 2, none⟩ = some (.int .u64 y.t)) (ds := [14]) #[false,false,false,false,false,false,false,false,false,false,false,false,false,false,false,false] (by kernel_rfl) rfl rfl ⟨q0, q1, q2, q3, q4, q5, q6, q7, q8, q9, q10, q11, q12, y0, y1, y2, x0, x1, x2⟩ (fun hHeld => ?_)
  refine take_ (i := 0) (N := some 145) (v := ?_) (a' := ?_) #[true,false,false,false,false,false,false,false,false,false,false,false,false,false,false,false] rfl rfl (by kernel_rfl) (fun _ _ _ h => h) (Or.inl ⟨by rfl, ?_⟩) hHeld ?_ ?_
  rotate_left
  · rintro w' ⟨s0, s1, s2, s3, s4, s5, s6, s7, s8, s9, s10, s11, s12, s13, s14, s15, s16, s17, s18⟩; go_simp; with_reducible rfl
  rotate_left
  · simp only [Act.put, setIfInBounds_toArray, set_cons_zero, set_cons_succ, i64_w, i32_w]; rfl
  refine take_ (i := 1) (N := some 146) (v := ?_) (a' := ?_) #[true,true,false,false,false,false,false,false,false,false,false,false,false,false,false,false] rfl rfl (by kernel_rfl) (fun _ _ _ h => h) (Or.inl ⟨by rfl, ?_⟩) hHeld ?_ ?_
  rotate_left
  · rintro w' ⟨s0, s1, s2, s3, s4, s5, s6, s7, s8, s9, s10, s11, s12, s13, s14, s15, s16, s17, s18⟩; go_simp; with_reducible rfl
  rotate_left
  · simp only [Act.put, setIfInBounds_toArray, set_cons_zero, set_cons_succ, i64_w, i32_w]; rfl
  refine take_ (i := 2) (N := some 147) (v := ?_) (a' := ?_) #[true,true,true,false,false,false,false,false,false,false,false,false,false,false,false,false] rfl rfl (by kernel_rfl) (fun _ _ _ h => h) (Or.inl ⟨by rfl, ?_⟩) hHeld ?_ ?_
  rotate_left
  · rintro w' ⟨s0, s1, s2, s3, s4, s5, s6, s7, s8, s9, s10, s11, s12, s13, s14, s15, s16, s17, s18⟩; go_simp; with_reducible rfl
  rotate_left
  · simp only [Act.put, setIfInBounds_toArray, set_cons_zero, set_cons_succ, i64_w, i32_w]; rfl
  refine pure_ (i := 3) (N := some 148) (v := ?_) (a' := ?_) #[true,true,true,true,false,false,false,false,false,false,false,false,false,false,false,false] rfl rfl (by kernel_rfl) (fun _ _ _ h => h) (Or.inl ⟨by rfl, ?_⟩) ?_ ?_
  rotate_left
  · intro w'; go_simp; with_reducible rfl
  rotate_left
  · simp only [Act.put, setIfInBounds_toArray, set_cons_zero, set_cons_succ, i64_w, i32_w]; rfl
  refine pure_ (i := 4) (N := some 149) (v := ?_) (a' := ?_) #[true,true,true,true,true,false,false,false,false,false,false,false,false,false,false,false] rfl rfl (by kernel_rfl) (fun _ _ _ h => h) (Or.inl ⟨by rfl, ?_⟩) ?_ ?_
  rotate_left
  · intro w'; go_simp; with_reducible rfl
  rotate_left
  · simp only [Act.put, setIfInBounds_toArray, set_cons_zero, set_cons_succ, i64_w, i32_w]; rfl
  refine pure_ (i := 5) (N := some 150) (v := ?_) (a' := ?_) #[true,true,true,true,true,true,false,false,false,false,false,false,false,false,false,false] rfl rfl (by kernel_rfl) (fun _ _ _ h => h) (Or.inl ⟨by rfl, ?_⟩) ?_ ?_
  rotate_left
  · intro w'; go_simp; with_reducible rfl
  rotate_left
  · simp only [Act.put, setIfInBounds_toArray, set_cons_zero, set_cons_succ, i64_w, i32_w]; rfl
  refine pure_ (i := 6) (N := some 151) (v := ?_) (a' := ?_) #[true,true,true,true,true,true,true,false,false,false,false,false,false,false,false,false] rfl rfl (by kernel_rfl) (fun _ _ _ h => h) (Or.inl ⟨by rfl, ?_⟩) ?_ ?_
  rotate_left
  · intro w'; go_simp; with_reducible rfl
  rotate_left
  · simp only [Act.put, setIfInBounds_toArray, set_cons_zero, set_cons_succ, i64_w, i32_w]; rfl
  refine pure_ (i := 7) (N := some 152) (v := ?_) (a' := ?_) #[true,true,true,true,true,true,true,true,false,false,false,false,false,false,false,false] rfl rfl (by kernel_rfl) (fun _ _ _ h => h) (Or.inl ⟨by rfl, ?_⟩) ?_ ?_
  rotate_left
  · intro w'; go_simp; with_reducible rfl
  rotate_left
  · simp only [Act.put, setIfInBounds_toArray, set_cons_zero, set_cons_succ, i64_w, i32_w]; rfl
  refine pure_ (i := 8) (N := some 153) (v := ?_) (a' := ?_) #[true,true,true,true,true,true,true,true,true,false,false,false,false,false,false,false] rfl rfl (by kernel_rfl) (fun _ _ _ h => h) (Or.inl ⟨by rfl, ?_⟩) ?_ ?_
  rotate_left
  · intro w'; go_simp; with_reducible rfl
  rotate_left
  · simp only [Act.put, setIfInBounds_toArray, set_cons_zero, set_cons_succ, i64_w, i32_w]; rfl
  refine pure_ (i := 9) (N := some 154) (v := ?_) (a' := ?_) #[true,true,true,true,true,true,true,true,true,true,false,false,false,false,false,false] rfl rfl (by kernel_rfl) (fun _ _ _ h => h) (Or.inl ⟨by rfl, ?_⟩) ?_ ?_
  rotate_left
  · intro w'; go_simp; with_reducible rfl
  rotate_left
  · simp only [Act.put, setIfInBounds_toArray, set_cons_zero, set_cons_succ, i64_w, i32_w]; rfl
  refine pure_ (i := 10) (N := some 155) (v := ?_) (a' := ?_) #[true,true,true,true,true,true,true,true,true,true,true,false,false,false,false,false] rfl rfl (by kernel_rfl) (fun _ _ _ h => h) (Or.inl ⟨by rfl, ?_⟩) ?_ ?_
  rotate_left
  · intro w'; go_simp; with_reducible rfl
  rotate_left
  · simp only [Act.put, setIfInBounds_toArray, set_cons_zero, set_cons_succ, i64_w, i32_w]; rfl
  refine pure_ (i := 11) (N := some 156) (v := ?_) (a' := ?_) #[true,true,true,true,true,true,true,true,true,true,true,true,false,false,false,false] rfl rfl (by kernel_rfl) (fun _ _ _ h => h) (Or.inl ⟨by rfl, ?_⟩) ?_ ?_
  rotate_left
  · intro w'; go_simp; with_reducible rfl
  rotate_left
  · simp only [Act.put, setIfInBounds_toArray, set_cons_zero, set_cons_succ, i64_w, i32_w]; rfl
  refine pure_ (i := 12) (N := some 157) (v := ?_) (a' := ?_) #[true,true,true,true,true,true,true,true,true,true,true,true,true,false,false,false] rfl rfl (by kernel_rfl) (fun _ _ _ h => h) (Or.inl ⟨by rfl, ?_⟩) ?_ ?_
  rotate_left
  · intro w'; go_simp; with_reducible rfl
  rotate_left
  · simp only [Act.put, setIfInBounds_toArray, set_cons_zero, set_cons_succ, i64_w, i32_w]; rfl
  refine pure_ (i := 13) (N := some 158) (v := ?_) (a' := ?_) #[true,true,true,true,true,true,true,true,true,true,true,true,true,true,false,false] rfl rfl (by kernel_rfl) (fun _ _ _ h => h) (Or.inl ⟨by rfl, ?_⟩) ?_ ?_
  rotate_left
  · intro w'; go_simp; with_reducible rfl
  rotate_left
  · simp only [Act.put, setIfInBounds_toArray, set_cons_zero, set_cons_succ, i64_w, i32_w]; rfl
  refine last_ (i := 14) (N := none) #[true,true,true,true,true,true,true,true,true,true,true,true,true,true,true,false] rfl rfl (by kernel_rfl) (by decide) (fun K hK => ?_)
  obtain ⟨ra0, ra1, ra2, ra3, ra4, ra5, ra6, ra7, ra8, ra9, ra10, ra11, ra12⟩ := cells13 hR9 rfl
  obtain ⟨ga0, ga1, ga2, ga3, ga4, ga5, ga6, ga7, ga8, ga9, ga10, ga11, ga12⟩ := froz13 hR9
  have hRl := lt_blk hR9
  refine skip_ (w1 := ?_) (by rfl) rfl ?_ ?_
  rotate_left
  · go_simp
    first | with_reducible rfl | rfl
  refine hK.out _ _ ?_
  clear hK K
  refine pure_ (i := 15) (N := some 5) (v := ?_) (a' := ?_) #[true,true,true,true,true,true,true,true,true,true,true,true,true,true,true,true] rfl rfl (by kernel_rfl) (fun _ _ _ h => h) (Or.inl ⟨by rfl, ?_⟩) ?_ ?_
  rotate_left
  · intro w'; go_simp; with_reducible rfl
  rotate_left
  · simp only [Act.put, setIfInBounds_toArray, set_cons_zero, set_cons_succ, i64_w, i32_w]; rfl
  refine done_ (by kernel_rfl) ?_
  go_wp2
  refine bodyPost_ret (v := .tuple #[.agg #[.pointer (some ⟨bo, 0, none⟩), .pointer (some ⟨bm, 0, none⟩), .slice Ao ro.l.length co, .bool ro.has, .int .i64 ro.nx.s, .int .i64 ro.nx.g, .int .u64 ro.nx.t, .slice A2 r2.l.length c2, .bool r2.has, .int .i64 r2.nx.s, .int .i64 r2.nx.g, .int .u64 r2.nx.t, .int .i64 1], .bool true]) (by simp [results, Try.results28, go_sem, ra0, ra1, ra2, ra3, ra4, ra5, ra6, ra7, ra8, ra9, ra10, ra11, ra12, hRl]) rfl ?_
  refine calls_done1 HQ9.out HKW9.out hR9 (by omega) (by omega) (.inr rfl) (by omega) ?_
  exact (by repeat (first | (with_reducible exact Keep.refl _ _) | (with_reducible refine Keep.drewN ?_ _) | (with_reducible refine Keep.drew ?_) | (with_reducible refine Keep.setCell ?_ _ _ (by first | (right; with_reducible rfl) | (left; simp; done) | (left; simp; omega) | (right; simp; done) | (right; assumption))) | (with_reducible refine Keep.alloc ?_ _)))
set_option maxRecDepth 100000 in
set_option maxHeartbeats 8000000 in
theorem calls_drain0 (base bm bo : Nat) (Am : Option Addr) (cm : Nat) (Ao : Option Addr) (co : Nat) (rm ro : Rg) (x : Wt) (w : World) (h : PQ w base bm bo Am cm Ao co rm ro rm ro) :
    Calls Try.prog 28 #[.agg #[.pointer (some ⟨bm, 0, none⟩), .pointer (some ⟨bo, 0, none⟩), .slice Am rm.l.length cm, .bool rm.has, .int .i64 rm.nx.s, .int .i64 rm.nx.g, .int .u64 rm.nx.t, .slice Ao ro.l.length co, .bool ro.has, .int .i64 ro.nx.s, .int .i64 ro.nx.g, .int .u64 ro.nx.t, .int .i64 0], .agg #[.int .i64 4, .int .i64 x.s, .int .i64 x.g, .int .u64 x.t]] w (CallsP0 base bm bo w) := by
  have hbm := h.im.lt
  have hbo := h.io.lt
  have hlm := h.im.len
  have hlo := h.io.len
  obtain ⟨W, hWe⟩ : ∃ W, W = ((((w.alloc (.cells #[.pointer (some ⟨bm, 0, none⟩), .pointer (some ⟨bo, 0, none⟩), .slice Am rm.l.length cm, .bool rm.has, .int .i64 rm.nx.s, .int .i64 rm.nx.g, .int .u64 rm.nx.t, .slice Ao ro.l.length co, .bool ro.has, .int .i64 ro.nx.s, .int .i64 ro.nx.g, .int .u64 ro.nx.t, .int .i64 0] 55)).alloc (.cells #[.int .i64 4, .int .i64 x.s, .int .i64 x.g, .int .u64 x.t] 65)).alloc (.cells #[.pointer none, .pointer none, .slice none 0 0, .bool false, .int .i64 0, .int .i64 0, .int .u64 0, .slice none 0 0, .bool false, .int .i64 0, .int .i64 0, .int .u64 0, .int .i64 0] 55)).alloc (.cells #[.slice Am rm.l.length cm, .bool rm.has, .int .i64 rm.nx.s, .int .i64 rm.nx.g, .int .u64 rm.nx.t] 29)) := ⟨_, rfl⟩
  obtain ⟨hW, hP, hO, hR, hS⟩ := chain4 hWe
  have hWe := Aside0.mk hWe
  have hP := Aside0.mk hP
  have hO := Aside0.mk hO
  have hR := Aside0.mk hR
  have hS := Aside0.mk hS
  have HQ := Aside0.mk (h.below hW)
  have HZ := Aside0.mk h.zm
  obtain ⟨L, hL⟩ : ∃ L, L = drainOut rm := ⟨_, rfl⟩
  have hLl : L.length ≤ 1000 := by rw [hL]; exact drainOut_le hlm
  have hz2 := drain_new h.zm
  have HL := Aside0.mk hL
  have HZ2 := Aside0.mk hz2
  clear hL hz2 h
  go_enter Try.func28, Try.ntmps28
  go_wp2_with fail
  rw [← hWe.out]
  clear hWe
  have hdr := drain_any bm rm W HQ.out.im
  rw [HZ2.out, ← HL.out] at hdr
  refine hdr.mono ?_
  clear hdr
  rintro e w2 ⟨v, rfl, hv, hI1, hK1⟩
  obtain ⟨Av, cv, rfl, hcv, -⟩ := Kd.R_reads hv
  have hQ1 := HQ.out.ringm hK1 hI1
  have HQ2 := Aside0.mk (hQ1.listm (A' := none) (c' := 0) (s' := Rg.new) (Kd.R_nil _ _ _ _ _) zr_new)
  have HO2 := Aside0.mk hQ1.qm
  have HV2 := Aside0.mk hv
  have hP2 := blk_keep hP.out hK1 (show ¬ w.heap.size = bm by omega)
  have hR2' := Aside0.mk (blk_keep hR.out hK1 (show ¬ w.heap.size + 1 + 1 = bm by omega))
  have hS2 := Aside0.mk (blk_keep hS.out hK1 (show ¬ w.heap.size + 1 + 1 + 1 = bm by omega))
  have HKW2 : Aside0 (Keep (fun i => i = bm ∨ i = bo) w w2) := ⟨(Keep.of_below hW).trans' (hK1.mono (fun _ _ h => .inl h)) (fun _ _ h => h)⟩
  clear hv hQ1 hI1 hK1 HQ hP hO hR hS hW
  obtain ⟨p0, p1, p2, p3, p4, p5, p6, p7, p8, p9, p10, p11, p12⟩ := cells13 hP2 rfl
  obtain ⟨f0, f1, f2, f3, f4, f5, f6, f7, f8, f9, f10, f11, f12⟩ := froz13 hP2
  have hPl := lt_blk hP2
  have hP2 := Aside0.mk hP2
  go_wp2_with fail
  have hbmP : bm ≠ w.heap.size := by omega
  have hboP : bo ≠ w.heap.size := by omega
  obtain ⟨C8, hC8⟩ : ∃ C8, C8 = (((((w2.setCell ⟨w.heap.size, 2, none⟩ (.slice none 0 0)).setCell ⟨w.heap.size, 3, none⟩ (.bool false)).setCell ⟨w.heap.size, 4, none⟩ (.int .i64 0)).setCell ⟨w.heap.size, 5, none⟩ (.int .i64 0)).setCell ⟨w.heap.size, 6, none⟩ (.int .u64 0)) := ⟨_, rfl⟩
  obtain ⟨W8, hW8⟩ : ∃ W8, W8 = C8 := ⟨_, rfl⟩
  have hK8 : Keep (fun i => i = w.heap.size) w2 C8 := by rw [hC8]; exact (by repeat (first | (with_reducible exact Keep.refl _ _) | (with_reducible refine Keep.drewN ?_ _) | (with_reducible refine Keep.drew ?_) | (with_reducible refine Keep.setCell ?_ _ _ (by first | (right; with_reducible rfl) | (left; simp; done) | (left; simp; omega) | (right; simp; done) | (right; assumption))) | (with_reducible refine Keep.alloc ?_ _)))
  have hA8 : Below C8.heap.size C8 W8 := by rw [hW8]; exact (by repeat (first | (with_reducible exact Below.refl _ _) | (with_reducible refine Below.drew ?_) | (with_reducible refine below_drewN ?_ _) | (with_reducible refine below_al ?_ _) | (with_reducible refine Below.alloc ?_ (by first | exact Nat.le_refl _ | omega | (simp; done) | (simp; omega)) _) | (with_reducible refine Below.setCell ?_ (by first | (simp only []; omega) | (simp; done) | (simp; omega)) _)))
  have hP8 : W8.heap[w.heap.size]? = some (.cells #[.pointer (some ⟨bm, 0, none⟩), .pointer (some ⟨bo, 0, none⟩), .slice none 0 0, .bool false, .int .i64 0, .int .i64 0, .int .u64 0, .slice Ao ro.l.length co, .bool ro.has, .int .i64 ro.nx.s, .int .i64 ro.nx.g, .int .u64 ro.nx.t, .int .i64 0] 55 (0, 0)) := by rw [hW8, hC8]; exact blk_set (blk_set (blk_set (blk_set (blk_set (hP2.out)))))
  have hR8 := blk_below (blk_keep hR2'.out hK8 (show ¬ w.heap.size + 1 + 1 = w.heap.size by omega)) hA8
  have HQ8 := Aside0.mk ((HQ2.out.store hP2.out (by decide) hbmP hboP hK8).below hA8)
  have HKW8 := Aside0.mk ((HKW2.out.trans' hK8 (fun i hi e => by omega)).trans' (Keep.of_below hA8) (G := fun _ => False) (fun _ _ h => h.elim))
  have HV8 := Aside0.mk (Kd.R_below (R_keepT HV2.out hP2.out (by decide) hK8) hA8)
  have HO8 := Aside0.mk (Kd.R_below (R_keepT HO2.out hP2.out (by decide) hK8) hA8)
  have hS8 : W8.heap[w.heap.size + 1 + 1 + 1]? = some (.cells #[.slice Am rm.l.length cm, .bool rm.has, .int .i64 rm.nx.s, .int .i64 rm.nx.g, .int .u64 rm.nx.t] 29 (0, 0)) := blk_below (blk_keep hS2.out hK8 (show ¬ w.heap.size + 1 + 1 + 1 = w.heap.size by omega)) hA8
  clear hS2
  clear hK8 hA8 p0 p1 p2 p3 p4 p5 p6 p7 p8 p9 p10 p11 p12 f0 f1 f2 f3 f4 f5 f6 f7 f8 f9 f10 f11 f12 hPl hP2 hR2' HQ2 HKW2 HV2 HO2
  rw [← hC8]
  subst hW8
  clear hC8
  obtain ⟨q0, q1, q2, q3, q4, q5, q6, q7, q8, q9, q10, q11, q12⟩ := cells13 hP8 rfl
  have hP8 := Aside0.mk hP8
  have hR8 := Aside0.mk hR8
  have hBd : Below W8.heap.size W8 W8.drew := (Below.refl _ _).drew
  obtain ⟨s0, s1, s2, s3, s4, -, -, -, -, -⟩ := blk5 hS8
  have hS8 := Aside0.mk hS8
  have hdd := rdrain_any Am cm rm W8.drew (Kd.R_reads' (Kd.R_below HO8.out hBd)).2.2 (Kd.R_reads' HO8.out).2.1 hlm
  rw [← HL.out] at hdd
  have HDD := Aside0.mk hdd
  clear hdd
  refine start_ (n := 7) (S := fun w' => w'.cell? ⟨w.heap.size, 0, none⟩ = some (.pointer (some ⟨bm, 0, none⟩)) ∧ w'.cell? ⟨w.heap.size, 1, none⟩ = some (.pointer (some ⟨bo, 0, none⟩)) ∧ w'.cell? ⟨w.heap.size, 2, none⟩ = some (.slice none 0 0) ∧ w'.cell? ⟨w.heap.size, 3, none⟩ = some (.bool false) ∧ w'.cell? ⟨w.heap.size, 4, none⟩ = some (.int .i64 0) ∧ w'.cell? ⟨w.heap.size, 5, none⟩ = some (.int .i64 0) ∧ w'.cell? ⟨w.heap.size, 6, none⟩ = some (.int .u64 0) ∧ w'.cell? ⟨w.heap.size, 7, none⟩ = some (.slice Ao ro.l.length co) ∧ w'.cell? ⟨w.heap.size, 8, none⟩ = some (.bool ro.has) ∧ w'.cell? ⟨w.heap.size, 9, none⟩ = some (.int .i64 ro.nx.s) ∧ w'.cell? ⟨w.heap.size, 10, none⟩ = some (.int .i64 ro.nx.g) ∧ w'.cell? ⟨w.heap.size, 11, none⟩ = some (.int .u64 ro.nx.t) ∧ w'.cell? ⟨w.heap.size, 12, none⟩ = some (.int .i64 0) ∧ w'.cell? ⟨w.heap.size + 1 + 1 + 1, 0, none⟩ = some (.slice Am rm.l.length cm) ∧ w'.cell? ⟨w.heap.size + 1 + 1 + 1, 1, none⟩ = some (.bool rm.has) ∧ w'.cell? ⟨w.heap.size + 1 + 1 + 1, 2, none⟩ = some (.int .i64 rm.nx.s) ∧ w'.cell? ⟨w.heap.size + 1 + 1 + 1, 3, none⟩ = some (.int .i64 rm.nx.g) ∧ w'.cell? ⟨w.heap.size + 1 + 1 + 1, 4, none⟩ = some (.int .u64 rm.nx.t)) (ds := [5]) #[false,false,false,false,false,false,false] (by kernel_rfl) rfl rfl ⟨q0, q1, q2, q3, q4, q5, q6, q7, q8, q9, q10, q11, q12, s0, s1, s2, s3, s4⟩ (fun hHeld => ?_)
  refine pure_ (i := 1) (N := some 169) (v := ?_) (a' := ?_) #[false,true,false,false,false,false,false] rfl rfl (by kernel_rfl) (fun _ _ _ h => h) (Or.inl ⟨by rfl, ?_⟩) ?_ ?_
  rotate_left
  · intro w'; go_simp; with_reducible rfl
  rotate_left
  · simp only [Act.put, setIfInBounds_toArray, set_cons_zero, set_cons_succ, i64_w, i32_w]; rfl
  refine take_ (i := 0) (N := some 168) (v := ?_) (a' := ?_) #[true,true,false,false,false,false,false] rfl rfl (by kernel_rfl) (fun _ _ _ h => h) (Or.inl ⟨by rfl, ?_⟩) hHeld ?_ ?_
  rotate_left
  · rintro w' ⟨s0, s1, s2, s3, s4, s5, s6, s7, s8, s9, s10, s11, s12, s13, s14, s15, s16, s17⟩; go_simp; with_reducible rfl
  rotate_left
  · simp only [Act.put, setIfInBounds_toArray, set_cons_zero, set_cons_succ, i64_w, i32_w]; rfl
  refine take_ (i := 2) (N := some 170) (v := ?_) (a' := ?_) #[true,true,true,false,false,false,false] rfl rfl (by kernel_rfl) (fun _ _ _ h => h) (Or.inl ⟨by rfl, ?_⟩) hHeld ?_ ?_
  rotate_left
  · rintro w' ⟨s0, s1, s2, s3, s4, s5, s6, s7, s8, s9, s10, s11, s12, s13, s14, s15, s16, s17⟩; go_simp; with_reducible rfl
  rotate_left
  · simp only [Act.put, setIfInBounds_toArray, set_cons_zero, set_cons_succ, i64_w, i32_w]; rfl
  refine one_ (i := 3) (N := some 171) #[true,true,true,true,false,false,false] rfl rfl (by kernel_rfl) (by decide) (fun K hK => ?_)
  refine goes_ Try.func34 (by kernel_rfl) rfl #[.agg #[.slice Am rm.l.length cm, .bool rm.has, .int .i64 rm.nx.s, .int .i64 rm.nx.g, .int .u64 rm.nx.t]] (by rfl) rfl rfl (by simp only [List.map_toArray, List.map_cons, List.map_nil]; rfl) ?_
  with_reducible refine (HDD.out).mono ?_
  rintro e wa ⟨v, rfl, hv, hB9⟩
  refine ⟨_, rfl, ?_⟩
  obtain ⟨A3, c3, rfl, hc3, -⟩ := Kd.R_reads hv
  have hBa := below_then hBd hB9
  have HVa := Aside0.mk (Kd.R_below HV8.out hBa)
  have HOa := Aside0.mk hv
  have hPa := blk_below hP8.out hBa
  obtain ⟨z0, z1, z2, z3, z4, z5, z6, z7, z8, z9, z10, z11, z12⟩ := cells13 hPa rfl
  have hSa := blk_below hS8.out hBa
  obtain ⟨t0, t1, t2, t3, t4, -, -, -, -, -⟩ := blk5 hSa
  clear hv hB9
  have hPa := Aside0.mk hPa
  have hSa := Aside0.mk hSa
  refine hK.out _ _ ⟨z0, z1, z2, z3, z4, z5, z6, z7, z8, z9, z10, z11, z12, t0, t1, t2, t3, t4⟩ (fun hHeld => ?_)
  clear hK K
  refine norm_ (a' := ?_) ?_ ?_
  rotate_left
  · show Act.put _ (some 171) _ = _; simp only [Act.put, setIfInBounds_toArray, set_cons_zero, set_cons_succ, i64_w, i32_w]; rfl
  refine one_ (i := 4) (N := some 172) #[true,true,true,true,true,false,false] rfl rfl (by kernel_rfl) (by decide) (fun K hK => ?_)
  refine goes_ Try.func23 (by kernel_rfl) rfl #[.slice Av L.length cv, .slice A3 L.length c3] (by rfl) rfl rfl (by simp only [List.map_toArray, List.map_cons, List.map_nil]; rfl) ?_
  with_reducible refine (sameList_eq (Kd.R_reads' HVa.out).2.2 hcv (Kd.R_reads' HOa.out).2.2 hc3 hLl).mono ?_
  rintro e w9 ⟨rfl, hB9⟩
  refine ⟨_, rfl, ?_⟩
  have hB9t := below_then hBa hB9
  have hP9 := blk_below hP8.out hB9t
  obtain ⟨z0, z1, z2, z3, z4, z5, z6, z7, z8, z9, z10, z11, z12⟩ := cells13 hP9 rfl
  have hR9 := blk_below hR8.out hB9t
  have HQ9 := Aside0.mk (HQ8.out.below hB9t)
  have HKW9 := Aside0.mk (HKW8.out.trans' (Keep.of_below hB9t) (G := fun _ => False) (fun _ _ h => h.elim))
  have hS9 := blk_below hSa.out hB9
  obtain ⟨u0, u1, u2, u3, u4, -, -, -, -, -⟩ := blk5 hS9
  refine hK.out _ _ ⟨z0, z1, z2, z3, z4, z5, z6, z7, z8, z9, z10, z11, z12, u0, u1, u2, u3, u4⟩ (fun hHeld => ?_)
  clear hK K
  refine norm_ (a' := ?_) ?_ ?_
  rotate_left
  · show Act.put _ (some 172) _ = _; simp only [Act.put, setIfInBounds_toArray, set_cons_zero, set_cons_succ, i64_w, i32_w]; rfl
  refine last_ (i := 5) (N := none) #[true,true,true,true,true,true,false] rfl rfl (by kernel_rfl) (by decide) (fun K hK => ?_)
  obtain ⟨ra0, ra1, ra2, ra3, ra4, ra5, ra6, ra7, ra8, ra9, ra10, ra11, ra12⟩ := cells13 hR9 rfl
  obtain ⟨ga0, ga1, ga2, ga3, ga4, ga5, ga6, ga7, ga8, ga9, ga10, ga11, ga12⟩ := froz13 hR9
  have hRl := lt_blk hR9
  refine skip_ (w1 := ?_) (by rfl) rfl ?_ ?_
  rotate_left
  · go_simp
    first | with_reducible rfl | rfl
  refine hK.out _ _ ?_
  clear hK K
  refine pure_ (i := 6) (N := some 5) (v := ?_) (a' := ?_) #[true,true,true,true,true,true,true] rfl rfl (by kernel_rfl) (fun _ _ _ h => h) (Or.inl ⟨by rfl, ?_⟩) ?_ ?_
  rotate_left
  · intro w'; go_simp; with_reducible rfl
  rotate_left
  · simp only [Act.put, setIfInBounds_toArray, set_cons_zero, set_cons_succ, i64_w, i32_w]; rfl
  refine done_ (by kernel_rfl) ?_
  go_wp2
  refine bodyPost_ret (v := .tuple #[.agg #[.pointer (some ⟨bm, 0, none⟩), .pointer (some ⟨bo, 0, none⟩), .slice none 0 0, .bool false, .int .i64 0, .int .i64 0, .int .u64 0, .slice Ao ro.l.length co, .bool ro.has, .int .i64 ro.nx.s, .int .i64 ro.nx.g, .int .u64 ro.nx.t, .int .i64 0], .bool true]) (by simp [results, Try.results28, go_sem, ra0, ra1, ra2, ra3, ra4, ra5, ra6, ra7, ra8, ra9, ra10, ra11, ra12, hRl]) rfl ?_
  refine calls_done0 HQ9.out HKW9.out hR9 (by omega) (by omega) (.inl rfl) (by omega) ?_
  exact (by repeat (first | (with_reducible exact Keep.refl _ _) | (with_reducible refine Keep.drewN ?_ _) | (with_reducible refine Keep.drew ?_) | (with_reducible refine Keep.setCell ?_ _ _ (by first | (right; with_reducible rfl) | (left; simp; done) | (left; simp; omega) | (right; simp; done) | (right; assumption))) | (with_reducible refine Keep.alloc ?_ _)))
set_option maxRecDepth 100000 in
set_option maxHeartbeats 8000000 in
theorem calls_drain1 (base bm bo : Nat) (Am : Option Addr) (cm : Nat) (Ao : Option Addr) (co : Nat) (rm ro : Rg) (x : Wt) (w : World) (h : PQ w base bm bo Am cm Ao co rm ro rm ro) :
    Calls Try.prog 28 #[.agg #[.pointer (some ⟨bo, 0, none⟩), .pointer (some ⟨bm, 0, none⟩), .slice Ao ro.l.length co, .bool ro.has, .int .i64 ro.nx.s, .int .i64 ro.nx.g, .int .u64 ro.nx.t, .slice Am rm.l.length cm, .bool rm.has, .int .i64 rm.nx.s, .int .i64 rm.nx.g, .int .u64 rm.nx.t, .int .i64 1], .agg #[.int .i64 4, .int .i64 x.s, .int .i64 x.g, .int .u64 x.t]] w (CallsP1 base bm bo w) := by
  have hbm := h.im.lt
  have hbo := h.io.lt
  have hlm := h.im.len
  have hlo := h.io.len
  obtain ⟨W, hWe⟩ : ∃ W, W = ((((w.alloc (.cells #[.pointer (some ⟨bo, 0, none⟩), .pointer (some ⟨bm, 0, none⟩), .slice Ao ro.l.length co, .bool ro.has, .int .i64 ro.nx.s, .int .i64 ro.nx.g, .int .u64 ro.nx.t, .slice Am rm.l.length cm, .bool rm.has, .int .i64 rm.nx.s, .int .i64 rm.nx.g, .int .u64 rm.nx.t, .int .i64 1] 55)).alloc (.cells #[.int .i64 4, .int .i64 x.s, .int .i64 x.g, .int .u64 x.t] 65)).alloc (.cells #[.pointer none, .pointer none, .slice none 0 0, .bool false, .int .i64 0, .int .i64 0, .int .u64 0, .slice none 0 0, .bool false, .int .i64 0, .int .i64 0, .int .u64 0, .int .i64 0] 55)).alloc (.cells #[.slice Am rm.l.length cm, .bool rm.has, .int .i64 rm.nx.s, .int .i64 rm.nx.g, .int .u64 rm.nx.t] 29)) := ⟨_, rfl⟩
  obtain ⟨hW, hP, hO, hR, hS⟩ := chain4 hWe
  have hWe := Aside0.mk hWe
  have hP := Aside0.mk hP
  have hO := Aside0.mk hO
  have hR := Aside0.mk hR
  have hS := Aside0.mk hS
  have HQ := Aside0.mk (h.below hW)
  have HZ := Aside0.mk h.zm
  obtain ⟨L, hL⟩ : ∃ L, L = drainOut rm := ⟨_, rfl⟩
  have hLl : L.length ≤ 1000 := by rw [hL]; exact drainOut_le hlm
  have hz2 := drain_new h.zm
  have HL := Aside0.mk hL
  have HZ2 := Aside0.mk hz2
  clear hL hz2 h
  go_enter Try.func28, Try.ntmps28
  go_wp2_with fail
  rw [← hWe.out]
  clear hWe
  have hdr := drain_any bm rm W HQ.out.im
  rw [HZ2.out, ← HL.out] at hdr
  refine hdr.mono ?_
  clear hdr
  rintro e w2 ⟨v, rfl, hv, hI1, hK1⟩
  obtain ⟨Av, cv, rfl, hcv, -⟩ := Kd.R_reads hv
  have hQ1 := HQ.out.ringm hK1 hI1
  have HQ2 := Aside0.mk (hQ1.listm (A' := none) (c' := 0) (s' := Rg.new) (Kd.R_nil _ _ _ _ _) zr_new)
  have HO2 := Aside0.mk hQ1.qm
  have HV2 := Aside0.mk hv
  have hP2 := blk_keep hP.out hK1 (show ¬ w.heap.size = bm by omega)
  have hR2' := Aside0.mk (blk_keep hR.out hK1 (show ¬ w.heap.size + 1 + 1 = bm by omega))
  have hS2 := Aside0.mk (blk_keep hS.out hK1 (show ¬ w.heap.size + 1 + 1 + 1 = bm by omega))
  have HKW2 : Aside0 (Keep (fun i => i = bm ∨ i = bo) w w2) := ⟨(Keep.of_below hW).trans' (hK1.mono (fun _ _ h => .inl h)) (fun _ _ h => h)⟩
  clear hv hQ1 hI1 hK1 HQ hP hO hR hS hW
  obtain ⟨p0, p1, p2, p3, p4, p5, p6, p7, p8, p9, p10, p11, p12⟩ := cells13 hP2 rfl
  obtain ⟨f0, f1, f2, f3, f4, f5, f6, f7, f8, f9, f10, f11, f12⟩ := froz13 hP2
  have hPl := lt_blk hP2
  have hP2 := Aside0.mk hP2
  go_wp2_with fail
  have hbmP : bm ≠ w.heap.size := by omega
  have hboP : bo ≠ w.heap.size := by omega
  obtain ⟨C8, hC8⟩ : ∃ C8, C8 = (((((w2.setCell ⟨w.heap.size, 7, none⟩ (.slice none 0 0)).setCell ⟨w.heap.size, 8, none⟩ (.bool false)).setCell ⟨w.heap.size, 9, none⟩ (.int .i64 0)).setCell ⟨w.heap.size, 10, none⟩ (.int .i64 0)).setCell ⟨w.heap.size, 11, none⟩ (.int .u64 0)) := ⟨_, rfl⟩
  obtain ⟨W8, hW8⟩ : ∃ W8, W8 = C8 := ⟨_, rfl⟩
  have hK8 : Keep (fun i => i = w.heap.size) w2 C8 := by rw [hC8]; exact (by repeat (first | (with_reducible exact Keep.refl _ _) | (with_reducible refine Keep.drewN ?_ _) | (with_reducible refine Keep.drew ?_) | (with_reducible refine Keep.setCell ?_ _ _ (by first | (right; with_reducible rfl) | (left; simp; done) | (left; simp; omega) | (right; simp; done) | (right; assumption))) | (with_reducible refine Keep.alloc ?_ _)))
  have hA8 : Below C8.heap.size C8 W8 := by rw [hW8]; exact (by repeat (first | (with_reducible exact Below.refl _ _) | (with_reducible refine Below.drew ?_) | (with_reducible refine below_drewN ?_ _) | (with_reducible refine below_al ?_ _) | (with_reducible refine Below.alloc ?_ (by first | exact Nat.le_refl _ | omega | (simp; done) | (simp; omega)) _) | (with_reducible refine Below.setCell ?_ (by first | (simp only []; omega) | (simp; done) | (simp; omega)) _)))
  have hP8 : W8.heap[w.heap.size]? = some (.cells #[.pointer (some ⟨bo, 0, none⟩), .pointer (some ⟨bm, 0, none⟩), .slice Ao ro.l.length co, .bool ro.has, .int .i64 ro.nx.s, .int .i64 ro.nx.g, .int .u64 ro.nx.t, .slice none 0 0, .bool false, .int .i64 0, .int .i64 0, .int .u64 0, .int .i64 1] 55 (0, 0)) := by rw [hW8, hC8]; exact blk_set (blk_set (blk_set (blk_set (blk_set (hP2.out)))))
  have hR8 := blk_below (blk_keep hR2'.out hK8 (show ¬ w.heap.size + 1 + 1 = w.heap.size by omega)) hA8
  have HQ8 := Aside0.mk ((HQ2.out.store hP2.out (by decide) hbmP hboP hK8).below hA8)
  have HKW8 := Aside0.mk ((HKW2.out.trans' hK8 (fun i hi e => by omega)).trans' (Keep.of_below hA8) (G := fun _ => False) (fun _ _ h => h.elim))
  have HV8 := Aside0.mk (Kd.R_below (R_keepT HV2.out hP2.out (by decide) hK8) hA8)
  have HO8 := Aside0.mk (Kd.R_below (R_keepT HO2.out hP2.out (by decide) hK8) hA8)
  have hS8 : W8.heap[w.heap.size + 1 + 1 + 1]? = some (.cells #[.slice Am rm.l.length cm, .bool rm.has, .int .i64 rm.nx.s, .int .i64 rm.nx.g, .int .u64 rm.nx.t] 29 (0, 0)) := blk_below (blk_keep hS2.out hK8 (show ¬ w.heap.size + 1 + 1 + 1 = w.heap.size by omega)) hA8
  clear hS2
  clear hK8 hA8 p0 p1 p2 p3 p4 p5 p6 p7 p8 p9 p10 p11 p12 f0 f1 f2 f3 f4 f5 f6 f7 f8 f9 f10 f11 f12 hPl hP2 hR2' HQ2 HKW2 HV2 HO2
  rw [← hC8]
  subst hW8
  clear hC8
  obtain ⟨q0, q1, q2, q3, q4, q5, q6, q7, q8, q9, q10, q11, q12⟩ := cells13 hP8 rfl
  have hP8 := Aside0.mk hP8
  have hR8 := Aside0.mk hR8
  have hBd : Below W8.heap.size W8 W8.drew := (Below.refl _ _).drew
  obtain ⟨s0, s1, s2, s3, s4, -, -, -, -, -⟩ := blk5 hS8
  have hS8 := Aside0.mk hS8
  have hdd := rdrain_any Am cm rm W8.drew (Kd.R_reads' (Kd.R_below HO8.out hBd)).2.2 (Kd.R_reads' HO8.out).2.1 hlm
  rw [← HL.out] at hdd
  have HDD := Aside0.mk hdd
  clear hdd
  refine start_ (n := 7) (S := fun w' => w'.cell? ⟨w.heap.size, 0, none⟩ = some (.pointer (some ⟨bo, 0, none⟩)) ∧ w'.cell? ⟨w.heap.size, 1, none⟩ = some (.pointer (some ⟨bm, 0, none⟩)) ∧ w'.cell? ⟨w.heap.size, 2, none⟩ = some (.slice Ao ro.l.length co) ∧ w'.cell? ⟨w.heap.size, 3, none⟩ = some (.bool ro.has) ∧ w'.cell? ⟨w.heap.size, 4, none⟩ = some (.int .i64 ro.nx.s) ∧ w'.cell? ⟨w.heap.size, 5, none⟩ = some (.int .i64 ro.nx.g) ∧ w'.cell? ⟨w.heap.size, 6, none⟩ = some (.int .u64 ro.nx.t) ∧ w'.cell? ⟨w.heap.size, 7, none⟩ = some (.slice none 0 0) ∧ w'.cell? ⟨w.heap.size, 8, none⟩ = some (.bool false) ∧ w'.cell? ⟨w.heap.size, 9, none⟩ = some (.int .i64 0) ∧ w'.cell? ⟨w.heap.size, 10, none⟩ = some (.int .i64 0) ∧ w'.cell? ⟨w.heap.size, 11, none⟩ = some (.int .u64 0) ∧ w'.cell? ⟨w.heap.size, 12, none⟩ = some (.int .i64 1) ∧ w'.cell? ⟨w.heap.size + 1 + 1 + 1, 0, none⟩ = some (.slice Am rm.l.length cm) ∧ w'.cell? ⟨w.heap.size + 1 + 1 + 1, 1, none⟩ = some (.bool rm.has) ∧ w'.cell? ⟨w.heap.size + 1 + 1 + 1, 2, none⟩ = some (.int .i64 rm.nx.s) ∧ w'.cell? ⟨w.heap.size + 1 + 1 + 1, 3, none⟩ = some (.int .i64 rm.nx.g) ∧ w'.cell? ⟨w.heap.size + 1 + 1 + 1, 4, none⟩ = some (.int .u64 rm.nx.t)) (ds := [5]) #[false,false,false,false,false,false,false] (by kernel_rfl) rfl rfl ⟨q0, q1, q2, q3, q4, q5, q6, q7, q8, q9, q10, q11, q12, s0, s1, s2, s3, s4⟩ (fun hHeld => ?_)
  refine pure_ (i := 1) (N := some 169) (v := ?_) (a' := ?_) #[false,true,false,false,false,false,false] rfl rfl (by kernel_rfl) (fun _ _ _ h => h) (Or.inl ⟨by rfl, ?_⟩) ?_ ?_
  rotate_left
  · intro w'; go_simp; with_reducible rfl
  rotate_left
  · simp only [Act.put, setIfInBounds_toArray, set_cons_zero, set_cons_succ, i64_w, i32_w]; rfl
  refine take_ (i := 0) (N := some 168) (v := ?_) (a' := ?_) #[true,true,false,false,false,false,false] rfl rfl (by kernel_rfl) (fun _ _ _ h => h) (Or.inl ⟨by rfl, ?_⟩) hHeld ?_ ?_
  rotate_left
  · rintro w' ⟨s0, s1, s2, s3, s4, s5, s6, s7, s8, s9, s10, s11, s12, s13, s14, s15, s16, s17⟩; go_simp; with_reducible rfl
  rotate_left
  · simp only [Act.put, setIfInBounds_toArray, set_cons_zero, set_cons_succ, i64_w, i32_w]; rfl
  refine take_ (i := 2) (N := some 170) (v := ?_) (a' := ?_) #[true,true,true,false,false,false,false] rfl rfl (by kernel_rfl) (fun _ _ _ h => h) (Or.inl ⟨by rfl, ?_⟩) hHeld ?_ ?_
  rotate_left
  · rintro w' ⟨s0, s1, s2, s3, s4, s5, s6, s7, s8, s9, s10, s11, s12, s13, s14, s15, s16, s17⟩; go_simp; with_reducible rfl
  rotate_left
  · simp only [Act.put, setIfInBounds_toArray, set_cons_zero, set_cons_succ, i64_w, i32_w]; rfl
  refine one_ (i := 3) (N := some 171) #[true,true,true,true,false,false,false] rfl rfl (by kernel_rfl) (by decide) (fun K hK => ?_)
  refine goes_ Try.func34 (by kernel_rfl) rfl #[.agg #[.slice Am rm.l.length cm, .bool rm.has, .int .i64 rm.nx.s, .int .i64 rm.nx.g, .int .u64 rm.nx.t]] (by rfl) rfl rfl (by simp only [List.map_toArray, List.map_cons, List.map_nil]; rfl) ?_
  with_reducible refine (HDD.out).mono ?_
  rintro e wa ⟨v, rfl, hv, hB9⟩
  refine ⟨_, rfl, ?_⟩
  obtain ⟨A3, c3, rfl, hc3, -⟩ := Kd.R_reads hv
  have hBa := below_then hBd hB9
  have HVa := Aside0.mk (Kd.R_below HV8.out hBa)
  have HOa := Aside0.mk hv
  have hPa := blk_below hP8.out hBa
  obtain ⟨z0, z1, z2, z3, z4, z5, z6, z7, z8, z9, z10, z11, z12⟩ := cells13 hPa rfl
  have hSa := blk_below hS8.out hBa
  obtain ⟨t0, t1, t2, t3, t4, -, -, -, -, -⟩ := blk5 hSa
  clear hv hB9
  have hPa := Aside0.mk hPa
  have hSa := Aside0.mk hSa
  refine hK.out _ _ ⟨z0, z1, z2, z3, z4, z5, z6, z7, z8, z9, z10, z11, z12, t0, t1, t2, t3, t4⟩ (fun hHeld => ?_)
  clear hK K
  refine norm_ (a' := ?_) ?_ ?_
  rotate_left
  · show Act.put _ (some 171) _ = _; simp only [Act.put, setIfInBounds_toArray, set_cons_zero, set_cons_succ, i64_w, i32_w]; rfl
  refine one_ (i := 4) (N := some 172) #[true,true,true,true,true,false,false] rfl rfl (by kernel_rfl) (by decide) (fun K hK => ?_)
  refine goes_ Try.func23 (by kernel_rfl) rfl #[.slice Av L.length cv, .slice A3 L.length c3] (by rfl) rfl rfl (by simp only [List.map_toArray, List.map_cons, List.map_nil]; rfl) ?_
  with_reducible refine (sameList_eq (Kd.R_reads' HVa.out).2.2 hcv (Kd.R_reads' HOa.out).2.2 hc3 hLl).mono ?_
  rintro e w9 ⟨rfl, hB9⟩
  refine ⟨_, rfl, ?_⟩
  have hB9t := below_then hBa hB9
  have hP9 := blk_below hP8.out hB9t
  obtain ⟨z0, z1, z2, z3, z4, z5, z6, z7, z8, z9, z10, z11, z12⟩ := cells13 hP9 rfl
  have hR9 := blk_below hR8.out hB9t
  have HQ9 := Aside0.mk (HQ8.out.below hB9t)
  have HKW9 := Aside0.mk (HKW8.out.trans' (Keep.of_below hB9t) (G := fun _ => False) (fun _ _ h => h.elim))
  have hS9 := blk_below hSa.out hB9
  obtain ⟨u0, u1, u2, u3, u4, -, -, -, -, -⟩ := blk5 hS9
  refine hK.out _ _ ⟨z0, z1, z2, z3, z4, z5, z6, z7, z8, z9, z10, z11, z12, u0, u1, u2, u3, u4⟩ (fun hHeld => ?_)
  clear hK K
  refine norm_ (a' := ?_) ?_ ?_
  rotate_left
  · show Act.put _ (some 172) _ = _; simp only [Act.put, setIfInBounds_toArray, set_cons_zero, set_cons_succ, i64_w, i32_w]; rfl
  refine last_ (i := 5) (N := none) #[true,true,true,true,true,true,false] rfl rfl (by kernel_rfl) (by decide) (fun K hK => ?_)
  obtain ⟨ra0, ra1, ra2, ra3, ra4, ra5, ra6, ra7, ra8, ra9, ra10, ra11, ra12⟩ := cells13 hR9 rfl
  obtain ⟨ga0, ga1, ga2, ga3, ga4, ga5, ga6, ga7, ga8, ga9, ga10, ga11, ga12⟩ := froz13 hR9
  have hRl := lt_blk hR9
  refine skip_ (w1 := ?_) (by rfl) rfl ?_ ?_
  rotate_left
  · go_simp
    first | with_reducible rfl | rfl
  refine hK.out _ _ ?_
  clear hK K
  refine pure_ (i := 6) (N := some 5) (v := ?_) (a' := ?_) #[true,true,true,true,true,true,true] rfl rfl (by kernel_rfl) (fun _ _ _ h => h) (Or.inl ⟨by rfl, ?_⟩) ?_ ?_
  rotate_left
  · intro w'; go_simp; with_reducible rfl
  rotate_left
  · simp only [Act.put, setIfInBounds_toArray, set_cons_zero, set_cons_succ, i64_w, i32_w]; rfl
  refine done_ (by kernel_rfl) ?_
  go_wp2
  refine bodyPost_ret (v := .tuple #[.agg #[.pointer (some ⟨bo, 0, none⟩), .pointer (some ⟨bm, 0, none⟩), .slice Ao ro.l.length co, .bool ro.has, .int .i64 ro.nx.s, .int .i64 ro.nx.g, .int .u64 ro.nx.t, .slice none 0 0, .bool false, .int .i64 0, .int .i64 0, .int .u64 0, .int .i64 1], .bool true]) (by simp [results, Try.results28, go_sem, ra0, ra1, ra2, ra3, ra4, ra5, ra6, ra7, ra8, ra9, ra10, ra11, ra12, hRl]) rfl ?_
  refine calls_done1 HQ9.out HKW9.out hR9 (by omega) (by omega) (.inr rfl) (by omega) ?_
  exact (by repeat (first | (with_reducible exact Keep.refl _ _) | (with_reducible refine Keep.drewN ?_ _) | (with_reducible refine Keep.drew ?_) | (with_reducible refine Keep.setCell ?_ _ _ (by first | (right; with_reducible rfl) | (left; simp; done) | (left; simp; omega) | (right; simp; done) | (right; assumption))) | (with_reducible refine Keep.alloc ?_ _)))
set_option maxRecDepth 100000 in
set_option maxHeartbeats 8000000 in
theorem calls_other0 (base bm bo : Nat) (Am : Option Addr) (cm : Nat) (Ao : Option Addr) (co : Nat) (rm ro : Rg) (x : Wt) (w : World) (h : PQ w base bm bo Am cm Ao co rm ro rm ro) :
    Calls Try.prog 28 #[.agg #[.pointer (some ⟨bm, 0, none⟩), .pointer (some ⟨bo, 0, none⟩), .slice Am rm.l.length cm, .bool rm.has, .int .i64 rm.nx.s, .int .i64 rm.nx.g, .int .u64 rm.nx.t, .slice Ao ro.l.length co, .bool ro.has, .int .i64 ro.nx.s, .int .i64 ro.nx.g, .int .u64 ro.nx.t, .int .i64 0], .agg #[.int .i64 6, .int .i64 x.s, .int .i64 x.g, .int .u64 x.t]] w (CallsP0 base bm bo w) := by
  have hbm := h.im.lt
  have hbo := h.io.lt
  have hlm := h.im.len
  have hlo := h.io.len
  have H := Aside0.mk h
  clear h
  go_enter Try.func28, Try.ntmps28
  go_wp2
  refine bodyPost_ret (v := .tuple #[.agg #[.pointer (some ⟨bm, 0, none⟩), .pointer (some ⟨bo, 0, none⟩), .slice Am rm.l.length cm, .bool rm.has, .int .i64 rm.nx.s, .int .i64 rm.nx.g, .int .u64 rm.nx.t, .slice Ao ro.l.length co, .bool ro.has, .int .i64 ro.nx.s, .int .i64 ro.nx.g, .int .u64 ro.nx.t, .int .i64 1], .bool true]) (by simp [results, Try.results28, go_sem]) rfl ?_
  exact ⟨Am, cm, Ao, co, rm, ro, 1, rfl, H.out.below (by repeat (first | (with_reducible exact Below.refl _ _) | (with_reducible refine Below.drew ?_) | (with_reducible refine below_drewN ?_ _) | (with_reducible refine below_al ?_ _) | (with_reducible refine Below.alloc ?_ (by first | exact Nat.le_refl _ | omega | (simp; done) | (simp; omega)) _) | (with_reducible refine Below.setCell ?_ (by first | (simp only []; omega) | (simp; done) | (simp; omega)) _))), .inr rfl, Keep.of_below (by repeat (first | (with_reducible exact Below.refl _ _) | (with_reducible refine Below.drew ?_) | (with_reducible refine below_drewN ?_ _) | (with_reducible refine below_al ?_ _) | (with_reducible refine Below.alloc ?_ (by first | exact Nat.le_refl _ | omega | (simp; done) | (simp; omega)) _) | (with_reducible refine Below.setCell ?_ (by first | (simp only []; omega) | (simp; done) | (simp; omega)) _)))⟩
set_option maxRecDepth 100000 in
set_option maxHeartbeats 8000000 in
theorem calls_other1 (base bm bo : Nat) (Am : Option Addr) (cm : Nat) (Ao : Option Addr) (co : Nat) (rm ro : Rg) (x : Wt) (w : World) (h : PQ w base bm bo Am cm Ao co rm ro rm ro) :
    Calls Try.prog 28 #[.agg #[.pointer (some ⟨bo, 0, none⟩), .pointer (some ⟨bm, 0, none⟩), .slice Ao ro.l.length co, .bool ro.has, .int .i64 ro.nx.s, .int .i64 ro.nx.g, .int .u64 ro.nx.t, .slice Am rm.l.length cm, .bool rm.has, .int .i64 rm.nx.s, .int .i64 rm.nx.g, .int .u64 rm.nx.t, .int .i64 1], .agg #[.int .i64 6, .int .i64 x.s, .int .i64 x.g, .int .u64 x.t]] w (CallsP1 base bm bo w) := by
  have hbm := h.im.lt
  have hbo := h.io.lt
  have hlm := h.im.len
  have hlo := h.io.len
  have H := Aside0.mk h
  clear h
  go_enter Try.func28, Try.ntmps28
  go_wp2
  refine bodyPost_ret (v := .tuple #[.agg #[.pointer (some ⟨bo, 0, none⟩), .pointer (some ⟨bm, 0, none⟩), .slice Ao ro.l.length co, .bool ro.has, .int .i64 ro.nx.s, .int .i64 ro.nx.g, .int .u64 ro.nx.t, .slice Am rm.l.length cm, .bool rm.has, .int .i64 rm.nx.s, .int .i64 rm.nx.g, .int .u64 rm.nx.t, .int .i64 0], .bool true]) (by simp [results, Try.results28, go_sem]) rfl ?_
  exact ⟨Am, cm, Ao, co, rm, ro, 0, rfl, H.out.below (by repeat (first | (with_reducible exact Below.refl _ _) | (with_reducible refine Below.drew ?_) | (with_reducible refine below_drewN ?_ _) | (with_reducible refine below_al ?_ _) | (with_reducible refine Below.alloc ?_ (by first | exact Nat.le_refl _ | omega | (simp; done) | (simp; omega)) _) | (with_reducible refine Below.setCell ?_ (by first | (simp only []; omega) | (simp; done) | (simp; omega)) _))), .inl rfl, Keep.of_below (by repeat (first | (with_reducible exact Below.refl _ _) | (with_reducible refine Below.drew ?_) | (with_reducible refine below_drewN ?_ _) | (with_reducible refine below_al ?_ _) | (with_reducible refine Below.alloc ?_ (by first | exact Nat.le_refl _ | omega | (simp; done) | (simp; omega)) _) | (with_reducible refine Below.setCell ?_ (by first | (simp only []; omega) | (simp; done) | (simp; omega)) _)))⟩
set_option maxRecDepth 100000 in
set_option maxHeartbeats 8000000 in
theorem calls_none0 (base bm bo : Nat) (Am : Option Addr) (cm : Nat) (Ao : Option Addr) (co : Nat) (rm ro : Rg) (x : Wt) (w : World) (h : PQ w base bm bo Am cm Ao co rm ro rm ro) (d : Int) (hd : d ≠ 0 ∧ d ≠ 1 ∧ d ≠ 2 ∧ d ≠ 3 ∧ d ≠ 4 ∧ d ≠ 5 ∧ d ≠ 6) :
    Calls Try.prog 28 #[.agg #[.pointer (some ⟨bm, 0, none⟩), .pointer (some ⟨bo, 0, none⟩), .slice Am rm.l.length cm, .bool rm.has, .int .i64 rm.nx.s, .int .i64 rm.nx.g, .int .u64 rm.nx.t, .slice Ao ro.l.length co, .bool ro.has, .int .i64 ro.nx.s, .int .i64 ro.nx.g, .int .u64 ro.nx.t, .int .i64 0], .agg #[.int .i64 d, .int .i64 x.s, .int .i64 x.g, .int .u64 x.t]] w (CallsP0 base bm bo w) := by
  have hbm := h.im.lt
  have hbo := h.io.lt
  have hlm := h.im.len
  have hlo := h.io.len
  have q0 : (d == 0) = false := by simp; omega
  have q1 : (d == 1) = false := by simp; omega
  have q2 : (d == 2) = false := by simp; omega
  have q3 : (d == 3) = false := by simp; omega
  have q4 : (d == 4) = false := by simp; omega
  have q5 : (d == 5) = false := by simp; omega
  have q6 : (d == 6) = false := by simp; omega
  have H := Aside0.mk h
  clear h hd
  go_enter Try.func28, Try.ntmps28
  go_wp2
  refine bodyPost_ret (v := .tuple #[.agg #[.pointer (some ⟨bm, 0, none⟩), .pointer (some ⟨bo, 0, none⟩), .slice Am rm.l.length cm, .bool rm.has, .int .i64 rm.nx.s, .int .i64 rm.nx.g, .int .u64 rm.nx.t, .slice Ao ro.l.length co, .bool ro.has, .int .i64 ro.nx.s, .int .i64 ro.nx.g, .int .u64 ro.nx.t, .int .i64 0], .bool true]) (by simp [results, Try.results28, go_sem]) rfl ?_
  exact ⟨Am, cm, Ao, co, rm, ro, 0, rfl, H.out.below (by repeat (first | (with_reducible exact Below.refl _ _) | (with_reducible refine Below.drew ?_) | (with_reducible refine below_drewN ?_ _) | (with_reducible refine below_al ?_ _) | (with_reducible refine Below.alloc ?_ (by first | exact Nat.le_refl _ | omega | (simp; done) | (simp; omega)) _) | (with_reducible refine Below.setCell ?_ (by first | (simp only []; omega) | (simp; done) | (simp; omega)) _))), .inl rfl, Keep.of_below (by repeat (first | (with_reducible exact Below.refl _ _) | (with_reducible refine Below.drew ?_) | (with_reducible refine below_drewN ?_ _) | (with_reducible refine below_al ?_ _) | (with_reducible refine Below.alloc ?_ (by first | exact Nat.le_refl _ | omega | (simp; done) | (simp; omega)) _) | (with_reducible refine Below.setCell ?_ (by first | (simp only []; omega) | (simp; done) | (simp; omega)) _)))⟩
set_option maxRecDepth 100000 in
set_option maxHeartbeats 8000000 in
theorem calls_none1 (base bm bo : Nat) (Am : Option Addr) (cm : Nat) (Ao : Option Addr) (co : Nat) (rm ro : Rg) (x : Wt) (w : World) (h : PQ w base bm bo Am cm Ao co rm ro rm ro) (d : Int) (hd : d ≠ 0 ∧ d ≠ 1 ∧ d ≠ 2 ∧ d ≠ 3 ∧ d ≠ 4 ∧ d ≠ 5 ∧ d ≠ 6) :
    Calls Try.prog 28 #[.agg #[.pointer (some ⟨bo, 0, none⟩), .pointer (some ⟨bm, 0, none⟩), .slice Ao ro.l.length co, .bool ro.has, .int .i64 ro.nx.s, .int .i64 ro.nx.g, .int .u64 ro.nx.t, .slice Am rm.l.length cm, .bool rm.has, .int .i64 rm.nx.s, .int .i64 rm.nx.g, .int .u64 rm.nx.t, .int .i64 1], .agg #[.int .i64 d, .int .i64 x.s, .int .i64 x.g, .int .u64 x.t]] w (CallsP1 base bm bo w) := by
  have hbm := h.im.lt
  have hbo := h.io.lt
  have hlm := h.im.len
  have hlo := h.io.len
  have q0 : (d == 0) = false := by simp; omega
  have q1 : (d == 1) = false := by simp; omega
  have q2 : (d == 2) = false := by simp; omega
  have q3 : (d == 3) = false := by simp; omega
  have q4 : (d == 4) = false := by simp; omega
  have q5 : (d == 5) = false := by simp; omega
  have q6 : (d == 6) = false := by simp; omega
  have H := Aside0.mk h
  clear h hd
  go_enter Try.func28, Try.ntmps28
  go_wp2
  refine bodyPost_ret (v := .tuple #[.agg #[.pointer (some ⟨bo, 0, none⟩), .pointer (some ⟨bm, 0, none⟩), .slice Ao ro.l.length co, .bool ro.has, .int .i64 ro.nx.s, .int .i64 ro.nx.g, .int .u64 ro.nx.t, .slice Am rm.l.length cm, .bool rm.has, .int .i64 rm.nx.s, .int .i64 rm.nx.g, .int .u64 rm.nx.t, .int .i64 1], .bool true]) (by simp [results, Try.results28, go_sem]) rfl ?_
  exact ⟨Am, cm, Ao, co, rm, ro, 1, rfl, H.out.below (by repeat (first | (with_reducible exact Below.refl _ _) | (with_reducible refine Below.drew ?_) | (with_reducible refine below_drewN ?_ _) | (with_reducible refine below_al ?_ _) | (with_reducible refine Below.alloc ?_ (by first | exact Nat.le_refl _ | omega | (simp; done) | (simp; omega)) _) | (with_reducible refine Below.setCell ?_ (by first | (simp only []; omega) | (simp; done) | (simp; omega)) _))), .inr rfl, Keep.of_below (by repeat (first | (with_reducible exact Below.refl _ _) | (with_reducible refine Below.drew ?_) | (with_reducible refine below_drewN ?_ _) | (with_reducible refine below_al ?_ _) | (with_reducible refine Below.alloc ?_ (by first | exact Nat.le_refl _ | omega | (simp; done) | (simp; omega)) _) | (with_reducible refine Below.setCell ?_ (by first | (simp only []; omega) | (simp; done) | (simp; omega)) _)))⟩
end Go.Proofs.Ytjjdojnnomokaaa
