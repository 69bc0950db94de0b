/- RingLoads: any state is taken just if it may be; and calls behind that. No condition. -/
import Derived.Test.YtjjdojnnomokaaaRCallT
import Derived.Test.YtjjdojnnomokaaaRTells
import Derived.Deep.DrawnRows
set_option linter.unusedSimpArgs false
set_option linter.unusedVariables false
namespace Go.Proofs.Ytjjdojnnomokaaa
open Go.RowKit Go.ChangeShapes Go.WideShapes Go.ChangeAt Go.Proofs.YtjjdojnnomokaaaW.PrintWords Go.Proofs.YtjjdojnnomokaaaW.PrintMore Go.Proofs.YtjjdojnnomokaaaW.PrintLast
theorem loadsEq (b : Nat) (w : World) : (binOp .neq 33 (.pointer (some ⟨b, 0, none⟩)) (.pointer none)).run Try.prog w = .ok (.bool true) w := by kernel_rfl
theorem loadsNil (w : World) : (binOp .neq 33 (.pointer none) (.pointer none)).run Try.prog w = .ok (.bool false) w := by kernel_rfl
set_option maxRecDepth 100000 in
set_option maxHeartbeats 16000000 in
theorem RingLoads0.walk (w : World) (A : Option Addr) (c : Nat) (l : List Wt) (has : Bool) (nx : Wt) (hC0 : kW.C w A l.length l) (hc0 : l.length ≤ c) (hl0 : l.length ≤ 9223372036854775807) (B : Option Addr) (cb : Nat) (ops : List (Int × Wt)) (hC : kOp.C w B ops.length ops) (hc : ops.length ≤ cb) (hl : ops.length * 32 ≤ reachBytes) :
    Calls Try.prog 10 #[.agg #[.slice A l.length c, .bool has, .int .i64 nx.s, .int .i64 nx.g, .int .u64 nx.t], .slice B ops.length cb] w fun e w' => e = .returned (.bool true) ∧ Below w.heap.size w w' := by
  have hops : ops.length ≤ 4398046511104 := by unfold reachBytes at hl; omega
  have HC := Aside0.mk hC
  have HC0 := Aside0.mk hC0
  have hW : Below w.heap.size w (w.alloc (.cells #[.slice A l.length c, .bool has, .int .i64 nx.s, .int .i64 nx.g, .int .u64 nx.t] 29)) := (by repeat (first | (with_reducible exact Below.refl _ _) | (with_reducible refine Below.drew ?_) | (with_reducible refine below_drewN ?_ _) | (with_reducible refine below_al ?_ _) | (with_reducible refine Below.alloc ?_ (by first | exact Nat.le_refl _ | omega | (simp; done) | (simp; omega)) _) | (with_reducible refine Below.setCell ?_ (by first | (simp only []; omega) | (simp; done) | (simp; omega)) _)))
  have hS : Aside0 ((w.alloc (.cells #[.slice A l.length c, .bool has, .int .i64 nx.s, .int .i64 nx.g, .int .u64 nx.t] 29)).heap[w.heap.size]? = some (.cells #[.slice A l.length c, .bool has, .int .i64 nx.s, .int .i64 nx.g, .int .u64 nx.t] 29 (0, 0))) := ⟨blk_new _ _⟩
  have HW := Aside0.mk hW
  have hld := Aside0.mk (load_any A c l has nx (w.alloc (.cells #[.slice A l.length c, .bool has, .int .i64 nx.s, .int .i64 nx.g, .int .u64 nx.t] 29)) (Kd.C_below hC0 hW) hc0 hl0)
  have hqn := loadsNil
  clear hC hC0 hl hW
  go_enter Try.func10, Try.ntmps10
  go_wp2_with fail
  generalize (w.alloc (.cells #[.slice A l.length c, .bool has, .int .i64 nx.s, .int .i64 nx.g, .int .u64 nx.t] 29)) = W at *
  refine hld.out.mono ?_
  clear hld
  rintro e w1 ⟨hB1, ⟨hE, b, rfl, hb, hI⟩ | ⟨hE, rfl⟩⟩
  · have hq := loadsEq b
    have hG := good_load hE
    have hLr : loadR l has nx = ⟨l, has, if has then nx else Wt.zero⟩ := rfl
    rw [hLr] at hI
    have hrl := Aside0.mk (rload_good A c l has nx w1 (Kd.C_below HC0.out (below_then HW.out hB1)) hc0 hE)
    have hS1 := blk_below hS.out hB1
    obtain ⟨s0, s1, s2, s3, s4, -, -, -, -, -⟩ := blk5 hS1
    have hSl := lt_blk hS1
    generalize hnz : (if has then nx else Wt.zero) = nz at *
    have HNZ := Aside0.mk hnz
    have HG := Aside0.mk hG
    have hWs := HW.out.size
    have HB1 := Aside0.mk (below_then HW.out hB1)
    have HI := Aside0.mk hI
    clear hnz hG hI hB1 hE hLr hS1 hS HW
    go_wp2_with fail
    refine hrl.out.mono ?_
    clear hrl
    rintro e w2 ⟨A', c', rfl, hc', hR2, hB2⟩
    have hA2 : Below w2.heap.size w2 (w2.alloc (.cells #[.slice A' l.length c', .bool has, .int .i64 nz.s, .int .i64 nz.g, .int .u64 nz.t] 29)) := below_al (Below.refl _ _) _
    have hT2 : Aside0 ((w2.alloc (.cells #[.slice A' l.length c', .bool has, .int .i64 nz.s, .int .i64 nz.g, .int .u64 nz.t] 29)).heap[w2.heap.size]? = some (.cells #[.slice A' l.length c', .bool has, .int .i64 nz.s, .int .i64 nz.g, .int .u64 nz.t] 29 (0, 0))) := ⟨blk_new _ _⟩
    have HB2 := Aside0.mk (below_then (below_then HB1.out hB2) hA2)
    have HI2 := Aside0.mk ((HI.out.below hB2).below hA2)
    have HR2 := Aside0.mk (Kd.R_lower (Kd.R_below hR2 hA2) HB1.out.size)
    have hbl := HI.out.lt
    have hs12 := hB2.size
    clear hR2 hB2 hA2 HB1 HI s0 s1 s2 s3 s4 hSl
    go_wp2_with fail
    generalize (w2.alloc (.cells #[.slice A' l.length c', .bool has, .int .i64 nz.s, .int .i64 nz.g, .int .u64 nz.t] 29)) = W2 at *
    refine (begun_any _).mono ?_
    rintro e w3 ⟨b0, b1, rfl, hb0, hb01, hI0, hI1, hB3⟩
    have hT3 := blk_below hT2.out hB3
    have HB3 := Aside0.mk (below_then HB2.out hB3)
    have HI3 := Aside0.mk (HI2.out.below hB3)
    have HR3 := Aside0.mk (Kd.R_below HR2.out hB3)
    have HJ3 := Aside0.mk hI1
    have hbW := HI2.out.lt
    obtain ⟨t0, t1, t2, t3, t4, -, -, -, -, -⟩ := blk5 hT3
    have hTl := lt_blk hT3
    clear hI0 hI1 hB3 hT2 hT3 HB2 HI2 HR2
    have hA3 : Below w3.heap.size w3 (w3.alloc (.cells #[.pointer (some ⟨b, 0, none⟩), .pointer (some ⟨b1, 0, none⟩), .slice A' l.length c', .bool has, .int .i64 nz.s, .int .i64 nz.g, .int .u64 nz.t, .slice none 0 0, .bool false, .int .i64 0, .int .i64 0, .int .u64 0, .int .i64 0] 55)) := below_al (Below.refl _ _) _
    have hb1l := HJ3.out.lt
    have hb3l := HI3.out.lt
    have HL : Aside0 (LP w (w3.alloc (.cells #[.pointer (some ⟨b, 0, none⟩), .pointer (some ⟨b1, 0, none⟩), .slice A' l.length c', .bool has, .int .i64 nz.s, .int .i64 nz.g, .int .u64 nz.t, .slice none 0 0, .bool false, .int .i64 0, .int .i64 0, .int .u64 0, .int .i64 0] 55)) w.heap.size b b1 w3.heap.size A' c' none 0 ⟨l, has, nz⟩ Rg.new 0) :=
      ⟨⟨below_then HB3.out hA3, ⟨HI3.out.below hA3, HJ3.out.below hA3, Kd.R_below HR3.out hA3, Kd.R_nil _ _ _ _ _, by omega, (below_then HB3.out hA3).size, HG.out.none, zr_new⟩, blk_new _ _, .inl rfl, by omega, by omega, HB3.out.size, by omega, by omega⟩⟩
    obtain ⟨G, hG⟩ : ∃ G, G = w3.heap.size := ⟨_, rfl⟩
    rw [← hG] at HL
    clear hA3 hb1l hb3l HJ3 HI3 HR3 HB3 hb0 hb01 hb hbl hbW hs12 hWs
    go_wp2_with fail
    rw [← hG]
    clear hG t0 t1 t2 t3 t4 hTl
    generalize (w3.alloc (.cells #[.pointer (some ⟨b, 0, none⟩), .pointer (some ⟨b1, 0, none⟩), .slice A' l.length c', .bool has, .int .i64 nz.s, .int .i64 nz.g, .int .u64 nz.t, .slice none 0 0, .bool false, .int .i64 0, .int .i64 0, .int .u64 0, .int .i64 0] 55)) = W3 at *
    refine (tells_any _ b b1 A' c' none 0 ⟨l, has, nz⟩ Rg.new 0 W3 HL.out.q).mono ?_
    rintro e w4 ⟨rfl, hB4⟩
    have HL := Aside0.mk (HL.out.then hB4)
    clear hB4
    go_wp2
    go_loopw [10, 11] (fun v i wr => ∃ (k : Nat) (A0 : Option Addr) (c0 : Nat) (A1 : Option Addr) (c1 : Nat) (r0 r1 : Rg) (n : Int), k ≤ ops.length ∧ i = .int .i64 k ∧ v = .bool true ∧ Aside0 (LP w wr w.heap.size b b1 G A0 c0 A1 c1 r0 r1 n)) (fun _ i _ => ops.length - (intOf i).toNat)
    case atStart => exact ⟨0, A', c', none, 0, ⟨l, has, nz⟩, Rg.new, 0, by omega, rfl, rfl, HL⟩
    case round =>
      clear HL
      obtain ⟨k, A0, c0, A1, c1, r0, r1, n, hk, rfl, rfl, HP⟩ := hrel
      by_cases hlt : k < ops.length
      · obtain ⟨ab, off, rfl, hab⟩ := C_form HC.out (by omega) (by decide)
        obtain ⟨d, x, hx, e0, e1, e2, e3⟩ := op_at HC.out k hlt
        have hab1 := Nat.lt_of_lt_of_le hab HP.out.below.size
        have y0 := (HP.out.below.cell (p := ⟨ab, off + k * 4, none⟩) hab).trans e0
        have y1 := (HP.out.below.cell (p := ⟨ab, off + k * 4 + 1, none⟩) hab).trans e1
        have y2 := (HP.out.below.cell (p := ⟨ab, off + k * 4 + 2, none⟩) hab).trans e2
        have y3 := (HP.out.below.cell (p := ⟨ab, off + k * 4 + 3, none⟩) hab).trans e3
        have hki : (0 : Int) ≤ (k : Int) := by omega
        have hkl : (k : Int) < (ops.length : Int) := by omega
        clear hx e0 e1 e2 e3
        go_wp2_with fail
        have HP0 : Aside0 (LP w wr.drew w.heap.size b b1 G A0 c0 A1 c1 r0 r1 n) := ⟨HP.out.then (Below.refl _ _).drew⟩
        refine start_ (n := 11) (S := fun w' => w'.cell? ⟨G, 0, none⟩ = some (.pointer (some ⟨b, 0, none⟩)) ∧ w'.cell? ⟨G, 1, none⟩ = some (.pointer (some ⟨b1, 0, none⟩)) ∧ w'.cell? ⟨G, 2, none⟩ = some (.slice A0 r0.l.length c0) ∧ w'.cell? ⟨G, 3, none⟩ = some (.bool r0.has) ∧ w'.cell? ⟨G, 4, none⟩ = some (.int .i64 r0.nx.s) ∧ w'.cell? ⟨G, 5, none⟩ = some (.int .i64 r0.nx.g) ∧ w'.cell? ⟨G, 6, none⟩ = some (.int .u64 r0.nx.t) ∧ w'.cell? ⟨G, 7, none⟩ = some (.slice A1 r1.l.length c1) ∧ w'.cell? ⟨G, 8, none⟩ = some (.bool r1.has) ∧ w'.cell? ⟨G, 9, none⟩ = some (.int .i64 r1.nx.s) ∧ w'.cell? ⟨G, 10, none⟩ = some (.int .i64 r1.nx.g) ∧ w'.cell? ⟨G, 11, none⟩ = some (.int .u64 r1.nx.t) ∧ w'.cell? ⟨G, 12, none⟩ = some (.int .i64 n) ∧ w'.cell? ⟨ab, off + k * 4, none⟩ = some (.int .i64 d) ∧ w'.cell? ⟨ab, off + k * 4 + 1, none⟩ = some (.int .i64 x.s) ∧ w'.cell? ⟨ab, off + k * 4 + 2, none⟩ = some (.int .i64 x.g) ∧ w'.cell? ⟨ab, off + k * 4 + 3, none⟩ = some (.int .u64 x.t)) (ds := [5, 9]) #[false, false, false, false, false, false, false, false, false, false, false] (by kernel_rfl) rfl rfl ⟨cell_blk HP0.out.blk 0, cell_blk HP0.out.blk 1, cell_blk HP0.out.blk 2, cell_blk HP0.out.blk 3, cell_blk HP0.out.blk 4, cell_blk HP0.out.blk 5, cell_blk HP0.out.blk 6, cell_blk HP0.out.blk 7, cell_blk HP0.out.blk 8, cell_blk HP0.out.blk 9, cell_blk HP0.out.blk 10, cell_blk HP0.out.blk 11, cell_blk HP0.out.blk 12, y0, y1, y2, y3⟩ (fun hHeld => ?_)
        generalize wr.drew = x0 at *
        refine pure_ (i := 1) (N := some 61) (v := ?_) (a' := ?_) #[false, true, false, false, false, false, false, false, false, false, false] rfl rfl (by kernel_rfl) (fun _ _ _ h => h) (Or.inl ⟨by rfl, ?_⟩) ?_ ?_
        rotate_left
        · intro w'
          go_simp
          with_reducible rfl
        rotate_left
        · simp only [Act.put, List.setIfInBounds_toArray, List.set_cons_zero, List.set_cons_succ, i64_w, i32_w]
          rfl
        refine pure_ (i := 2) (N := some 62) (v := ?_) (a' := ?_) #[false, true, true, false, false, false, false, false, false, false, false] rfl rfl (by kernel_rfl) (fun _ _ _ h => h) (Or.inl ⟨by rfl, ?_⟩) ?_ ?_
        rotate_left
        · intro w'
          go_simp
          with_reducible rfl
        rotate_left
        · simp only [Act.put, List.setIfInBounds_toArray, List.set_cons_zero, List.set_cons_succ, i64_w, i32_w]
          rfl
        refine pure_ (i := 3) (N := some 63) (v := ?_) (a' := ?_) #[false, true, true, true, false, false, false, false, false, false, false] rfl rfl (by kernel_rfl) (fun _ _ _ h => h) (Or.inl ⟨by rfl, ?_⟩) ?_ ?_
        rotate_left
        · intro w'
          go_simp
          with_reducible rfl
        rotate_left
        · simp only [Act.put, List.setIfInBounds_toArray, List.set_cons_zero, List.set_cons_succ, i64_w, i32_w]
          rfl
        refine take_ (i := 0) (N := some 60) (v := ?_) (a' := ?_) #[true, true, true, true, false, false, false, false, false, false, false] rfl rfl (by kernel_rfl) (fun _ _ _ h => h) (Or.inl ⟨by rfl, ?_⟩) hHeld ?_ ?_
        rotate_left
        · rintro w' ⟨s0, s1, s2, s3, s4, s5, s6, s7, s8, s9, s10, s11, s12, s13, s14, s15, s16⟩
          go_simp
          with_reducible rfl
        rotate_left
        · simp only [Act.put, List.setIfInBounds_toArray, List.set_cons_zero, List.set_cons_succ, i64_w, i32_w]
          rfl
        refine take_ (i := 4) (N := some 64) (v := ?_) (a' := ?_) #[true, true, true, true, true, false, false, false, false, false, false] rfl rfl (by kernel_rfl) (fun _ _ _ h => h) (Or.inl ⟨by rfl, ?_⟩) hHeld ?_ ?_
        rotate_left
        · rintro w' ⟨s0, s1, s2, s3, s4, s5, s6, s7, s8, s9, s10, s11, s12, s13, s14, s15, s16⟩
          go_simp
          with_reducible rfl
        rotate_left
        · simp only [Act.put, List.setIfInBounds_toArray, List.set_cons_zero, List.set_cons_succ, i64_w, i32_w]
          rfl
        refine last_ (i := 5) (N := some 65) #[true, true, true, true, true, true, false, false, false, false, false] rfl rfl (by kernel_rfl) (by decide) (fun K hK => ?_)
        refine goes_ Try.func28 (by kernel_rfl) rfl #[.agg #[.pointer (some ⟨b, 0, none⟩), .pointer (some ⟨b1, 0, none⟩), .slice A0 r0.l.length c0, .bool r0.has, .int .i64 r0.nx.s, .int .i64 r0.nx.g, .int .u64 r0.nx.t, .slice A1 r1.l.length c1, .bool r1.has, .int .i64 r1.nx.s, .int .i64 r1.nx.g, .int .u64 r1.nx.t, .int .i64 n], .agg #[.int .i64 d, .int .i64 x.s, .int .i64 x.g, .int .u64 x.t]] (by rfl) rfl rfl (by simp only [List.map_toArray, List.map_cons, List.map_nil]; rfl) ?_
        with_reducible refine (calls_top _ b b1 A0 c0 A1 c1 r0 r1 n d HP0.out.n01 x x0 HP0.out.q).mono ?_
        rintro e w2 ⟨A0', c0', A1', c1', r0', r1', n', rfl, hq, hn', hK⟩
        refine ⟨_, rfl, ?_⟩
        have hG2 := blk_keep HP0.out.blk hK (show ¬ (G = b ∨ G = b1) by have := HP0.out.n0; have := HP0.out.n1; omega)
        obtain ⟨p0, p1, p2, p3, p4, p5, p6, p7, p8, p9, p10, p11, p12⟩ := cells13 hG2 rfl
        obtain ⟨f0, f1, f2, f3, f4, f5, f6, f7, f8, f9, f10, f11, f12⟩ := froz13 hG2
        have hGl := lt_blk hG2
        have HK := Aside0.mk hK
        have HQ := Aside0.mk hq
        have HN := Aside0.mk hn'
        have HG2 := Aside0.mk hG2
        clear hK hq hn' hG2
        refine hK.out _ _ ?_
        clear hK K
        refine norm_ (a' := ?_) ?_ ?_
        rotate_left
        · show Act.put _ (some 65) _ = _
          simp only [Act.put, List.setIfInBounds_toArray, List.set_cons_zero, List.set_cons_succ, i64_w, i32_w]
          rfl
        refine pure_ (i := 6) (N := some 59) (v := ?_) (a' := ?_) #[true, true, true, true, true, true, true, false, false, false, false] rfl rfl (by kernel_rfl) (fun _ _ _ h => h) (Or.inl ⟨by rfl, ?_⟩) ?_ ?_
        rotate_left
        · intro w'
          go_simp
          with_reducible rfl
        rotate_left
        · simp only [Act.put, List.setIfInBounds_toArray, List.set_cons_zero, List.set_cons_succ, i64_w, i32_w]
          rfl
        refine pure_ (i := 7) (N := some 66) (v := ?_) (a' := ?_) #[true, true, true, true, true, true, true, true, false, false, false] rfl rfl (by kernel_rfl) (fun _ _ _ h => h) (Or.inl ⟨by rfl, ?_⟩) ?_ ?_
        rotate_left
        · intro w'
          go_simp
          with_reducible rfl
        rotate_left
        · simp only [Act.put, List.setIfInBounds_toArray, List.set_cons_zero, List.set_cons_succ, i64_w, i32_w]
          rfl
        refine pure_ (i := 8) (N := some 67) (v := ?_) (a' := ?_) #[true, true, true, true, true, true, true, true, true, false, false] rfl rfl (by kernel_rfl) (fun _ _ _ h => h) (Or.inl ⟨by rfl, ?_⟩) ?_ ?_
        rotate_left
        · intro w'
          go_simp
          with_reducible rfl
        rotate_left
        · simp only [Act.put, List.setIfInBounds_toArray, List.set_cons_zero, List.set_cons_succ, i64_w, i32_w]
          rfl
        refine last_ (i := 9) (N := none) #[true, true, true, true, true, true, true, true, true, true, false] rfl rfl (by kernel_rfl) (by decide) (fun K hK => ?_)
        refine skip_ (w1 := ?_) (by rfl) rfl ?_ ?_
        rotate_left
        · go_simp
          rfl
        refine hK.out _ _ ?_
        clear hK K
        refine pure_ (i := 10) (N := some 10) (v := ?_) (a' := ?_) #[true, true, true, true, true, true, true, true, true, true, true] rfl rfl (by kernel_rfl) (fun _ _ _ h => h) (Or.inl ⟨by rfl, ?_⟩) ?_ ?_
        rotate_left
        · intro w'
          go_simp
          with_reducible rfl
        rotate_left
        · simp only [Act.put, List.setIfInBounds_toArray, List.set_cons_zero, List.set_cons_succ, i64_w, i32_w]
          rfl
        refine done_ (by kernel_rfl) ?_
        have hK3 : Keep (fun i => i = G) w2 (((((((((((((w2.setCell ⟨G, 0, none⟩ (.pointer (some ⟨b, 0, none⟩))).setCell ⟨G, 1, none⟩ (.pointer (some ⟨b1, 0, none⟩))).setCell ⟨G, 2, none⟩ (.slice A0' r0'.l.length c0')).setCell ⟨G, 3, none⟩ (.bool r0'.has)).setCell ⟨G, 4, none⟩ (.int .i64 r0'.nx.s)).setCell ⟨G, 5, none⟩ (.int .i64 r0'.nx.g)).setCell ⟨G, 6, none⟩ (.int .u64 r0'.nx.t)).setCell ⟨G, 7, none⟩ (.slice A1' r1'.l.length c1')).setCell ⟨G, 8, none⟩ (.bool r1'.has)).setCell ⟨G, 9, none⟩ (.int .i64 r1'.nx.s)).setCell ⟨G, 10, none⟩ (.int .i64 r1'.nx.g)).setCell ⟨G, 11, none⟩ (.int .u64 r1'.nx.t)).setCell ⟨G, 12, none⟩ (.int .i64 n')) := (by repeat (first | (with_reducible exact Keep.refl _ _) | (with_reducible refine Keep.drewN ?_ _) | (with_reducible refine Keep.drew ?_) | (with_reducible refine Keep.setCell ?_ _ _ (by first | (right; with_reducible rfl) | (left; simp; done) | (left; simp; omega) | (right; simp; done) | (right; assumption))) | (with_reducible refine Keep.alloc ?_ _)))
        have HP3 := Aside0.mk (HP0.out.called HQ.out HN.out HK.out hK3 (blk_set13 HG2.out))
        go_wp2
        go_roundw
        case rel => exact ⟨k + 1, A0', c0', A1', c1', r0', r1', n', by omega, by go_num, rfl, HP3⟩
        case measure => simp [intOf]; omega
      · obtain rfl : k = ops.length := by omega
        obtain ⟨p0, p1, p2, p3, p4, p5, p6, p7, p8, p9, p10, p11, p12⟩ := cells13 HP.out.blk rfl
        have hGl := lt_blk HP.out.blk
        go_wp2_with fail
        refine (tells_any _ b b1 A0 c0 A1 c1 r0 r1 n wr HP.out.q).mono ?_
        rintro e w4 ⟨rfl, hB4⟩
        have hB5 := below_then HP.out.below hB4
        clear hB4
        go_wp2
        go_ret
        exact ⟨rfl, hB5⟩
  · have hd : (loadE l has nx == 0) = false := by simpa using hE
    have hd2 : (loadE l has nx != 0) = true := by simpa using hE
    have hL : loadL l has nx = Rg.new := by rw [loadL, if_neg hE]
    have hrl := rload_any A c l has nx w1 (Kd.C_below HC0.out (below_then HW.out hB1)) hc0
    rw [hL] at hrl
    simp only [Rg.new, Wt.zero] at hrl
    have hrl := Aside0.mk hrl
    have hS1 := blk_below hS.out hB1
    obtain ⟨s0, s1, s2, s3, s4, -, -, -, -, -⟩ := blk5 hS1
    have hSl := lt_blk hS1
    have HB1 := Aside0.mk (below_then HW.out hB1)
    generalize loadE l has nx = E at *
    clear hS1 hB1 hS HW hL hE
    go_wp2_with fail
    refine hrl.out.mono ?_
    clear hrl
    rintro e w2 ⟨v, rfl, hR2, hB2⟩
    obtain ⟨A', c', rfl, -, -⟩ := Kd.R_reads hR2
    have HB2 := Aside0.mk (below_then HB1.out hB2)
    clear hR2 hB2
    go_wp2_with fail
    refine (awake_any _).mono ?_
    rintro e w3 ⟨rfl, hB3⟩
    go_wp2
    go_ret
    exact ⟨rfl, below_then (below_al HB2.out _) hB3⟩
theorem ringLoads.walk (w : World) (cs : Array Value) (s : List Wt × Bool × Wt) (hK : kS.K w s cs.toList) (hG : s.1.length * 24 ≤ reachBytes) (B : Option Addr) (cb : Nat) (ops : List (Int × Wt)) (hc : ops.length ≤ cb) (hC : kOp.C w B ops.length ops) (hG2 : ops.length * Try.prog.bytesOf 65 ≤ reachBytes ∧ ops.length ≤ 9223372036854775807 ∧ ∀ x ∈ ops, True) :
    Calls Try.prog 10 #[.agg cs, .slice B ops.length cb] w fun e w' => e = .returned (.bool true) ∧ Below w.heap.size w w' := by
  have h32 : Try.prog.bytesOf 65 = 32 := by kernel_rfl
  rw [h32] at hG2
  obtain ⟨A, c, hcs, hc1, hC1⟩ := kS_open hK
  obtain rfl := Array.toList_inj.1 hcs
  exact RingLoads0.walk w A c s.1 s.2.1 s.2.2 hC1 hc1 (by unfold reachBytes at hG; omega) B cb ops hC hc hG2.1
theorem ringLoads.own : ownKnob Try.prog.godebug = none := by kernel_rfl
theorem ringLoads.laidOut : laidOutB Try.prog = true := by kernel_rfl
set_option maxRecDepth 100000 in
set_option maxHeartbeats 1000000 in
theorem ringLoads.lifted (os : Os) (started : os.Started) (H : Type) (enc : TypeId × Value → H)
    : ReturnsInHanded {} Try.checked os 10 .any (Rows.ringLoadsSpec.pre6 enc Try.prog Try.f10 Rows.ringLoadsRow.domain false) (Rows.ringLoadsSpec.post enc Try.prog Try.f10 false true false false) := by
  refine returnsInHanded_of_change_sized (C := Try.checked) ringLoads.own started (by kernel_rfl) Try.func10
    (ChangeSpec.witness6 (enc := enc) (C := Try.checked) false ⟨#[], #[.agg #[.slice none 0 0, .bool false, .int .i64 0, .int .i64 0, .int .u64 0], .slice none 0 0], []⟩ 8 (by kernel_rfl) (by kernel_rfl) (by kernel_rfl) (by kernel_rfl)) ?_
  intro W base args ds gs before hval0 hW hcnd hsz0 _
  have hsz : (DataW.weightsEach Try.prog (Try.f10.params.toList ++ Rows.ringLoadsSpec.plain.varTypes Try.prog) (ds ++ gs)).all (· ≤ reachBytes) = true := hsz0
  have hval : ∀ (j : Nat) t v, Try.f10.params[j]? = some t → args[j]? = some v → Value.okWide Try.prog W .any base t v := hval0
  have hW' := hW
  obtain ⟨p, q, hA0, hV, rfl, hfz, hnd⟩ := hW
  have hA : DataW.TrodAll enc Try.prog W 0 (fun _ => true) true Try.f10.params.toList args.toList ds p := hA0
  rw [Try.params10] at hA hval hsz
  obtain ⟨v0, vs0, d0, ds0, p0, q0, hargs, rfl, rfl, h0, r0⟩ := trodAll_cons hA
  obtain ⟨v1, vs1, d1, ds1, p1, q1, rfl, rfl, rfl, h1, r1⟩ := trodAll_cons r0
  obtain ⟨rfl, rfl, rfl⟩ := trodAll_nil r1
  obtain rfl : args = #[v0, v1] := by cases args; simp_all
  obtain ⟨rfl, rfl⟩ := trodVars_none hV
  have k0 := h0
  have lt0 : ∀ x ∈ p0, x.block < W.heap.size := by obtain ⟨m, hm⟩ := k0; exact DataW.trod_lt m _ _ _ hm
  have W0 := Op.weights_of hsz (j := 0) (t := 29) (d := d0) rfl rfl
  obtain ⟨cs0, rfl, sz0⟩ := okWide_struct Try.underlying29 (hval 0 29 v0 rfl rfl)
  obtain ⟨f0, hf0⟩ := h0
  obtain ⟨a0, hK0, hG0, hM0⟩ := opensS H enc W _ true f0 _ (d0, p0) hf0 W0
  have k1 := h1
  have lt1 : ∀ x ∈ p1, x.block < W.heap.size := by obtain ⟨m, hm⟩ := k1; exact DataW.trod_lt m _ _ _ hm
  have W1 := Op.weights_of hsz (j := 1) (t := 51) (d := d1) rfl rfl
  obtain ⟨A1, len1, cap1, rfl⟩ := okWide_slice Try.underlying51 (hval 1 51 v1 rfl rfl)
  obtain ⟨f1, hf1⟩ := h1
  obtain ⟨a1, hK1, hG1, hM1⟩ := Op.opens_slice Try.underlying51 (by kernel_rfl) opensOp H enc W _ true f1 _ (d1, p1) hf1 W1
  obtain ⟨A', c', he1, hc1, hC1⟩ := hK1
  obtain ⟨rfl, rfl, rfl⟩ : A1 = A' ∧ len1 = a1.length ∧ cap1 = c' := by simpa [Value.cells] using he1
  clear hA0 hval0 hsz0 hsz
  refine (ringLoads.walk W cs0 a0 hK0 hG0 A1 cap1 a1 hc1 hC1 hG1).mono fun e W' ⟨he, bel⟩ => ?_
  subst he
  exact ⟨_, rfl, _, _, _, [], _, [], hW', trodAll_mk1 (shut_bool Try.underlying4 _), (trodAll_cons_mk (Below.trod ringLoads.laidOut (by kernel_rfl) (of_decide_eq_true (by kernel_rfl)) k0 bel lt0) (trodAll_cons_mk (Below.trod ringLoads.laidOut (by kernel_rfl) (of_decide_eq_true (by kernel_rfl)) k1 bel lt1) trodAll_mk0)), rfl, bel.frame _, fun h => by cases h⟩
theorem ringLoads_holds : Rows.RingLoadsSaid :=
  OpenClaim.holds_of_wide 10 Try.f10 rfl rfl rfl rfl rfl rfl rfl ⟨rfl, rfl, rfl, rfl, rfl⟩ rfl rfl rfl rfl rfl (by kernel_rfl) Try.func10 (by kernel_rfl)
    (of_decide_eq_true (by kernel_rfl)) (by unfold Func.isWrapper; first | (rw [if_pos (by decide +kernel)]; kernel_rfl) | (rw [if_neg (by decide +kernel)]; exact ⟨rfl, rfl⟩))
    (fun os started H enc _ => ringLoads.lifted os started H enc)
#print axioms ringLoads_holds

end Go.Proofs.Ytjjdojnnomokaaa
