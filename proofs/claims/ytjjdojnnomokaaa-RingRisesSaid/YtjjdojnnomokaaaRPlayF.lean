import Derived.Test.YtjjdojnnomokaaaRPl
namespace Go.Proofs.Ytjjdojnnomokaaa
open Go.RowKit Go.Proofs.YtjjdojnnomokaaaW.PrintWords Go.Proofs.YtjjdojnnomokaaaW.PrintMore Go.Proofs.YtjjdojnnomokaaaW.PrintLast
/-! 'played': printed by gen02p.py. -/
theorem fresh_grown {w2 w3 : World} {B base N : Nat} {ok : Nat → Prop} {v v7 : Value} {xs I : List Wt} (hv : kW.R 27 w2 B ok v xs) (h7 : kW.R 27 w2 base (fun k => k < N) v7 I) (hN : N ≤ B) (hg : w2.grownBy w3 v7.ownBlock) : kW.R 27 w3 B ok v xs := by
  refine Kd.R_grown2 hv kW_E0 hg (fun k hk he => ?_)
  obtain ⟨inner, ho⟩ := Kd.R_own hv
  have h1 : k < N := h7.1 k hk
  have h2 := (own_lt ho k he.symm).1
  omega
def Played (len : Nat) (w : World) (e : Ending) (w' : World) : Prop := ∃ (Z : Array Value) (G b0 b1 : Nat) (n : Int) (a b : Rg) (v7 v8 : Value) (I O : List Wt), e = .returned (.tuple #[.agg #[.pointer (some ⟨b0, 0, none⟩), .pointer (some ⟨b1, 0, none⟩), .slice none 0 0, .bool false, .int .i64 0, .int .i64 0, .int .u64 0, .slice none 0 0, .bool false, .int .i64 0, .int .i64 0, .int .u64 0, .int .i64 n], v7, v8]) ∧ Pl Z w w' G b0 b1 #[.pointer (some ⟨b0, 0, none⟩), .pointer (some ⟨b1, 0, none⟩), .slice none 0 0, .bool false, .int .i64 0, .int .i64 0, .int .u64 0, .slice none 0 0, .bool false, .int .i64 0, .int .i64 0, .int .u64 0, .int .i64 n] a b v7 v8 I O w'.heap.size ∧ Inv len a b I O
theorem Inv.turn {k : Nat} {rm ro : Rg} {I O : List Wt} (h : Inv k rm ro I O) : Inv k ro rm I O := ⟨h.len, (List.Perm.append_left O List.perm_append_comm).trans h.perm, h.ro, h.rm⟩
theorem ex_set {w : World} {b i t : Nat} {f : Nat × Nat} {v : Value} (h : ∃ Z, w.heap[b]? = some (.cells Z t f)) : ∃ Z, (w.setCell ⟨b, i, none⟩ v).heap[b]? = some (.cells Z t f) := by
  obtain ⟨Z, h⟩ := h
  exact ⟨_, blk_set h⟩
theorem played_done {Z : Array Value} {w wr w' : World} {G b0 b1 len N : Nat} {n : Int} {a b : Rg} {v7 v8 : Value} {I O : List Wt} (h : Pl Z w wr G b0 b1 #[.pointer (some ⟨b0, 0, none⟩), .pointer (some ⟨b1, 0, none⟩), .slice none 0 0, .bool false, .int .i64 0, .int .i64 0, .int .u64 0, .slice none 0 0, .bool false, .int .i64 0, .int .i64 0, .int .u64 0, .int .i64 n] a b v7 v8 I O N) (hi : Inv len a b I O) (k : Keep (fun j => j = w.heap.size) wr w') (hz : ∃ Z2, w'.heap[w.heap.size]? = some (.cells Z2 55 (0, 0))) : Played len w (.returned (.tuple #[.agg #[.pointer (some ⟨b0, 0, none⟩), .pointer (some ⟨b1, 0, none⟩), .slice none 0 0, .bool false, .int .i64 0, .int .i64 0, .int .u64 0, .slice none 0 0, .bool false, .int .i64 0, .int .i64 0, .int .u64 0, .int .i64 n], v7, v8])) w' := by
  have h0 := h.wm
  have h1 := h.wo
  have hG := h.wG
  obtain ⟨Z2, hz⟩ := hz
  have hp : Pl Z2 w w' G b0 b1 #[.pointer (some ⟨b0, 0, none⟩), .pointer (some ⟨b1, 0, none⟩), .slice none 0 0, .bool false, .int .i64 0, .int .i64 0, .int .u64 0, .slice none 0 0, .bool false, .int .i64 0, .int .i64 0, .int .u64 0, .int .i64 n] a b v7 v8 I O N := ⟨below_then_keep h.below h.below.size k (fun i hi => by omega), blk_keep h.blk k (show ¬ G = w.heap.size by omega), hz, h.m.keep k (by omega), h.o.keep k (by omega),
    R_keepT h.rin h.res (by decide) k, R_keepT h.rout h.res (by decide) k, h.ne, h.mo, h.wG, h.wm, h.wo, h.mG, h.oG, h.NG⟩
  exact ⟨Z2, G, b0, b1, n, a, b, v7, v8, I, O, rfl, hp.bound, hi⟩
set_option maxRecDepth 100000 in
set_option maxHeartbeats 40000000 in
theorem played_any (A : Option Addr) (c : Nat) (ops : List (Int × Wt)) (w : World) (hC : kOp.C w A ops.length ops) (_hc : ops.length ≤ c) (hl : ops.length * 32 ≤ reachBytes) :
    Calls Try.prog 24 #[.slice A ops.length c] w (Played ops.length w) := by
  have hops : ops.length ≤ 4398046511104 := by unfold reachBytes at hl; omega
  have HC := Aside0.mk hC
  clear hC hl
  have hW : Below w.heap.size w (w.alloc (.cells pairZ 55)) := below_al (Below.refl _ _) _
  have hRR : (w.alloc (.cells pairZ 55)).heap[w.heap.size]? = some (.cells pairZ 55 (0, 0)) := blk_new _ _
  unfold pairZ at hW hRR
  go_enter Try.func24, Try.ntmps24
  go_wp2_with fail
  refine (begun_any _).mono ?_
  rintro e w1 ⟨b0, b1, rfl, hb0, hb01, hI0, hI1, hB1⟩
  have hR1 := blk_below hRR hB1
  have hC1 := below_then hW hB1
  have hb0' : w.heap.size < b0 := by have := lt_blk hRR; omega
  have hA1 : Below w1.heap.size w1 (w1.alloc (.cells #[.pointer (some ⟨b0, 0, none⟩), .pointer (some ⟨b1, 0, none⟩), .slice none 0 0, .bool false, .int .i64 0, .int .i64 0, .int .u64 0, .slice none 0 0, .bool false, .int .i64 0, .int .i64 0, .int .u64 0, .int .i64 0] 55)) := below_al (Below.refl _ _) _
  have hG1 : (w1.alloc (.cells #[.pointer (some ⟨b0, 0, none⟩), .pointer (some ⟨b1, 0, none⟩), .slice none 0 0, .bool false, .int .i64 0, .int .i64 0, .int .u64 0, .slice none 0 0, .bool false, .int .i64 0, .int .i64 0, .int .u64 0, .int .i64 0] 55)).heap[w1.heap.size]? = some (.cells #[.pointer (some ⟨b0, 0, none⟩), .pointer (some ⟨b1, 0, none⟩), .slice none 0 0, .bool false, .int .i64 0, .int .i64 0, .int .u64 0, .slice none 0 0, .bool false, .int .i64 0, .int .i64 0, .int .u64 0, .int .i64 0] 55 (0, 0)) := blk_new _ _
  obtain ⟨G, hG⟩ : ∃ G, G = w1.heap.size := ⟨_, rfl⟩
  have hl0 := hI0.lt
  have hl1 := hI1.lt
  have hwl := lt_blk hR1
  have HP0 : Aside0 (Pl pairZ w (w1.alloc (.cells #[.pointer (some ⟨b0, 0, none⟩), .pointer (some ⟨b1, 0, none⟩), .slice none 0 0, .bool false, .int .i64 0, .int .i64 0, .int .u64 0, .slice none 0 0, .bool false, .int .i64 0, .int .i64 0, .int .u64 0, .int .i64 0] 55)) w1.heap.size b0 b1 #[.pointer (some ⟨b0, 0, none⟩), .pointer (some ⟨b1, 0, none⟩), .slice none 0 0, .bool false, .int .i64 0, .int .i64 0, .int .u64 0, .slice none 0 0, .bool false, .int .i64 0, .int .i64 0, .int .u64 0, .int .i64 0] Rg.new Rg.new (.slice none 0 0) (.slice none 0 0) [] [] (w1.alloc (.cells #[.pointer (some ⟨b0, 0, none⟩), .pointer (some ⟨b1, 0, none⟩), .slice none 0 0, .bool false, .int .i64 0, .int .i64 0, .int .u64 0, .slice none 0 0, .bool false, .int .i64 0, .int .i64 0, .int .u64 0, .int .i64 0] 55)).heap.size) :=
    ⟨⟨below_then hC1 hA1, hG1, blk_below hR1 hA1, hI0.below hA1, hI1.below hA1, Kd.R_nil _ _ _ _ _, Kd.R_nil _ _ _ _ _, ne_nil _, by omega, by omega, by omega, by omega, by omega, by omega, lt_blk hG1⟩⟩
  rw [← hG] at HP0 hG1
  clear hRR hR1 hC1 hW hB1 hA1 hI0 hI1 hb0 hl0 hl1 hwl
  go_wp2
  rw [← hG]
  clear hG hG1
  generalize w1.alloc (.cells #[.pointer (some ⟨b0, 0, none⟩), .pointer (some ⟨b1, 0, none⟩), .slice none 0 0, .bool false, .int .i64 0, .int .i64 0, .int .u64 0, .slice none 0 0, .bool false, .int .i64 0, .int .i64 0, .int .u64 0, .int .i64 0] 55) = W1 at *
  go_loopw [7, 8, 9] (fun v7 v8 i wr => ∃ (k n bm bo : Nat) (rm ro : Rg) (I O : List Wt), k ≤ ops.length ∧ i = .int .i64 k ∧ Aside0 ((n = 0 ∧ bm = b0 ∧ bo = b1) ∨ (n = 1 ∧ bm = b1 ∧ bo = b0)) ∧ Aside0 (Pl pairZ w wr G bm bo #[.pointer (some ⟨b0, 0, none⟩), .pointer (some ⟨b1, 0, none⟩), .slice none 0 0, .bool false, .int .i64 0, .int .i64 0, .int .u64 0, .slice none 0 0, .bool false, .int .i64 0, .int .i64 0, .int .u64 0, .int .i64 (n : Nat)] rm ro v7 v8 I O wr.heap.size) ∧ Aside0 (Inv k rm ro I O)) (fun _ _ i _ => ops.length - (intOf i).toNat)
  case atStart => exact ⟨0, 0, b0, b1, Rg.new, Rg.new, [], [], by omega, rfl, ⟨.inl ⟨rfl, rfl, rfl⟩⟩, HP0, ⟨⟨by simp, by rfl, List.Pairwise.nil, List.Pairwise.nil⟩⟩⟩
  case round =>
    clear HP0
    obtain ⟨k, n, bm, bo, rm, ro, I, O, hk, rfl, HD, HP, HI⟩ := hrel
    have hGl := lt_blk HP.out.blk
    have hbm := HP.out.m.lt
    have hbo := HP.out.o.lt
    by_cases hlt : k < ops.length
    · obtain ⟨ab, off, rfl, hab⟩ := C_form HC.out (by omega) (by decide)
      obtain ⟨d, x, hx, c0, c1, c2, c3⟩ := op_at HC.out k hlt
      have y0 := (HP.out.below.cell (p := ⟨ab, off + k * 4, none⟩) hab).trans c0
      have y1 := (HP.out.below.cell (p := ⟨ab, off + k * 4 + 1, none⟩) hab).trans c1
      have y2 := (HP.out.below.cell (p := ⟨ab, off + k * 4 + 2, none⟩) hab).trans c2
      have y3 := (HP.out.below.cell (p := ⟨ab, off + k * 4 + 3, none⟩) hab).trans c3
      have habw := Nat.lt_of_lt_of_le hab HP.out.below.size
      have hws := HP.out.below.size
      clear hx c0 c1 c2 c3
      rcases HD.out with ⟨rfl, rfl, rfl⟩ | ⟨rfl, rfl, rfl⟩
      · have hPC := HP.out.blk
        have p0 : wr.cell? ⟨G, 0, none⟩ = some (.pointer (some ⟨bm, 0, none⟩)) := cell_blk hPC 0; have p1 : wr.cell? ⟨G, 1, none⟩ = some (.pointer (some ⟨bo, 0, none⟩)) := cell_blk hPC 1; have p2 : wr.cell? ⟨G, 2, none⟩ = some (.slice none 0 0) := cell_blk hPC 2; have p3 : wr.cell? ⟨G, 3, none⟩ = some (.bool false) := cell_blk hPC 3; have p4 : wr.cell? ⟨G, 4, none⟩ = some (.int .i64 0) := cell_blk hPC 4; have p5 : wr.cell? ⟨G, 5, none⟩ = some (.int .i64 0) := cell_blk hPC 5; have p6 : wr.cell? ⟨G, 6, none⟩ = some (.int .u64 0) := cell_blk hPC 6; have p7 : wr.cell? ⟨G, 7, none⟩ = some (.slice none 0 0) := cell_blk hPC 7; have p8 : wr.cell? ⟨G, 8, none⟩ = some (.bool false) := cell_blk hPC 8; have p9 : wr.cell? ⟨G, 9, none⟩ = some (.int .i64 0) := cell_blk hPC 9; have p10 : wr.cell? ⟨G, 10, none⟩ = some (.int .i64 0) := cell_blk hPC 10; have p11 : wr.cell? ⟨G, 11, none⟩ = some (.int .u64 0) := cell_blk hPC 11; have p12 : wr.cell? ⟨G, 12, none⟩ = some (.int .i64 0) := cell_blk hPC 12
        clear hPC
        rcases (show d = 0 ∨ d = 1 ∨ d = 2 ∨ d = 3 ∨ d = 4 ∨ d = 5 ∨ d = 6 ∨ (d ≠ 0 ∧ d ≠ 1 ∧ d ≠ 2 ∧ d ≠ 3 ∧ d ≠ 4 ∧ d ≠ 5 ∧ d ≠ 6) by omega) with rfl | rfl | rfl | rfl | rfl | rfl | rfl | hd
        · have hA : Below wr.heap.size wr ((wr.alloc (.cells #[.int .i64 0, .int .i64 x.s, .int .i64 x.g, .int .u64 x.t] 65)).alloc (.cells #[.int .i64 0, .int .i64 0, .int .u64 0] 27)) := (by repeat (first | (with_reducible exact Below.refl _ _) | (with_reducible refine Below.drew ?_) | (with_reducible refine below_drewN ?_ _) | (with_reducible refine below_al ?_ _) | (with_reducible refine Below.alloc ?_ (by first | exact Nat.le_refl _ | omega | (simp; done) | (simp; omega)) _) | (with_reducible refine Below.setCell ?_ (by first | (simp only []; omega) | (simp; done) | (simp; omega)) _)))
          have HPA := Aside0.mk (HP.out.then hA)
          have hOP : ((wr.alloc (.cells #[.int .i64 0, .int .i64 x.s, .int .i64 x.g, .int .u64 x.t] 65)).alloc (.cells #[.int .i64 0, .int .i64 0, .int .u64 0] 27)).heap[wr.heap.size]? = some (.cells #[.int .i64 0, .int .i64 x.s, .int .i64 x.g, .int .u64 x.t] 65 (0, 0)) := blk_alloc (blk_new _ _)
          have hWB : ((wr.alloc (.cells #[.int .i64 0, .int .i64 x.s, .int .i64 x.g, .int .u64 x.t] 65)).alloc (.cells #[.int .i64 0, .int .i64 0, .int .u64 0] 27)).heap[wr.heap.size + 1]? = some (.cells #[.int .i64 0, .int .i64 0, .int .u64 0] 27 (0, 0)) := blk_new1 _ _ _
          have hNW : wr.heap.size ≤ ((wr.alloc (.cells #[.int .i64 0, .int .i64 x.s, .int .i64 x.g, .int .u64 x.t] 65)).alloc (.cells #[.int .i64 0, .int .i64 0, .int .u64 0] 27)).heap.size := hA.size
          clear hA
          cases hb : putBad rm x with
          | true =>
            have hE : putE rm x = 20 := by rw [putE, hb]; rfl
            have e2 : putR rm x = rm := by rw [putR, hb]; rfl
            have e3 : putOut rm x = [] := by rw [putOut, hb]; rfl
            clear hb
            go_wp2_with fail
            generalize (wr.alloc (.cells #[.int .i64 0, .int .i64 x.s, .int .i64 x.g, .int .u64 x.t] 65)).alloc (.cells #[.int .i64 0, .int .i64 0, .int .u64 0] 27) = W at *
            refine (put_any bm rm x W HPA.out.m).mono ?_
            rw [hE, e2, e3]
            rintro e w2 ⟨v, rfl, hv, hI2, hK2⟩
            clear hE e2 e3
            obtain ⟨A2, c2, rfl, -, hC2⟩ := Kd.R_reads hv
            have hP2 := HPA.out.ring hK2 hI2
            have hO2 := blk_keep hOP hK2 (show ¬ wr.heap.size = bm by omega)
            have HC2 := Aside0.mk hC2
            have z0 : w2.cell? ⟨wr.heap.size, 0, none⟩ = some (.int .i64 0) := cell_blk hO2 0; have z1 : w2.cell? ⟨wr.heap.size, 1, none⟩ = some (.int .i64 x.s) := cell_blk hO2 1; have z2 : w2.cell? ⟨wr.heap.size, 2, none⟩ = some (.int .i64 x.g) := cell_blk hO2 2; have z3 : w2.cell? ⟨wr.heap.size, 3, none⟩ = some (.int .u64 x.t) := cell_blk hO2 3
            have hOl := lt_blk hO2
            have hs2 := hP2.below.size
            have HP2 := Aside0.mk hP2
            have hOl2 := HI.out.out
            clear hv hI2 hK2 hC2 hO2 hP2 HPA
            go_wp2_with (first | ((with_reducible refine gate_builtin (b := .append) (xs := #[.tmp 126, .tmp 127]) rfl ?_); at_builtin; refine Kd.R_append_rows kW (Rr := kW.K w2) (w0 := w2) w.heap.size rfl (.tmp 126) (.tmp 127) 22 27 (.agg #[.int .i64 0, .int .i64 0, .int .u64 0]) 24 rfl Try.underlying22 infoW rfl (by decide) (by omega) u8 O ([] : List Wt) A2 _ c2 (fun _ => True) (fun _ => False) rfl rfl ?aO ?aR (fun x cs h => kW_KM x cs h) (fun _ h => h.elim) ?aF ?aB ?aS ?aL ?_; (case aO => exact (Kd.R_mono HP2.out.rout (fun _ _ => trivial))); (case aR => exact HC2.out); (case aF => exact fun _ _ => trivial); (case aB => exact Below.refl _ _); (case aS => first | assumption | omega); (case aL => first | omega | (simp; omega)); intro v1 w5 ho5 hb5 hg hat; have HP9 := Aside0.mk (HP2.out.appOut hg hb5 hat ho5)))
            go_roundw
            case rel => exact ⟨k + 1, 0, bm, bo, rm, ro, I, (O ++ []), by omega, by go_num, ⟨.inl ⟨rfl, rfl, rfl⟩⟩, ⟨HP9.out⟩, ⟨by rw [List.append_nil]; exact HI.out.same⟩⟩
            case measure => simp [intOf]; omega
          | false =>
            have hE : putE rm x = 0 := by rw [putE, hb]; rfl
            have hinv := HI.out.come (put_perm hb) (put_rise hb HI.out.rm)
            have hOl2 := hinv.out
            rw [List.length_append] at hOl2
            have hIl2 := HI.out.len
            have HI9 := Aside0.mk hinv
            clear hinv hb
            go_wp2_with fail
            generalize (wr.alloc (.cells #[.int .i64 0, .int .i64 x.s, .int .i64 x.g, .int .u64 x.t] 65)).alloc (.cells #[.int .i64 0, .int .i64 0, .int .u64 0] 27) = W at *
            refine (put_any bm rm x W HPA.out.m).mono ?_
            rw [hE]
            generalize putOut rm x = L at *
            generalize putR rm x = rm2 at *
            rintro e w2 ⟨v, rfl, hv, hI2, hK2⟩
            clear hE
            obtain ⟨A2, c2, rfl, hcc2, -⟩ := Kd.R_reads hv
            have hP2 := HPA.out.ring hK2 hI2
            have hO2 := blk_keep hOP hK2 (show ¬ wr.heap.size = bm by omega)
            have HV2 := Aside0.mk hv
            have z0 : w2.cell? ⟨wr.heap.size, 0, none⟩ = some (.int .i64 0) := cell_blk hO2 0; have z1 : w2.cell? ⟨wr.heap.size, 1, none⟩ = some (.int .i64 x.s) := cell_blk hO2 1; have z2 : w2.cell? ⟨wr.heap.size, 2, none⟩ = some (.int .i64 x.g) := cell_blk hO2 2; have z3 : w2.cell? ⟨wr.heap.size, 3, none⟩ = some (.int .u64 x.t) := cell_blk hO2 3
            have hOl := lt_blk hO2
            have hs2 := hP2.below.size
            have HP2 := Aside0.mk hP2
            have HO2 := Aside0.mk hO2
            clear hv hI2 hK2 hO2 hP2 HPA
            go_wp2_with (first | ((with_reducible refine gate_builtin (b := .append) (xs := #[.tmp 105, .tmp 108]) rfl ?_); at_builtin; refine Kd.R_append kW (w0 := w2) w.heap.size rfl (.tmp 105) (.tmp 108) 22 27 (.agg #[.int .i64 0, .int .i64 0, .int .u64 0]) 24 rfl Try.underlying22 infoW rfl (by decide) (by omega) u7 I x [.int .i64 x.s, .int .i64 x.g, .int .u64 x.t] (fun _ => True) (fun _ => False) rfl ?aX ?aM (fun _ h => h.elim) ?aF ?aO ?aB ?aS ?aL ?_; (case aX => first | rfl | exact congrArg (fun n => Value.slice (some ⟨n, 0, none⟩) 1 1) (by simp)); (case aM => exact kW_mkM _ _ _ _); (case aF => exact fun _ _ => trivial); (case aO => exact (Kd.R_mono HP2.out.rin (fun _ _ => trivial))); (case aB => exact Below.refl _ _); (case aS => first | assumption | omega); (case aL => first | omega | (simp; omega)); intro v1 w6 ho5 hb5 hg hat; have HP3 := Aside0.mk (HP2.out.appIn hg hb5 hat ho5); have HC3 := Aside0.mk (Kd.R_reads' (fresh_grown HV2.out HP2.out.rin hNW hg)).2.2; have hO3 := blk_grown HO2.out hg (Kd.R_ne HP2.out.rin HO2.out (by decide)); have w5s := hb5.size; have zz0 : w6.cell? ⟨wr.heap.size, 0, none⟩ = some (.int .i64 0) := cell_blk hO3 0; have zz1 : w6.cell? ⟨wr.heap.size, 1, none⟩ = some (.int .i64 x.s) := cell_blk hO3 1; have zz2 : w6.cell? ⟨wr.heap.size, 2, none⟩ = some (.int .i64 x.g) := cell_blk hO3 2; have zz3 : w6.cell? ⟨wr.heap.size, 3, none⟩ = some (.int .u64 x.t) := cell_blk hO3 3; have hO3l := lt_blk hO3; have hs3 := HP3.out.below.size; clear ho5 hb5 hg hat hO3) | ((with_reducible refine gate_builtin (b := .append) (xs := #[.tmp 126, .tmp 127]) rfl ?_); at_builtin; refine Kd.R_append_rows kW (Rr := kW.K w6) (w0 := w6) w.heap.size rfl (.tmp 126) (.tmp 127) 22 27 (.agg #[.int .i64 0, .int .i64 0, .int .u64 0]) 24 rfl Try.underlying22 infoW rfl (by decide) (by omega) u8 O L A2 _ c2 (fun _ => True) (fun _ => False) rfl rfl ?aO ?aR (fun x cs h => kW_KM x cs h) (fun _ h => h.elim) ?aF ?aB ?aS ?aL ?_; (case aO => exact (Kd.R_mono HP3.out.rout (fun _ _ => trivial))); (case aR => exact HC3.out); (case aF => exact fun _ _ => trivial); (case aB => exact Below.refl _ _); (case aS => first | assumption | omega); (case aL => first | omega | (simp; omega)); intro v1 w5 ho5 hb5 hg hat; have HP9 := Aside0.mk (HP3.out.appOut hg hb5 hat ho5)))
            go_roundw
            case rel => exact ⟨k + 1, 0, bm, bo, rm2, ro, (I ++ [x]), (O ++ L), by omega, by go_num, ⟨.inl ⟨rfl, rfl, rfl⟩⟩, ⟨HP9.out⟩, ⟨HI9.out⟩⟩
            case measure => simp [intOf]; omega
        · have hA : Below wr.heap.size wr ((wr.alloc (.cells #[.int .i64 1, .int .i64 x.s, .int .i64 x.g, .int .u64 x.t] 65)).alloc (.cells #[.int .i64 0, .int .i64 0, .int .u64 0] 27)) := (by repeat (first | (with_reducible exact Below.refl _ _) | (with_reducible refine Below.drew ?_) | (with_reducible refine below_drewN ?_ _) | (with_reducible refine below_al ?_ _) | (with_reducible refine Below.alloc ?_ (by first | exact Nat.le_refl _ | omega | (simp; done) | (simp; omega)) _) | (with_reducible refine Below.setCell ?_ (by first | (simp only []; omega) | (simp; done) | (simp; omega)) _)))
          have HPA := Aside0.mk (HP.out.then hA)
          have hOP : ((wr.alloc (.cells #[.int .i64 1, .int .i64 x.s, .int .i64 x.g, .int .u64 x.t] 65)).alloc (.cells #[.int .i64 0, .int .i64 0, .int .u64 0] 27)).heap[wr.heap.size]? = some (.cells #[.int .i64 1, .int .i64 x.s, .int .i64 x.g, .int .u64 x.t] 65 (0, 0)) := blk_alloc (blk_new _ _)
          have hWB : ((wr.alloc (.cells #[.int .i64 1, .int .i64 x.s, .int .i64 x.g, .int .u64 x.t] 65)).alloc (.cells #[.int .i64 0, .int .i64 0, .int .u64 0] 27)).heap[wr.heap.size + 1]? = some (.cells #[.int .i64 0, .int .i64 0, .int .u64 0] 27 (0, 0)) := blk_new1 _ _ _
          have hNW : wr.heap.size ≤ ((wr.alloc (.cells #[.int .i64 1, .int .i64 x.s, .int .i64 x.g, .int .u64 x.t] 65)).alloc (.cells #[.int .i64 0, .int .i64 0, .int .u64 0] 27)).heap.size := hA.size
          clear hA
          cases hb : rdyBad rm x with
          | true =>
            have hE : rdyE rm x = 20 := by rw [rdyE, hb]; rfl
            have e2 : rdyR rm x = rm := by rw [rdyR, hb]; rfl
            have e3 : rdyOut rm x = [] := by rw [rdyOut, hb]; rfl
            clear hb
            go_wp2_with fail
            generalize (wr.alloc (.cells #[.int .i64 1, .int .i64 x.s, .int .i64 x.g, .int .u64 x.t] 65)).alloc (.cells #[.int .i64 0, .int .i64 0, .int .u64 0] 27) = W at *
            refine (rdy_any bm rm x W HPA.out.m).mono ?_
            rw [hE, e2, e3]
            rintro e w2 ⟨v, rfl, hv, hI2, hK2⟩
            clear hE e2 e3
            obtain ⟨A2, c2, rfl, -, hC2⟩ := Kd.R_reads hv
            have hP2 := HPA.out.ring hK2 hI2
            have hO2 := blk_keep hOP hK2 (show ¬ wr.heap.size = bm by omega)
            have HC2 := Aside0.mk hC2
            have z0 : w2.cell? ⟨wr.heap.size, 0, none⟩ = some (.int .i64 1) := cell_blk hO2 0; have z1 : w2.cell? ⟨wr.heap.size, 1, none⟩ = some (.int .i64 x.s) := cell_blk hO2 1; have z2 : w2.cell? ⟨wr.heap.size, 2, none⟩ = some (.int .i64 x.g) := cell_blk hO2 2; have z3 : w2.cell? ⟨wr.heap.size, 3, none⟩ = some (.int .u64 x.t) := cell_blk hO2 3
            have hOl := lt_blk hO2
            have hs2 := hP2.below.size
            have HP2 := Aside0.mk hP2
            have hOl2 := HI.out.out
            clear hv hI2 hK2 hC2 hO2 hP2 HPA
            go_wp2_with (first | ((with_reducible refine gate_builtin (b := .append) (xs := #[.tmp 126, .tmp 127]) rfl ?_); at_builtin; refine Kd.R_append_rows kW (Rr := kW.K w2) (w0 := w2) w.heap.size rfl (.tmp 126) (.tmp 127) 22 27 (.agg #[.int .i64 0, .int .i64 0, .int .u64 0]) 24 rfl Try.underlying22 infoW rfl (by decide) (by omega) u8 O ([] : List Wt) A2 _ c2 (fun _ => True) (fun _ => False) rfl rfl ?aO ?aR (fun x cs h => kW_KM x cs h) (fun _ h => h.elim) ?aF ?aB ?aS ?aL ?_; (case aO => exact (Kd.R_mono HP2.out.rout (fun _ _ => trivial))); (case aR => exact HC2.out); (case aF => exact fun _ _ => trivial); (case aB => exact Below.refl _ _); (case aS => first | assumption | omega); (case aL => first | omega | (simp; omega)); intro v1 w5 ho5 hb5 hg hat; have HP9 := Aside0.mk (HP2.out.appOut hg hb5 hat ho5)))
            go_roundw
            case rel => exact ⟨k + 1, 0, bm, bo, rm, ro, I, (O ++ []), by omega, by go_num, ⟨.inl ⟨rfl, rfl, rfl⟩⟩, ⟨HP9.out⟩, ⟨by rw [List.append_nil]; exact HI.out.same⟩⟩
            case measure => simp [intOf]; omega
          | false =>
            have hE : rdyE rm x = 0 := by rw [rdyE, hb]; rfl
            have hinv := HI.out.come (rdy_perm hb) (rdy_rise hb HI.out.rm)
            have hOl2 := hinv.out
            rw [List.length_append] at hOl2
            have hIl2 := HI.out.len
            have HI9 := Aside0.mk hinv
            clear hinv hb
            go_wp2_with fail
            generalize (wr.alloc (.cells #[.int .i64 1, .int .i64 x.s, .int .i64 x.g, .int .u64 x.t] 65)).alloc (.cells #[.int .i64 0, .int .i64 0, .int .u64 0] 27) = W at *
            refine (rdy_any bm rm x W HPA.out.m).mono ?_
            rw [hE]
            generalize rdyOut rm x = L at *
            generalize rdyR rm x = rm2 at *
            rintro e w2 ⟨v, rfl, hv, hI2, hK2⟩
            clear hE
            obtain ⟨A2, c2, rfl, hcc2, -⟩ := Kd.R_reads hv
            have hP2 := HPA.out.ring hK2 hI2
            have hO2 := blk_keep hOP hK2 (show ¬ wr.heap.size = bm by omega)
            have HV2 := Aside0.mk hv
            have z0 : w2.cell? ⟨wr.heap.size, 0, none⟩ = some (.int .i64 1) := cell_blk hO2 0; have z1 : w2.cell? ⟨wr.heap.size, 1, none⟩ = some (.int .i64 x.s) := cell_blk hO2 1; have z2 : w2.cell? ⟨wr.heap.size, 2, none⟩ = some (.int .i64 x.g) := cell_blk hO2 2; have z3 : w2.cell? ⟨wr.heap.size, 3, none⟩ = some (.int .u64 x.t) := cell_blk hO2 3
            have hOl := lt_blk hO2
            have hs2 := hP2.below.size
            have HP2 := Aside0.mk hP2
            have HO2 := Aside0.mk hO2
            clear hv hI2 hK2 hO2 hP2 HPA
            go_wp2_with (first | ((with_reducible refine gate_builtin (b := .append) (xs := #[.tmp 105, .tmp 108]) rfl ?_); at_builtin; refine Kd.R_append kW (w0 := w2) w.heap.size rfl (.tmp 105) (.tmp 108) 22 27 (.agg #[.int .i64 0, .int .i64 0, .int .u64 0]) 24 rfl Try.underlying22 infoW rfl (by decide) (by omega) u7 I x [.int .i64 x.s, .int .i64 x.g, .int .u64 x.t] (fun _ => True) (fun _ => False) rfl ?aX ?aM (fun _ h => h.elim) ?aF ?aO ?aB ?aS ?aL ?_; (case aX => first | rfl | exact congrArg (fun n => Value.slice (some ⟨n, 0, none⟩) 1 1) (by simp)); (case aM => exact kW_mkM _ _ _ _); (case aF => exact fun _ _ => trivial); (case aO => exact (Kd.R_mono HP2.out.rin (fun _ _ => trivial))); (case aB => exact Below.refl _ _); (case aS => first | assumption | omega); (case aL => first | omega | (simp; omega)); intro v1 w6 ho5 hb5 hg hat; have HP3 := Aside0.mk (HP2.out.appIn hg hb5 hat ho5); have HC3 := Aside0.mk (Kd.R_reads' (fresh_grown HV2.out HP2.out.rin hNW hg)).2.2; have hO3 := blk_grown HO2.out hg (Kd.R_ne HP2.out.rin HO2.out (by decide)); have w5s := hb5.size; have zz0 : w6.cell? ⟨wr.heap.size, 0, none⟩ = some (.int .i64 1) := cell_blk hO3 0; have zz1 : w6.cell? ⟨wr.heap.size, 1, none⟩ = some (.int .i64 x.s) := cell_blk hO3 1; have zz2 : w6.cell? ⟨wr.heap.size, 2, none⟩ = some (.int .i64 x.g) := cell_blk hO3 2; have zz3 : w6.cell? ⟨wr.heap.size, 3, none⟩ = some (.int .u64 x.t) := cell_blk hO3 3; have hO3l := lt_blk hO3; have hs3 := HP3.out.below.size; clear ho5 hb5 hg hat hO3) | ((with_reducible refine gate_builtin (b := .append) (xs := #[.tmp 126, .tmp 127]) rfl ?_); at_builtin; refine Kd.R_append_rows kW (Rr := kW.K w6) (w0 := w6) w.heap.size rfl (.tmp 126) (.tmp 127) 22 27 (.agg #[.int .i64 0, .int .i64 0, .int .u64 0]) 24 rfl Try.underlying22 infoW rfl (by decide) (by omega) u8 O L A2 _ c2 (fun _ => True) (fun _ => False) rfl rfl ?aO ?aR (fun x cs h => kW_KM x cs h) (fun _ h => h.elim) ?aF ?aB ?aS ?aL ?_; (case aO => exact (Kd.R_mono HP3.out.rout (fun _ _ => trivial))); (case aR => exact HC3.out); (case aF => exact fun _ _ => trivial); (case aB => exact Below.refl _ _); (case aS => first | assumption | omega); (case aL => first | omega | (simp; omega)); intro v1 w5 ho5 hb5 hg hat; have HP9 := Aside0.mk (HP3.out.appOut hg hb5 hat ho5)))
            go_roundw
            case rel => exact ⟨k + 1, 0, bm, bo, rm2, ro, (I ++ [x]), (O ++ L), by omega, by go_num, ⟨.inl ⟨rfl, rfl, rfl⟩⟩, ⟨HP9.out⟩, ⟨HI9.out⟩⟩
            case measure => simp [intOf]; omega
        · have hA : Below wr.heap.size wr ((wr.alloc (.cells #[.int .i64 2, .int .i64 x.s, .int .i64 x.g, .int .u64 x.t] 65)).alloc (.cells #[.int .i64 0, .int .i64 0, .int .u64 0] 27)) := (by repeat (first | (with_reducible exact Below.refl _ _) | (with_reducible refine Below.drew ?_) | (with_reducible refine below_drewN ?_ _) | (with_reducible refine below_al ?_ _) | (with_reducible refine Below.alloc ?_ (by first | exact Nat.le_refl _ | omega | (simp; done) | (simp; omega)) _) | (with_reducible refine Below.setCell ?_ (by first | (simp only []; omega) | (simp; done) | (simp; omega)) _)))
          have HPA := Aside0.mk (HP.out.then hA)
          have hOP : ((wr.alloc (.cells #[.int .i64 2, .int .i64 x.s, .int .i64 x.g, .int .u64 x.t] 65)).alloc (.cells #[.int .i64 0, .int .i64 0, .int .u64 0] 27)).heap[wr.heap.size]? = some (.cells #[.int .i64 2, .int .i64 x.s, .int .i64 x.g, .int .u64 x.t] 65 (0, 0)) := blk_alloc (blk_new _ _)
          have hWB : ((wr.alloc (.cells #[.int .i64 2, .int .i64 x.s, .int .i64 x.g, .int .u64 x.t] 65)).alloc (.cells #[.int .i64 0, .int .i64 0, .int .u64 0] 27)).heap[wr.heap.size + 1]? = some (.cells #[.int .i64 0, .int .i64 0, .int .u64 0] 27 (0, 0)) := blk_new1 _ _ _
          have hNW : wr.heap.size ≤ ((wr.alloc (.cells #[.int .i64 2, .int .i64 x.s, .int .i64 x.g, .int .u64 x.t] 65)).alloc (.cells #[.int .i64 0, .int .i64 0, .int .u64 0] 27)).heap.size := hA.size
          clear hA
          have hinv := HI.out.gone (kick_perm rm) (kick_rise HI.out.rm)
          have hOl2 := hinv.out
          rw [List.length_append] at hOl2
          have HI9 := Aside0.mk hinv
          clear hinv
          go_wp2_with fail
          generalize (wr.alloc (.cells #[.int .i64 2, .int .i64 x.s, .int .i64 x.g, .int .u64 x.t] 65)).alloc (.cells #[.int .i64 0, .int .i64 0, .int .u64 0] 27) = W at *
          refine (kick_any bm rm W HPA.out.m).mono ?_
          generalize kickOut rm = L at *
          generalize kickR rm = rm2 at *
          rintro e w2 ⟨v, rfl, hv, hI2, hK2⟩
          obtain ⟨A2, c2, rfl, -, hC2⟩ := Kd.R_reads hv
          have hP2 := HPA.out.ring hK2 hI2
          have hO2 := blk_keep hOP hK2 (show ¬ wr.heap.size = bm by omega)
          have HC2 := Aside0.mk hC2
          have z0 : w2.cell? ⟨wr.heap.size, 0, none⟩ = some (.int .i64 2) := cell_blk hO2 0; have z1 : w2.cell? ⟨wr.heap.size, 1, none⟩ = some (.int .i64 x.s) := cell_blk hO2 1; have z2 : w2.cell? ⟨wr.heap.size, 2, none⟩ = some (.int .i64 x.g) := cell_blk hO2 2; have z3 : w2.cell? ⟨wr.heap.size, 3, none⟩ = some (.int .u64 x.t) := cell_blk hO2 3
          have hOl := lt_blk hO2
          have hs2 := hP2.below.size
          have HP2 := Aside0.mk hP2
          clear hv hI2 hK2 hC2 hO2 hP2 HPA
          go_wp2_with (first | ((with_reducible refine gate_builtin (b := .append) (xs := #[.tmp 126, .tmp 127]) rfl ?_); at_builtin; refine Kd.R_append_rows kW (Rr := kW.K w2) (w0 := w2) w.heap.size rfl (.tmp 126) (.tmp 127) 22 27 (.agg #[.int .i64 0, .int .i64 0, .int .u64 0]) 24 rfl Try.underlying22 infoW rfl (by decide) (by omega) u8 O L A2 _ c2 (fun _ => True) (fun _ => False) rfl rfl ?aO ?aR (fun x cs h => kW_KM x cs h) (fun _ h => h.elim) ?aF ?aB ?aS ?aL ?_; (case aO => exact (Kd.R_mono HP2.out.rout (fun _ _ => trivial))); (case aR => exact HC2.out); (case aF => exact fun _ _ => trivial); (case aB => exact Below.refl _ _); (case aS => first | assumption | omega); (case aL => first | omega | (simp; omega)); intro v1 w5 ho5 hb5 hg hat; have HP9 := Aside0.mk (HP2.out.appOut hg hb5 hat ho5)))
          go_roundw
          case rel => exact ⟨k + 1, 0, bm, bo, rm2, ro, I, (O ++ L), by omega, by go_num, ⟨.inl ⟨rfl, rfl, rfl⟩⟩, ⟨HP9.out⟩, ⟨HI9.out⟩⟩
          case measure => simp [intOf]; omega
        · have hA : Below wr.heap.size wr ((wr.alloc (.cells #[.int .i64 3, .int .i64 x.s, .int .i64 x.g, .int .u64 x.t] 65)).alloc (.cells #[.int .i64 0, .int .i64 0, .int .u64 0] 27)) := (by repeat (first | (with_reducible exact Below.refl _ _) | (with_reducible refine Below.drew ?_) | (with_reducible refine below_drewN ?_ _) | (with_reducible refine below_al ?_ _) | (with_reducible refine Below.alloc ?_ (by first | exact Nat.le_refl _ | omega | (simp; done) | (simp; omega)) _) | (with_reducible refine Below.setCell ?_ (by first | (simp only []; omega) | (simp; done) | (simp; omega)) _)))
          have HPA := Aside0.mk (HP.out.then hA)
          have hOP : ((wr.alloc (.cells #[.int .i64 3, .int .i64 x.s, .int .i64 x.g, .int .u64 x.t] 65)).alloc (.cells #[.int .i64 0, .int .i64 0, .int .u64 0] 27)).heap[wr.heap.size]? = some (.cells #[.int .i64 3, .int .i64 x.s, .int .i64 x.g, .int .u64 x.t] 65 (0, 0)) := blk_alloc (blk_new _ _)
          have hWB : ((wr.alloc (.cells #[.int .i64 3, .int .i64 x.s, .int .i64 x.g, .int .u64 x.t] 65)).alloc (.cells #[.int .i64 0, .int .i64 0, .int .u64 0] 27)).heap[wr.heap.size + 1]? = some (.cells #[.int .i64 0, .int .i64 0, .int .u64 0] 27 (0, 0)) := blk_new1 _ _ _
          have hNW : wr.heap.size ≤ ((wr.alloc (.cells #[.int .i64 3, .int .i64 x.s, .int .i64 x.g, .int .u64 x.t] 65)).alloc (.cells #[.int .i64 0, .int .i64 0, .int .u64 0] 27)).heap.size := hA.size
          clear hA
          by_cases hE : takeE rm = 0
          · have hinv := HI.out.gone (take_perm rm) (take_rise HI.out.rm)
            have hL : takeO rm = [takeW rm] := by unfold takeO; rw [if_pos hE]
            rw [hL] at hinv
            have hOl2 := hinv.out
            rw [List.length_append] at hOl2
            have HI9 := Aside0.mk hinv
            clear hinv hL
            go_wp2_with fail
            generalize (wr.alloc (.cells #[.int .i64 3, .int .i64 x.s, .int .i64 x.g, .int .u64 x.t] 65)).alloc (.cells #[.int .i64 0, .int .i64 0, .int .u64 0] 27) = W at *
            refine (take_any bm rm W HPA.out.m).mono ?_
            generalize takeR rm = rm2 at *
            rw [hE]
            generalize takeW rm = y at *
            clear hE
            rintro e w2 ⟨rfl, hI2, hK2⟩
            have hP2 := HPA.out.ring hK2 hI2
            have hO2 := blk_keep hOP hK2 (show ¬ wr.heap.size = bm by omega)
            have hB2 := blk_keep hWB hK2 (show ¬ wr.heap.size + 1 = bm by omega)
            obtain ⟨b0', b1', b2', f0', f1', f2'⟩ := blk3 hB2
            have z0 : w2.cell? ⟨wr.heap.size, 0, none⟩ = some (.int .i64 3) := cell_blk hO2 0; have z1 : w2.cell? ⟨wr.heap.size, 1, none⟩ = some (.int .i64 x.s) := cell_blk hO2 1; have z2 : w2.cell? ⟨wr.heap.size, 2, none⟩ = some (.int .i64 x.g) := cell_blk hO2 2; have z3 : w2.cell? ⟨wr.heap.size, 3, none⟩ = some (.int .u64 x.t) := cell_blk hO2 3
            have hOl := lt_blk hO2
            have hBl := lt_blk hB2
            have hs2 := hP2.below.size
            have hkS : Keep (fun i => i = wr.heap.size + 1) w2 (((w2.setCell ⟨wr.heap.size + 1, 0, none⟩ (.int .i64 y.s)).setCell ⟨wr.heap.size + 1, 1, none⟩ (.int .i64 y.g)).setCell ⟨wr.heap.size + 1, 2, none⟩ (.int .u64 y.t)) := (by repeat (first | (with_reducible exact Keep.refl _ _) | (with_reducible refine Keep.drewN ?_ _) | (with_reducible refine Keep.drew ?_) | (with_reducible refine Keep.setCell ?_ _ _ (by first | (right; with_reducible rfl) | (left; simp; done) | (left; simp; omega) | (right; simp; done) | (right; assumption))) | (with_reducible refine Keep.alloc ?_ _)))
            have HP3 := Aside0.mk (hP2.fresh (by omega) (by omega) (by omega) hkS)
            have hs3 := HP3.out.below.size
            clear hI2 hK2 hP2 HPA hkS
            go_wp2_with (first | ((with_reducible refine gate_builtin (b := .append) (xs := #[.tmp 122, .tmp 124]) rfl ?_); at_builtin; refine Kd.R_append kW (w0 := (((w2.setCell ⟨wr.heap.size + 1, 0, none⟩ (.int .i64 y.s)).setCell ⟨wr.heap.size + 1, 1, none⟩ (.int .i64 y.g)).setCell ⟨wr.heap.size + 1, 2, none⟩ (.int .u64 y.t))) w.heap.size rfl (.tmp 122) (.tmp 124) 22 27 (.agg #[.int .i64 0, .int .i64 0, .int .u64 0]) 24 rfl Try.underlying22 infoW rfl (by decide) (by omega) u8 O y [.int .i64 y.s, .int .i64 y.g, .int .u64 y.t] (fun _ => True) (fun _ => False) rfl ?aX ?aM (fun _ h => h.elim) ?aF ?aO ?aB ?aS ?aL ?_; (case aX => first | rfl | exact congrArg (fun n => Value.slice (some ⟨n, 0, none⟩) 1 1) (by simp)); (case aM => exact kW_mkM _ _ _ _); (case aF => exact fun _ _ => trivial); (case aO => exact (Kd.R_mono HP3.out.rout (fun _ _ => trivial))); (case aB => exact Below.refl _ _); (case aS => first | assumption | omega); (case aL => first | omega | (simp; omega)); intro v9 w6 ho5 hb5 hg hat; have HP4 := Aside0.mk (HP3.out.appOut hg hb5 hat ho5); have w5s := hb5.size; have hs4 := HP4.out.below.size; clear ho5 hb5 hg hat) | ((with_reducible refine gate_builtin (b := .append) (xs := #[.tmp 126, .tmp 127]) rfl ?_); at_builtin; refine Kd.R_append_rows kW (Rr := kW.K w6) (w0 := w6) w.heap.size rfl (.tmp 126) (.tmp 127) 22 27 (.agg #[.int .i64 0, .int .i64 0, .int .u64 0]) 24 rfl Try.underlying22 infoW rfl (by decide) (by omega) v9 (O ++ [y]) ([] : List Wt) none _ 0 (fun _ => True) (fun _ => False) rfl rfl ?aO ?aR (fun x cs h => kW_KM x cs h) (fun _ h => h.elim) ?aF ?aB ?aS ?aL ?_; (case aO => exact (Kd.R_mono HP4.out.rout (fun _ _ => trivial))); (case aR => exact (Kd.C_nil _ _)); (case aF => exact fun _ _ => trivial); (case aB => exact Below.refl _ _); (case aS => first | assumption | omega); (case aL => first | omega | (simp; omega)); intro v1 w5 ho5 hb5 hg hat; have HP9 := Aside0.mk (HP4.out.appOut hg hb5 hat ho5)))
            go_roundw
            case rel => exact ⟨k + 1, 0, bm, bo, rm2, ro, I, (O ++ [y] ++ []), by omega, by go_num, ⟨.inl ⟨rfl, rfl, rfl⟩⟩, ⟨HP9.out⟩, ⟨by rw [List.append_nil]; exact HI9.out⟩⟩
            case measure => simp [intOf]; omega
          · have hinv := HI.out.gone (take_perm rm) (take_rise HI.out.rm)
            have hL : takeO rm = [] := by unfold takeO; rw [if_neg hE]
            rw [hL] at hinv
            have hOl2 := hinv.out
            rw [List.length_append] at hOl2
            have HI9 := Aside0.mk hinv
            clear hinv hL
            have hE0 : (takeE rm == 0) = false := by simpa using hE
            go_wp2_with fail
            generalize (wr.alloc (.cells #[.int .i64 3, .int .i64 x.s, .int .i64 x.g, .int .u64 x.t] 65)).alloc (.cells #[.int .i64 0, .int .i64 0, .int .u64 0] 27) = W at *
            refine (take_any bm rm W HPA.out.m).mono ?_
            generalize takeR rm = rm2 at *
            generalize takeE rm = E at *
            generalize takeW rm = y at *
            clear hE
            rintro e w2 ⟨rfl, hI2, hK2⟩
            have hP2 := HPA.out.ring hK2 hI2
            have hO2 := blk_keep hOP hK2 (show ¬ wr.heap.size = bm by omega)
            have hB2 := blk_keep hWB hK2 (show ¬ wr.heap.size + 1 = bm by omega)
            obtain ⟨b0', b1', b2', f0', f1', f2'⟩ := blk3 hB2
            have z0 : w2.cell? ⟨wr.heap.size, 0, none⟩ = some (.int .i64 3) := cell_blk hO2 0; have z1 : w2.cell? ⟨wr.heap.size, 1, none⟩ = some (.int .i64 x.s) := cell_blk hO2 1; have z2 : w2.cell? ⟨wr.heap.size, 2, none⟩ = some (.int .i64 x.g) := cell_blk hO2 2; have z3 : w2.cell? ⟨wr.heap.size, 3, none⟩ = some (.int .u64 x.t) := cell_blk hO2 3
            have hOl := lt_blk hO2
            have hBl := lt_blk hB2
            have hs2 := hP2.below.size
            have hkS : Keep (fun i => i = wr.heap.size + 1) w2 (((w2.setCell ⟨wr.heap.size + 1, 0, none⟩ (.int .i64 y.s)).setCell ⟨wr.heap.size + 1, 1, none⟩ (.int .i64 y.g)).setCell ⟨wr.heap.size + 1, 2, none⟩ (.int .u64 y.t)) := (by repeat (first | (with_reducible exact Keep.refl _ _) | (with_reducible refine Keep.drewN ?_ _) | (with_reducible refine Keep.drew ?_) | (with_reducible refine Keep.setCell ?_ _ _ (by first | (right; with_reducible rfl) | (left; simp; done) | (left; simp; omega) | (right; simp; done) | (right; assumption))) | (with_reducible refine Keep.alloc ?_ _)))
            have HP3 := Aside0.mk (hP2.fresh (by omega) (by omega) (by omega) hkS)
            have hs3 := HP3.out.below.size
            clear hI2 hK2 hP2 HPA hkS
            go_wp2_with (first | ((with_reducible refine gate_builtin (b := .append) (xs := #[.tmp 126, .tmp 127]) rfl ?_); at_builtin; refine Kd.R_append_rows kW (Rr := kW.K (((w2.setCell ⟨wr.heap.size + 1, 0, none⟩ (.int .i64 y.s)).setCell ⟨wr.heap.size + 1, 1, none⟩ (.int .i64 y.g)).setCell ⟨wr.heap.size + 1, 2, none⟩ (.int .u64 y.t))) (w0 := (((w2.setCell ⟨wr.heap.size + 1, 0, none⟩ (.int .i64 y.s)).setCell ⟨wr.heap.size + 1, 1, none⟩ (.int .i64 y.g)).setCell ⟨wr.heap.size + 1, 2, none⟩ (.int .u64 y.t))) w.heap.size rfl (.tmp 126) (.tmp 127) 22 27 (.agg #[.int .i64 0, .int .i64 0, .int .u64 0]) 24 rfl Try.underlying22 infoW rfl (by decide) (by omega) u8 O ([] : List Wt) none _ 0 (fun _ => True) (fun _ => False) rfl rfl ?aO ?aR (fun x cs h => kW_KM x cs h) (fun _ h => h.elim) ?aF ?aB ?aS ?aL ?_; (case aO => exact (Kd.R_mono HP3.out.rout (fun _ _ => trivial))); (case aR => exact (Kd.C_nil _ _)); (case aF => exact fun _ _ => trivial); (case aB => exact Below.refl _ _); (case aS => first | assumption | omega); (case aL => first | omega | (simp; omega)); intro v1 w5 ho5 hb5 hg hat; have HP9 := Aside0.mk (HP3.out.appOut hg hb5 hat ho5)))
            go_roundw
            case rel => exact ⟨k + 1, 0, bm, bo, rm2, ro, I, (O ++ []), by omega, by go_num, ⟨.inl ⟨rfl, rfl, rfl⟩⟩, ⟨HP9.out⟩, ⟨HI9.out⟩⟩
            case measure => simp [intOf]; omega
        · have hA : Below wr.heap.size wr ((wr.alloc (.cells #[.int .i64 4, .int .i64 x.s, .int .i64 x.g, .int .u64 x.t] 65)).alloc (.cells #[.int .i64 0, .int .i64 0, .int .u64 0] 27)) := (by repeat (first | (with_reducible exact Below.refl _ _) | (with_reducible refine Below.drew ?_) | (with_reducible refine below_drewN ?_ _) | (with_reducible refine below_al ?_ _) | (with_reducible refine Below.alloc ?_ (by first | exact Nat.le_refl _ | omega | (simp; done) | (simp; omega)) _) | (with_reducible refine Below.setCell ?_ (by first | (simp only []; omega) | (simp; done) | (simp; omega)) _)))
          have HPA := Aside0.mk (HP.out.then hA)
          have hOP : ((wr.alloc (.cells #[.int .i64 4, .int .i64 x.s, .int .i64 x.g, .int .u64 x.t] 65)).alloc (.cells #[.int .i64 0, .int .i64 0, .int .u64 0] 27)).heap[wr.heap.size]? = some (.cells #[.int .i64 4, .int .i64 x.s, .int .i64 x.g, .int .u64 x.t] 65 (0, 0)) := blk_alloc (blk_new _ _)
          have hWB : ((wr.alloc (.cells #[.int .i64 4, .int .i64 x.s, .int .i64 x.g, .int .u64 x.t] 65)).alloc (.cells #[.int .i64 0, .int .i64 0, .int .u64 0] 27)).heap[wr.heap.size + 1]? = some (.cells #[.int .i64 0, .int .i64 0, .int .u64 0] 27 (0, 0)) := blk_new1 _ _ _
          have hNW : wr.heap.size ≤ ((wr.alloc (.cells #[.int .i64 4, .int .i64 x.s, .int .i64 x.g, .int .u64 x.t] 65)).alloc (.cells #[.int .i64 0, .int .i64 0, .int .u64 0] 27)).heap.size := hA.size
          clear hA
          have hinv := HI.out.gone (show (drainOut rm ++ drainOut (drainR rm)).Perm (drainOut rm) by rw [drain_nil', List.append_nil]) (by rw [drain_nil']; exact List.Pairwise.nil)
          have hOl2 := hinv.out
          rw [List.length_append] at hOl2
          have HI9 := Aside0.mk hinv
          clear hinv
          go_wp2_with fail
          generalize (wr.alloc (.cells #[.int .i64 4, .int .i64 x.s, .int .i64 x.g, .int .u64 x.t] 65)).alloc (.cells #[.int .i64 0, .int .i64 0, .int .u64 0] 27) = W at *
          refine (drain_any bm rm W HPA.out.m).mono ?_
          generalize drainOut rm = L at *
          generalize drainR rm = rm2 at *
          rintro e w2 ⟨v, rfl, hv, hI2, hK2⟩
          obtain ⟨A2, c2, rfl, -, hC2⟩ := Kd.R_reads hv
          have hP2 := HPA.out.ring hK2 hI2
          have hO2 := blk_keep hOP hK2 (show ¬ wr.heap.size = bm by omega)
          have HC2 := Aside0.mk hC2
          have z0 : w2.cell? ⟨wr.heap.size, 0, none⟩ = some (.int .i64 4) := cell_blk hO2 0; have z1 : w2.cell? ⟨wr.heap.size, 1, none⟩ = some (.int .i64 x.s) := cell_blk hO2 1; have z2 : w2.cell? ⟨wr.heap.size, 2, none⟩ = some (.int .i64 x.g) := cell_blk hO2 2; have z3 : w2.cell? ⟨wr.heap.size, 3, none⟩ = some (.int .u64 x.t) := cell_blk hO2 3
          have hOl := lt_blk hO2
          have hs2 := hP2.below.size
          have HP2 := Aside0.mk hP2
          clear hv hI2 hK2 hC2 hO2 hP2 HPA
          go_wp2_with (first | ((with_reducible refine gate_builtin (b := .append) (xs := #[.tmp 126, .tmp 127]) rfl ?_); at_builtin; refine Kd.R_append_rows kW (Rr := kW.K w2) (w0 := w2) w.heap.size rfl (.tmp 126) (.tmp 127) 22 27 (.agg #[.int .i64 0, .int .i64 0, .int .u64 0]) 24 rfl Try.underlying22 infoW rfl (by decide) (by omega) u8 O L A2 _ c2 (fun _ => True) (fun _ => False) rfl rfl ?aO ?aR (fun x cs h => kW_KM x cs h) (fun _ h => h.elim) ?aF ?aB ?aS ?aL ?_; (case aO => exact (Kd.R_mono HP2.out.rout (fun _ _ => trivial))); (case aR => exact HC2.out); (case aF => exact fun _ _ => trivial); (case aB => exact Below.refl _ _); (case aS => first | assumption | omega); (case aL => first | omega | (simp; omega)); intro v1 w5 ho5 hb5 hg hat; have HP9 := Aside0.mk (HP2.out.appOut hg hb5 hat ho5)))
          go_roundw
          case rel => exact ⟨k + 1, 0, bm, bo, rm2, ro, I, (O ++ L), by omega, by go_num, ⟨.inl ⟨rfl, rfl, rfl⟩⟩, ⟨HP9.out⟩, ⟨HI9.out⟩⟩
          case measure => simp [intOf]; omega
        · have hA : Below wr.heap.size wr ((wr.alloc (.cells #[.int .i64 5, .int .i64 x.s, .int .i64 x.g, .int .u64 x.t] 65)).alloc (.cells #[.int .i64 0, .int .i64 0, .int .u64 0] 27)) := (by repeat (first | (with_reducible exact Below.refl _ _) | (with_reducible refine Below.drew ?_) | (with_reducible refine below_drewN ?_ _) | (with_reducible refine below_al ?_ _) | (with_reducible refine Below.alloc ?_ (by first | exact Nat.le_refl _ | omega | (simp; done) | (simp; omega)) _) | (with_reducible refine Below.setCell ?_ (by first | (simp only []; omega) | (simp; done) | (simp; omega)) _)))
          have HPA := Aside0.mk (HP.out.then hA)
          have hOP : ((wr.alloc (.cells #[.int .i64 5, .int .i64 x.s, .int .i64 x.g, .int .u64 x.t] 65)).alloc (.cells #[.int .i64 0, .int .i64 0, .int .u64 0] 27)).heap[wr.heap.size]? = some (.cells #[.int .i64 5, .int .i64 x.s, .int .i64 x.g, .int .u64 x.t] 65 (0, 0)) := blk_alloc (blk_new _ _)
          have hWB : ((wr.alloc (.cells #[.int .i64 5, .int .i64 x.s, .int .i64 x.g, .int .u64 x.t] 65)).alloc (.cells #[.int .i64 0, .int .i64 0, .int .u64 0] 27)).heap[wr.heap.size + 1]? = some (.cells #[.int .i64 0, .int .i64 0, .int .u64 0] 27 (0, 0)) := blk_new1 _ _ _
          have hNW : wr.heap.size ≤ ((wr.alloc (.cells #[.int .i64 5, .int .i64 x.s, .int .i64 x.g, .int .u64 x.t] 65)).alloc (.cells #[.int .i64 0, .int .i64 0, .int .u64 0] 27)).heap.size := hA.size
          clear hA
          by_cases hE : stealE ro rm = 0
          · have hinv := HI.out.both (steal_perm ro rm) (steal_rise HI.out.ro HI.out.rm).2 (steal_rise HI.out.ro HI.out.rm).1
            have hL : stealO ro rm = [stealW ro rm] := by unfold stealO; rw [if_pos hE]
            rw [hL] at hinv
            have hOl2 := hinv.out
            rw [List.length_append] at hOl2
            have HI9 := Aside0.mk hinv
            clear hinv hL
            go_wp2_with fail
            generalize (wr.alloc (.cells #[.int .i64 5, .int .i64 x.s, .int .i64 x.g, .int .u64 x.t] 65)).alloc (.cells #[.int .i64 0, .int .i64 0, .int .u64 0] 27) = W at *
            refine (steal_any bo bm ro rm W HPA.out.o HPA.out.m (fun e => HPA.out.mo e.symm)).mono ?_
            generalize stealT ro rm = rm2 at *
            generalize stealF ro rm = ro2 at *
            rw [hE]
            generalize stealW ro rm = y at *
            clear hE
            rintro e w2 ⟨rfl, hJ2, hI2, hK2⟩
            have hP2 := HPA.out.rings hK2 hI2 hJ2
            have hO2 := blk_keep hOP hK2 (show ¬ (wr.heap.size = bo ∨ wr.heap.size = bm) by omega)
            have hB2 := blk_keep hWB hK2 (show ¬ (wr.heap.size + 1 = bo ∨ wr.heap.size + 1 = bm) by omega)
            obtain ⟨b0', b1', b2', f0', f1', f2'⟩ := blk3 hB2
            have z0 : w2.cell? ⟨wr.heap.size, 0, none⟩ = some (.int .i64 5) := cell_blk hO2 0; have z1 : w2.cell? ⟨wr.heap.size, 1, none⟩ = some (.int .i64 x.s) := cell_blk hO2 1; have z2 : w2.cell? ⟨wr.heap.size, 2, none⟩ = some (.int .i64 x.g) := cell_blk hO2 2; have z3 : w2.cell? ⟨wr.heap.size, 3, none⟩ = some (.int .u64 x.t) := cell_blk hO2 3
            have hOl := lt_blk hO2
            have hBl := lt_blk hB2
            have hs2 := hP2.below.size
            have hkS : Keep (fun i => i = wr.heap.size + 1) w2 (((w2.setCell ⟨wr.heap.size + 1, 0, none⟩ (.int .i64 y.s)).setCell ⟨wr.heap.size + 1, 1, none⟩ (.int .i64 y.g)).setCell ⟨wr.heap.size + 1, 2, none⟩ (.int .u64 y.t)) := (by repeat (first | (with_reducible exact Keep.refl _ _) | (with_reducible refine Keep.drewN ?_ _) | (with_reducible refine Keep.drew ?_) | (with_reducible refine Keep.setCell ?_ _ _ (by first | (right; with_reducible rfl) | (left; simp; done) | (left; simp; omega) | (right; simp; done) | (right; assumption))) | (with_reducible refine Keep.alloc ?_ _)))
            have HP3 := Aside0.mk (hP2.fresh (by omega) (by omega) (by omega) hkS)
            have hs3 := HP3.out.below.size
            clear hI2 hK2 hP2 HPA hkS hJ2
            go_wp2_with (first | ((with_reducible refine gate_builtin (b := .append) (xs := #[.tmp 122, .tmp 124]) rfl ?_); at_builtin; refine Kd.R_append kW (w0 := (((w2.setCell ⟨wr.heap.size + 1, 0, none⟩ (.int .i64 y.s)).setCell ⟨wr.heap.size + 1, 1, none⟩ (.int .i64 y.g)).setCell ⟨wr.heap.size + 1, 2, none⟩ (.int .u64 y.t))) w.heap.size rfl (.tmp 122) (.tmp 124) 22 27 (.agg #[.int .i64 0, .int .i64 0, .int .u64 0]) 24 rfl Try.underlying22 infoW rfl (by decide) (by omega) u8 O y [.int .i64 y.s, .int .i64 y.g, .int .u64 y.t] (fun _ => True) (fun _ => False) rfl ?aX ?aM (fun _ h => h.elim) ?aF ?aO ?aB ?aS ?aL ?_; (case aX => first | rfl | exact congrArg (fun n => Value.slice (some ⟨n, 0, none⟩) 1 1) (by simp)); (case aM => exact kW_mkM _ _ _ _); (case aF => exact fun _ _ => trivial); (case aO => exact (Kd.R_mono HP3.out.rout (fun _ _ => trivial))); (case aB => exact Below.refl _ _); (case aS => first | assumption | omega); (case aL => first | omega | (simp; omega)); intro v9 w6 ho5 hb5 hg hat; have HP4 := Aside0.mk (HP3.out.appOut hg hb5 hat ho5); have w5s := hb5.size; have hs4 := HP4.out.below.size; clear ho5 hb5 hg hat) | ((with_reducible refine gate_builtin (b := .append) (xs := #[.tmp 126, .tmp 127]) rfl ?_); at_builtin; refine Kd.R_append_rows kW (Rr := kW.K w6) (w0 := w6) w.heap.size rfl (.tmp 126) (.tmp 127) 22 27 (.agg #[.int .i64 0, .int .i64 0, .int .u64 0]) 24 rfl Try.underlying22 infoW rfl (by decide) (by omega) v9 (O ++ [y]) ([] : List Wt) none _ 0 (fun _ => True) (fun _ => False) rfl rfl ?aO ?aR (fun x cs h => kW_KM x cs h) (fun _ h => h.elim) ?aF ?aB ?aS ?aL ?_; (case aO => exact (Kd.R_mono HP4.out.rout (fun _ _ => trivial))); (case aR => exact (Kd.C_nil _ _)); (case aF => exact fun _ _ => trivial); (case aB => exact Below.refl _ _); (case aS => first | assumption | omega); (case aL => first | omega | (simp; omega)); intro v1 w5 ho5 hb5 hg hat; have HP9 := Aside0.mk (HP4.out.appOut hg hb5 hat ho5)))
            go_roundw
            case rel => exact ⟨k + 1, 0, bm, bo, rm2, ro2, I, (O ++ [y] ++ []), by omega, by go_num, ⟨.inl ⟨rfl, rfl, rfl⟩⟩, ⟨HP9.out⟩, ⟨by rw [List.append_nil]; exact HI9.out⟩⟩
            case measure => simp [intOf]; omega
          · have hinv := HI.out.both (steal_perm ro rm) (steal_rise HI.out.ro HI.out.rm).2 (steal_rise HI.out.ro HI.out.rm).1
            have hL : stealO ro rm = [] := by unfold stealO; rw [if_neg hE]
            rw [hL] at hinv
            have hOl2 := hinv.out
            rw [List.length_append] at hOl2
            have HI9 := Aside0.mk hinv
            clear hinv hL
            have hE0 : (stealE ro rm == 0) = false := by simpa using hE
            go_wp2_with fail
            generalize (wr.alloc (.cells #[.int .i64 5, .int .i64 x.s, .int .i64 x.g, .int .u64 x.t] 65)).alloc (.cells #[.int .i64 0, .int .i64 0, .int .u64 0] 27) = W at *
            refine (steal_any bo bm ro rm W HPA.out.o HPA.out.m (fun e => HPA.out.mo e.symm)).mono ?_
            generalize stealT ro rm = rm2 at *
            generalize stealF ro rm = ro2 at *
            generalize stealE ro rm = E at *
            generalize stealW ro rm = y at *
            clear hE
            rintro e w2 ⟨rfl, hJ2, hI2, hK2⟩
            have hP2 := HPA.out.rings hK2 hI2 hJ2
            have hO2 := blk_keep hOP hK2 (show ¬ (wr.heap.size = bo ∨ wr.heap.size = bm) by omega)
            have hB2 := blk_keep hWB hK2 (show ¬ (wr.heap.size + 1 = bo ∨ wr.heap.size + 1 = bm) by omega)
            obtain ⟨b0', b1', b2', f0', f1', f2'⟩ := blk3 hB2
            have z0 : w2.cell? ⟨wr.heap.size, 0, none⟩ = some (.int .i64 5) := cell_blk hO2 0; have z1 : w2.cell? ⟨wr.heap.size, 1, none⟩ = some (.int .i64 x.s) := cell_blk hO2 1; have z2 : w2.cell? ⟨wr.heap.size, 2, none⟩ = some (.int .i64 x.g) := cell_blk hO2 2; have z3 : w2.cell? ⟨wr.heap.size, 3, none⟩ = some (.int .u64 x.t) := cell_blk hO2 3
            have hOl := lt_blk hO2
            have hBl := lt_blk hB2
            have hs2 := hP2.below.size
            have hkS : Keep (fun i => i = wr.heap.size + 1) w2 (((w2.setCell ⟨wr.heap.size + 1, 0, none⟩ (.int .i64 y.s)).setCell ⟨wr.heap.size + 1, 1, none⟩ (.int .i64 y.g)).setCell ⟨wr.heap.size + 1, 2, none⟩ (.int .u64 y.t)) := (by repeat (first | (with_reducible exact Keep.refl _ _) | (with_reducible refine Keep.drewN ?_ _) | (with_reducible refine Keep.drew ?_) | (with_reducible refine Keep.setCell ?_ _ _ (by first | (right; with_reducible rfl) | (left; simp; done) | (left; simp; omega) | (right; simp; done) | (right; assumption))) | (with_reducible refine Keep.alloc ?_ _)))
            have HP3 := Aside0.mk (hP2.fresh (by omega) (by omega) (by omega) hkS)
            have hs3 := HP3.out.below.size
            clear hI2 hK2 hP2 HPA hkS hJ2
            go_wp2_with (first | ((with_reducible refine gate_builtin (b := .append) (xs := #[.tmp 126, .tmp 127]) rfl ?_); at_builtin; refine Kd.R_append_rows kW (Rr := kW.K (((w2.setCell ⟨wr.heap.size + 1, 0, none⟩ (.int .i64 y.s)).setCell ⟨wr.heap.size + 1, 1, none⟩ (.int .i64 y.g)).setCell ⟨wr.heap.size + 1, 2, none⟩ (.int .u64 y.t))) (w0 := (((w2.setCell ⟨wr.heap.size + 1, 0, none⟩ (.int .i64 y.s)).setCell ⟨wr.heap.size + 1, 1, none⟩ (.int .i64 y.g)).setCell ⟨wr.heap.size + 1, 2, none⟩ (.int .u64 y.t))) w.heap.size rfl (.tmp 126) (.tmp 127) 22 27 (.agg #[.int .i64 0, .int .i64 0, .int .u64 0]) 24 rfl Try.underlying22 infoW rfl (by decide) (by omega) u8 O ([] : List Wt) none _ 0 (fun _ => True) (fun _ => False) rfl rfl ?aO ?aR (fun x cs h => kW_KM x cs h) (fun _ h => h.elim) ?aF ?aB ?aS ?aL ?_; (case aO => exact (Kd.R_mono HP3.out.rout (fun _ _ => trivial))); (case aR => exact (Kd.C_nil _ _)); (case aF => exact fun _ _ => trivial); (case aB => exact Below.refl _ _); (case aS => first | assumption | omega); (case aL => first | omega | (simp; omega)); intro v1 w5 ho5 hb5 hg hat; have HP9 := Aside0.mk (HP3.out.appOut hg hb5 hat ho5)))
            go_roundw
            case rel => exact ⟨k + 1, 0, bm, bo, rm2, ro2, I, (O ++ []), by omega, by go_num, ⟨.inl ⟨rfl, rfl, rfl⟩⟩, ⟨HP9.out⟩, ⟨HI9.out⟩⟩
            case measure => simp [intOf]; omega
        · have hA : Below wr.heap.size wr ((wr.alloc (.cells #[.int .i64 6, .int .i64 x.s, .int .i64 x.g, .int .u64 x.t] 65)).alloc (.cells #[.int .i64 0, .int .i64 0, .int .u64 0] 27)) := (by repeat (first | (with_reducible exact Below.refl _ _) | (with_reducible refine Below.drew ?_) | (with_reducible refine below_drewN ?_ _) | (with_reducible refine below_al ?_ _) | (with_reducible refine Below.alloc ?_ (by first | exact Nat.le_refl _ | omega | (simp; done) | (simp; omega)) _) | (with_reducible refine Below.setCell ?_ (by first | (simp only []; omega) | (simp; done) | (simp; omega)) _)))
          have HPA := Aside0.mk (HP.out.then hA)
          have hOP : ((wr.alloc (.cells #[.int .i64 6, .int .i64 x.s, .int .i64 x.g, .int .u64 x.t] 65)).alloc (.cells #[.int .i64 0, .int .i64 0, .int .u64 0] 27)).heap[wr.heap.size]? = some (.cells #[.int .i64 6, .int .i64 x.s, .int .i64 x.g, .int .u64 x.t] 65 (0, 0)) := blk_alloc (blk_new _ _)
          have hWB : ((wr.alloc (.cells #[.int .i64 6, .int .i64 x.s, .int .i64 x.g, .int .u64 x.t] 65)).alloc (.cells #[.int .i64 0, .int .i64 0, .int .u64 0] 27)).heap[wr.heap.size + 1]? = some (.cells #[.int .i64 0, .int .i64 0, .int .u64 0] 27 (0, 0)) := blk_new1 _ _ _
          have hNW : wr.heap.size ≤ ((wr.alloc (.cells #[.int .i64 6, .int .i64 x.s, .int .i64 x.g, .int .u64 x.t] 65)).alloc (.cells #[.int .i64 0, .int .i64 0, .int .u64 0] 27)).heap.size := hA.size
          clear hA
          have hOl2 := HI.out.out
          have HPS := Aside0.mk ((HPA.out.pairs 12 (.int .i64 1)).swap)
          have eW : ((wr.alloc (.cells #[.int .i64 6, .int .i64 x.s, .int .i64 x.g, .int .u64 x.t] 65)).alloc (.cells #[.int .i64 0, .int .i64 0, .int .u64 0] 27)).setCell ⟨G, 12, none⟩ (.int .i64 1) = ((wr.setCell ⟨G, 12, none⟩ (.int .i64 1)).alloc (.cells #[.int .i64 6, .int .i64 x.s, .int .i64 x.g, .int .u64 x.t] 65)).alloc (.cells #[.int .i64 0, .int .i64 0, .int .u64 0] 27) := by rw [World.setCell_alloc_past _ _ _ _ (by simp; omega), World.setCell_alloc_past _ _ _ _ hGl]
          rw [eW] at HPS
          clear eW
          have hs3 := HPS.out.below.size
          have fp := frozen_blk HP.out.blk 12
          clear HPA
          go_wp2_with (first | ((with_reducible refine gate_builtin (b := .append) (xs := #[.tmp 126, .tmp 127]) rfl ?_); at_builtin; refine Kd.R_append_rows kW (Rr := kW.K (((wr.setCell ⟨G, 12, none⟩ (.int .i64 1)).alloc (.cells #[.int .i64 6, .int .i64 x.s, .int .i64 x.g, .int .u64 x.t] 65)).alloc (.cells #[.int .i64 0, .int .i64 0, .int .u64 0] 27))) (w0 := (((wr.setCell ⟨G, 12, none⟩ (.int .i64 1)).alloc (.cells #[.int .i64 6, .int .i64 x.s, .int .i64 x.g, .int .u64 x.t] 65)).alloc (.cells #[.int .i64 0, .int .i64 0, .int .u64 0] 27))) w.heap.size rfl (.tmp 126) (.tmp 127) 22 27 (.agg #[.int .i64 0, .int .i64 0, .int .u64 0]) 24 rfl Try.underlying22 infoW rfl (by decide) (by omega) u8 O ([] : List Wt) none _ 0 (fun _ => True) (fun _ => False) rfl rfl ?aO ?aR (fun x cs h => kW_KM x cs h) (fun _ h => h.elim) ?aF ?aB ?aS ?aL ?_; (case aO => exact (Kd.R_mono HPS.out.rout (fun _ _ => trivial))); (case aR => exact (Kd.C_nil _ _)); (case aF => exact fun _ _ => trivial); (case aB => exact Below.refl _ _); (case aS => first | assumption | omega); (case aL => first | omega | (simp; omega)); intro v1 w5 ho5 hb5 hg hat; have HP9 := Aside0.mk (HPS.out.appOut hg hb5 hat ho5)))
          go_roundw
          case rel => exact ⟨k + 1, 1, bo, bm, ro, rm, I, (O ++ []), by omega, by go_num, ⟨.inr ⟨rfl, rfl, rfl⟩⟩, ⟨HP9.out⟩, ⟨by rw [List.append_nil]; exact HI.out.swap⟩⟩
          case measure => simp [intOf]; omega
        · have hA : Below wr.heap.size wr ((wr.alloc (.cells #[.int .i64 d, .int .i64 x.s, .int .i64 x.g, .int .u64 x.t] 65)).alloc (.cells #[.int .i64 0, .int .i64 0, .int .u64 0] 27)) := (by repeat (first | (with_reducible exact Below.refl _ _) | (with_reducible refine Below.drew ?_) | (with_reducible refine below_drewN ?_ _) | (with_reducible refine below_al ?_ _) | (with_reducible refine Below.alloc ?_ (by first | exact Nat.le_refl _ | omega | (simp; done) | (simp; omega)) _) | (with_reducible refine Below.setCell ?_ (by first | (simp only []; omega) | (simp; done) | (simp; omega)) _)))
          have HPA := Aside0.mk (HP.out.then hA)
          have hOP : ((wr.alloc (.cells #[.int .i64 d, .int .i64 x.s, .int .i64 x.g, .int .u64 x.t] 65)).alloc (.cells #[.int .i64 0, .int .i64 0, .int .u64 0] 27)).heap[wr.heap.size]? = some (.cells #[.int .i64 d, .int .i64 x.s, .int .i64 x.g, .int .u64 x.t] 65 (0, 0)) := blk_alloc (blk_new _ _)
          have hWB : ((wr.alloc (.cells #[.int .i64 d, .int .i64 x.s, .int .i64 x.g, .int .u64 x.t] 65)).alloc (.cells #[.int .i64 0, .int .i64 0, .int .u64 0] 27)).heap[wr.heap.size + 1]? = some (.cells #[.int .i64 0, .int .i64 0, .int .u64 0] 27 (0, 0)) := blk_new1 _ _ _
          have hNW : wr.heap.size ≤ ((wr.alloc (.cells #[.int .i64 d, .int .i64 x.s, .int .i64 x.g, .int .u64 x.t] 65)).alloc (.cells #[.int .i64 0, .int .i64 0, .int .u64 0] 27)).heap.size := hA.size
          clear hA
          obtain ⟨d0, d1, d2, d3, d4, d5, d6⟩ := hd
          have q0 : (d == 0) = false := by simpa using d0
          have q1 : (d == 1) = false := by simpa using d1
          have q2 : (d == 2) = false := by simpa using d2
          have q3 : (d == 3) = false := by simpa using d3
          have q4 : (d == 4) = false := by simpa using d4
          have q5 : (d == 5) = false := by simpa using d5
          have q6 : (d == 6) = false := by simpa using d6
          clear d0 d1 d2 d3 d4 d5 d6
          have hOl2 := HI.out.out
          have hs3 := HPA.out.below.size
          go_wp2_with (first | ((with_reducible refine gate_builtin (b := .append) (xs := #[.tmp 126, .tmp 127]) rfl ?_); at_builtin; refine Kd.R_append_rows kW (Rr := kW.K ((wr.alloc (.cells #[.int .i64 d, .int .i64 x.s, .int .i64 x.g, .int .u64 x.t] 65)).alloc (.cells #[.int .i64 0, .int .i64 0, .int .u64 0] 27))) (w0 := ((wr.alloc (.cells #[.int .i64 d, .int .i64 x.s, .int .i64 x.g, .int .u64 x.t] 65)).alloc (.cells #[.int .i64 0, .int .i64 0, .int .u64 0] 27))) w.heap.size rfl (.tmp 126) (.tmp 127) 22 27 (.agg #[.int .i64 0, .int .i64 0, .int .u64 0]) 24 rfl Try.underlying22 infoW rfl (by decide) (by omega) u8 O ([] : List Wt) none _ 0 (fun _ => True) (fun _ => False) rfl rfl ?aO ?aR (fun x cs h => kW_KM x cs h) (fun _ h => h.elim) ?aF ?aB ?aS ?aL ?_; (case aO => exact (Kd.R_mono HPA.out.rout (fun _ _ => trivial))); (case aR => exact (Kd.C_nil _ _)); (case aF => exact fun _ _ => trivial); (case aB => exact Below.refl _ _); (case aS => first | assumption | omega); (case aL => first | omega | (simp; omega)); intro v1 w5 ho5 hb5 hg hat; have HP9 := Aside0.mk (HPA.out.appOut hg hb5 hat ho5)))
          go_roundw
          case rel => exact ⟨k + 1, 0, bm, bo, rm, ro, I, (O ++ []), by omega, by go_num, ⟨.inl ⟨rfl, rfl, rfl⟩⟩, ⟨HP9.out⟩, ⟨by rw [List.append_nil]; exact HI.out.same⟩⟩
          case measure => simp [intOf]; omega
      · have hPC := HP.out.blk
        have p0 : wr.cell? ⟨G, 0, none⟩ = some (.pointer (some ⟨bo, 0, none⟩)) := cell_blk hPC 0; have p1 : wr.cell? ⟨G, 1, none⟩ = some (.pointer (some ⟨bm, 0, none⟩)) := cell_blk hPC 1; have p2 : wr.cell? ⟨G, 2, none⟩ = some (.slice none 0 0) := cell_blk hPC 2; have p3 : wr.cell? ⟨G, 3, none⟩ = some (.bool false) := cell_blk hPC 3; have p4 : wr.cell? ⟨G, 4, none⟩ = some (.int .i64 0) := cell_blk hPC 4; have p5 : wr.cell? ⟨G, 5, none⟩ = some (.int .i64 0) := cell_blk hPC 5; have p6 : wr.cell? ⟨G, 6, none⟩ = some (.int .u64 0) := cell_blk hPC 6; have p7 : wr.cell? ⟨G, 7, none⟩ = some (.slice none 0 0) := cell_blk hPC 7; have p8 : wr.cell? ⟨G, 8, none⟩ = some (.bool false) := cell_blk hPC 8; have p9 : wr.cell? ⟨G, 9, none⟩ = some (.int .i64 0) := cell_blk hPC 9; have p10 : wr.cell? ⟨G, 10, none⟩ = some (.int .i64 0) := cell_blk hPC 10; have p11 : wr.cell? ⟨G, 11, none⟩ = some (.int .u64 0) := cell_blk hPC 11; have p12 : wr.cell? ⟨G, 12, none⟩ = some (.int .i64 1) := cell_blk hPC 12
        clear hPC
        rcases (show d = 0 ∨ d = 1 ∨ d = 2 ∨ d = 3 ∨ d = 4 ∨ d = 5 ∨ d = 6 ∨ (d ≠ 0 ∧ d ≠ 1 ∧ d ≠ 2 ∧ d ≠ 3 ∧ d ≠ 4 ∧ d ≠ 5 ∧ d ≠ 6) by omega) with rfl | rfl | rfl | rfl | rfl | rfl | rfl | hd
        · have hA : Below wr.heap.size wr ((wr.alloc (.cells #[.int .i64 0, .int .i64 x.s, .int .i64 x.g, .int .u64 x.t] 65)).alloc (.cells #[.int .i64 0, .int .i64 0, .int .u64 0] 27)) := (by repeat (first | (with_reducible exact Below.refl _ _) | (with_reducible refine Below.drew ?_) | (with_reducible refine below_drewN ?_ _) | (with_reducible refine below_al ?_ _) | (with_reducible refine Below.alloc ?_ (by first | exact Nat.le_refl _ | omega | (simp; done) | (simp; omega)) _) | (with_reducible refine Below.setCell ?_ (by first | (simp only []; omega) | (simp; done) | (simp; omega)) _)))
          have HPA := Aside0.mk (HP.out.then hA)
          have hOP : ((wr.alloc (.cells #[.int .i64 0, .int .i64 x.s, .int .i64 x.g, .int .u64 x.t] 65)).alloc (.cells #[.int .i64 0, .int .i64 0, .int .u64 0] 27)).heap[wr.heap.size]? = some (.cells #[.int .i64 0, .int .i64 x.s, .int .i64 x.g, .int .u64 x.t] 65 (0, 0)) := blk_alloc (blk_new _ _)
          have hWB : ((wr.alloc (.cells #[.int .i64 0, .int .i64 x.s, .int .i64 x.g, .int .u64 x.t] 65)).alloc (.cells #[.int .i64 0, .int .i64 0, .int .u64 0] 27)).heap[wr.heap.size + 1]? = some (.cells #[.int .i64 0, .int .i64 0, .int .u64 0] 27 (0, 0)) := blk_new1 _ _ _
          have hNW : wr.heap.size ≤ ((wr.alloc (.cells #[.int .i64 0, .int .i64 x.s, .int .i64 x.g, .int .u64 x.t] 65)).alloc (.cells #[.int .i64 0, .int .i64 0, .int .u64 0] 27)).heap.size := hA.size
          clear hA
          cases hb : putBad rm x with
          | true =>
            have hE : putE rm x = 20 := by rw [putE, hb]; rfl
            have e2 : putR rm x = rm := by rw [putR, hb]; rfl
            have e3 : putOut rm x = [] := by rw [putOut, hb]; rfl
            clear hb
            go_wp2_with fail
            generalize (wr.alloc (.cells #[.int .i64 0, .int .i64 x.s, .int .i64 x.g, .int .u64 x.t] 65)).alloc (.cells #[.int .i64 0, .int .i64 0, .int .u64 0] 27) = W at *
            refine (put_any bm rm x W HPA.out.m).mono ?_
            rw [hE, e2, e3]
            rintro e w2 ⟨v, rfl, hv, hI2, hK2⟩
            clear hE e2 e3
            obtain ⟨A2, c2, rfl, -, hC2⟩ := Kd.R_reads hv
            have hP2 := HPA.out.ring hK2 hI2
            have hO2 := blk_keep hOP hK2 (show ¬ wr.heap.size = bm by omega)
            have HC2 := Aside0.mk hC2
            have z0 : w2.cell? ⟨wr.heap.size, 0, none⟩ = some (.int .i64 0) := cell_blk hO2 0; have z1 : w2.cell? ⟨wr.heap.size, 1, none⟩ = some (.int .i64 x.s) := cell_blk hO2 1; have z2 : w2.cell? ⟨wr.heap.size, 2, none⟩ = some (.int .i64 x.g) := cell_blk hO2 2; have z3 : w2.cell? ⟨wr.heap.size, 3, none⟩ = some (.int .u64 x.t) := cell_blk hO2 3
            have hOl := lt_blk hO2
            have hs2 := hP2.below.size
            have HP2 := Aside0.mk hP2
            have hOl2 := HI.out.out
            clear hv hI2 hK2 hC2 hO2 hP2 HPA
            go_wp2_with (first | ((with_reducible refine gate_builtin (b := .append) (xs := #[.tmp 126, .tmp 127]) rfl ?_); at_builtin; refine Kd.R_append_rows kW (Rr := kW.K w2) (w0 := w2) w.heap.size rfl (.tmp 126) (.tmp 127) 22 27 (.agg #[.int .i64 0, .int .i64 0, .int .u64 0]) 24 rfl Try.underlying22 infoW rfl (by decide) (by omega) u8 O ([] : List Wt) A2 _ c2 (fun _ => True) (fun _ => False) rfl rfl ?aO ?aR (fun x cs h => kW_KM x cs h) (fun _ h => h.elim) ?aF ?aB ?aS ?aL ?_; (case aO => exact (Kd.R_mono HP2.out.rout (fun _ _ => trivial))); (case aR => exact HC2.out); (case aF => exact fun _ _ => trivial); (case aB => exact Below.refl _ _); (case aS => first | assumption | omega); (case aL => first | omega | (simp; omega)); intro v1 w5 ho5 hb5 hg hat; have HP9 := Aside0.mk (HP2.out.appOut hg hb5 hat ho5)))
            go_roundw
            case rel => exact ⟨k + 1, 1, bm, bo, rm, ro, I, (O ++ []), by omega, by go_num, ⟨.inr ⟨rfl, rfl, rfl⟩⟩, ⟨HP9.out⟩, ⟨by rw [List.append_nil]; exact HI.out.same⟩⟩
            case measure => simp [intOf]; omega
          | false =>
            have hE : putE rm x = 0 := by rw [putE, hb]; rfl
            have hinv := HI.out.come (put_perm hb) (put_rise hb HI.out.rm)
            have hOl2 := hinv.out
            rw [List.length_append] at hOl2
            have hIl2 := HI.out.len
            have HI9 := Aside0.mk hinv
            clear hinv hb
            go_wp2_with fail
            generalize (wr.alloc (.cells #[.int .i64 0, .int .i64 x.s, .int .i64 x.g, .int .u64 x.t] 65)).alloc (.cells #[.int .i64 0, .int .i64 0, .int .u64 0] 27) = W at *
            refine (put_any bm rm x W HPA.out.m).mono ?_
            rw [hE]
            generalize putOut rm x = L at *
            generalize putR rm x = rm2 at *
            rintro e w2 ⟨v, rfl, hv, hI2, hK2⟩
            clear hE
            obtain ⟨A2, c2, rfl, hcc2, -⟩ := Kd.R_reads hv
            have hP2 := HPA.out.ring hK2 hI2
            have hO2 := blk_keep hOP hK2 (show ¬ wr.heap.size = bm by omega)
            have HV2 := Aside0.mk hv
            have z0 : w2.cell? ⟨wr.heap.size, 0, none⟩ = some (.int .i64 0) := cell_blk hO2 0; have z1 : w2.cell? ⟨wr.heap.size, 1, none⟩ = some (.int .i64 x.s) := cell_blk hO2 1; have z2 : w2.cell? ⟨wr.heap.size, 2, none⟩ = some (.int .i64 x.g) := cell_blk hO2 2; have z3 : w2.cell? ⟨wr.heap.size, 3, none⟩ = some (.int .u64 x.t) := cell_blk hO2 3
            have hOl := lt_blk hO2
            have hs2 := hP2.below.size
            have HP2 := Aside0.mk hP2
            have HO2 := Aside0.mk hO2
            clear hv hI2 hK2 hO2 hP2 HPA
            go_wp2_with (first | ((with_reducible refine gate_builtin (b := .append) (xs := #[.tmp 105, .tmp 108]) rfl ?_); at_builtin; refine Kd.R_append kW (w0 := w2) w.heap.size rfl (.tmp 105) (.tmp 108) 22 27 (.agg #[.int .i64 0, .int .i64 0, .int .u64 0]) 24 rfl Try.underlying22 infoW rfl (by decide) (by omega) u7 I x [.int .i64 x.s, .int .i64 x.g, .int .u64 x.t] (fun _ => True) (fun _ => False) rfl ?aX ?aM (fun _ h => h.elim) ?aF ?aO ?aB ?aS ?aL ?_; (case aX => first | rfl | exact congrArg (fun n => Value.slice (some ⟨n, 0, none⟩) 1 1) (by simp)); (case aM => exact kW_mkM _ _ _ _); (case aF => exact fun _ _ => trivial); (case aO => exact (Kd.R_mono HP2.out.rin (fun _ _ => trivial))); (case aB => exact Below.refl _ _); (case aS => first | assumption | omega); (case aL => first | omega | (simp; omega)); intro v1 w6 ho5 hb5 hg hat; have HP3 := Aside0.mk (HP2.out.appIn hg hb5 hat ho5); have HC3 := Aside0.mk (Kd.R_reads' (fresh_grown HV2.out HP2.out.rin hNW hg)).2.2; have hO3 := blk_grown HO2.out hg (Kd.R_ne HP2.out.rin HO2.out (by decide)); have w5s := hb5.size; have zz0 : w6.cell? ⟨wr.heap.size, 0, none⟩ = some (.int .i64 0) := cell_blk hO3 0; have zz1 : w6.cell? ⟨wr.heap.size, 1, none⟩ = some (.int .i64 x.s) := cell_blk hO3 1; have zz2 : w6.cell? ⟨wr.heap.size, 2, none⟩ = some (.int .i64 x.g) := cell_blk hO3 2; have zz3 : w6.cell? ⟨wr.heap.size, 3, none⟩ = some (.int .u64 x.t) := cell_blk hO3 3; have hO3l := lt_blk hO3; have hs3 := HP3.out.below.size; clear ho5 hb5 hg hat hO3) | ((with_reducible refine gate_builtin (b := .append) (xs := #[.tmp 126, .tmp 127]) rfl ?_); at_builtin; refine Kd.R_append_rows kW (Rr := kW.K w6) (w0 := w6) w.heap.size rfl (.tmp 126) (.tmp 127) 22 27 (.agg #[.int .i64 0, .int .i64 0, .int .u64 0]) 24 rfl Try.underlying22 infoW rfl (by decide) (by omega) u8 O L A2 _ c2 (fun _ => True) (fun _ => False) rfl rfl ?aO ?aR (fun x cs h => kW_KM x cs h) (fun _ h => h.elim) ?aF ?aB ?aS ?aL ?_; (case aO => exact (Kd.R_mono HP3.out.rout (fun _ _ => trivial))); (case aR => exact HC3.out); (case aF => exact fun _ _ => trivial); (case aB => exact Below.refl _ _); (case aS => first | assumption | omega); (case aL => first | omega | (simp; omega)); intro v1 w5 ho5 hb5 hg hat; have HP9 := Aside0.mk (HP3.out.appOut hg hb5 hat ho5)))
            go_roundw
            case rel => exact ⟨k + 1, 1, bm, bo, rm2, ro, (I ++ [x]), (O ++ L), by omega, by go_num, ⟨.inr ⟨rfl, rfl, rfl⟩⟩, ⟨HP9.out⟩, ⟨HI9.out⟩⟩
            case measure => simp [intOf]; omega
        · have hA : Below wr.heap.size wr ((wr.alloc (.cells #[.int .i64 1, .int .i64 x.s, .int .i64 x.g, .int .u64 x.t] 65)).alloc (.cells #[.int .i64 0, .int .i64 0, .int .u64 0] 27)) := (by repeat (first | (with_reducible exact Below.refl _ _) | (with_reducible refine Below.drew ?_) | (with_reducible refine below_drewN ?_ _) | (with_reducible refine below_al ?_ _) | (with_reducible refine Below.alloc ?_ (by first | exact Nat.le_refl _ | omega | (simp; done) | (simp; omega)) _) | (with_reducible refine Below.setCell ?_ (by first | (simp only []; omega) | (simp; done) | (simp; omega)) _)))
          have HPA := Aside0.mk (HP.out.then hA)
          have hOP : ((wr.alloc (.cells #[.int .i64 1, .int .i64 x.s, .int .i64 x.g, .int .u64 x.t] 65)).alloc (.cells #[.int .i64 0, .int .i64 0, .int .u64 0] 27)).heap[wr.heap.size]? = some (.cells #[.int .i64 1, .int .i64 x.s, .int .i64 x.g, .int .u64 x.t] 65 (0, 0)) := blk_alloc (blk_new _ _)
          have hWB : ((wr.alloc (.cells #[.int .i64 1, .int .i64 x.s, .int .i64 x.g, .int .u64 x.t] 65)).alloc (.cells #[.int .i64 0, .int .i64 0, .int .u64 0] 27)).heap[wr.heap.size + 1]? = some (.cells #[.int .i64 0, .int .i64 0, .int .u64 0] 27 (0, 0)) := blk_new1 _ _ _
          have hNW : wr.heap.size ≤ ((wr.alloc (.cells #[.int .i64 1, .int .i64 x.s, .int .i64 x.g, .int .u64 x.t] 65)).alloc (.cells #[.int .i64 0, .int .i64 0, .int .u64 0] 27)).heap.size := hA.size
          clear hA
          cases hb : rdyBad rm x with
          | true =>
            have hE : rdyE rm x = 20 := by rw [rdyE, hb]; rfl
            have e2 : rdyR rm x = rm := by rw [rdyR, hb]; rfl
            have e3 : rdyOut rm x = [] := by rw [rdyOut, hb]; rfl
            clear hb
            go_wp2_with fail
            generalize (wr.alloc (.cells #[.int .i64 1, .int .i64 x.s, .int .i64 x.g, .int .u64 x.t] 65)).alloc (.cells #[.int .i64 0, .int .i64 0, .int .u64 0] 27) = W at *
            refine (rdy_any bm rm x W HPA.out.m).mono ?_
            rw [hE, e2, e3]
            rintro e w2 ⟨v, rfl, hv, hI2, hK2⟩
            clear hE e2 e3
            obtain ⟨A2, c2, rfl, -, hC2⟩ := Kd.R_reads hv
            have hP2 := HPA.out.ring hK2 hI2
            have hO2 := blk_keep hOP hK2 (show ¬ wr.heap.size = bm by omega)
            have HC2 := Aside0.mk hC2
            have z0 : w2.cell? ⟨wr.heap.size, 0, none⟩ = some (.int .i64 1) := cell_blk hO2 0; have z1 : w2.cell? ⟨wr.heap.size, 1, none⟩ = some (.int .i64 x.s) := cell_blk hO2 1; have z2 : w2.cell? ⟨wr.heap.size, 2, none⟩ = some (.int .i64 x.g) := cell_blk hO2 2; have z3 : w2.cell? ⟨wr.heap.size, 3, none⟩ = some (.int .u64 x.t) := cell_blk hO2 3
            have hOl := lt_blk hO2
            have hs2 := hP2.below.size
            have HP2 := Aside0.mk hP2
            have hOl2 := HI.out.out
            clear hv hI2 hK2 hC2 hO2 hP2 HPA
            go_wp2_with (first | ((with_reducible refine gate_builtin (b := .append) (xs := #[.tmp 126, .tmp 127]) rfl ?_); at_builtin; refine Kd.R_append_rows kW (Rr := kW.K w2) (w0 := w2) w.heap.size rfl (.tmp 126) (.tmp 127) 22 27 (.agg #[.int .i64 0, .int .i64 0, .int .u64 0]) 24 rfl Try.underlying22 infoW rfl (by decide) (by omega) u8 O ([] : List Wt) A2 _ c2 (fun _ => True) (fun _ => False) rfl rfl ?aO ?aR (fun x cs h => kW_KM x cs h) (fun _ h => h.elim) ?aF ?aB ?aS ?aL ?_; (case aO => exact (Kd.R_mono HP2.out.rout (fun _ _ => trivial))); (case aR => exact HC2.out); (case aF => exact fun _ _ => trivial); (case aB => exact Below.refl _ _); (case aS => first | assumption | omega); (case aL => first | omega | (simp; omega)); intro v1 w5 ho5 hb5 hg hat; have HP9 := Aside0.mk (HP2.out.appOut hg hb5 hat ho5)))
            go_roundw
            case rel => exact ⟨k + 1, 1, bm, bo, rm, ro, I, (O ++ []), by omega, by go_num, ⟨.inr ⟨rfl, rfl, rfl⟩⟩, ⟨HP9.out⟩, ⟨by rw [List.append_nil]; exact HI.out.same⟩⟩
            case measure => simp [intOf]; omega
          | false =>
            have hE : rdyE rm x = 0 := by rw [rdyE, hb]; rfl
            have hinv := HI.out.come (rdy_perm hb) (rdy_rise hb HI.out.rm)
            have hOl2 := hinv.out
            rw [List.length_append] at hOl2
            have hIl2 := HI.out.len
            have HI9 := Aside0.mk hinv
            clear hinv hb
            go_wp2_with fail
            generalize (wr.alloc (.cells #[.int .i64 1, .int .i64 x.s, .int .i64 x.g, .int .u64 x.t] 65)).alloc (.cells #[.int .i64 0, .int .i64 0, .int .u64 0] 27) = W at *
            refine (rdy_any bm rm x W HPA.out.m).mono ?_
            rw [hE]
            generalize rdyOut rm x = L at *
            generalize rdyR rm x = rm2 at *
            rintro e w2 ⟨v, rfl, hv, hI2, hK2⟩
            clear hE
            obtain ⟨A2, c2, rfl, hcc2, -⟩ := Kd.R_reads hv
            have hP2 := HPA.out.ring hK2 hI2
            have hO2 := blk_keep hOP hK2 (show ¬ wr.heap.size = bm by omega)
            have HV2 := Aside0.mk hv
            have z0 : w2.cell? ⟨wr.heap.size, 0, none⟩ = some (.int .i64 1) := cell_blk hO2 0; have z1 : w2.cell? ⟨wr.heap.size, 1, none⟩ = some (.int .i64 x.s) := cell_blk hO2 1; have z2 : w2.cell? ⟨wr.heap.size, 2, none⟩ = some (.int .i64 x.g) := cell_blk hO2 2; have z3 : w2.cell? ⟨wr.heap.size, 3, none⟩ = some (.int .u64 x.t) := cell_blk hO2 3
            have hOl := lt_blk hO2
            have hs2 := hP2.below.size
            have HP2 := Aside0.mk hP2
            have HO2 := Aside0.mk hO2
            clear hv hI2 hK2 hO2 hP2 HPA
            go_wp2_with (first | ((with_reducible refine gate_builtin (b := .append) (xs := #[.tmp 105, .tmp 108]) rfl ?_); at_builtin; refine Kd.R_append kW (w0 := w2) w.heap.size rfl (.tmp 105) (.tmp 108) 22 27 (.agg #[.int .i64 0, .int .i64 0, .int .u64 0]) 24 rfl Try.underlying22 infoW rfl (by decide) (by omega) u7 I x [.int .i64 x.s, .int .i64 x.g, .int .u64 x.t] (fun _ => True) (fun _ => False) rfl ?aX ?aM (fun _ h => h.elim) ?aF ?aO ?aB ?aS ?aL ?_; (case aX => first | rfl | exact congrArg (fun n => Value.slice (some ⟨n, 0, none⟩) 1 1) (by simp)); (case aM => exact kW_mkM _ _ _ _); (case aF => exact fun _ _ => trivial); (case aO => exact (Kd.R_mono HP2.out.rin (fun _ _ => trivial))); (case aB => exact Below.refl _ _); (case aS => first | assumption | omega); (case aL => first | omega | (simp; omega)); intro v1 w6 ho5 hb5 hg hat; have HP3 := Aside0.mk (HP2.out.appIn hg hb5 hat ho5); have HC3 := Aside0.mk (Kd.R_reads' (fresh_grown HV2.out HP2.out.rin hNW hg)).2.2; have hO3 := blk_grown HO2.out hg (Kd.R_ne HP2.out.rin HO2.out (by decide)); have w5s := hb5.size; have zz0 : w6.cell? ⟨wr.heap.size, 0, none⟩ = some (.int .i64 1) := cell_blk hO3 0; have zz1 : w6.cell? ⟨wr.heap.size, 1, none⟩ = some (.int .i64 x.s) := cell_blk hO3 1; have zz2 : w6.cell? ⟨wr.heap.size, 2, none⟩ = some (.int .i64 x.g) := cell_blk hO3 2; have zz3 : w6.cell? ⟨wr.heap.size, 3, none⟩ = some (.int .u64 x.t) := cell_blk hO3 3; have hO3l := lt_blk hO3; have hs3 := HP3.out.below.size; clear ho5 hb5 hg hat hO3) | ((with_reducible refine gate_builtin (b := .append) (xs := #[.tmp 126, .tmp 127]) rfl ?_); at_builtin; refine Kd.R_append_rows kW (Rr := kW.K w6) (w0 := w6) w.heap.size rfl (.tmp 126) (.tmp 127) 22 27 (.agg #[.int .i64 0, .int .i64 0, .int .u64 0]) 24 rfl Try.underlying22 infoW rfl (by decide) (by omega) u8 O L A2 _ c2 (fun _ => True) (fun _ => False) rfl rfl ?aO ?aR (fun x cs h => kW_KM x cs h) (fun _ h => h.elim) ?aF ?aB ?aS ?aL ?_; (case aO => exact (Kd.R_mono HP3.out.rout (fun _ _ => trivial))); (case aR => exact HC3.out); (case aF => exact fun _ _ => trivial); (case aB => exact Below.refl _ _); (case aS => first | assumption | omega); (case aL => first | omega | (simp; omega)); intro v1 w5 ho5 hb5 hg hat; have HP9 := Aside0.mk (HP3.out.appOut hg hb5 hat ho5)))
            go_roundw
            case rel => exact ⟨k + 1, 1, bm, bo, rm2, ro, (I ++ [x]), (O ++ L), by omega, by go_num, ⟨.inr ⟨rfl, rfl, rfl⟩⟩, ⟨HP9.out⟩, ⟨HI9.out⟩⟩
            case measure => simp [intOf]; omega
        · have hA : Below wr.heap.size wr ((wr.alloc (.cells #[.int .i64 2, .int .i64 x.s, .int .i64 x.g, .int .u64 x.t] 65)).alloc (.cells #[.int .i64 0, .int .i64 0, .int .u64 0] 27)) := (by repeat (first | (with_reducible exact Below.refl _ _) | (with_reducible refine Below.drew ?_) | (with_reducible refine below_drewN ?_ _) | (with_reducible refine below_al ?_ _) | (with_reducible refine Below.alloc ?_ (by first | exact Nat.le_refl _ | omega | (simp; done) | (simp; omega)) _) | (with_reducible refine Below.setCell ?_ (by first | (simp only []; omega) | (simp; done) | (simp; omega)) _)))
          have HPA := Aside0.mk (HP.out.then hA)
          have hOP : ((wr.alloc (.cells #[.int .i64 2, .int .i64 x.s, .int .i64 x.g, .int .u64 x.t] 65)).alloc (.cells #[.int .i64 0, .int .i64 0, .int .u64 0] 27)).heap[wr.heap.size]? = some (.cells #[.int .i64 2, .int .i64 x.s, .int .i64 x.g, .int .u64 x.t] 65 (0, 0)) := blk_alloc (blk_new _ _)
          have hWB : ((wr.alloc (.cells #[.int .i64 2, .int .i64 x.s, .int .i64 x.g, .int .u64 x.t] 65)).alloc (.cells #[.int .i64 0, .int .i64 0, .int .u64 0] 27)).heap[wr.heap.size + 1]? = some (.cells #[.int .i64 0, .int .i64 0, .int .u64 0] 27 (0, 0)) := blk_new1 _ _ _
          have hNW : wr.heap.size ≤ ((wr.alloc (.cells #[.int .i64 2, .int .i64 x.s, .int .i64 x.g, .int .u64 x.t] 65)).alloc (.cells #[.int .i64 0, .int .i64 0, .int .u64 0] 27)).heap.size := hA.size
          clear hA
          have hinv := HI.out.gone (kick_perm rm) (kick_rise HI.out.rm)
          have hOl2 := hinv.out
          rw [List.length_append] at hOl2
          have HI9 := Aside0.mk hinv
          clear hinv
          go_wp2_with fail
          generalize (wr.alloc (.cells #[.int .i64 2, .int .i64 x.s, .int .i64 x.g, .int .u64 x.t] 65)).alloc (.cells #[.int .i64 0, .int .i64 0, .int .u64 0] 27) = W at *
          refine (kick_any bm rm W HPA.out.m).mono ?_
          generalize kickOut rm = L at *
          generalize kickR rm = rm2 at *
          rintro e w2 ⟨v, rfl, hv, hI2, hK2⟩
          obtain ⟨A2, c2, rfl, -, hC2⟩ := Kd.R_reads hv
          have hP2 := HPA.out.ring hK2 hI2
          have hO2 := blk_keep hOP hK2 (show ¬ wr.heap.size = bm by omega)
          have HC2 := Aside0.mk hC2
          have z0 : w2.cell? ⟨wr.heap.size, 0, none⟩ = some (.int .i64 2) := cell_blk hO2 0; have z1 : w2.cell? ⟨wr.heap.size, 1, none⟩ = some (.int .i64 x.s) := cell_blk hO2 1; have z2 : w2.cell? ⟨wr.heap.size, 2, none⟩ = some (.int .i64 x.g) := cell_blk hO2 2; have z3 : w2.cell? ⟨wr.heap.size, 3, none⟩ = some (.int .u64 x.t) := cell_blk hO2 3
          have hOl := lt_blk hO2
          have hs2 := hP2.below.size
          have HP2 := Aside0.mk hP2
          clear hv hI2 hK2 hC2 hO2 hP2 HPA
          go_wp2_with (first | ((with_reducible refine gate_builtin (b := .append) (xs := #[.tmp 126, .tmp 127]) rfl ?_); at_builtin; refine Kd.R_append_rows kW (Rr := kW.K w2) (w0 := w2) w.heap.size rfl (.tmp 126) (.tmp 127) 22 27 (.agg #[.int .i64 0, .int .i64 0, .int .u64 0]) 24 rfl Try.underlying22 infoW rfl (by decide) (by omega) u8 O L A2 _ c2 (fun _ => True) (fun _ => False) rfl rfl ?aO ?aR (fun x cs h => kW_KM x cs h) (fun _ h => h.elim) ?aF ?aB ?aS ?aL ?_; (case aO => exact (Kd.R_mono HP2.out.rout (fun _ _ => trivial))); (case aR => exact HC2.out); (case aF => exact fun _ _ => trivial); (case aB => exact Below.refl _ _); (case aS => first | assumption | omega); (case aL => first | omega | (simp; omega)); intro v1 w5 ho5 hb5 hg hat; have HP9 := Aside0.mk (HP2.out.appOut hg hb5 hat ho5)))
          go_roundw
          case rel => exact ⟨k + 1, 1, bm, bo, rm2, ro, I, (O ++ L), by omega, by go_num, ⟨.inr ⟨rfl, rfl, rfl⟩⟩, ⟨HP9.out⟩, ⟨HI9.out⟩⟩
          case measure => simp [intOf]; omega
        · have hA : Below wr.heap.size wr ((wr.alloc (.cells #[.int .i64 3, .int .i64 x.s, .int .i64 x.g, .int .u64 x.t] 65)).alloc (.cells #[.int .i64 0, .int .i64 0, .int .u64 0] 27)) := (by repeat (first | (with_reducible exact Below.refl _ _) | (with_reducible refine Below.drew ?_) | (with_reducible refine below_drewN ?_ _) | (with_reducible refine below_al ?_ _) | (with_reducible refine Below.alloc ?_ (by first | exact Nat.le_refl _ | omega | (simp; done) | (simp; omega)) _) | (with_reducible refine Below.setCell ?_ (by first | (simp only []; omega) | (simp; done) | (simp; omega)) _)))
          have HPA := Aside0.mk (HP.out.then hA)
          have hOP : ((wr.alloc (.cells #[.int .i64 3, .int .i64 x.s, .int .i64 x.g, .int .u64 x.t] 65)).alloc (.cells #[.int .i64 0, .int .i64 0, .int .u64 0] 27)).heap[wr.heap.size]? = some (.cells #[.int .i64 3, .int .i64 x.s, .int .i64 x.g, .int .u64 x.t] 65 (0, 0)) := blk_alloc (blk_new _ _)
          have hWB : ((wr.alloc (.cells #[.int .i64 3, .int .i64 x.s, .int .i64 x.g, .int .u64 x.t] 65)).alloc (.cells #[.int .i64 0, .int .i64 0, .int .u64 0] 27)).heap[wr.heap.size + 1]? = some (.cells #[.int .i64 0, .int .i64 0, .int .u64 0] 27 (0, 0)) := blk_new1 _ _ _
          have hNW : wr.heap.size ≤ ((wr.alloc (.cells #[.int .i64 3, .int .i64 x.s, .int .i64 x.g, .int .u64 x.t] 65)).alloc (.cells #[.int .i64 0, .int .i64 0, .int .u64 0] 27)).heap.size := hA.size
          clear hA
          by_cases hE : takeE rm = 0
          · have hinv := HI.out.gone (take_perm rm) (take_rise HI.out.rm)
            have hL : takeO rm = [takeW rm] := by unfold takeO; rw [if_pos hE]
            rw [hL] at hinv
            have hOl2 := hinv.out
            rw [List.length_append] at hOl2
            have HI9 := Aside0.mk hinv
            clear hinv hL
            go_wp2_with fail
            generalize (wr.alloc (.cells #[.int .i64 3, .int .i64 x.s, .int .i64 x.g, .int .u64 x.t] 65)).alloc (.cells #[.int .i64 0, .int .i64 0, .int .u64 0] 27) = W at *
            refine (take_any bm rm W HPA.out.m).mono ?_
            generalize takeR rm = rm2 at *
            rw [hE]
            generalize takeW rm = y at *
            clear hE
            rintro e w2 ⟨rfl, hI2, hK2⟩
            have hP2 := HPA.out.ring hK2 hI2
            have hO2 := blk_keep hOP hK2 (show ¬ wr.heap.size = bm by omega)
            have hB2 := blk_keep hWB hK2 (show ¬ wr.heap.size + 1 = bm by omega)
            obtain ⟨b0', b1', b2', f0', f1', f2'⟩ := blk3 hB2
            have z0 : w2.cell? ⟨wr.heap.size, 0, none⟩ = some (.int .i64 3) := cell_blk hO2 0; have z1 : w2.cell? ⟨wr.heap.size, 1, none⟩ = some (.int .i64 x.s) := cell_blk hO2 1; have z2 : w2.cell? ⟨wr.heap.size, 2, none⟩ = some (.int .i64 x.g) := cell_blk hO2 2; have z3 : w2.cell? ⟨wr.heap.size, 3, none⟩ = some (.int .u64 x.t) := cell_blk hO2 3
            have hOl := lt_blk hO2
            have hBl := lt_blk hB2
            have hs2 := hP2.below.size
            have hkS : Keep (fun i => i = wr.heap.size + 1) w2 (((w2.setCell ⟨wr.heap.size + 1, 0, none⟩ (.int .i64 y.s)).setCell ⟨wr.heap.size + 1, 1, none⟩ (.int .i64 y.g)).setCell ⟨wr.heap.size + 1, 2, none⟩ (.int .u64 y.t)) := (by repeat (first | (with_reducible exact Keep.refl _ _) | (with_reducible refine Keep.drewN ?_ _) | (with_reducible refine Keep.drew ?_) | (with_reducible refine Keep.setCell ?_ _ _ (by first | (right; with_reducible rfl) | (left; simp; done) | (left; simp; omega) | (right; simp; done) | (right; assumption))) | (with_reducible refine Keep.alloc ?_ _)))
            have HP3 := Aside0.mk (hP2.fresh (by omega) (by omega) (by omega) hkS)
            have hs3 := HP3.out.below.size
            clear hI2 hK2 hP2 HPA hkS
            go_wp2_with (first | ((with_reducible refine gate_builtin (b := .append) (xs := #[.tmp 122, .tmp 124]) rfl ?_); at_builtin; refine Kd.R_append kW (w0 := (((w2.setCell ⟨wr.heap.size + 1, 0, none⟩ (.int .i64 y.s)).setCell ⟨wr.heap.size + 1, 1, none⟩ (.int .i64 y.g)).setCell ⟨wr.heap.size + 1, 2, none⟩ (.int .u64 y.t))) w.heap.size rfl (.tmp 122) (.tmp 124) 22 27 (.agg #[.int .i64 0, .int .i64 0, .int .u64 0]) 24 rfl Try.underlying22 infoW rfl (by decide) (by omega) u8 O y [.int .i64 y.s, .int .i64 y.g, .int .u64 y.t] (fun _ => True) (fun _ => False) rfl ?aX ?aM (fun _ h => h.elim) ?aF ?aO ?aB ?aS ?aL ?_; (case aX => first | rfl | exact congrArg (fun n => Value.slice (some ⟨n, 0, none⟩) 1 1) (by simp)); (case aM => exact kW_mkM _ _ _ _); (case aF => exact fun _ _ => trivial); (case aO => exact (Kd.R_mono HP3.out.rout (fun _ _ => trivial))); (case aB => exact Below.refl _ _); (case aS => first | assumption | omega); (case aL => first | omega | (simp; omega)); intro v9 w6 ho5 hb5 hg hat; have HP4 := Aside0.mk (HP3.out.appOut hg hb5 hat ho5); have w5s := hb5.size; have hs4 := HP4.out.below.size; clear ho5 hb5 hg hat) | ((with_reducible refine gate_builtin (b := .append) (xs := #[.tmp 126, .tmp 127]) rfl ?_); at_builtin; refine Kd.R_append_rows kW (Rr := kW.K w6) (w0 := w6) w.heap.size rfl (.tmp 126) (.tmp 127) 22 27 (.agg #[.int .i64 0, .int .i64 0, .int .u64 0]) 24 rfl Try.underlying22 infoW rfl (by decide) (by omega) v9 (O ++ [y]) ([] : List Wt) none _ 0 (fun _ => True) (fun _ => False) rfl rfl ?aO ?aR (fun x cs h => kW_KM x cs h) (fun _ h => h.elim) ?aF ?aB ?aS ?aL ?_; (case aO => exact (Kd.R_mono HP4.out.rout (fun _ _ => trivial))); (case aR => exact (Kd.C_nil _ _)); (case aF => exact fun _ _ => trivial); (case aB => exact Below.refl _ _); (case aS => first | assumption | omega); (case aL => first | omega | (simp; omega)); intro v1 w5 ho5 hb5 hg hat; have HP9 := Aside0.mk (HP4.out.appOut hg hb5 hat ho5)))
            go_roundw
            case rel => exact ⟨k + 1, 1, bm, bo, rm2, ro, I, (O ++ [y] ++ []), by omega, by go_num, ⟨.inr ⟨rfl, rfl, rfl⟩⟩, ⟨HP9.out⟩, ⟨by rw [List.append_nil]; exact HI9.out⟩⟩
            case measure => simp [intOf]; omega
          · have hinv := HI.out.gone (take_perm rm) (take_rise HI.out.rm)
            have hL : takeO rm = [] := by unfold takeO; rw [if_neg hE]
            rw [hL] at hinv
            have hOl2 := hinv.out
            rw [List.length_append] at hOl2
            have HI9 := Aside0.mk hinv
            clear hinv hL
            have hE0 : (takeE rm == 0) = false := by simpa using hE
            go_wp2_with fail
            generalize (wr.alloc (.cells #[.int .i64 3, .int .i64 x.s, .int .i64 x.g, .int .u64 x.t] 65)).alloc (.cells #[.int .i64 0, .int .i64 0, .int .u64 0] 27) = W at *
            refine (take_any bm rm W HPA.out.m).mono ?_
            generalize takeR rm = rm2 at *
            generalize takeE rm = E at *
            generalize takeW rm = y at *
            clear hE
            rintro e w2 ⟨rfl, hI2, hK2⟩
            have hP2 := HPA.out.ring hK2 hI2
            have hO2 := blk_keep hOP hK2 (show ¬ wr.heap.size = bm by omega)
            have hB2 := blk_keep hWB hK2 (show ¬ wr.heap.size + 1 = bm by omega)
            obtain ⟨b0', b1', b2', f0', f1', f2'⟩ := blk3 hB2
            have z0 : w2.cell? ⟨wr.heap.size, 0, none⟩ = some (.int .i64 3) := cell_blk hO2 0; have z1 : w2.cell? ⟨wr.heap.size, 1, none⟩ = some (.int .i64 x.s) := cell_blk hO2 1; have z2 : w2.cell? ⟨wr.heap.size, 2, none⟩ = some (.int .i64 x.g) := cell_blk hO2 2; have z3 : w2.cell? ⟨wr.heap.size, 3, none⟩ = some (.int .u64 x.t) := cell_blk hO2 3
            have hOl := lt_blk hO2
            have hBl := lt_blk hB2
            have hs2 := hP2.below.size
            have hkS : Keep (fun i => i = wr.heap.size + 1) w2 (((w2.setCell ⟨wr.heap.size + 1, 0, none⟩ (.int .i64 y.s)).setCell ⟨wr.heap.size + 1, 1, none⟩ (.int .i64 y.g)).setCell ⟨wr.heap.size + 1, 2, none⟩ (.int .u64 y.t)) := (by repeat (first | (with_reducible exact Keep.refl _ _) | (with_reducible refine Keep.drewN ?_ _) | (with_reducible refine Keep.drew ?_) | (with_reducible refine Keep.setCell ?_ _ _ (by first | (right; with_reducible rfl) | (left; simp; done) | (left; simp; omega) | (right; simp; done) | (right; assumption))) | (with_reducible refine Keep.alloc ?_ _)))
            have HP3 := Aside0.mk (hP2.fresh (by omega) (by omega) (by omega) hkS)
            have hs3 := HP3.out.below.size
            clear hI2 hK2 hP2 HPA hkS
            go_wp2_with (first | ((with_reducible refine gate_builtin (b := .append) (xs := #[.tmp 126, .tmp 127]) rfl ?_); at_builtin; refine Kd.R_append_rows kW (Rr := kW.K (((w2.setCell ⟨wr.heap.size + 1, 0, none⟩ (.int .i64 y.s)).setCell ⟨wr.heap.size + 1, 1, none⟩ (.int .i64 y.g)).setCell ⟨wr.heap.size + 1, 2, none⟩ (.int .u64 y.t))) (w0 := (((w2.setCell ⟨wr.heap.size + 1, 0, none⟩ (.int .i64 y.s)).setCell ⟨wr.heap.size + 1, 1, none⟩ (.int .i64 y.g)).setCell ⟨wr.heap.size + 1, 2, none⟩ (.int .u64 y.t))) w.heap.size rfl (.tmp 126) (.tmp 127) 22 27 (.agg #[.int .i64 0, .int .i64 0, .int .u64 0]) 24 rfl Try.underlying22 infoW rfl (by decide) (by omega) u8 O ([] : List Wt) none _ 0 (fun _ => True) (fun _ => False) rfl rfl ?aO ?aR (fun x cs h => kW_KM x cs h) (fun _ h => h.elim) ?aF ?aB ?aS ?aL ?_; (case aO => exact (Kd.R_mono HP3.out.rout (fun _ _ => trivial))); (case aR => exact (Kd.C_nil _ _)); (case aF => exact fun _ _ => trivial); (case aB => exact Below.refl _ _); (case aS => first | assumption | omega); (case aL => first | omega | (simp; omega)); intro v1 w5 ho5 hb5 hg hat; have HP9 := Aside0.mk (HP3.out.appOut hg hb5 hat ho5)))
            go_roundw
            case rel => exact ⟨k + 1, 1, bm, bo, rm2, ro, I, (O ++ []), by omega, by go_num, ⟨.inr ⟨rfl, rfl, rfl⟩⟩, ⟨HP9.out⟩, ⟨HI9.out⟩⟩
            case measure => simp [intOf]; omega
        · have hA : Below wr.heap.size wr ((wr.alloc (.cells #[.int .i64 4, .int .i64 x.s, .int .i64 x.g, .int .u64 x.t] 65)).alloc (.cells #[.int .i64 0, .int .i64 0, .int .u64 0] 27)) := (by repeat (first | (with_reducible exact Below.refl _ _) | (with_reducible refine Below.drew ?_) | (with_reducible refine below_drewN ?_ _) | (with_reducible refine below_al ?_ _) | (with_reducible refine Below.alloc ?_ (by first | exact Nat.le_refl _ | omega | (simp; done) | (simp; omega)) _) | (with_reducible refine Below.setCell ?_ (by first | (simp only []; omega) | (simp; done) | (simp; omega)) _)))
          have HPA := Aside0.mk (HP.out.then hA)
          have hOP : ((wr.alloc (.cells #[.int .i64 4, .int .i64 x.s, .int .i64 x.g, .int .u64 x.t] 65)).alloc (.cells #[.int .i64 0, .int .i64 0, .int .u64 0] 27)).heap[wr.heap.size]? = some (.cells #[.int .i64 4, .int .i64 x.s, .int .i64 x.g, .int .u64 x.t] 65 (0, 0)) := blk_alloc (blk_new _ _)
          have hWB : ((wr.alloc (.cells #[.int .i64 4, .int .i64 x.s, .int .i64 x.g, .int .u64 x.t] 65)).alloc (.cells #[.int .i64 0, .int .i64 0, .int .u64 0] 27)).heap[wr.heap.size + 1]? = some (.cells #[.int .i64 0, .int .i64 0, .int .u64 0] 27 (0, 0)) := blk_new1 _ _ _
          have hNW : wr.heap.size ≤ ((wr.alloc (.cells #[.int .i64 4, .int .i64 x.s, .int .i64 x.g, .int .u64 x.t] 65)).alloc (.cells #[.int .i64 0, .int .i64 0, .int .u64 0] 27)).heap.size := hA.size
          clear hA
          have hinv := HI.out.gone (show (drainOut rm ++ drainOut (drainR rm)).Perm (drainOut rm) by rw [drain_nil', List.append_nil]) (by rw [drain_nil']; exact List.Pairwise.nil)
          have hOl2 := hinv.out
          rw [List.length_append] at hOl2
          have HI9 := Aside0.mk hinv
          clear hinv
          go_wp2_with fail
          generalize (wr.alloc (.cells #[.int .i64 4, .int .i64 x.s, .int .i64 x.g, .int .u64 x.t] 65)).alloc (.cells #[.int .i64 0, .int .i64 0, .int .u64 0] 27) = W at *
          refine (drain_any bm rm W HPA.out.m).mono ?_
          generalize drainOut rm = L at *
          generalize drainR rm = rm2 at *
          rintro e w2 ⟨v, rfl, hv, hI2, hK2⟩
          obtain ⟨A2, c2, rfl, -, hC2⟩ := Kd.R_reads hv
          have hP2 := HPA.out.ring hK2 hI2
          have hO2 := blk_keep hOP hK2 (show ¬ wr.heap.size = bm by omega)
          have HC2 := Aside0.mk hC2
          have z0 : w2.cell? ⟨wr.heap.size, 0, none⟩ = some (.int .i64 4) := cell_blk hO2 0; have z1 : w2.cell? ⟨wr.heap.size, 1, none⟩ = some (.int .i64 x.s) := cell_blk hO2 1; have z2 : w2.cell? ⟨wr.heap.size, 2, none⟩ = some (.int .i64 x.g) := cell_blk hO2 2; have z3 : w2.cell? ⟨wr.heap.size, 3, none⟩ = some (.int .u64 x.t) := cell_blk hO2 3
          have hOl := lt_blk hO2
          have hs2 := hP2.below.size
          have HP2 := Aside0.mk hP2
          clear hv hI2 hK2 hC2 hO2 hP2 HPA
          go_wp2_with (first | ((with_reducible refine gate_builtin (b := .append) (xs := #[.tmp 126, .tmp 127]) rfl ?_); at_builtin; refine Kd.R_append_rows kW (Rr := kW.K w2) (w0 := w2) w.heap.size rfl (.tmp 126) (.tmp 127) 22 27 (.agg #[.int .i64 0, .int .i64 0, .int .u64 0]) 24 rfl Try.underlying22 infoW rfl (by decide) (by omega) u8 O L A2 _ c2 (fun _ => True) (fun _ => False) rfl rfl ?aO ?aR (fun x cs h => kW_KM x cs h) (fun _ h => h.elim) ?aF ?aB ?aS ?aL ?_; (case aO => exact (Kd.R_mono HP2.out.rout (fun _ _ => trivial))); (case aR => exact HC2.out); (case aF => exact fun _ _ => trivial); (case aB => exact Below.refl _ _); (case aS => first | assumption | omega); (case aL => first | omega | (simp; omega)); intro v1 w5 ho5 hb5 hg hat; have HP9 := Aside0.mk (HP2.out.appOut hg hb5 hat ho5)))
          go_roundw
          case rel => exact ⟨k + 1, 1, bm, bo, rm2, ro, I, (O ++ L), by omega, by go_num, ⟨.inr ⟨rfl, rfl, rfl⟩⟩, ⟨HP9.out⟩, ⟨HI9.out⟩⟩
          case measure => simp [intOf]; omega
        · have hA : Below wr.heap.size wr ((wr.alloc (.cells #[.int .i64 5, .int .i64 x.s, .int .i64 x.g, .int .u64 x.t] 65)).alloc (.cells #[.int .i64 0, .int .i64 0, .int .u64 0] 27)) := (by repeat (first | (with_reducible exact Below.refl _ _) | (with_reducible refine Below.drew ?_) | (with_reducible refine below_drewN ?_ _) | (with_reducible refine below_al ?_ _) | (with_reducible refine Below.alloc ?_ (by first | exact Nat.le_refl _ | omega | (simp; done) | (simp; omega)) _) | (with_reducible refine Below.setCell ?_ (by first | (simp only []; omega) | (simp; done) | (simp; omega)) _)))
          have HPA := Aside0.mk (HP.out.then hA)
          have hOP : ((wr.alloc (.cells #[.int .i64 5, .int .i64 x.s, .int .i64 x.g, .int .u64 x.t] 65)).alloc (.cells #[.int .i64 0, .int .i64 0, .int .u64 0] 27)).heap[wr.heap.size]? = some (.cells #[.int .i64 5, .int .i64 x.s, .int .i64 x.g, .int .u64 x.t] 65 (0, 0)) := blk_alloc (blk_new _ _)
          have hWB : ((wr.alloc (.cells #[.int .i64 5, .int .i64 x.s, .int .i64 x.g, .int .u64 x.t] 65)).alloc (.cells #[.int .i64 0, .int .i64 0, .int .u64 0] 27)).heap[wr.heap.size + 1]? = some (.cells #[.int .i64 0, .int .i64 0, .int .u64 0] 27 (0, 0)) := blk_new1 _ _ _
          have hNW : wr.heap.size ≤ ((wr.alloc (.cells #[.int .i64 5, .int .i64 x.s, .int .i64 x.g, .int .u64 x.t] 65)).alloc (.cells #[.int .i64 0, .int .i64 0, .int .u64 0] 27)).heap.size := hA.size
          clear hA
          by_cases hE : stealE ro rm = 0
          · have hinv := HI.out.both (steal_perm ro rm) (steal_rise HI.out.ro HI.out.rm).2 (steal_rise HI.out.ro HI.out.rm).1
            have hL : stealO ro rm = [stealW ro rm] := by unfold stealO; rw [if_pos hE]
            rw [hL] at hinv
            have hOl2 := hinv.out
            rw [List.length_append] at hOl2
            have HI9 := Aside0.mk hinv
            clear hinv hL
            go_wp2_with fail
            generalize (wr.alloc (.cells #[.int .i64 5, .int .i64 x.s, .int .i64 x.g, .int .u64 x.t] 65)).alloc (.cells #[.int .i64 0, .int .i64 0, .int .u64 0] 27) = W at *
            refine (steal_any bo bm ro rm W HPA.out.o HPA.out.m (fun e => HPA.out.mo e.symm)).mono ?_
            generalize stealT ro rm = rm2 at *
            generalize stealF ro rm = ro2 at *
            rw [hE]
            generalize stealW ro rm = y at *
            clear hE
            rintro e w2 ⟨rfl, hJ2, hI2, hK2⟩
            have hP2 := HPA.out.rings hK2 hI2 hJ2
            have hO2 := blk_keep hOP hK2 (show ¬ (wr.heap.size = bo ∨ wr.heap.size = bm) by omega)
            have hB2 := blk_keep hWB hK2 (show ¬ (wr.heap.size + 1 = bo ∨ wr.heap.size + 1 = bm) by omega)
            obtain ⟨b0', b1', b2', f0', f1', f2'⟩ := blk3 hB2
            have z0 : w2.cell? ⟨wr.heap.size, 0, none⟩ = some (.int .i64 5) := cell_blk hO2 0; have z1 : w2.cell? ⟨wr.heap.size, 1, none⟩ = some (.int .i64 x.s) := cell_blk hO2 1; have z2 : w2.cell? ⟨wr.heap.size, 2, none⟩ = some (.int .i64 x.g) := cell_blk hO2 2; have z3 : w2.cell? ⟨wr.heap.size, 3, none⟩ = some (.int .u64 x.t) := cell_blk hO2 3
            have hOl := lt_blk hO2
            have hBl := lt_blk hB2
            have hs2 := hP2.below.size
            have hkS : Keep (fun i => i = wr.heap.size + 1) w2 (((w2.setCell ⟨wr.heap.size + 1, 0, none⟩ (.int .i64 y.s)).setCell ⟨wr.heap.size + 1, 1, none⟩ (.int .i64 y.g)).setCell ⟨wr.heap.size + 1, 2, none⟩ (.int .u64 y.t)) := (by repeat (first | (with_reducible exact Keep.refl _ _) | (with_reducible refine Keep.drewN ?_ _) | (with_reducible refine Keep.drew ?_) | (with_reducible refine Keep.setCell ?_ _ _ (by first | (right; with_reducible rfl) | (left; simp; done) | (left; simp; omega) | (right; simp; done) | (right; assumption))) | (with_reducible refine Keep.alloc ?_ _)))
            have HP3 := Aside0.mk (hP2.fresh (by omega) (by omega) (by omega) hkS)
            have hs3 := HP3.out.below.size
            clear hI2 hK2 hP2 HPA hkS hJ2
            go_wp2_with (first | ((with_reducible refine gate_builtin (b := .append) (xs := #[.tmp 122, .tmp 124]) rfl ?_); at_builtin; refine Kd.R_append kW (w0 := (((w2.setCell ⟨wr.heap.size + 1, 0, none⟩ (.int .i64 y.s)).setCell ⟨wr.heap.size + 1, 1, none⟩ (.int .i64 y.g)).setCell ⟨wr.heap.size + 1, 2, none⟩ (.int .u64 y.t))) w.heap.size rfl (.tmp 122) (.tmp 124) 22 27 (.agg #[.int .i64 0, .int .i64 0, .int .u64 0]) 24 rfl Try.underlying22 infoW rfl (by decide) (by omega) u8 O y [.int .i64 y.s, .int .i64 y.g, .int .u64 y.t] (fun _ => True) (fun _ => False) rfl ?aX ?aM (fun _ h => h.elim) ?aF ?aO ?aB ?aS ?aL ?_; (case aX => first | rfl | exact congrArg (fun n => Value.slice (some ⟨n, 0, none⟩) 1 1) (by simp)); (case aM => exact kW_mkM _ _ _ _); (case aF => exact fun _ _ => trivial); (case aO => exact (Kd.R_mono HP3.out.rout (fun _ _ => trivial))); (case aB => exact Below.refl _ _); (case aS => first | assumption | omega); (case aL => first | omega | (simp; omega)); intro v9 w6 ho5 hb5 hg hat; have HP4 := Aside0.mk (HP3.out.appOut hg hb5 hat ho5); have w5s := hb5.size; have hs4 := HP4.out.below.size; clear ho5 hb5 hg hat) | ((with_reducible refine gate_builtin (b := .append) (xs := #[.tmp 126, .tmp 127]) rfl ?_); at_builtin; refine Kd.R_append_rows kW (Rr := kW.K w6) (w0 := w6) w.heap.size rfl (.tmp 126) (.tmp 127) 22 27 (.agg #[.int .i64 0, .int .i64 0, .int .u64 0]) 24 rfl Try.underlying22 infoW rfl (by decide) (by omega) v9 (O ++ [y]) ([] : List Wt) none _ 0 (fun _ => True) (fun _ => False) rfl rfl ?aO ?aR (fun x cs h => kW_KM x cs h) (fun _ h => h.elim) ?aF ?aB ?aS ?aL ?_; (case aO => exact (Kd.R_mono HP4.out.rout (fun _ _ => trivial))); (case aR => exact (Kd.C_nil _ _)); (case aF => exact fun _ _ => trivial); (case aB => exact Below.refl _ _); (case aS => first | assumption | omega); (case aL => first | omega | (simp; omega)); intro v1 w5 ho5 hb5 hg hat; have HP9 := Aside0.mk (HP4.out.appOut hg hb5 hat ho5)))
            go_roundw
            case rel => exact ⟨k + 1, 1, bm, bo, rm2, ro2, I, (O ++ [y] ++ []), by omega, by go_num, ⟨.inr ⟨rfl, rfl, rfl⟩⟩, ⟨HP9.out⟩, ⟨by rw [List.append_nil]; exact HI9.out⟩⟩
            case measure => simp [intOf]; omega
          · have hinv := HI.out.both (steal_perm ro rm) (steal_rise HI.out.ro HI.out.rm).2 (steal_rise HI.out.ro HI.out.rm).1
            have hL : stealO ro rm = [] := by unfold stealO; rw [if_neg hE]
            rw [hL] at hinv
            have hOl2 := hinv.out
            rw [List.length_append] at hOl2
            have HI9 := Aside0.mk hinv
            clear hinv hL
            have hE0 : (stealE ro rm == 0) = false := by simpa using hE
            go_wp2_with fail
            generalize (wr.alloc (.cells #[.int .i64 5, .int .i64 x.s, .int .i64 x.g, .int .u64 x.t] 65)).alloc (.cells #[.int .i64 0, .int .i64 0, .int .u64 0] 27) = W at *
            refine (steal_any bo bm ro rm W HPA.out.o HPA.out.m (fun e => HPA.out.mo e.symm)).mono ?_
            generalize stealT ro rm = rm2 at *
            generalize stealF ro rm = ro2 at *
            generalize stealE ro rm = E at *
            generalize stealW ro rm = y at *
            clear hE
            rintro e w2 ⟨rfl, hJ2, hI2, hK2⟩
            have hP2 := HPA.out.rings hK2 hI2 hJ2
            have hO2 := blk_keep hOP hK2 (show ¬ (wr.heap.size = bo ∨ wr.heap.size = bm) by omega)
            have hB2 := blk_keep hWB hK2 (show ¬ (wr.heap.size + 1 = bo ∨ wr.heap.size + 1 = bm) by omega)
            obtain ⟨b0', b1', b2', f0', f1', f2'⟩ := blk3 hB2
            have z0 : w2.cell? ⟨wr.heap.size, 0, none⟩ = some (.int .i64 5) := cell_blk hO2 0; have z1 : w2.cell? ⟨wr.heap.size, 1, none⟩ = some (.int .i64 x.s) := cell_blk hO2 1; have z2 : w2.cell? ⟨wr.heap.size, 2, none⟩ = some (.int .i64 x.g) := cell_blk hO2 2; have z3 : w2.cell? ⟨wr.heap.size, 3, none⟩ = some (.int .u64 x.t) := cell_blk hO2 3
            have hOl := lt_blk hO2
            have hBl := lt_blk hB2
            have hs2 := hP2.below.size
            have hkS : Keep (fun i => i = wr.heap.size + 1) w2 (((w2.setCell ⟨wr.heap.size + 1, 0, none⟩ (.int .i64 y.s)).setCell ⟨wr.heap.size + 1, 1, none⟩ (.int .i64 y.g)).setCell ⟨wr.heap.size + 1, 2, none⟩ (.int .u64 y.t)) := (by repeat (first | (with_reducible exact Keep.refl _ _) | (with_reducible refine Keep.drewN ?_ _) | (with_reducible refine Keep.drew ?_) | (with_reducible refine Keep.setCell ?_ _ _ (by first | (right; with_reducible rfl) | (left; simp; done) | (left; simp; omega) | (right; simp; done) | (right; assumption))) | (with_reducible refine Keep.alloc ?_ _)))
            have HP3 := Aside0.mk (hP2.fresh (by omega) (by omega) (by omega) hkS)
            have hs3 := HP3.out.below.size
            clear hI2 hK2 hP2 HPA hkS hJ2
            go_wp2_with (first | ((with_reducible refine gate_builtin (b := .append) (xs := #[.tmp 126, .tmp 127]) rfl ?_); at_builtin; refine Kd.R_append_rows kW (Rr := kW.K (((w2.setCell ⟨wr.heap.size + 1, 0, none⟩ (.int .i64 y.s)).setCell ⟨wr.heap.size + 1, 1, none⟩ (.int .i64 y.g)).setCell ⟨wr.heap.size + 1, 2, none⟩ (.int .u64 y.t))) (w0 := (((w2.setCell ⟨wr.heap.size + 1, 0, none⟩ (.int .i64 y.s)).setCell ⟨wr.heap.size + 1, 1, none⟩ (.int .i64 y.g)).setCell ⟨wr.heap.size + 1, 2, none⟩ (.int .u64 y.t))) w.heap.size rfl (.tmp 126) (.tmp 127) 22 27 (.agg #[.int .i64 0, .int .i64 0, .int .u64 0]) 24 rfl Try.underlying22 infoW rfl (by decide) (by omega) u8 O ([] : List Wt) none _ 0 (fun _ => True) (fun _ => False) rfl rfl ?aO ?aR (fun x cs h => kW_KM x cs h) (fun _ h => h.elim) ?aF ?aB ?aS ?aL ?_; (case aO => exact (Kd.R_mono HP3.out.rout (fun _ _ => trivial))); (case aR => exact (Kd.C_nil _ _)); (case aF => exact fun _ _ => trivial); (case aB => exact Below.refl _ _); (case aS => first | assumption | omega); (case aL => first | omega | (simp; omega)); intro v1 w5 ho5 hb5 hg hat; have HP9 := Aside0.mk (HP3.out.appOut hg hb5 hat ho5)))
            go_roundw
            case rel => exact ⟨k + 1, 1, bm, bo, rm2, ro2, I, (O ++ []), by omega, by go_num, ⟨.inr ⟨rfl, rfl, rfl⟩⟩, ⟨HP9.out⟩, ⟨HI9.out⟩⟩
            case measure => simp [intOf]; omega
        · have hA : Below wr.heap.size wr ((wr.alloc (.cells #[.int .i64 6, .int .i64 x.s, .int .i64 x.g, .int .u64 x.t] 65)).alloc (.cells #[.int .i64 0, .int .i64 0, .int .u64 0] 27)) := (by repeat (first | (with_reducible exact Below.refl _ _) | (with_reducible refine Below.drew ?_) | (with_reducible refine below_drewN ?_ _) | (with_reducible refine below_al ?_ _) | (with_reducible refine Below.alloc ?_ (by first | exact Nat.le_refl _ | omega | (simp; done) | (simp; omega)) _) | (with_reducible refine Below.setCell ?_ (by first | (simp only []; omega) | (simp; done) | (simp; omega)) _)))
          have HPA := Aside0.mk (HP.out.then hA)
          have hOP : ((wr.alloc (.cells #[.int .i64 6, .int .i64 x.s, .int .i64 x.g, .int .u64 x.t] 65)).alloc (.cells #[.int .i64 0, .int .i64 0, .int .u64 0] 27)).heap[wr.heap.size]? = some (.cells #[.int .i64 6, .int .i64 x.s, .int .i64 x.g, .int .u64 x.t] 65 (0, 0)) := blk_alloc (blk_new _ _)
          have hWB : ((wr.alloc (.cells #[.int .i64 6, .int .i64 x.s, .int .i64 x.g, .int .u64 x.t] 65)).alloc (.cells #[.int .i64 0, .int .i64 0, .int .u64 0] 27)).heap[wr.heap.size + 1]? = some (.cells #[.int .i64 0, .int .i64 0, .int .u64 0] 27 (0, 0)) := blk_new1 _ _ _
          have hNW : wr.heap.size ≤ ((wr.alloc (.cells #[.int .i64 6, .int .i64 x.s, .int .i64 x.g, .int .u64 x.t] 65)).alloc (.cells #[.int .i64 0, .int .i64 0, .int .u64 0] 27)).heap.size := hA.size
          clear hA
          have hOl2 := HI.out.out
          have HPS := Aside0.mk ((HPA.out.pairs 12 (.int .i64 0)).swap)
          have eW : ((wr.alloc (.cells #[.int .i64 6, .int .i64 x.s, .int .i64 x.g, .int .u64 x.t] 65)).alloc (.cells #[.int .i64 0, .int .i64 0, .int .u64 0] 27)).setCell ⟨G, 12, none⟩ (.int .i64 0) = ((wr.setCell ⟨G, 12, none⟩ (.int .i64 0)).alloc (.cells #[.int .i64 6, .int .i64 x.s, .int .i64 x.g, .int .u64 x.t] 65)).alloc (.cells #[.int .i64 0, .int .i64 0, .int .u64 0] 27) := by rw [World.setCell_alloc_past _ _ _ _ (by simp; omega), World.setCell_alloc_past _ _ _ _ hGl]
          rw [eW] at HPS
          clear eW
          have hs3 := HPS.out.below.size
          have fp := frozen_blk HP.out.blk 12
          clear HPA
          go_wp2_with (first | ((with_reducible refine gate_builtin (b := .append) (xs := #[.tmp 126, .tmp 127]) rfl ?_); at_builtin; refine Kd.R_append_rows kW (Rr := kW.K (((wr.setCell ⟨G, 12, none⟩ (.int .i64 0)).alloc (.cells #[.int .i64 6, .int .i64 x.s, .int .i64 x.g, .int .u64 x.t] 65)).alloc (.cells #[.int .i64 0, .int .i64 0, .int .u64 0] 27))) (w0 := (((wr.setCell ⟨G, 12, none⟩ (.int .i64 0)).alloc (.cells #[.int .i64 6, .int .i64 x.s, .int .i64 x.g, .int .u64 x.t] 65)).alloc (.cells #[.int .i64 0, .int .i64 0, .int .u64 0] 27))) w.heap.size rfl (.tmp 126) (.tmp 127) 22 27 (.agg #[.int .i64 0, .int .i64 0, .int .u64 0]) 24 rfl Try.underlying22 infoW rfl (by decide) (by omega) u8 O ([] : List Wt) none _ 0 (fun _ => True) (fun _ => False) rfl rfl ?aO ?aR (fun x cs h => kW_KM x cs h) (fun _ h => h.elim) ?aF ?aB ?aS ?aL ?_; (case aO => exact (Kd.R_mono HPS.out.rout (fun _ _ => trivial))); (case aR => exact (Kd.C_nil _ _)); (case aF => exact fun _ _ => trivial); (case aB => exact Below.refl _ _); (case aS => first | assumption | omega); (case aL => first | omega | (simp; omega)); intro v1 w5 ho5 hb5 hg hat; have HP9 := Aside0.mk (HPS.out.appOut hg hb5 hat ho5)))
          go_roundw
          case rel => exact ⟨k + 1, 0, bo, bm, ro, rm, I, (O ++ []), by omega, by go_num, ⟨.inl ⟨rfl, rfl, rfl⟩⟩, ⟨HP9.out⟩, ⟨by rw [List.append_nil]; exact HI.out.swap⟩⟩
          case measure => simp [intOf]; omega
        · have hA : Below wr.heap.size wr ((wr.alloc (.cells #[.int .i64 d, .int .i64 x.s, .int .i64 x.g, .int .u64 x.t] 65)).alloc (.cells #[.int .i64 0, .int .i64 0, .int .u64 0] 27)) := (by repeat (first | (with_reducible exact Below.refl _ _) | (with_reducible refine Below.drew ?_) | (with_reducible refine below_drewN ?_ _) | (with_reducible refine below_al ?_ _) | (with_reducible refine Below.alloc ?_ (by first | exact Nat.le_refl _ | omega | (simp; done) | (simp; omega)) _) | (with_reducible refine Below.setCell ?_ (by first | (simp only []; omega) | (simp; done) | (simp; omega)) _)))
          have HPA := Aside0.mk (HP.out.then hA)
          have hOP : ((wr.alloc (.cells #[.int .i64 d, .int .i64 x.s, .int .i64 x.g, .int .u64 x.t] 65)).alloc (.cells #[.int .i64 0, .int .i64 0, .int .u64 0] 27)).heap[wr.heap.size]? = some (.cells #[.int .i64 d, .int .i64 x.s, .int .i64 x.g, .int .u64 x.t] 65 (0, 0)) := blk_alloc (blk_new _ _)
          have hWB : ((wr.alloc (.cells #[.int .i64 d, .int .i64 x.s, .int .i64 x.g, .int .u64 x.t] 65)).alloc (.cells #[.int .i64 0, .int .i64 0, .int .u64 0] 27)).heap[wr.heap.size + 1]? = some (.cells #[.int .i64 0, .int .i64 0, .int .u64 0] 27 (0, 0)) := blk_new1 _ _ _
          have hNW : wr.heap.size ≤ ((wr.alloc (.cells #[.int .i64 d, .int .i64 x.s, .int .i64 x.g, .int .u64 x.t] 65)).alloc (.cells #[.int .i64 0, .int .i64 0, .int .u64 0] 27)).heap.size := hA.size
          clear hA
          obtain ⟨d0, d1, d2, d3, d4, d5, d6⟩ := hd
          have q0 : (d == 0) = false := by simpa using d0
          have q1 : (d == 1) = false := by simpa using d1
          have q2 : (d == 2) = false := by simpa using d2
          have q3 : (d == 3) = false := by simpa using d3
          have q4 : (d == 4) = false := by simpa using d4
          have q5 : (d == 5) = false := by simpa using d5
          have q6 : (d == 6) = false := by simpa using d6
          clear d0 d1 d2 d3 d4 d5 d6
          have hOl2 := HI.out.out
          have hs3 := HPA.out.below.size
          go_wp2_with (first | ((with_reducible refine gate_builtin (b := .append) (xs := #[.tmp 126, .tmp 127]) rfl ?_); at_builtin; refine Kd.R_append_rows kW (Rr := kW.K ((wr.alloc (.cells #[.int .i64 d, .int .i64 x.s, .int .i64 x.g, .int .u64 x.t] 65)).alloc (.cells #[.int .i64 0, .int .i64 0, .int .u64 0] 27))) (w0 := ((wr.alloc (.cells #[.int .i64 d, .int .i64 x.s, .int .i64 x.g, .int .u64 x.t] 65)).alloc (.cells #[.int .i64 0, .int .i64 0, .int .u64 0] 27))) w.heap.size rfl (.tmp 126) (.tmp 127) 22 27 (.agg #[.int .i64 0, .int .i64 0, .int .u64 0]) 24 rfl Try.underlying22 infoW rfl (by decide) (by omega) u8 O ([] : List Wt) none _ 0 (fun _ => True) (fun _ => False) rfl rfl ?aO ?aR (fun x cs h => kW_KM x cs h) (fun _ h => h.elim) ?aF ?aB ?aS ?aL ?_; (case aO => exact (Kd.R_mono HPA.out.rout (fun _ _ => trivial))); (case aR => exact (Kd.C_nil _ _)); (case aF => exact fun _ _ => trivial); (case aB => exact Below.refl _ _); (case aS => first | assumption | omega); (case aL => first | omega | (simp; omega)); intro v1 w5 ho5 hb5 hg hat; have HP9 := Aside0.mk (HPA.out.appOut hg hb5 hat ho5)))
          go_roundw
          case rel => exact ⟨k + 1, 1, bm, bo, rm, ro, I, (O ++ []), by omega, by go_num, ⟨.inr ⟨rfl, rfl, rfl⟩⟩, ⟨HP9.out⟩, ⟨by rw [List.append_nil]; exact HI.out.same⟩⟩
          case measure => simp [intOf]; omega
    · obtain rfl : k = ops.length := by omega
      have hws := HP.out.below.size
      have hwG := HP.out.wG
      rcases HD.out with ⟨rfl, rfl, rfl⟩ | ⟨rfl, rfl, rfl⟩
      · have hPC := HP.out.blk
        have hRC := HP.out.res
        unfold pairZ at hRC
        have p0 : wr.cell? ⟨G, 0, none⟩ = some (.pointer (some ⟨bm, 0, none⟩)) := cell_blk hPC 0; have p1 : wr.cell? ⟨G, 1, none⟩ = some (.pointer (some ⟨bo, 0, none⟩)) := cell_blk hPC 1; have p2 : wr.cell? ⟨G, 2, none⟩ = some (.slice none 0 0) := cell_blk hPC 2; have p3 : wr.cell? ⟨G, 3, none⟩ = some (.bool false) := cell_blk hPC 3; have p4 : wr.cell? ⟨G, 4, none⟩ = some (.int .i64 0) := cell_blk hPC 4; have p5 : wr.cell? ⟨G, 5, none⟩ = some (.int .i64 0) := cell_blk hPC 5; have p6 : wr.cell? ⟨G, 6, none⟩ = some (.int .u64 0) := cell_blk hPC 6; have p7 : wr.cell? ⟨G, 7, none⟩ = some (.slice none 0 0) := cell_blk hPC 7; have p8 : wr.cell? ⟨G, 8, none⟩ = some (.bool false) := cell_blk hPC 8; have p9 : wr.cell? ⟨G, 9, none⟩ = some (.int .i64 0) := cell_blk hPC 9; have p10 : wr.cell? ⟨G, 10, none⟩ = some (.int .i64 0) := cell_blk hPC 10; have p11 : wr.cell? ⟨G, 11, none⟩ = some (.int .u64 0) := cell_blk hPC 11; have p12 : wr.cell? ⟨G, 12, none⟩ = some (.int .i64 0) := cell_blk hPC 12
        have r0 : wr.cell? ⟨w.heap.size, 0, none⟩ = some (.pointer none) := cell_blk hRC 0; have r1 : wr.cell? ⟨w.heap.size, 1, none⟩ = some (.pointer none) := cell_blk hRC 1; have r2 : wr.cell? ⟨w.heap.size, 2, none⟩ = some (.slice none 0 0) := cell_blk hRC 2; have r3 : wr.cell? ⟨w.heap.size, 3, none⟩ = some (.bool false) := cell_blk hRC 3; have r4 : wr.cell? ⟨w.heap.size, 4, none⟩ = some (.int .i64 0) := cell_blk hRC 4; have r5 : wr.cell? ⟨w.heap.size, 5, none⟩ = some (.int .i64 0) := cell_blk hRC 5; have r6 : wr.cell? ⟨w.heap.size, 6, none⟩ = some (.int .u64 0) := cell_blk hRC 6; have r7 : wr.cell? ⟨w.heap.size, 7, none⟩ = some (.slice none 0 0) := cell_blk hRC 7; have r8 : wr.cell? ⟨w.heap.size, 8, none⟩ = some (.bool false) := cell_blk hRC 8; have r9 : wr.cell? ⟨w.heap.size, 9, none⟩ = some (.int .i64 0) := cell_blk hRC 9; have r10 : wr.cell? ⟨w.heap.size, 10, none⟩ = some (.int .i64 0) := cell_blk hRC 10; have r11 : wr.cell? ⟨w.heap.size, 11, none⟩ = some (.int .u64 0) := cell_blk hRC 11; have r12 : wr.cell? ⟨w.heap.size, 12, none⟩ = some (.int .i64 0) := cell_blk hRC 12; have f0 : wr.frozen? ⟨w.heap.size, 0, none⟩ = false := frozen_blk hRC 0; have f1 : wr.frozen? ⟨w.heap.size, 1, none⟩ = false := frozen_blk hRC 1; have f2 : wr.frozen? ⟨w.heap.size, 2, none⟩ = false := frozen_blk hRC 2; have f3 : wr.frozen? ⟨w.heap.size, 3, none⟩ = false := frozen_blk hRC 3; have f4 : wr.frozen? ⟨w.heap.size, 4, none⟩ = false := frozen_blk hRC 4; have f5 : wr.frozen? ⟨w.heap.size, 5, none⟩ = false := frozen_blk hRC 5; have f6 : wr.frozen? ⟨w.heap.size, 6, none⟩ = false := frozen_blk hRC 6; have f7 : wr.frozen? ⟨w.heap.size, 7, none⟩ = false := frozen_blk hRC 7; have f8 : wr.frozen? ⟨w.heap.size, 8, none⟩ = false := frozen_blk hRC 8; have f9 : wr.frozen? ⟨w.heap.size, 9, none⟩ = false := frozen_blk hRC 9; have f10 : wr.frozen? ⟨w.heap.size, 10, none⟩ = false := frozen_blk hRC 10; have f11 : wr.frozen? ⟨w.heap.size, 11, none⟩ = false := frozen_blk hRC 11; have f12 : wr.frozen? ⟨w.heap.size, 12, none⟩ = false := frozen_blk hRC 12
        have hRCl := lt_blk hRC
        clear hPC
        go_wp2_with fail
        refine bodyPost_ret (v := .tuple #[.agg #[.pointer (some ⟨bm, 0, none⟩), .pointer (some ⟨bo, 0, none⟩), .slice none 0 0, .bool false, .int .i64 0, .int .i64 0, .int .u64 0, .slice none 0 0, .bool false, .int .i64 0, .int .i64 0, .int .u64 0, .int .i64 0], u7, u8]) (by simp [results, Try.results24, go_sem, r0, r1, r2, r3, r4, r5, r6, r7, r8, r9, r10, r11, r12]) rfl ?_
        refine played_done HP.out (HI.out) ?_ ?_
        · exact (by repeat (first | (with_reducible exact Keep.refl _ _) | (with_reducible refine Keep.drewN ?_ _) | (with_reducible refine Keep.drew ?_) | (with_reducible refine Keep.setCell ?_ _ _ (by first | (right; with_reducible rfl) | (left; simp; done) | (left; simp; omega) | (right; simp; done) | (right; assumption))) | (with_reducible refine Keep.alloc ?_ _)))
        · repeat (first | (with_reducible exact ⟨_, hRC⟩) | (with_reducible refine ex_set ?_))
      · have hPC := HP.out.blk
        have hRC := HP.out.res
        unfold pairZ at hRC
        have p0 : wr.cell? ⟨G, 0, none⟩ = some (.pointer (some ⟨bo, 0, none⟩)) := cell_blk hPC 0; have p1 : wr.cell? ⟨G, 1, none⟩ = some (.pointer (some ⟨bm, 0, none⟩)) := cell_blk hPC 1; have p2 : wr.cell? ⟨G, 2, none⟩ = some (.slice none 0 0) := cell_blk hPC 2; have p3 : wr.cell? ⟨G, 3, none⟩ = some (.bool false) := cell_blk hPC 3; have p4 : wr.cell? ⟨G, 4, none⟩ = some (.int .i64 0) := cell_blk hPC 4; have p5 : wr.cell? ⟨G, 5, none⟩ = some (.int .i64 0) := cell_blk hPC 5; have p6 : wr.cell? ⟨G, 6, none⟩ = some (.int .u64 0) := cell_blk hPC 6; have p7 : wr.cell? ⟨G, 7, none⟩ = some (.slice none 0 0) := cell_blk hPC 7; have p8 : wr.cell? ⟨G, 8, none⟩ = some (.bool false) := cell_blk hPC 8; have p9 : wr.cell? ⟨G, 9, none⟩ = some (.int .i64 0) := cell_blk hPC 9; have p10 : wr.cell? ⟨G, 10, none⟩ = some (.int .i64 0) := cell_blk hPC 10; have p11 : wr.cell? ⟨G, 11, none⟩ = some (.int .u64 0) := cell_blk hPC 11; have p12 : wr.cell? ⟨G, 12, none⟩ = some (.int .i64 1) := cell_blk hPC 12
        have r0 : wr.cell? ⟨w.heap.size, 0, none⟩ = some (.pointer none) := cell_blk hRC 0; have r1 : wr.cell? ⟨w.heap.size, 1, none⟩ = some (.pointer none) := cell_blk hRC 1; have r2 : wr.cell? ⟨w.heap.size, 2, none⟩ = some (.slice none 0 0) := cell_blk hRC 2; have r3 : wr.cell? ⟨w.heap.size, 3, none⟩ = some (.bool false) := cell_blk hRC 3; have r4 : wr.cell? ⟨w.heap.size, 4, none⟩ = some (.int .i64 0) := cell_blk hRC 4; have r5 : wr.cell? ⟨w.heap.size, 5, none⟩ = some (.int .i64 0) := cell_blk hRC 5; have r6 : wr.cell? ⟨w.heap.size, 6, none⟩ = some (.int .u64 0) := cell_blk hRC 6; have r7 : wr.cell? ⟨w.heap.size, 7, none⟩ = some (.slice none 0 0) := cell_blk hRC 7; have r8 : wr.cell? ⟨w.heap.size, 8, none⟩ = some (.bool false) := cell_blk hRC 8; have r9 : wr.cell? ⟨w.heap.size, 9, none⟩ = some (.int .i64 0) := cell_blk hRC 9; have r10 : wr.cell? ⟨w.heap.size, 10, none⟩ = some (.int .i64 0) := cell_blk hRC 10; have r11 : wr.cell? ⟨w.heap.size, 11, none⟩ = some (.int .u64 0) := cell_blk hRC 11; have r12 : wr.cell? ⟨w.heap.size, 12, none⟩ = some (.int .i64 0) := cell_blk hRC 12; have f0 : wr.frozen? ⟨w.heap.size, 0, none⟩ = false := frozen_blk hRC 0; have f1 : wr.frozen? ⟨w.heap.size, 1, none⟩ = false := frozen_blk hRC 1; have f2 : wr.frozen? ⟨w.heap.size, 2, none⟩ = false := frozen_blk hRC 2; have f3 : wr.frozen? ⟨w.heap.size, 3, none⟩ = false := frozen_blk hRC 3; have f4 : wr.frozen? ⟨w.heap.size, 4, none⟩ = false := frozen_blk hRC 4; have f5 : wr.frozen? ⟨w.heap.size, 5, none⟩ = false := frozen_blk hRC 5; have f6 : wr.frozen? ⟨w.heap.size, 6, none⟩ = false := frozen_blk hRC 6; have f7 : wr.frozen? ⟨w.heap.size, 7, none⟩ = false := frozen_blk hRC 7; have f8 : wr.frozen? ⟨w.heap.size, 8, none⟩ = false := frozen_blk hRC 8; have f9 : wr.frozen? ⟨w.heap.size, 9, none⟩ = false := frozen_blk hRC 9; have f10 : wr.frozen? ⟨w.heap.size, 10, none⟩ = false := frozen_blk hRC 10; have f11 : wr.frozen? ⟨w.heap.size, 11, none⟩ = false := frozen_blk hRC 11; have f12 : wr.frozen? ⟨w.heap.size, 12, none⟩ = false := frozen_blk hRC 12
        have hRCl := lt_blk hRC
        clear hPC
        go_wp2_with fail
        refine bodyPost_ret (v := .tuple #[.agg #[.pointer (some ⟨bo, 0, none⟩), .pointer (some ⟨bm, 0, none⟩), .slice none 0 0, .bool false, .int .i64 0, .int .i64 0, .int .u64 0, .slice none 0 0, .bool false, .int .i64 0, .int .i64 0, .int .u64 0, .int .i64 1], u7, u8]) (by simp [results, Try.results24, go_sem, r0, r1, r2, r3, r4, r5, r6, r7, r8, r9, r10, r11, r12]) rfl ?_
        refine played_done HP.out.swap (HI.out.turn) ?_ ?_
        · exact (by repeat (first | (with_reducible exact Keep.refl _ _) | (with_reducible refine Keep.drewN ?_ _) | (with_reducible refine Keep.drew ?_) | (with_reducible refine Keep.setCell ?_ _ _ (by first | (right; with_reducible rfl) | (left; simp; done) | (left; simp; omega) | (right; simp; done) | (right; assumption))) | (with_reducible refine Keep.alloc ?_ _)))
        · repeat (first | (with_reducible exact ⟨_, hRC⟩) | (with_reducible refine ex_set ?_))
end Go.Proofs.Ytjjdojnnomokaaa
