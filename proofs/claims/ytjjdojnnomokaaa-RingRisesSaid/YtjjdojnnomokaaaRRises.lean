/- RingRises: turns rise from the oldest on; no more than 64 places; Drain answers what State tells. No condition. -/
import Derived.Test.YtjjdojnnomokaaaRKeeps
namespace Go.Proofs.Ytjjdojnnomokaaa
open Go.RowKit Go.ChangeShapes Go.WideShapes Go.ChangeAt Go.Proofs.YtjjdojnnomokaaaW.PrintWords Go.Proofs.YtjjdojnnomokaaaW.PrintMore Go.Proofs.YtjjdojnnomokaaaW.PrintLast
theorem rises_len (n : Nat) {l : List Wt} (hn : l.length = n) (A : Option Addr) (c : Nat) (w : World) (hC : kW.C w A l.length l) (hc : l.length ≤ c) (hl : l.length ≤ 4611686018427387) (hr : Rise l) :
    Calls Try.prog 30 #[.slice A n c] w fun e w' => e = .returned (.bool true) ∧ Below w.heap.size w w' := by
  subst hn
  exact rises_ok A c l w hC hc hl hr
theorem drainOut_len (r : Rg) : (drainOut r).length = r.l.length + (if r.has then 1 else 0) := by
  unfold drainOut
  cases h : r.has <;> simp
set_option maxRecDepth 100000 in
set_option maxHeartbeats 16000000 in
theorem RingRises0.walk (w : World) (A : Option Addr) (c : Nat) (ops : List (Int × Wt)) (hC : kOp.C w A ops.length ops) (hc : ops.length ≤ c) (hl : ops.length * 32 ≤ reachBytes) :
    Calls Try.prog 7 #[.slice A ops.length c] w fun e w' => e = .returned (.bool true) ∧ Below w.heap.size w w' := by
  have hops : ops.length ≤ 4398046511104 := by unfold reachBytes at hl; omega
  have hq := eql_nil
  go_enter Try.func7, Try.ntmps7
  go_wp2_with fail
  refine (played_any A c ops w hC hc hl).mono ?_
  rintro e w1 ⟨Z, G, b0, b1, n, a, b, v7, v8, I, O, rfl, hP, hI⟩
  have HI := Aside0.mk hI
  have hA1 : Below w1.heap.size w1 (w1.alloc (.cells #[.pointer (some ⟨b0, 0, none⟩), .pointer (some ⟨b1, 0, none⟩), .slice none 0 0, .bool false, .int .i64 0, .int .i64 0, .int .u64 0, .slice none 0 0, .bool false, .int .i64 0, .int .i64 0, .int .u64 0, .int .i64 n] 55)) := below_al (Below.refl _ _) _
  have hG1 : (w1.alloc (.cells #[.pointer (some ⟨b0, 0, none⟩), .pointer (some ⟨b1, 0, none⟩), .slice none 0 0, .bool false, .int .i64 0, .int .i64 0, .int .u64 0, .slice none 0 0, .bool false, .int .i64 0, .int .i64 0, .int .u64 0, .int .i64 n] 55)).heap[w1.heap.size]? = some (.cells #[.pointer (some ⟨b0, 0, none⟩), .pointer (some ⟨b1, 0, none⟩), .slice none 0 0, .bool false, .int .i64 0, .int .i64 0, .int .u64 0, .slice none 0 0, .bool false, .int .i64 0, .int .i64 0, .int .u64 0, .int .i64 n] 55 (0, 0)) := blk_new _ _
  have hb0 := hP.m.lt
  have hb1 := hP.o.lt
  have hK0 : Kp Z w (w1.alloc (.cells #[.pointer (some ⟨b0, 0, none⟩), .pointer (some ⟨b1, 0, none⟩), .slice none 0 0, .bool false, .int .i64 0, .int .i64 0, .int .u64 0, .slice none 0 0, .bool false, .int .i64 0, .int .i64 0, .int .u64 0, .int .i64 n] 55)) G w1.heap.size b0 b1 #[.pointer (some ⟨b0, 0, none⟩), .pointer (some ⟨b1, 0, none⟩), .slice none 0 0, .bool false, .int .i64 0, .int .i64 0, .int .u64 0, .slice none 0 0, .bool false, .int .i64 0, .int .i64 0, .int .u64 0, .int .i64 n] a b v7 v8 I O := ⟨(hP.then hA1).bound, hG1, by omega, by omega⟩
  clear hP hA1 hC hc hl hI hb0 hb1
  obtain ⟨g, hg⟩ : ∃ g, g = w1.heap.size := ⟨_, rfl⟩
  rw [← hg] at hK0 hG1
  have q0 := hq b0
  have q1 := hq b1
  clear hq
  have HK0 := Aside0.mk hK0
  have c0 : (w1.alloc (.cells #[.pointer (some ⟨b0, 0, none⟩), .pointer (some ⟨b1, 0, none⟩), .slice none 0 0, .bool false, .int .i64 0, .int .i64 0, .int .u64 0, .slice none 0 0, .bool false, .int .i64 0, .int .i64 0, .int .u64 0, .int .i64 n] 55)).cell? ⟨g, 0, none⟩ = some (.pointer (some ⟨b0, 0, none⟩)) := cell_blk hG1 0; have c1 : (w1.alloc (.cells #[.pointer (some ⟨b0, 0, none⟩), .pointer (some ⟨b1, 0, none⟩), .slice none 0 0, .bool false, .int .i64 0, .int .i64 0, .int .u64 0, .slice none 0 0, .bool false, .int .i64 0, .int .i64 0, .int .u64 0, .int .i64 n] 55)).cell? ⟨g, 1, none⟩ = some (.pointer (some ⟨b1, 0, none⟩)) := cell_blk hG1 1; have c2 : (w1.alloc (.cells #[.pointer (some ⟨b0, 0, none⟩), .pointer (some ⟨b1, 0, none⟩), .slice none 0 0, .bool false, .int .i64 0, .int .i64 0, .int .u64 0, .slice none 0 0, .bool false, .int .i64 0, .int .i64 0, .int .u64 0, .int .i64 n] 55)).cell? ⟨g, 2, none⟩ = some (.slice none 0 0) := cell_blk hG1 2; have c3 : (w1.alloc (.cells #[.pointer (some ⟨b0, 0, none⟩), .pointer (some ⟨b1, 0, none⟩), .slice none 0 0, .bool false, .int .i64 0, .int .i64 0, .int .u64 0, .slice none 0 0, .bool false, .int .i64 0, .int .i64 0, .int .u64 0, .int .i64 n] 55)).cell? ⟨g, 3, none⟩ = some (.bool false) := cell_blk hG1 3; have c4 : (w1.alloc (.cells #[.pointer (some ⟨b0, 0, none⟩), .pointer (some ⟨b1, 0, none⟩), .slice none 0 0, .bool false, .int .i64 0, .int .i64 0, .int .u64 0, .slice none 0 0, .bool false, .int .i64 0, .int .i64 0, .int .u64 0, .int .i64 n] 55)).cell? ⟨g, 4, none⟩ = some (.int .i64 0) := cell_blk hG1 4; have c5 : (w1.alloc (.cells #[.pointer (some ⟨b0, 0, none⟩), .pointer (some ⟨b1, 0, none⟩), .slice none 0 0, .bool false, .int .i64 0, .int .i64 0, .int .u64 0, .slice none 0 0, .bool false, .int .i64 0, .int .i64 0, .int .u64 0, .int .i64 n] 55)).cell? ⟨g, 5, none⟩ = some (.int .i64 0) := cell_blk hG1 5; have c6 : (w1.alloc (.cells #[.pointer (some ⟨b0, 0, none⟩), .pointer (some ⟨b1, 0, none⟩), .slice none 0 0, .bool false, .int .i64 0, .int .i64 0, .int .u64 0, .slice none 0 0, .bool false, .int .i64 0, .int .i64 0, .int .u64 0, .int .i64 n] 55)).cell? ⟨g, 6, none⟩ = some (.int .u64 0) := cell_blk hG1 6; have c7 : (w1.alloc (.cells #[.pointer (some ⟨b0, 0, none⟩), .pointer (some ⟨b1, 0, none⟩), .slice none 0 0, .bool false, .int .i64 0, .int .i64 0, .int .u64 0, .slice none 0 0, .bool false, .int .i64 0, .int .i64 0, .int .u64 0, .int .i64 n] 55)).cell? ⟨g, 7, none⟩ = some (.slice none 0 0) := cell_blk hG1 7; have c8 : (w1.alloc (.cells #[.pointer (some ⟨b0, 0, none⟩), .pointer (some ⟨b1, 0, none⟩), .slice none 0 0, .bool false, .int .i64 0, .int .i64 0, .int .u64 0, .slice none 0 0, .bool false, .int .i64 0, .int .i64 0, .int .u64 0, .int .i64 n] 55)).cell? ⟨g, 8, none⟩ = some (.bool false) := cell_blk hG1 8; have c9 : (w1.alloc (.cells #[.pointer (some ⟨b0, 0, none⟩), .pointer (some ⟨b1, 0, none⟩), .slice none 0 0, .bool false, .int .i64 0, .int .i64 0, .int .u64 0, .slice none 0 0, .bool false, .int .i64 0, .int .i64 0, .int .u64 0, .int .i64 n] 55)).cell? ⟨g, 9, none⟩ = some (.int .i64 0) := cell_blk hG1 9; have c10 : (w1.alloc (.cells #[.pointer (some ⟨b0, 0, none⟩), .pointer (some ⟨b1, 0, none⟩), .slice none 0 0, .bool false, .int .i64 0, .int .i64 0, .int .u64 0, .slice none 0 0, .bool false, .int .i64 0, .int .i64 0, .int .u64 0, .int .i64 n] 55)).cell? ⟨g, 10, none⟩ = some (.int .i64 0) := cell_blk hG1 10; have c11 : (w1.alloc (.cells #[.pointer (some ⟨b0, 0, none⟩), .pointer (some ⟨b1, 0, none⟩), .slice none 0 0, .bool false, .int .i64 0, .int .i64 0, .int .u64 0, .slice none 0 0, .bool false, .int .i64 0, .int .i64 0, .int .u64 0, .int .i64 n] 55)).cell? ⟨g, 11, none⟩ = some (.int .u64 0) := cell_blk hG1 11; have c12 : (w1.alloc (.cells #[.pointer (some ⟨b0, 0, none⟩), .pointer (some ⟨b1, 0, none⟩), .slice none 0 0, .bool false, .int .i64 0, .int .i64 0, .int .u64 0, .slice none 0 0, .bool false, .int .i64 0, .int .i64 0, .int .u64 0, .int .i64 n] 55)).cell? ⟨g, 12, none⟩ = some (.int .i64 n) := cell_blk hG1 12
  have hgl := lt_blk hG1
  clear hK0
  go_wp2
  rw [← hg]
  clear hG1 c0 c1 c2 c3 c4 c5 c6 c7 c8 c9 c10 c11 c12 hg q0 q1 hgl
  generalize w1.alloc (.cells #[.pointer (some ⟨b0, 0, none⟩), .pointer (some ⟨b1, 0, none⟩), .slice none 0 0, .bool false, .int .i64 0, .int .i64 0, .int .u64 0, .slice none 0 0, .bool false, .int .i64 0, .int .i64 0, .int .u64 0, .int .i64 n] 55) = W at *
  go_loopw [6] (fun i wr => ∃ (k : Nat) (ra rb : Rg), k ≤ 2 ∧ i = .int .i64 k ∧ Aside0 (Kp Z w wr G g b0 b1 #[.pointer (some ⟨b0, 0, none⟩), .pointer (some ⟨b1, 0, none⟩), .slice none 0 0, .bool false, .int .i64 0, .int .i64 0, .int .u64 0, .slice none 0 0, .bool false, .int .i64 0, .int .i64 0, .int .u64 0, .int .i64 n] ra rb v7 v8 I O) ∧ Aside0 ((k = 0 ∧ a = ra ∧ b = rb) ∨ (k = 1 ∧ drainR a = ra ∧ b = rb) ∨ k = 2)) (fun i _ => 2 - (intOf i).toNat)
  case atStart => exact ⟨0, a, b, by omega, rfl, HK0, ⟨.inl ⟨rfl, rfl, rfl⟩⟩⟩
  case round =>
    clear HK0
    obtain ⟨k, ra, rb, hk, rfl, HK, HD⟩ := hrel
    have y0 := cell_blk HK.out.own 0
    have y1 := cell_blk HK.out.own 1
    have hgl := lt_blk HK.out.own
    simp at y0 y1
    rcases HD.out with ⟨rfl, rfl, rfl⟩ | ⟨rfl, rfl, rfl⟩ | rfl
    · have h64 := HK.out.pl.m.len
      have hdl := drainOut_len a
      have HR := Aside0.mk HI.out.rm
      go_wp2_with fail
      refine (state_any b0 a wr HK.out.pl.m).mono ?_
      rintro e w2 ⟨v, rfl, hv, hB2⟩
      obtain ⟨A2, c2, rfl, -, -⟩ := Kd.R_reads hv
      have hk2 := HK.out.then hB2
      clear hv HK y0 y1
      cases hh : a.has with
      | true =>
        rw [hh] at hdl
        have hdl' : (drainOut a).length = a.l.length + 1 := by simpa using hdl
        have hA2 : Below w2.heap.size w2 (w2.alloc (.cells #[.slice A2 a.l.length c2, .bool true, .int .i64 a.nx.s, .int .i64 a.nx.g, .int .u64 a.nx.t] 29)) := below_al (Below.refl _ _) _
        have hT2 : (w2.alloc (.cells #[.slice A2 a.l.length c2, .bool true, .int .i64 a.nx.s, .int .i64 a.nx.g, .int .u64 a.nx.t] 29)).heap[w2.heap.size]? = some (.cells #[.slice A2 a.l.length c2, .bool true, .int .i64 a.nx.s, .int .i64 a.nx.g, .int .u64 a.nx.t] 29 (0, 0)) := blk_new _ _
        have HK2 := Aside0.mk (hk2.then hA2)
        have hbl := hk2.pl.m.lt
        have hy0 := cell_blk HK2.out.own 0
        have hy1 := cell_blk HK2.out.own 1
        have hgl2 := lt_blk HK2.out.own
        simp at hy0 hy1
        clear hk2 hA2 hdl
        go_wp2_with fail
        generalize (w2.alloc (.cells #[.slice A2 a.l.length c2, .bool true, .int .i64 a.nx.s, .int .i64 a.nx.g, .int .u64 a.nx.t] 29)) = w3 at *
        refine (drain_any b0 a w3 HK2.out.pl.m).mono ?_
        rintro e w4 ⟨v, rfl, hv, hI4, hK4⟩
        obtain ⟨A4, c4, rfl, hc4, hC4⟩ := Kd.R_reads hv
        have hT4 := blk_keep hT2 hK4 (show ¬ w2.heap.size = b0 by omega)
        have HK4 := Aside0.mk (HK2.out.ring0 hK4 hI4)
        have HC4 := Aside0.mk hC4
        obtain ⟨t0, t1, t2, t3, t4, -, -, -, -, -⟩ := blk5 hT4
        have hTl := lt_blk hT4
        have hl4 : (drainOut a).length ≤ 4611686018427387 := by omega
        obtain ⟨m, hm⟩ : ∃ m, m = a.l.length := ⟨_, rfl⟩
        rw [← hm] at hdl' t0 h64 hT4
        rw [← hm, hdl']
        rw [hdl'] at hc4
        clear hm hv hI4 hK4 hC4 hT2 HK2 hy0 hy1 hgl2
        go_wp2_with fail
        have n64 : ¬ (64 : Int) < (m : Int) := by omega
        have d64 : decide ((64 : Int) < (m : Int)) = false := by simp; omega
        have hwr1 : IntKind.i64.wrap ((m : Int) + 1) = (m : Int) + 1 := IntWalk.i64_in _ (by omega)
        go_region_law (first | (refine goes_ (f := 30) Try.func30 (by kernel_rfl) rfl #[.slice A4 (m + 1) c4] (by rfl) rfl rfl (by simp only [List.map_toArray, List.map_cons, List.map_nil]; rfl) ?_; refine (rises_len (m + 1) hdl' A4 c4 _ (Kd.C_below HC4.out (Below.refl _ _).drew) (by omega) hl4 HR.out).mono ?_; rintro e w5 ⟨rfl, hBx⟩; refine ⟨_, rfl, ?_⟩; have hB5 : Below w4.heap.size w4 w5 := below_then (Below.refl _ _).drew hBx; have hT5 := blk_below hT4 hB5; obtain ⟨z0, z1, z2, z3, z4, -, -, -, -, -⟩ := blk5 hT5; have hTl5 := lt_blk hT5; clear hBx t0 t1 t2 t3 t4) | (refine goes_ (f := 31) Try.func31 (by kernel_rfl) rfl #[.bool true] (by rfl) rfl rfl (by simp only [List.map_toArray, List.map_cons, List.map_nil]; rfl) ?_; refine (boolInt_any true _).mono ?_; rintro e w6 ⟨rfl, rfl⟩; refine ⟨_, rfl, ?_⟩))
        all_goals
          go_wp2
          go_roundw
          case rel => exact ⟨1, drainR a, b, by omega, by go_num, ⟨HK4.out.then hB5⟩, ⟨.inr (.inl ⟨rfl, rfl, rfl⟩)⟩⟩
          case measure => simp [intOf]
      | false =>
        rw [hh] at hdl
        have hdl' : (drainOut a).length = a.l.length := by simpa using hdl
        have hA2 : Below w2.heap.size w2 (w2.alloc (.cells #[.slice A2 a.l.length c2, .bool false, .int .i64 a.nx.s, .int .i64 a.nx.g, .int .u64 a.nx.t] 29)) := below_al (Below.refl _ _) _
        have hT2 : (w2.alloc (.cells #[.slice A2 a.l.length c2, .bool false, .int .i64 a.nx.s, .int .i64 a.nx.g, .int .u64 a.nx.t] 29)).heap[w2.heap.size]? = some (.cells #[.slice A2 a.l.length c2, .bool false, .int .i64 a.nx.s, .int .i64 a.nx.g, .int .u64 a.nx.t] 29 (0, 0)) := blk_new _ _
        have HK2 := Aside0.mk (hk2.then hA2)
        have hbl := hk2.pl.m.lt
        have hy0 := cell_blk HK2.out.own 0
        have hy1 := cell_blk HK2.out.own 1
        have hgl2 := lt_blk HK2.out.own
        simp at hy0 hy1
        clear hk2 hA2 hdl
        go_wp2_with fail
        generalize (w2.alloc (.cells #[.slice A2 a.l.length c2, .bool false, .int .i64 a.nx.s, .int .i64 a.nx.g, .int .u64 a.nx.t] 29)) = w3 at *
        refine (drain_any b0 a w3 HK2.out.pl.m).mono ?_
        rintro e w4 ⟨v, rfl, hv, hI4, hK4⟩
        obtain ⟨A4, c4, rfl, hc4, hC4⟩ := Kd.R_reads hv
        have hT4 := blk_keep hT2 hK4 (show ¬ w2.heap.size = b0 by omega)
        have HK4 := Aside0.mk (HK2.out.ring0 hK4 hI4)
        have HC4 := Aside0.mk hC4
        obtain ⟨t0, t1, t2, t3, t4, -, -, -, -, -⟩ := blk5 hT4
        have hTl := lt_blk hT4
        have hl4 : (drainOut a).length ≤ 4611686018427387 := by omega
        obtain ⟨m, hm⟩ : ∃ m, m = a.l.length := ⟨_, rfl⟩
        rw [← hm] at hdl' t0 h64 hT4
        rw [← hm, hdl']
        rw [hdl'] at hc4
        clear hm hv hI4 hK4 hC4 hT2 HK2 hy0 hy1 hgl2
        go_wp2_with fail
        have n64 : ¬ (64 : Int) < (m : Int) := by omega
        have d64 : decide ((64 : Int) < (m : Int)) = false := by simp; omega
        have hwr0 : IntKind.i64.wrap ((m : Int)) = (m : Int) := IntWalk.i64_in _ (by omega)
        go_region_law (first | (refine goes_ (f := 30) Try.func30 (by kernel_rfl) rfl #[.slice A4 (m) c4] (by rfl) rfl rfl (by simp only [List.map_toArray, List.map_cons, List.map_nil]; rfl) ?_; refine (rises_len (m) hdl' A4 c4 _ (Kd.C_below HC4.out (Below.refl _ _).drew) (by omega) hl4 HR.out).mono ?_; rintro e w5 ⟨rfl, hBx⟩; refine ⟨_, rfl, ?_⟩; have hB5 : Below w4.heap.size w4 w5 := below_then (Below.refl _ _).drew hBx; have hT5 := blk_below hT4 hB5; obtain ⟨z0, z1, z2, z3, z4, -, -, -, -, -⟩ := blk5 hT5; have hTl5 := lt_blk hT5; clear hBx t0 t1 t2 t3 t4) | (refine goes_ (f := 31) Try.func31 (by kernel_rfl) rfl #[.bool false] (by rfl) rfl rfl (by simp only [List.map_toArray, List.map_cons, List.map_nil]; rfl) ?_; refine (boolInt_any false _).mono ?_; rintro e w6 ⟨rfl, rfl⟩; refine ⟨_, rfl, ?_⟩))
        all_goals
          go_wp2
          go_roundw
          case rel => exact ⟨1, drainR a, b, by omega, by go_num, ⟨HK4.out.then hB5⟩, ⟨.inr (.inl ⟨rfl, rfl, rfl⟩)⟩⟩
          case measure => simp [intOf]
    · have h64 := HK.out.pl.o.len
      have hdl := drainOut_len b
      have HR := Aside0.mk HI.out.ro
      go_wp2_with fail
      refine (state_any b1 b wr HK.out.pl.o).mono ?_
      rintro e w2 ⟨v, rfl, hv, hB2⟩
      obtain ⟨A2, c2, rfl, -, -⟩ := Kd.R_reads hv
      have hk2 := HK.out.then hB2
      clear hv HK y0 y1
      cases hh : b.has with
      | true =>
        rw [hh] at hdl
        have hdl' : (drainOut b).length = b.l.length + 1 := by simpa using hdl
        have hA2 : Below w2.heap.size w2 (w2.alloc (.cells #[.slice A2 b.l.length c2, .bool true, .int .i64 b.nx.s, .int .i64 b.nx.g, .int .u64 b.nx.t] 29)) := below_al (Below.refl _ _) _
        have hT2 : (w2.alloc (.cells #[.slice A2 b.l.length c2, .bool true, .int .i64 b.nx.s, .int .i64 b.nx.g, .int .u64 b.nx.t] 29)).heap[w2.heap.size]? = some (.cells #[.slice A2 b.l.length c2, .bool true, .int .i64 b.nx.s, .int .i64 b.nx.g, .int .u64 b.nx.t] 29 (0, 0)) := blk_new _ _
        have HK2 := Aside0.mk (hk2.then hA2)
        have hbl := hk2.pl.o.lt
        have hy0 := cell_blk HK2.out.own 0
        have hy1 := cell_blk HK2.out.own 1
        have hgl2 := lt_blk HK2.out.own
        simp at hy0 hy1
        clear hk2 hA2 hdl
        go_wp2_with fail
        generalize (w2.alloc (.cells #[.slice A2 b.l.length c2, .bool true, .int .i64 b.nx.s, .int .i64 b.nx.g, .int .u64 b.nx.t] 29)) = w3 at *
        refine (drain_any b1 b w3 HK2.out.pl.o).mono ?_
        rintro e w4 ⟨v, rfl, hv, hI4, hK4⟩
        obtain ⟨A4, c4, rfl, hc4, hC4⟩ := Kd.R_reads hv
        have hT4 := blk_keep hT2 hK4 (show ¬ w2.heap.size = b1 by omega)
        have HK4 := Aside0.mk (HK2.out.ring1 hK4 hI4)
        have HC4 := Aside0.mk hC4
        obtain ⟨t0, t1, t2, t3, t4, -, -, -, -, -⟩ := blk5 hT4
        have hTl := lt_blk hT4
        have hl4 : (drainOut b).length ≤ 4611686018427387 := by omega
        obtain ⟨m, hm⟩ : ∃ m, m = b.l.length := ⟨_, rfl⟩
        rw [← hm] at hdl' t0 h64 hT4
        rw [← hm, hdl']
        rw [hdl'] at hc4
        clear hm hv hI4 hK4 hC4 hT2 HK2 hy0 hy1 hgl2
        go_wp2_with fail
        have n64 : ¬ (64 : Int) < (m : Int) := by omega
        have d64 : decide ((64 : Int) < (m : Int)) = false := by simp; omega
        have hwr1 : IntKind.i64.wrap ((m : Int) + 1) = (m : Int) + 1 := IntWalk.i64_in _ (by omega)
        go_region_law (first | (refine goes_ (f := 30) Try.func30 (by kernel_rfl) rfl #[.slice A4 (m + 1) c4] (by rfl) rfl rfl (by simp only [List.map_toArray, List.map_cons, List.map_nil]; rfl) ?_; refine (rises_len (m + 1) hdl' A4 c4 _ (Kd.C_below HC4.out (Below.refl _ _).drew) (by omega) hl4 HR.out).mono ?_; rintro e w5 ⟨rfl, hBx⟩; refine ⟨_, rfl, ?_⟩; have hB5 : Below w4.heap.size w4 w5 := below_then (Below.refl _ _).drew hBx; have hT5 := blk_below hT4 hB5; obtain ⟨z0, z1, z2, z3, z4, -, -, -, -, -⟩ := blk5 hT5; have hTl5 := lt_blk hT5; clear hBx t0 t1 t2 t3 t4) | (refine goes_ (f := 31) Try.func31 (by kernel_rfl) rfl #[.bool true] (by rfl) rfl rfl (by simp only [List.map_toArray, List.map_cons, List.map_nil]; rfl) ?_; refine (boolInt_any true _).mono ?_; rintro e w6 ⟨rfl, rfl⟩; refine ⟨_, rfl, ?_⟩))
        all_goals
          go_wp2
          go_roundw
          case rel => exact ⟨2, drainR a, drainR b, by omega, by go_num, ⟨HK4.out.then hB5⟩, ⟨.inr (.inr rfl)⟩⟩
          case measure => simp [intOf]
      | false =>
        rw [hh] at hdl
        have hdl' : (drainOut b).length = b.l.length := by simpa using hdl
        have hA2 : Below w2.heap.size w2 (w2.alloc (.cells #[.slice A2 b.l.length c2, .bool false, .int .i64 b.nx.s, .int .i64 b.nx.g, .int .u64 b.nx.t] 29)) := below_al (Below.refl _ _) _
        have hT2 : (w2.alloc (.cells #[.slice A2 b.l.length c2, .bool false, .int .i64 b.nx.s, .int .i64 b.nx.g, .int .u64 b.nx.t] 29)).heap[w2.heap.size]? = some (.cells #[.slice A2 b.l.length c2, .bool false, .int .i64 b.nx.s, .int .i64 b.nx.g, .int .u64 b.nx.t] 29 (0, 0)) := blk_new _ _
        have HK2 := Aside0.mk (hk2.then hA2)
        have hbl := hk2.pl.o.lt
        have hy0 := cell_blk HK2.out.own 0
        have hy1 := cell_blk HK2.out.own 1
        have hgl2 := lt_blk HK2.out.own
        simp at hy0 hy1
        clear hk2 hA2 hdl
        go_wp2_with fail
        generalize (w2.alloc (.cells #[.slice A2 b.l.length c2, .bool false, .int .i64 b.nx.s, .int .i64 b.nx.g, .int .u64 b.nx.t] 29)) = w3 at *
        refine (drain_any b1 b w3 HK2.out.pl.o).mono ?_
        rintro e w4 ⟨v, rfl, hv, hI4, hK4⟩
        obtain ⟨A4, c4, rfl, hc4, hC4⟩ := Kd.R_reads hv
        have hT4 := blk_keep hT2 hK4 (show ¬ w2.heap.size = b1 by omega)
        have HK4 := Aside0.mk (HK2.out.ring1 hK4 hI4)
        have HC4 := Aside0.mk hC4
        obtain ⟨t0, t1, t2, t3, t4, -, -, -, -, -⟩ := blk5 hT4
        have hTl := lt_blk hT4
        have hl4 : (drainOut b).length ≤ 4611686018427387 := by omega
        obtain ⟨m, hm⟩ : ∃ m, m = b.l.length := ⟨_, rfl⟩
        rw [← hm] at hdl' t0 h64 hT4
        rw [← hm, hdl']
        rw [hdl'] at hc4
        clear hm hv hI4 hK4 hC4 hT2 HK2 hy0 hy1 hgl2
        go_wp2_with fail
        have n64 : ¬ (64 : Int) < (m : Int) := by omega
        have d64 : decide ((64 : Int) < (m : Int)) = false := by simp; omega
        have hwr0 : IntKind.i64.wrap ((m : Int)) = (m : Int) := IntWalk.i64_in _ (by omega)
        go_region_law (first | (refine goes_ (f := 30) Try.func30 (by kernel_rfl) rfl #[.slice A4 (m) c4] (by rfl) rfl rfl (by simp only [List.map_toArray, List.map_cons, List.map_nil]; rfl) ?_; refine (rises_len (m) hdl' A4 c4 _ (Kd.C_below HC4.out (Below.refl _ _).drew) (by omega) hl4 HR.out).mono ?_; rintro e w5 ⟨rfl, hBx⟩; refine ⟨_, rfl, ?_⟩; have hB5 : Below w4.heap.size w4 w5 := below_then (Below.refl _ _).drew hBx; have hT5 := blk_below hT4 hB5; obtain ⟨z0, z1, z2, z3, z4, -, -, -, -, -⟩ := blk5 hT5; have hTl5 := lt_blk hT5; clear hBx t0 t1 t2 t3 t4) | (refine goes_ (f := 31) Try.func31 (by kernel_rfl) rfl #[.bool false] (by rfl) rfl rfl (by simp only [List.map_toArray, List.map_cons, List.map_nil]; rfl) ?_; refine (boolInt_any false _).mono ?_; rintro e w6 ⟨rfl, rfl⟩; refine ⟨_, rfl, ?_⟩))
        all_goals
          go_wp2
          go_roundw
          case rel => exact ⟨2, drainR a, drainR b, by omega, by go_num, ⟨HK4.out.then hB5⟩, ⟨.inr (.inr rfl)⟩⟩
          case measure => simp [intOf]
    · go_wp2_with fail
      refine (awake_any _).mono ?_
      rintro e w2 ⟨rfl, hB2⟩
      have hBf := below_then HK.out.pl.below hB2
      go_wp2
      go_ret
      exact ⟨rfl, hBf⟩
theorem ringRises.walk (w : World) (A : Option Addr) (c : Nat) (ops : List (Int × Wt)) (hc : ops.length ≤ c) (hC : kOp.C w A ops.length ops) (hG : ops.length * Try.prog.bytesOf 65 ≤ reachBytes ∧ ops.length ≤ 9223372036854775807 ∧ ∀ x ∈ ops, True) :
    Calls Try.prog 7 #[.slice A ops.length c] w fun e w' => e = .returned (.bool true) ∧ Below w.heap.size w w' := by
  have h32 : Try.prog.bytesOf 65 = 32 := by kernel_rfl
  rw [h32] at hG
  exact RingRises0.walk w A c ops hC hc hG.1
theorem ringRises.own : ownKnob Try.prog.godebug = none := by kernel_rfl
theorem ringRises.laidOut : laidOutB Try.prog = true := by kernel_rfl
set_option maxRecDepth 100000 in
set_option maxHeartbeats 1000000 in
theorem ringRises.lifted (os : Os) (started : os.Started) (H : Type) (enc : TypeId × Value → H)
    : ReturnsInHanded {} Try.checked os 7 .any (Rows.ringRisesSpec.pre6 enc Try.prog Try.f7 Rows.ringRisesRow.domain false) (Rows.ringRisesSpec.post enc Try.prog Try.f7 false true false false) := by
  refine returnsInHanded_of_change_sized (C := Try.checked) ringRises.own started (by kernel_rfl) Try.func7
    (ChangeSpec.witness6 (enc := enc) (C := Try.checked) false ⟨#[], #[.slice none 0 0], []⟩ 8 (by kernel_rfl) (by kernel_rfl) (by kernel_rfl) (by kernel_rfl)) ?_
  intro W base args ds gs before hval0 hW hcnd hsz0 _
  have hsz : (DataW.weightsEach Try.prog (Try.f7.params.toList ++ Rows.ringRisesSpec.plain.varTypes Try.prog) (ds ++ gs)).all (· ≤ reachBytes) = true := hsz0
  have hval : ∀ (j : Nat) t v, Try.f7.params[j]? = some t → args[j]? = some v → Value.okWide Try.prog W .any base t v := hval0
  have hW' := hW
  obtain ⟨p, q, hA0, hV, rfl, hfz, hnd⟩ := hW
  have hA : DataW.TrodAll enc Try.prog W 0 (fun _ => true) true Try.f7.params.toList args.toList ds p := hA0
  rw [Try.params7] at hA hval hsz
  obtain ⟨v0, vs0, d0, ds0, p0, q0, hargs, rfl, rfl, h0, r0⟩ := trodAll_cons hA
  obtain ⟨rfl, rfl, rfl⟩ := trodAll_nil r0
  obtain rfl : args = #[v0] := by cases args; simp_all
  obtain ⟨rfl, rfl⟩ := trodVars_none hV
  have k0 := h0
  have lt0 : ∀ x ∈ p0, x.block < W.heap.size := by obtain ⟨m, hm⟩ := k0; exact DataW.trod_lt m _ _ _ hm
  have W0 := Op.weights_of hsz (j := 0) (t := 51) (d := d0) rfl rfl
  obtain ⟨A0, len0, cap0, rfl⟩ := okWide_slice Try.underlying51 (hval 0 51 v0 rfl rfl)
  obtain ⟨f0, hf0⟩ := h0
  obtain ⟨a0, hK0, hG0, hM0⟩ := Op.opens_slice Try.underlying51 (by kernel_rfl) opensOp H enc W _ true f0 _ (d0, p0) hf0 W0
  obtain ⟨A', c', he0, hc0, hC0⟩ := hK0
  obtain ⟨rfl, rfl, rfl⟩ : A0 = A' ∧ len0 = a0.length ∧ cap0 = c' := by simpa [Value.cells] using he0
  clear hA0 hval0 hsz0 hsz
  refine (ringRises.walk W A0 cap0 a0 hc0 hC0 hG0).mono fun e W' ⟨he, bel⟩ => ?_
  subst he
  exact ⟨_, rfl, _, _, _, [], _, [], hW', trodAll_mk1 (shut_bool Try.underlying4 _), (trodAll_cons_mk (Below.trod ringRises.laidOut (by kernel_rfl) (of_decide_eq_true (by kernel_rfl)) k0 bel lt0) trodAll_mk0), rfl, bel.frame _, fun h => by cases h⟩
theorem ringRises_holds : Rows.RingRisesSaid :=
  OpenClaim.holds_of_wide 7 Try.f7 rfl rfl rfl rfl rfl rfl rfl ⟨rfl, rfl, rfl, rfl, rfl⟩ rfl rfl rfl rfl rfl (by kernel_rfl) Try.func7 (by kernel_rfl)
    (of_decide_eq_true (by kernel_rfl)) (by unfold Func.isWrapper; first | (rw [if_pos (by decide +kernel)]; kernel_rfl) | (rw [if_neg (by decide +kernel)]; exact ⟨rfl, rfl⟩))
    (fun os started H enc _ => ringRises.lifted os started H enc)
#print axioms ringRises_holds

end Go.Proofs.Ytjjdojnnomokaaa
