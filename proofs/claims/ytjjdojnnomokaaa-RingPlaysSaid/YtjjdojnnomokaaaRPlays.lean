/- RingPlays: any calls of two rings, answer by answer, and what is in them behind each. No condition. -/
import Derived.Test.YtjjdojnnomokaaaRCallT
import Derived.Test.YtjjdojnnomokaaaRTells
import Derived.Deep.DrawnRows
namespace Go.Proofs.Ytjjdojnnomokaaa
open Go.RowKit Go.ChangeShapes Go.WideShapes Go.ChangeAt Go.Proofs.YtjjdojnnomokaaaW.PrintWords Go.Proofs.YtjjdojnnomokaaaW.PrintMore Go.Proofs.YtjjdojnnomokaaaW.PrintLast
set_option maxRecDepth 100000 in
set_option maxHeartbeats 16000000 in
theorem RingPlays0.walk (w : World) (A : Option Addr) (c : Nat) (ops : List (Int × Wt)) (hC : kOp.C w A ops.length ops) (hc : ops.length ≤ c) (hl : ops.length * 32 ≤ reachBytes) :
    Calls Try.prog 6 #[.slice A ops.length c] w fun e w' => e = .returned (.bool true) ∧ Below w.heap.size w w' := by
  have hops : ops.length ≤ 4398046511104 := by unfold reachBytes at hl; omega
  have HC := Aside0.mk hC
  clear hC hl
  go_enter Try.func6, Try.ntmps6
  go_wp2_with fail
  refine (begun_any _).mono ?_
  rintro e w1 ⟨b0, b1, rfl, hb0, hb01, hI0, hI1, hB1⟩
  have hA1 : Below w1.heap.size w1 (w1.alloc (.cells #[.pointer (some ⟨b0, 0, none⟩), .pointer (some ⟨b1, 0, none⟩), .slice none 0 0, .bool false, .int .i64 0, .int .i64 0, .int .u64 0, .slice none 0 0, .bool false, .int .i64 0, .int .i64 0, .int .u64 0, .int .i64 0] 55)) := below_al (Below.refl _ _) _
  have hl0 := hI0.lt
  have hl1 := hI1.lt
  have HL : Aside0 (LP w (w1.alloc (.cells #[.pointer (some ⟨b0, 0, none⟩), .pointer (some ⟨b1, 0, none⟩), .slice none 0 0, .bool false, .int .i64 0, .int .i64 0, .int .u64 0, .slice none 0 0, .bool false, .int .i64 0, .int .i64 0, .int .u64 0, .int .i64 0] 55)) w.heap.size b0 b1 w1.heap.size none 0 none 0 Rg.new Rg.new 0) :=
    ⟨⟨below_then hB1 hA1, ⟨hI0.below hA1, hI1.below hA1, Kd.R_nil _ _ _ _ _, Kd.R_nil _ _ _ _ _, by omega, (below_then hB1 hA1).size, zr_new, zr_new⟩, blk_new _ _, .inl rfl, hb0, by omega, hB1.size, by omega, by omega⟩⟩
  obtain ⟨G, hG⟩ : ∃ G, G = w1.heap.size := ⟨_, rfl⟩
  rw [← hG] at HL
  have hGl := lt_blk HL.out.blk
  clear hI0 hI1 hB1 hA1 hb0 hb01 hl0 hl1
  go_wp2
  rw [← hG]
  clear hG hGl
  generalize (w1.alloc (.cells #[.pointer (some ⟨b0, 0, none⟩), .pointer (some ⟨b1, 0, none⟩), .slice none 0 0, .bool false, .int .i64 0, .int .i64 0, .int .u64 0, .slice none 0 0, .bool false, .int .i64 0, .int .i64 0, .int .u64 0, .int .i64 0] 55)) = W at *
  go_loopw [4, 5] (fun v i wr => ∃ (k : Nat) (A0 : Option Addr) (c0 : Nat) (A1 : Option Addr) (c1 : Nat) (r0 r1 : Rg) (n : Int), k ≤ ops.length ∧ i = .int .i64 k ∧ v = .bool true ∧ Aside0 (LP w wr w.heap.size b0 b1 G A0 c0 A1 c1 r0 r1 n)) (fun _ i _ => ops.length - (intOf i).toNat)
  case atStart => exact ⟨0, none, 0, none, 0, Rg.new, Rg.new, 0, by omega, rfl, rfl, HL⟩
  case round =>
    clear HL
    obtain ⟨k, A0, c0, A1, c1, r0, r1, n, hk, rfl, rfl, HP⟩ := hrel
    by_cases hlt : k < ops.length
    · obtain ⟨ab, off, rfl, hab⟩ := C_form HC.out (by omega) (by decide)
      obtain ⟨d, x, hx, e0, e1, e2, e3⟩ := op_at HC.out k hlt
      have hab1 := Nat.lt_of_lt_of_le hab HP.out.below.size
      have y0 := (HP.out.below.cell (p := ⟨ab, off + k * 4, none⟩) hab).trans e0
      have y1 := (HP.out.below.cell (p := ⟨ab, off + k * 4 + 1, none⟩) hab).trans e1
      have y2 := (HP.out.below.cell (p := ⟨ab, off + k * 4 + 2, none⟩) hab).trans e2
      have y3 := (HP.out.below.cell (p := ⟨ab, off + k * 4 + 3, none⟩) hab).trans e3
      have hki : (0 : Int) ≤ (k : Int) := by omega
      have hkl : (k : Int) < (ops.length : Int) := by omega
      clear hx e0 e1 e2 e3
      go_wp2_with fail
      have HP0 : Aside0 (LP w wr.drew w.heap.size b0 b1 G A0 c0 A1 c1 r0 r1 n) := ⟨HP.out.then (Below.refl _ _).drew⟩
      refine start_ (n := 11) (S := fun w' => w'.cell? ⟨G, 0, none⟩ = some (.pointer (some ⟨b0, 0, none⟩)) ∧ w'.cell? ⟨G, 1, none⟩ = some (.pointer (some ⟨b1, 0, none⟩)) ∧ w'.cell? ⟨G, 2, none⟩ = some (.slice A0 r0.l.length c0) ∧ w'.cell? ⟨G, 3, none⟩ = some (.bool r0.has) ∧ w'.cell? ⟨G, 4, none⟩ = some (.int .i64 r0.nx.s) ∧ w'.cell? ⟨G, 5, none⟩ = some (.int .i64 r0.nx.g) ∧ w'.cell? ⟨G, 6, none⟩ = some (.int .u64 r0.nx.t) ∧ w'.cell? ⟨G, 7, none⟩ = some (.slice A1 r1.l.length c1) ∧ w'.cell? ⟨G, 8, none⟩ = some (.bool r1.has) ∧ w'.cell? ⟨G, 9, none⟩ = some (.int .i64 r1.nx.s) ∧ w'.cell? ⟨G, 10, none⟩ = some (.int .i64 r1.nx.g) ∧ w'.cell? ⟨G, 11, none⟩ = some (.int .u64 r1.nx.t) ∧ w'.cell? ⟨G, 12, none⟩ = some (.int .i64 n) ∧ w'.cell? ⟨ab, off + k * 4, none⟩ = some (.int .i64 d) ∧ w'.cell? ⟨ab, off + k * 4 + 1, none⟩ = some (.int .i64 x.s) ∧ w'.cell? ⟨ab, off + k * 4 + 2, none⟩ = some (.int .i64 x.g) ∧ w'.cell? ⟨ab, off + k * 4 + 3, none⟩ = some (.int .u64 x.t)) (ds := [5, 9]) #[false, false, false, false, false, false, false, false, false, false, false] (by kernel_rfl) rfl rfl ⟨cell_blk HP0.out.blk 0, cell_blk HP0.out.blk 1, cell_blk HP0.out.blk 2, cell_blk HP0.out.blk 3, cell_blk HP0.out.blk 4, cell_blk HP0.out.blk 5, cell_blk HP0.out.blk 6, cell_blk HP0.out.blk 7, cell_blk HP0.out.blk 8, cell_blk HP0.out.blk 9, cell_blk HP0.out.blk 10, cell_blk HP0.out.blk 11, cell_blk HP0.out.blk 12, y0, y1, y2, y3⟩ (fun hHeld => ?_)
      generalize wr.drew = x0 at *
      refine pure_ (i := 1) (N := some 21) (v := ?_) (a' := ?_) #[false, true, false, false, false, false, false, false, false, false, false] rfl rfl (by kernel_rfl) (fun _ _ _ h => h) (Or.inl ⟨by rfl, ?_⟩) ?_ ?_
      rotate_left
      · intro w'
        go_simp
        with_reducible rfl
      rotate_left
      · simp only [Act.put, List.setIfInBounds_toArray, List.set_cons_zero, List.set_cons_succ, i64_w, i32_w]
        rfl
      refine pure_ (i := 2) (N := some 22) (v := ?_) (a' := ?_) #[false, true, true, false, false, false, false, false, false, false, false] rfl rfl (by kernel_rfl) (fun _ _ _ h => h) (Or.inl ⟨by rfl, ?_⟩) ?_ ?_
      rotate_left
      · intro w'
        go_simp
        with_reducible rfl
      rotate_left
      · simp only [Act.put, List.setIfInBounds_toArray, List.set_cons_zero, List.set_cons_succ, i64_w, i32_w]
        rfl
      refine pure_ (i := 3) (N := some 23) (v := ?_) (a' := ?_) #[false, true, true, true, false, false, false, false, false, false, false] rfl rfl (by kernel_rfl) (fun _ _ _ h => h) (Or.inl ⟨by rfl, ?_⟩) ?_ ?_
      rotate_left
      · intro w'
        go_simp
        with_reducible rfl
      rotate_left
      · simp only [Act.put, List.setIfInBounds_toArray, List.set_cons_zero, List.set_cons_succ, i64_w, i32_w]
        rfl
      refine take_ (i := 0) (N := some 20) (v := ?_) (a' := ?_) #[true, true, true, true, false, false, false, false, false, false, false] rfl rfl (by kernel_rfl) (fun _ _ _ h => h) (Or.inl ⟨by rfl, ?_⟩) hHeld ?_ ?_
      rotate_left
      · rintro w' ⟨s0, s1, s2, s3, s4, s5, s6, s7, s8, s9, s10, s11, s12, s13, s14, s15, s16⟩
        go_simp
        with_reducible rfl
      rotate_left
      · simp only [Act.put, List.setIfInBounds_toArray, List.set_cons_zero, List.set_cons_succ, i64_w, i32_w]
        rfl
      refine take_ (i := 4) (N := some 24) (v := ?_) (a' := ?_) #[true, true, true, true, true, false, false, false, false, false, false] rfl rfl (by kernel_rfl) (fun _ _ _ h => h) (Or.inl ⟨by rfl, ?_⟩) hHeld ?_ ?_
      rotate_left
      · rintro w' ⟨s0, s1, s2, s3, s4, s5, s6, s7, s8, s9, s10, s11, s12, s13, s14, s15, s16⟩
        go_simp
        with_reducible rfl
      rotate_left
      · simp only [Act.put, List.setIfInBounds_toArray, List.set_cons_zero, List.set_cons_succ, i64_w, i32_w]
        rfl
      refine last_ (i := 5) (N := some 25) #[true, true, true, true, true, true, false, false, false, false, false] rfl rfl (by kernel_rfl) (by decide) (fun K hK => ?_)
      refine goes_ Try.func28 (by kernel_rfl) rfl #[.agg #[.pointer (some ⟨b0, 0, none⟩), .pointer (some ⟨b1, 0, none⟩), .slice A0 r0.l.length c0, .bool r0.has, .int .i64 r0.nx.s, .int .i64 r0.nx.g, .int .u64 r0.nx.t, .slice A1 r1.l.length c1, .bool r1.has, .int .i64 r1.nx.s, .int .i64 r1.nx.g, .int .u64 r1.nx.t, .int .i64 n], .agg #[.int .i64 d, .int .i64 x.s, .int .i64 x.g, .int .u64 x.t]] (by rfl) rfl rfl (by simp only [List.map_toArray, List.map_cons, List.map_nil]; rfl) ?_
      with_reducible refine (calls_top _ b0 b1 A0 c0 A1 c1 r0 r1 n d HP0.out.n01 x x0 HP0.out.q).mono ?_
      rintro e w2 ⟨A0', c0', A1', c1', r0', r1', n', rfl, hq, hn', hK⟩
      refine ⟨_, rfl, ?_⟩
      have hG2 := blk_keep HP0.out.blk hK (show ¬ (G = b0 ∨ G = b1) by have := HP0.out.n0; have := HP0.out.n1; omega)
      obtain ⟨p0, p1, p2, p3, p4, p5, p6, p7, p8, p9, p10, p11, p12⟩ := cells13 hG2 rfl
      obtain ⟨f0, f1, f2, f3, f4, f5, f6, f7, f8, f9, f10, f11, f12⟩ := froz13 hG2
      have hGl := lt_blk hG2
      have HK := Aside0.mk hK
      have HQ := Aside0.mk hq
      have HN := Aside0.mk hn'
      have HG2 := Aside0.mk hG2
      clear hK hq hn' hG2
      refine hK.out _ _ ?_
      clear hK K
      refine norm_ (a' := ?_) ?_ ?_
      rotate_left
      · show Act.put _ (some 25) _ = _
        simp only [Act.put, List.setIfInBounds_toArray, List.set_cons_zero, List.set_cons_succ, i64_w, i32_w]
        rfl
      refine pure_ (i := 6) (N := some 19) (v := ?_) (a' := ?_) #[true, true, true, true, true, true, true, false, false, false, false] rfl rfl (by kernel_rfl) (fun _ _ _ h => h) (Or.inl ⟨by rfl, ?_⟩) ?_ ?_
      rotate_left
      · intro w'
        go_simp
        with_reducible rfl
      rotate_left
      · simp only [Act.put, List.setIfInBounds_toArray, List.set_cons_zero, List.set_cons_succ, i64_w, i32_w]
        rfl
      refine pure_ (i := 7) (N := some 26) (v := ?_) (a' := ?_) #[true, true, true, true, true, true, true, true, false, false, false] rfl rfl (by kernel_rfl) (fun _ _ _ h => h) (Or.inl ⟨by rfl, ?_⟩) ?_ ?_
      rotate_left
      · intro w'
        go_simp
        with_reducible rfl
      rotate_left
      · simp only [Act.put, List.setIfInBounds_toArray, List.set_cons_zero, List.set_cons_succ, i64_w, i32_w]
        rfl
      refine pure_ (i := 8) (N := some 27) (v := ?_) (a' := ?_) #[true, true, true, true, true, true, true, true, true, false, false] rfl rfl (by kernel_rfl) (fun _ _ _ h => h) (Or.inl ⟨by rfl, ?_⟩) ?_ ?_
      rotate_left
      · intro w'
        go_simp
        with_reducible rfl
      rotate_left
      · simp only [Act.put, List.setIfInBounds_toArray, List.set_cons_zero, List.set_cons_succ, i64_w, i32_w]
        rfl
      refine last_ (i := 9) (N := none) #[true, true, true, true, true, true, true, true, true, true, false] rfl rfl (by kernel_rfl) (by decide) (fun K hK => ?_)
      refine skip_ (w1 := ?_) (by rfl) rfl ?_ ?_
      rotate_left
      · go_simp
        first | with_reducible rfl | rfl
      refine hK.out _ _ ?_
      clear hK K
      refine pure_ (i := 10) (N := some 4) (v := ?_) (a' := ?_) #[true, true, true, true, true, true, true, true, true, true, true] rfl rfl (by kernel_rfl) (fun _ _ _ h => h) (Or.inl ⟨by rfl, ?_⟩) ?_ ?_
      rotate_left
      · intro w'
        go_simp
        with_reducible rfl
      rotate_left
      · simp only [Act.put, List.setIfInBounds_toArray, List.set_cons_zero, List.set_cons_succ, i64_w, i32_w]
        rfl
      refine done_ (by kernel_rfl) ?_
      have hK3 : Keep (fun i => i = G) w2 (((((((((((((w2.setCell ⟨G, 0, none⟩ (.pointer (some ⟨b0, 0, none⟩))).setCell ⟨G, 1, none⟩ (.pointer (some ⟨b1, 0, none⟩))).setCell ⟨G, 2, none⟩ (.slice A0' r0'.l.length c0')).setCell ⟨G, 3, none⟩ (.bool r0'.has)).setCell ⟨G, 4, none⟩ (.int .i64 r0'.nx.s)).setCell ⟨G, 5, none⟩ (.int .i64 r0'.nx.g)).setCell ⟨G, 6, none⟩ (.int .u64 r0'.nx.t)).setCell ⟨G, 7, none⟩ (.slice A1' r1'.l.length c1')).setCell ⟨G, 8, none⟩ (.bool r1'.has)).setCell ⟨G, 9, none⟩ (.int .i64 r1'.nx.s)).setCell ⟨G, 10, none⟩ (.int .i64 r1'.nx.g)).setCell ⟨G, 11, none⟩ (.int .u64 r1'.nx.t)).setCell ⟨G, 12, none⟩ (.int .i64 n')) := (by repeat (first | (with_reducible exact Keep.refl _ _) | (with_reducible refine Keep.drewN ?_ _) | (with_reducible refine Keep.drew ?_) | (with_reducible refine Keep.setCell ?_ _ _ (by first | (right; with_reducible rfl) | (left; simp; done) | (left; simp; omega) | (right; simp; done) | (right; assumption))) | (with_reducible refine Keep.alloc ?_ _)))
      have HP3 := Aside0.mk (HP0.out.called HQ.out HN.out HK.out hK3 (blk_set13 HG2.out))
      clear hK3 p0 p1 p2 p3 p4 p5 p6 p7 p8 p9 p10 p11 p12 f0 f1 f2 f3 f4 f5 f6 f7 f8 f9 f10 f11 f12 hGl HG2 HQ HK
      generalize (((((((((((((w2.setCell ⟨G, 0, none⟩ (.pointer (some ⟨b0, 0, none⟩))).setCell ⟨G, 1, none⟩ (.pointer (some ⟨b1, 0, none⟩))).setCell ⟨G, 2, none⟩ (.slice A0' r0'.l.length c0')).setCell ⟨G, 3, none⟩ (.bool r0'.has)).setCell ⟨G, 4, none⟩ (.int .i64 r0'.nx.s)).setCell ⟨G, 5, none⟩ (.int .i64 r0'.nx.g)).setCell ⟨G, 6, none⟩ (.int .u64 r0'.nx.t)).setCell ⟨G, 7, none⟩ (.slice A1' r1'.l.length c1')).setCell ⟨G, 8, none⟩ (.bool r1'.has)).setCell ⟨G, 9, none⟩ (.int .i64 r1'.nx.s)).setCell ⟨G, 10, none⟩ (.int .i64 r1'.nx.g)).setCell ⟨G, 11, none⟩ (.int .u64 r1'.nx.t)).setCell ⟨G, 12, none⟩ (.int .i64 n')) = w3 at *
      obtain ⟨p0, p1, p2, p3, p4, p5, p6, p7, p8, p9, p10, p11, p12⟩ := cells13 HP3.out.blk rfl
      have hGl := lt_blk HP3.out.blk
      go_wp2_with fail
      refine (tells_any _ b0 b1 A0' c0' A1' c1' r0' r1' n' w3 HP3.out.q).mono ?_
      rintro e w4 ⟨rfl, hB4⟩
      have HP4 := Aside0.mk (HP3.out.then hB4)
      clear hB4
      go_wp2
      go_roundw
      case rel => exact ⟨k + 1, A0', c0', A1', c1', r0', r1', n', by omega, by go_num, rfl, HP4⟩
      case measure => simp [intOf]; omega
    · obtain rfl : k = ops.length := by omega
      obtain ⟨p0, p1, p2, p3, p4, p5, p6, p7, p8, p9, p10, p11, p12⟩ := cells13 HP.out.blk rfl
      have hGl := lt_blk HP.out.blk
      go_wp2_with fail
      refine (tells_any _ b0 b1 A0 c0 A1 c1 r0 r1 n wr HP.out.q).mono ?_
      rintro e w4 ⟨rfl, hB4⟩
      have hB5 := below_then HP.out.below hB4
      clear hB4
      go_wp2_with fail
      refine (awake_any _).mono ?_
      rintro e w5 ⟨rfl, hB6⟩
      go_wp2
      go_ret
      exact ⟨rfl, below_then hB5 hB6⟩
theorem ringPlays.walk (w : World) (A : Option Addr) (c : Nat) (ops : List (Int × Wt)) (hc : ops.length ≤ c) (hC : kOp.C w A ops.length ops) (hG : ops.length * Try.prog.bytesOf 65 ≤ reachBytes ∧ ops.length ≤ 9223372036854775807 ∧ ∀ x ∈ ops, True) :
    Calls Try.prog 6 #[.slice A ops.length c] w fun e w' => e = .returned (.bool true) ∧ Below w.heap.size w w' := by
  have h32 : Try.prog.bytesOf 65 = 32 := by kernel_rfl
  rw [h32] at hG
  exact RingPlays0.walk w A c ops hC hc hG.1
theorem ringPlays.own : ownKnob Try.prog.godebug = none := by kernel_rfl
theorem ringPlays.laidOut : laidOutB Try.prog = true := by kernel_rfl
set_option maxRecDepth 100000 in
set_option maxHeartbeats 1000000 in
theorem ringPlays.lifted (os : Os) (started : os.Started) (H : Type) (enc : TypeId × Value → H)
    : ReturnsInHanded {} Try.checked os 6 .any (Rows.ringPlaysSpec.pre6 enc Try.prog Try.f6 Rows.ringPlaysRow.domain false) (Rows.ringPlaysSpec.post enc Try.prog Try.f6 false true false false) := by
  refine returnsInHanded_of_change_sized (C := Try.checked) ringPlays.own started (by kernel_rfl) Try.func6
    (ChangeSpec.witness6 (enc := enc) (C := Try.checked) false ⟨#[], #[.slice none 0 0], []⟩ 8 (by kernel_rfl) (by kernel_rfl) (by kernel_rfl) (by kernel_rfl)) ?_
  intro W base args ds gs before hval0 hW hcnd hsz0 _
  have hsz : (DataW.weightsEach Try.prog (Try.f6.params.toList ++ Rows.ringPlaysSpec.plain.varTypes Try.prog) (ds ++ gs)).all (· ≤ reachBytes) = true := hsz0
  have hval : ∀ (j : Nat) t v, Try.f6.params[j]? = some t → args[j]? = some v → Value.okWide Try.prog W .any base t v := hval0
  have hW' := hW
  obtain ⟨p, q, hA0, hV, rfl, hfz, hnd⟩ := hW
  have hA : DataW.TrodAll enc Try.prog W 0 (fun _ => true) true Try.f6.params.toList args.toList ds p := hA0
  rw [Try.params6] at hA hval hsz
  obtain ⟨v0, vs0, d0, ds0, p0, q0, hargs, rfl, rfl, h0, r0⟩ := trodAll_cons hA
  obtain ⟨rfl, rfl, rfl⟩ := trodAll_nil r0
  obtain rfl : args = #[v0] := by cases args; simp_all
  obtain ⟨rfl, rfl⟩ := trodVars_none hV
  have k0 := h0
  have lt0 : ∀ x ∈ p0, x.block < W.heap.size := by obtain ⟨m, hm⟩ := k0; exact DataW.trod_lt m _ _ _ hm
  have W0 := Op.weights_of hsz (j := 0) (t := 51) (d := d0) rfl rfl
  obtain ⟨A0, len0, cap0, rfl⟩ := okWide_slice Try.underlying51 (hval 0 51 v0 rfl rfl)
  obtain ⟨f0, hf0⟩ := h0
  obtain ⟨a0, hK0, hG0, hM0⟩ := Op.opens_slice Try.underlying51 (by kernel_rfl) opensOp H enc W _ true f0 _ (d0, p0) hf0 W0
  obtain ⟨A', c', he0, hc0, hC0⟩ := hK0
  obtain ⟨rfl, rfl, rfl⟩ : A0 = A' ∧ len0 = a0.length ∧ cap0 = c' := by simpa [Value.cells] using he0
  clear hA0 hval0 hsz0 hsz
  refine (ringPlays.walk W A0 cap0 a0 hc0 hC0 hG0).mono fun e W' ⟨he, bel⟩ => ?_
  subst he
  exact ⟨_, rfl, _, _, _, [], _, [], hW', trodAll_mk1 (shut_bool Try.underlying4 _), (trodAll_cons_mk (Below.trod ringPlays.laidOut (by kernel_rfl) (of_decide_eq_true (by kernel_rfl)) k0 bel lt0) trodAll_mk0), rfl, bel.frame _, fun h => by cases h⟩
theorem ringPlays_holds : Rows.RingPlaysSaid :=
  OpenClaim.holds_of_wide 6 Try.f6 rfl rfl rfl rfl rfl rfl rfl ⟨rfl, rfl, rfl, rfl, rfl⟩ rfl rfl rfl rfl rfl (by kernel_rfl) Try.func6 (by kernel_rfl)
    (of_decide_eq_true (by kernel_rfl)) (by unfold Func.isWrapper; first | (rw [if_pos (by decide +kernel)]; kernel_rfl) | (rw [if_neg (by decide +kernel)]; exact ⟨rfl, rfl⟩))
    (fun os started H enc _ => ringPlays.lifted os started H enc)
#print axioms ringPlays_holds

end Go.Proofs.Ytjjdojnnomokaaa
