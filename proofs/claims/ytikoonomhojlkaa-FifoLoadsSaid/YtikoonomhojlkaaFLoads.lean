/- FifoLoads: Load of any list, and a call behind it. No condition. -/
import Derived.Test.YtikoonomhojlkaaFqLd
set_option linter.unusedSimpArgs false
set_option linter.unusedVariables false
namespace Go.Proofs.Ytikoonomhojlkaa
open Go.RowKit Go.ChangeShapes Go.WideShapes Go.ChangeAt Go.Proofs.YtikoonomhojlkaaW.PrintWords Go.Proofs.YtikoonomhojlkaaW.PrintMore Go.Proofs.YtikoonomhojlkaaW.PrintLast
/-! FifoLoads -/
theorem dq_load {w w1 w2 : World} {b : Nat} {L : List Wt} {v' : Value} (hQ : QueE w b L w1) (hR : Kd.R kW TW w2 w1.heap.size (fun _ => True) v' L) (hB : Below w1.heap.size w1 w2) : DQE w b L v' w2 := by
  obtain ⟨ok, v, h⟩ := hQ
  have hz := h.below.size
  refine ⟨v, ok, fun k => w1.heap.size ≤ k ∧ k < w2.heap.size, ⟨h.then hB, Kd.R_mono (Kd.R_lower (Kd.R_mono (Kd.R_bound hR) (fun k ho => (⟨ho.2.1, ho.2.2.1⟩ : w1.heap.size ≤ k ∧ k < w2.heap.size))) hz) (fun _ h => h), fun k hk => ⟨by omega, hk.2, fun ho => by have := (h.q.z k ho).2; omega⟩⟩⟩
set_option maxRecDepth 100000 in
set_option maxHeartbeats 8000000 in
theorem FifoLoads0.walk (w : World) (A : Option Addr) (c : Nat) (l : List Wt) (hC : kW.C w A l.length l) (hc : l.length ≤ c) (hl : l.length ≤ 8796093022208) (d : Int) (x : Wt) (procs room : Int) :
    Calls Try.prog 8 #[.slice A l.length c, .agg #[.int .i64 d, .int .i64 x.f0.f0, .int .i64 x.f0.f1, .int .u64 x.f1, .int .i64 procs, .int .i64 room]] w fun e w' => e = .returned (.bool true) ∧ Below w.heap.size w w' := by
  have hA : Below w.heap.size w (w.alloc (.cells #[.int .i64 d, .int .i64 x.f0.f0, .int .i64 x.f0.f1, .int .u64 x.f1, .int .i64 procs, .int .i64 room] 51)) := below_al (Below.refl _ _) _
  have HB0 := Aside0.mk hA
  have HX0 : Aside0 ((w.alloc (.cells #[.int .i64 d, .int .i64 x.f0.f0, .int .i64 x.f0.f1, .int .u64 x.f1, .int .i64 procs, .int .i64 room] 51)).heap[w.heap.size]? = some (.cells #[.int .i64 d, .int .i64 x.f0.f0, .int .i64 x.f0.f1, .int .u64 x.f1, .int .i64 procs, .int .i64 room] 51 (0, 0))) := ⟨blk_new _ _⟩
  have HL := Aside0.mk (qload_any (w.alloc (.cells #[.int .i64 d, .int .i64 x.f0.f0, .int .i64 x.f0.f1, .int .u64 x.f1, .int .i64 procs, .int .i64 room] 51)) A c l (Kd.C_below hC hA) hc hl)
  have HC := Aside0.mk (Kd.C_below hC hA)
  have HXl : Aside0 (w.heap.size < (w.alloc (.cells #[.int .i64 d, .int .i64 x.f0.f0, .int .i64 x.f0.f1, .int .u64 x.f1, .int .i64 procs, .int .i64 room] 51)).heap.size) := ⟨lt_blk HX0.out⟩
  clear hA hC
  go_enter Try.func8, Try.ntmps8
  go_wp2_with fail
  generalize (w.alloc (.cells #[.int .i64 d, .int .i64 x.f0.f0, .int .i64 x.f0.f1, .int .u64 x.f1, .int .i64 procs, .int .i64 room] 51)) = W at *
  refine HL.out.mono ?_
  clear HL
  rintro e w1 ⟨hB1, ⟨h0, b, rfl, hQ1⟩ | ⟨h0, rfl⟩⟩
  · have hRL := rload_any w1 A c l (Kd.C_below HC.out hB1) hc hl
    rw [h0] at hRL
    have HX1 := Aside0.mk (blk_below HX0.out hB1)
    have HB1 := Aside0.mk (HB0.out.trans (hB1.mono HB0.out.size))
    have HQ1 := Aside0.mk hQ1
    clear hB1 hQ1 HX0 h0
    generalize (loadF l []).1 = L at *
    go_wp2_with fail
    refine hRL.mono ?_
    clear hRL
    rintro e w2 ⟨v2, rfl, hR2, hB2⟩
    have hD2 := dq_load HQ1.out hR2 hB2
    obtain ⟨A2, c2, he2, -, -⟩ := Kd.R_reads hR2
    subst he2
    have HX2 := Aside0.mk (blk_below HX1.out hB2)
    have HB2 := Aside0.mk (HB1.out.trans (hB2.mono HB1.out.size))
    have HD2 := Aside0.mk hD2
    have hqe := qeq_some b
    have hqn := qne_some b
    clear hR2 hB2 hD2 HQ1 HX1 HB1
    go_wp2_with fail
    refine (lives_any w2).mono ?_
    rintro e w3 ⟨rfl, hB3⟩
    obtain ⟨v, ok, P, hD⟩ := HD2.out
    have hD3 := hD.then hB3
    have hX3 := blk_below HX2.out hB3
    have y0 := cell_blk hX3 0
    have y1 := cell_blk hX3 1
    have y2 := cell_blk hX3 2
    have y3 := cell_blk hX3 3
    have y4 := cell_blk hX3 4
    have y5 := cell_blk hX3 5
    have yl := lt_blk hX3
    simp only [List.getElem?_toArray, List.getElem?_cons_zero, List.getElem?_cons_succ] at y0 y1 y2 y3 y4 y5
    have hT := does_any d x procs room hD3
    have HX3 := Aside0.mk hX3
    have HB3 := Aside0.mk (HB2.out.trans (hB3.mono HB2.out.size))
    have HW0 := Aside0.mk HB0.out.size
    have Hzo := Aside0.mk (And.intro hD3.q.q.z hD3.zp)
    have HNX : Aside0 (¬ (ok w.heap.size ∨ P w.heap.size)) := ⟨fun h => h.elim (fun h => by have := (hD3.q.q.z _ h).1; have := HXl.out; omega) (fun h => by have := (hD3.zp _ h).1; have := HXl.out; omega)⟩
    clear hD hD3 hX3 hB3
    go_wp2_with fail
    refine hT.mono ?_
    clear hT y0 y1 y2 y3 y4 y5 yl
    rintro e w4 ⟨v4, vl4, ok4, P4, rfl, hD4, -, -, hk4⟩
    have hX4 := blk_keep HX3.out hk4 HNX.out
    have y1 := cell_blk hX4 1
    have y2 := cell_blk hX4 2
    have yl := lt_blk hX4
    simp only [List.getElem?_toArray, List.getElem?_cons_zero, List.getElem?_cons_succ] at y1 y2
    have hT := told_any x.f0.f0 x.f0.f1 hD4
    obtain ⟨A4, c4, he4, -, -⟩ := Kd.R_reads hD4.r
    subst he4
    have HB4 := Aside0.mk (HB0.out.trans (hD4.q.below.mono HB0.out.size))
    generalize doL L d x procs room = L4 at *
    clear hD4 hk4 hX4
    go_wp2_with fail
    refine hT.mono ?_
    clear hT
    rintro e w5 ⟨rfl, hB5⟩
    have HB5 := Aside0.mk (HB4.out.trans (hB5.mono HB4.out.size))
    clear hB5
    go_wp2
    go_ret
    exact ⟨rfl, HB5.out⟩
  · have hRL := rload_any w1 A c l (Kd.C_below HC.out hB1) hc hl
    have HB1 := Aside0.mk (HB0.out.trans (hB1.mono HB0.out.size))
    clear hB1 HX0
    generalize loadF l [] = r at *
    obtain ⟨r1, r2⟩ := r
    simp only at hRL h0 ⊢
    go_wp2_with fail
    refine hRL.mono ?_
    clear hRL
    rintro e w2 ⟨v2, rfl, hR2, hB2⟩
    have HB2 := Aside0.mk (HB1.out.trans (hB2.mono HB1.out.size))
    have hqe := qeq_none
    have hqn := qne_none
    have hr1 : (r2 == 0) = false := by simpa using h0
    have hr2 : (r2 != 0) = true := by simpa using h0
    clear hR2 hB2 HB1
    go_wp2_with fail
    refine (lives_any w2).mono ?_
    rintro e w3 ⟨rfl, hB3⟩
    have HB3 := Aside0.mk (HB2.out.trans (hB3.mono HB2.out.size))
    clear hB3
    go_wp2
    go_ret
    exact ⟨rfl, HB3.out⟩
theorem fifoLoads.walk (w : World) (A : Option Addr) (c : Nat) (l : List Wt) (hc : l.length ≤ c) (hC : kW.C w A l.length l) (hG : l.length * Try.prog.bytesOf 32 ≤ reachBytes ∧ l.length ≤ 9223372036854775807 ∧ ∀ x ∈ l, True) (cs : Array Value) (a : Ac) (hK : kAc.K w a cs.toList) (_ : True) :
    Calls Try.prog 8 #[.slice A l.length c, .agg cs] w fun e w' => e = .returned (.bool true) ∧ Below w.heap.size w w' := by
  have h1 : Try.prog.bytesOf 32 = 24 := by kernel_rfl
  rw [h1] at hG
  obtain ⟨d, x, procs, room⟩ := a
  obtain rfl : cs = #[.int .i64 d, .int .i64 x.f0.f0, .int .i64 x.f0.f1, .int .u64 x.f1, .int .i64 procs, .int .i64 room] := Array.toList_inj.1 (kAc_open hK)
  have hg := hG.1
  unfold reachBytes at hg
  exact FifoLoads0.walk w A c l hC hc (by omega) d x procs room
theorem fifoLoads.own : ownKnob Try.prog.godebug = none := by kernel_rfl
theorem fifoLoads.laidOut : laidOutB Try.prog = true := by kernel_rfl
set_option maxRecDepth 100000 in
set_option maxHeartbeats 1000000 in
theorem fifoLoads.lifted (os : Os) (started : os.Started) (H : Type) (enc : TypeId × Value → H)
    : ReturnsInHanded {} Try.checked os 8 .any (Rows.fifoLoadsSpec.pre6 enc Try.prog Try.f8 Rows.fifoLoadsRow.domain false) (Rows.fifoLoadsSpec.post enc Try.prog Try.f8 false true false false) := by
  refine returnsInHanded_of_change_sized (C := Try.checked) fifoLoads.own started (by kernel_rfl) Try.func8
    (ChangeSpec.witness6 (enc := enc) (C := Try.checked) false ⟨#[], #[.slice none 0 0, .agg #[.int .i64 0, .int .i64 0, .int .i64 0, .int .u64 0, .int .i64 0, .int .i64 0]], []⟩ 8 (by kernel_rfl) (by kernel_rfl) (by kernel_rfl) (by kernel_rfl)) ?_
  intro W base args ds gs before hval0 hW hcnd hsz0 _
  have hsz : (DataW.weightsEach Try.prog (Try.f8.params.toList ++ Rows.fifoLoadsSpec.plain.varTypes Try.prog) (ds ++ gs)).all (· ≤ reachBytes) = true := hsz0
  have hval : ∀ (j : Nat) t v, Try.f8.params[j]? = some t → args[j]? = some v → Value.okWide Try.prog W .any base t v := hval0
  have hW' := hW
  obtain ⟨p, q, hA0, hV, rfl, hfz, hnd⟩ := hW
  have hA : DataW.TrodAll enc Try.prog W 0 (fun _ => true) true Try.f8.params.toList args.toList ds p := hA0
  rw [Try.params8] at hA hval hsz
  obtain ⟨v0, vs0, d0, ds0, p0, q0, hargs, rfl, rfl, h0, r0⟩ := trodAll_cons hA
  obtain ⟨v1, vs1, d1, ds1, p1, q1, rfl, rfl, rfl, h1, r1⟩ := trodAll_cons r0
  obtain ⟨rfl, rfl, rfl⟩ := trodAll_nil r1
  obtain rfl : args = #[v0, v1] := by cases args; simp_all
  obtain ⟨rfl, rfl⟩ := trodVars_none hV
  have k0 := h0
  have lt0 : ∀ x ∈ p0, x.block < W.heap.size := by obtain ⟨m, hm⟩ := k0; exact DataW.trod_lt m _ _ _ hm
  have W0 := Op.weights_of hsz (j := 0) (t := 22) (d := d0) rfl rfl
  obtain ⟨A0, len0, cap0, rfl⟩ := okWide_slice Try.underlying22 (hval 0 22 v0 rfl rfl)
  obtain ⟨f0, hf0⟩ := h0
  obtain ⟨a0, hK0, hG0, hM0⟩ := Op.opens_slice Try.underlying22 (by kernel_rfl) opensW H enc W _ true f0 _ (d0, p0) hf0 W0
  obtain ⟨A', c', he0, hc0, hC0⟩ := hK0
  obtain ⟨rfl, rfl, rfl⟩ : A0 = A' ∧ len0 = a0.length ∧ cap0 = c' := by simpa [Value.cells] using he0
  have k1 := h1
  have lt1 : ∀ x ∈ p1, x.block < W.heap.size := by obtain ⟨m, hm⟩ := k1; exact DataW.trod_lt m _ _ _ hm
  have W1 := Op.weights_of hsz (j := 1) (t := 51) (d := d1) rfl rfl
  obtain ⟨cs1, rfl, sz1⟩ := okWide_struct Try.underlying51 (hval 1 51 v1 rfl rfl)
  obtain ⟨f1, hf1⟩ := h1
  obtain ⟨a1, hK1, hG1, hM1⟩ := opensAc H enc W _ true f1 _ (d1, p1) hf1 W1
  clear hA0 hval0 hsz0 hsz
  refine (fifoLoads.walk W A0 cap0 a0 hc0 hC0 hG0 cs1 a1 hK1 hG1).mono fun e W' ⟨he, bel⟩ => ?_
  subst he
  exact ⟨_, rfl, _, _, _, [], _, [], hW', trodAll_mk1 (shut_bool Try.underlying4 _), (trodAll_cons_mk (Below.trod fifoLoads.laidOut (by kernel_rfl) (of_decide_eq_true (by kernel_rfl)) k0 bel lt0) (trodAll_cons_mk (Below.trod fifoLoads.laidOut (by kernel_rfl) (of_decide_eq_true (by kernel_rfl)) k1 bel lt1) trodAll_mk0)), rfl, bel.frame _, fun h => by cases h⟩
theorem fifoLoads_holds : Rows.FifoLoadsSaid :=
  OpenClaim.holds_of_wide 8 Try.f8 rfl rfl rfl rfl rfl rfl rfl ⟨rfl, rfl, rfl, rfl, rfl⟩ rfl rfl rfl rfl rfl (by kernel_rfl) Try.func8 (by kernel_rfl)
    (of_decide_eq_true (by kernel_rfl)) (by unfold Func.isWrapper; first | (rw [if_pos (by decide +kernel)]; kernel_rfl) | (rw [if_neg (by decide +kernel)]; exact ⟨rfl, rfl⟩))
    (fun os started H enc _ => fifoLoads.lifted os started H enc)
#print axioms fifoLoads_holds

end Go.Proofs.Ytikoonomhojlkaa
