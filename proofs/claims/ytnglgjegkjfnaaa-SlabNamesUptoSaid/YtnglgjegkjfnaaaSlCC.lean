/- SlabNames: no name is answered twice; Take refuses just where as many names are alive as the limit; given back is just what is alive. Condition (Upto): at most 1048576 items in all. -/
import Derived.Test.YtnglgjegkjfnaaaSlAC
import Derived.Deep.CondSized
namespace Go.Proofs.Ytnglgjegkjfnaaa
open Go.RowKit Go.ChangeShapes Go.WideShapes Go.ChangeAt Go.Proofs.YtnglgjegkjfnaaaW.PrintWords Go.Proofs.YtnglgjegkjfnaaaW.PrintMore Go.Proofs.YtnglgjegkjfnaaaW.PrintLast
attribute [local go_sem high] eqG
set_option maxRecDepth 100000 in
set_option maxHeartbeats 8000000 in
theorem SlabNames0.walk (w : World) (L P : Int) (A : Option Addr) (c : Nat) (ops : List SOp) (hC : kSOp.C w A ops.length ops) (hc : ops.length ≤ c) (hl : ops.length ≤ 1048576) :
    Calls Try.prog 5 #[.agg #[.int .i64 L, .int .i64 P, .slice A ops.length c]] w fun e w' => e = .returned (.bool true) ∧ Below w.heap.size w w' := by
  have hW : Below w.heap.size w (w.alloc (.cells #[.int .i64 L, .int .i64 P, .slice A ops.length c] 37)) := below_al (Below.refl _ _) _
  have hX : (w.alloc (.cells #[.int .i64 L, .int .i64 P, .slice A ops.length c] 37)).heap[w.heap.size]? = some (.cells #[.int .i64 L, .int .i64 P, .slice A ops.length c] 37 (0, 0)) := blk_new _ _
  have HF := Aside0.mk (fit_any L P (.slice A ops.length c) ⟨_, _, _, rfl⟩ (w.alloc (.cells #[.int .i64 L, .int .i64 P, .slice A ops.length c] 37)))
  have HC := Aside0.mk hC
  have HW := Aside0.mk hW
  have HX := Aside0.mk hX
  have hXl := lt_blk hX
  have hk := fit_ok L P
  clear hC hX hW
  go_enter Try.func5, Try.ntmps5
  go_wp2_with fail
  generalize (w.alloc (.cells #[.int .i64 L, .int .i64 P, .slice A ops.length c] 37)) = W at *
  refine HF.out.mono ?_
  clear HF
  rintro e w1 ⟨rfl, hB1⟩
  generalize fitL L = L' at *
  generalize fitP P = P' at *
  have hX1 := blk_below HX.out hB1
  have hb01 := below_then HW.out hB1
  have x0 := cell_blk hX1 0; have x1 := cell_blk hX1 1; have x2 := cell_blk hX1 2
  have f0 := frozen_blk hX1 0; have f1 := frozen_blk hX1 1; have f2 := frozen_blk hX1 2
  simp at x0 x1 x2
  have hXl1 := lt_blk hX1
  have hst : Keep (fun i => i = w.heap.size) w1 (((w1.setCell ⟨w.heap.size, 0, none⟩ (.int .i64 L')).setCell ⟨w.heap.size, 1, none⟩ (.int .i64 P')).setCell ⟨w.heap.size, 2, none⟩ (.slice A ops.length c)) := (by repeat (first | (with_reducible exact Keep.refl _ _) | (with_reducible refine Keep.drewN ?_ _) | (with_reducible refine Keep.drew ?_) | (with_reducible refine Keep.setCell ?_ _ _ (by first | (right; with_reducible rfl) | (left; simp; done) | (left; simp; omega) | (right; simp; done) | (right; assumption))) | (with_reducible refine Keep.alloc ?_ _)))
  have hX2 : (((w1.setCell ⟨w.heap.size, 0, none⟩ (.int .i64 L')).setCell ⟨w.heap.size, 1, none⟩ (.int .i64 P')).setCell ⟨w.heap.size, 2, none⟩ (.slice A ops.length c)).heap[w.heap.size]? = some (.cells #[.int .i64 L', .int .i64 P', .slice A ops.length c] 37 (0, 0)) := by
    have := blk_set (i := 2) (u := .slice A ops.length c) (blk_set (i := 1) (u := .int .i64 P') (blk_set (i := 0) (u := .int .i64 L') hX1))
    simpa using this
  have hb02 := below_then_keep hb01 hb01.size hst (fun i hi => by omega)
  have HX2 := Aside0.mk hX2
  have HB2 := Aside0.mk hb02
  clear hB1 hX1 hb01 hst hX2 hb02
  go_wp2_with fail
  generalize (((w1.setCell ⟨w.heap.size, 0, none⟩ (.int .i64 L')).setCell ⟨w.heap.size, 1, none⟩ (.int .i64 P')).setCell ⟨w.heap.size, 2, none⟩ (.slice A ops.length c)) = W2 at *
  clear x0 x1 x2 f0 f1 f2 hXl1
  have hs2 := HB2.out.size
  refine (snew_any L' P' W2).mono ?_
  rintro e w3 ⟨hB3, ⟨-, b, col, rfl, hS3, hc3⟩ | ⟨h0, -⟩⟩
  · have hX3 := blk_below HX2.out hB3
    have x0 := cell_blk hX3 0; have x1 := cell_blk hX3 1; have x2 := cell_blk hX3 2
    simp at x0 x1 x2
    have hXl3 := lt_blk hX3
    have HT := names_any W2 w3 b col L' P' A c ops hB3 hS3 hk (Kd.C_below HC.out HB2.out) hc hl
    have hz3 := hS3.z
    clear hX3
    go_wp2_with fail
    refine HT.mono ?_
    clear HT
    rintro e w4 hNP
    obtain ⟨vh, va, s, had, book, col4, rfl, hA4⟩ := after_names hB3 hz3 hc3 hNP
    obtain ⟨AH, cH, rfl, hcH, -⟩ := gid_rd hA4.h
    obtain ⟨AB, cB, rfl, hcB, -⟩ := gid_rd hA4.a
    have HA4 := Aside0.mk hA4
    have hlv := hA4.i.bl
    have hbn := hA4.i.bn
    have hhn := hA4.i.hl
    have hLv := live_slab w4 hA4.sl hA4.i.wf.l0 (by have := hA4.i.wf.a; have := hA4.i.wf.g; have := hA4.i.wf.l1; omega)
    rw [← hlv] at hLv
    clear hA4 hNP hlv hS3 hB3 hc3 hz3 x0 x1 x2 hXl3
    go_wp2_with fail
    refine hLv.mono ?_
    clear hLv
    rintro e w5 ⟨rfl, hB5⟩
    have HA5 := Aside0.mk (HA4.out.then hB5)
    clear HA4 hB5
    go_wp2_with fail
    go_loopw [8] (fun i wr => ∃ m : Nat, m ≤ had.length ∧ i = .int .i64 m ∧ Aside0 (After W2 wr W2.heap.size b col4 L' P' ops.length s (.slice AH had.length cH) (.slice AB book.length cB) had book)) (fun i _ => had.length - (intOf i).toNat)
    case atStart => exact ⟨0, by omega, rfl, HA5⟩
    case round =>
      clear HA5
      obtain ⟨m, hm, rfl, HA⟩ := hrel
      by_cases hlt : m < had.length
      · obtain ⟨g, hg⟩ : ∃ g, had[m]? = some g := ⟨_, List.getElem?_eq_getElem hlt⟩
        have HG := Aside0.mk hg
        clear hg
        go_wp2_with fail
        go_loopw [9, 10] (fun v i wr => ∃ q : Nat, q ≤ book.length ∧ i = .int .i64 q ∧ v = .bool (anyTo book g q) ∧ Aside0 (After W2 wr W2.heap.size b col4 L' P' ops.length s (.slice AH had.length cH) (.slice AB book.length cB) had book)) (fun _ i _ => book.length - (intOf i).toNat)
        case atStart => exact ⟨0, by omega, rfl, rfl, HA⟩
        case round =>
          clear HA
          obtain ⟨q, hq, rfl, rfl, HA⟩ := hrel
          obtain ⟨-, -, hCH⟩ := Kd.R_reads' HA.out.h
          obtain ⟨-, -, hCB⟩ := Kd.R_reads' HA.out.a
          obtain ⟨hb', ho', he, hhb⟩ := C_form hCH (by omega) (by decide)
          subst he
          obtain ⟨g', hg', c0, c1⟩ := gid_at hCH m hlt
          obtain rfl : g = g' := by rw [HG.out] at hg'; injection hg'
          have hmi : (0 : Int) ≤ (m : Int) := by omega
          have hml : (m : Int) < (had.length : Int) := by omega
          clear hg' hCH
          by_cases hql : q < book.length
          · obtain ⟨bb', bo', he, hbb⟩ := C_form hCB (by omega) (by decide)
            subst he
            obtain ⟨e, hee, d0, d1⟩ := gid_at hCB q hql
            have hst : anyTo book g (q + 1) = (anyTo book g q || (e.1 == g.1 && (e.2 == g.2))) := by
              rw [anyTo, List.getD_eq_getElem?_getD, hee]
              congr 1
            have HST := Aside0.mk hst
            have hqi : (0 : Int) ≤ (q : Int) := by omega
            have hqm : (q : Int) < (book.length : Int) := by omega
            clear hst hee hCB
            cases ha : anyTo book g q with
            | true =>
              rw [ha, Bool.true_or] at HST
              clear ha
              go_wp2
              go_region
              go_wp2
              go_roundw
              case rel => exact ⟨q + 1, by omega, by go_num, by rw [HST.out], ⟨HA.out.then (Below.refl _ _).drew⟩⟩
              case measure => simp [intOf]; omega
            | false =>
              rw [ha, Bool.false_or] at HST
              clear ha
              go_wp2
              go_region
              go_wp2
              go_roundw
              case rel => exact ⟨q + 1, by omega, by go_num, by rw [HST.out], ⟨HA.out.then (Below.refl _ _).drew⟩⟩
              case measure => simp [intOf]; omega
          · obtain rfl : q = book.length := by omega
            have hal : anyTo book g book.length = aliveS s g.1 g.2 := by
              rw [Bool.eq_iff_iff, anyTo_mem]
              exact HA.out.i.bk g
            have hAl := alive_slab g.1 g.2 _ HA.out.sl HA.out.i.wf.l0 HA.out.i.wf.a
            rw [hal]
            generalize aliveS s g.1 g.2 = al at *
            clear hCB hal
            go_wp2_with fail
            refine hAl.mono ?_
            clear hAl
            rintro e w6 ⟨rfl, hB6⟩
            have HA6 := Aside0.mk (HA.out.then hB6)
            clear hB6
            have hbq : (al != al) = false := by cases al <;> rfl
            go_wp2
            go_roundw
            case rel => exact ⟨m + 1, by omega, by go_num, HA6⟩
            case measure => simp [intOf]; omega
      · obtain rfl : m = had.length := by omega
        go_wp2_with fail
        refine (awake_any _).mono ?_
        rintro e w6 ⟨rfl, hB6⟩
        go_wp2
        go_ret
        exact ⟨rfl, below_then (below_then HB2.out HA.out.below) hB6⟩
  · rw [hk] at h0
    cases h0
theorem slabNames.walk (w : World) (cs : Array Value) (x : Int × Int × List SOp) (hK : kScr.K w x cs.toList) (_ : True) (hm : x.2.2.length ≤ 1048576) : Calls Try.prog 5 #[.agg cs] w fun e w' => e = .returned (.bool true) ∧ Below w.heap.size w w' := by
  obtain ⟨A, c, hcs, hc, hC⟩ := kScr_open hK
  obtain rfl := Array.toList_inj.1 hcs
  exact SlabNames0.walk w x.1 x.2.1 A c x.2.2 hC hc hm
theorem slabNames.own : ownKnob Try.prog.godebug = none := by kernel_rfl
theorem slabNames.laidOut : laidOutB Try.prog = true := by kernel_rfl
set_option maxRecDepth 100000 in
set_option maxHeartbeats 1000000 in
theorem slabNames.lifted (os : Os) (started : os.Started) (H : Type) (enc : TypeId × Value → H)
  (F : Stop.Interp) : ReturnsInHanded {} Try.checked os 5 .any ((Rows.OpenSpec.upto Rows.slabNamesSpec).pre6 enc Try.prog Try.f5 Rows.slabNamesUptoRow.domain false) (((Rows.OpenSpec.upto Rows.slabNamesSpec).at F).post enc Try.prog Try.f5 false true false false) := by
  refine returnsInHanded_of_cond_sized (C := Try.checked) (s := Rows.OpenSpec.upto Rows.slabNamesSpec) (k := Rows.uptoSmall) rfl slabNames.own started (by kernel_rfl) Try.func5
    (OpenSpec.witness (enc := enc) (C := Try.checked) (s := Rows.OpenSpec.upto Rows.slabNamesSpec) (k := Rows.uptoSmall) rfl false ⟨#[], #[.agg #[.int .i64 0, .int .i64 0, .slice none 0 0]], []⟩ 8 (by kernel_rfl) (by kernel_rfl) (by kernel_rfl)
      (x := ([.agg [.lit (.int .i64 0), .lit (.int .i64 0), .nil]], [], [])) (by kernel_rfl) rfl (by kernel_rfl)) ?_
  intro W base args ds gs before hval0 hW hcnd hk hsz0 _
  have hsz : (DataW.weightsEach Try.prog (Try.f5.params.toList ++ Rows.slabNamesSpec.plain.varTypes Try.prog) (ds ++ gs)).all (· ≤ reachBytes) = true := hsz0
  have hval : ∀ (j : Nat) t v, Try.f5.params[j]? = some t → args[j]? = some v → Value.okWide Try.prog W .any base t v := hval0
  have hW' := hW
  obtain ⟨p, q, hA0, hV, rfl, hfz, hnd⟩ := hW
  have hA : DataW.TrodAll enc Try.prog W 0 (fun _ => true) true Try.f5.params.toList args.toList ds p := hA0
  rw [Try.params5] at hA hval hsz
  obtain ⟨v0, vs0, d0, ds0, p0, q0, hargs, rfl, rfl, h0, r0⟩ := trodAll_cons hA
  obtain ⟨rfl, rfl, rfl⟩ := trodAll_nil r0
  obtain rfl : args = #[v0] := by cases args; simp_all
  obtain ⟨rfl, rfl⟩ := trodVars_none hV
  have k0 := h0
  have lt0 : ∀ x ∈ p0, x.block < W.heap.size := by obtain ⟨m, hm⟩ := k0; exact DataW.trod_lt m _ _ _ hm
  have W0 := Op.weights_of hsz (j := 0) (t := 37) (d := d0) rfl rfl
  obtain ⟨cs0, rfl, sz0⟩ := okWide_struct Try.underlying37 (hval 0 37 v0 rfl rfl)
  obtain ⟨f0, hf0⟩ := h0
  obtain ⟨a0, hK0, hG0, hM0⟩ := opensScr H enc W _ true f0 _ (d0, p0) hf0 W0
  have hM : Rows.uptoBulk d0 ≤ 1048576 := by
    have := of_decide_eq_true hk
    simp only [List.append_nil, Rows.uptoBulkAll] at this
    omega
  have hMM := Nat.le_trans hM0 hM
  clear hA0 hval0 hsz0 hsz
  refine (slabNames.walk W cs0 a0 hK0 hG0 hMM).mono fun e W' ⟨he, bel⟩ => ?_
  subst he
  exact ⟨_, rfl, _, _, _, [], _, [], hW', trodAll_mk1 (shut_bool Try.underlying4 _), (trodAll_cons_mk (Below.trod slabNames.laidOut (by kernel_rfl) (of_decide_eq_true (by kernel_rfl)) k0 bel lt0) trodAll_mk0), rfl, bel.frame _, fun h => by cases h⟩
theorem slabNames_holds : Rows.SlabNamesUptoSaid :=
  OpenClaim.holds_of_cond 5 Try.f5 rfl rfl rfl rfl rfl rfl rfl ⟨rfl, rfl, rfl, rfl, rfl⟩ rfl rfl rfl rfl rfl (by kernel_rfl) Try.func5 (by kernel_rfl)
    (of_decide_eq_true (by kernel_rfl)) (by unfold Func.isWrapper; first | (rw [if_pos (by decide +kernel)]; kernel_rfl) | (rw [if_neg (by decide +kernel)]; exact ⟨rfl, rfl⟩))
    (fun os started H enc _ F => slabNames.lifted os started H enc F)
#print axioms slabNames_holds

end Go.Proofs.Ytnglgjegkjfnaaa
