/- PolicyAbove: Above of any domain, and Groups, answer as the document does. No condition. -/
import Derived.Test.YtefkdicejhjfoaaGrpC
import Derived.Test.YtefkdicejhjfoaaAbE
namespace Go.Proofs.Ytefkdicejhjfoaa
open Go.RowKit Go.ChangeShapes Go.WideShapes Go.ChangeAt Go.Proofs.YtefkdicejhjfoaaW.PrintWords Go.Proofs.YtefkdicejhjfoaaW.PrintMore Go.Proofs.Ytefkdicejhjfoaa.PPolicyPaths
theorem aboveP_len (D : Int) (es : List S35) (a : Int) : (aboveP D es a).1.length ≤ 4611686018427387904 := by
  unfold aboveP
  split
  · rename_i h
    obtain ⟨D', rfl, h1, h3, _⟩ := looked_zero h
    have := aboveL_length es a (D' : Int).toNat
    simp only [Int.toNat_natCast] at *
    omega
  · simp
theorem groupsP_len (D : Int) (es : List S35) : (groupsP D es).1.length ≤ 4611686018427387904 := by
  unfold groupsP
  split
  · rename_i h
    obtain ⟨D', rfl, h1, h3, _⟩ := looked_zero h
    simp only [groupsL_length, Int.toNat_natCast]
    omega
  · simp
set_option maxRecDepth 100000 in
set_option maxHeartbeats 4000000 in
theorem policyAbove.walk (w : World) (cs : Array Value) (g : Int × List S35) (hK : kG.K w g cs.toList) (hG : g.2.length * 16 ≤ reachBytes) (a : Int) (_ : (Lit.int .i64 a).wf = true) :
    Calls Try.prog 9 #[.agg cs, .int .i64 a] w fun e w' => e = .returned (.bool true) ∧ Below w.heap.size w w' := by
  obtain ⟨B, d, hcs, hd, hC⟩ := kG_open hK
  obtain rfl : cs = #[.int .i64 g.1, .slice B g.2.length d] := Array.toList_inj.1 hcs
  clear hK hcs
  obtain ⟨D, es⟩ := g
  have hl : es.length < 8796093022208 := by unfold reachBytes at hG; simp only at hG; omega
  simp only at hd hC
  have HC := Aside0.mk hC
  clear hC hG
  go_enter Try.func9, Try.ntmps9
  go_wp2_with fail
  have hB0 : Below w.heap.size w (w.alloc (.cells #[.int .i64 D, .slice B es.length d] 24)) := below_al (Below.refl _ _) _
  have hb : (w.alloc (.cells #[.int .i64 D, .slice B es.length d] 24)).heap[w.heap.size]? = some (.cells #[.int .i64 D, .slice B es.length d] 24 (0, 0)) := blk_new _ _
  generalize w.alloc (.cells #[.int .i64 D, .slice B es.length d] 24) = W at *
  have hlt1 := lt_blk hb
  have x0 := cell_blk hb 0
  have x1 := cell_blk hb 1
  simp at x0 x1
  have HCW1 := Aside0.mk (Kd.C_below HC.out hB0)
  go_region_held3 (fun w' => w'.cell? ⟨w.heap.size, 0, none⟩ = some (.int .i64 D) ∧ w'.cell? ⟨w.heap.size, 1, none⟩ = some (.slice B es.length d)) (first | (with_reducible exact ⟨(hBa1.cell (p := ⟨w.heap.size, 0, none⟩) hlt1).trans x0, (hBa1.cell (p := ⟨w.heap.size, 1, none⟩) hlt1).trans x1⟩) | (with_reducible exact ⟨(hBb1.cell (p := ⟨w.heap.size, 0, none⟩) hlt1).trans x0, (hBb1.cell (p := ⟨w.heap.size, 1, none⟩) hlt1).trans x1⟩) | (with_reducible exact ⟨x0, x1⟩) | go_keep) (first | (go_at_call 11; (with_reducible refine (edges_any B d es W.drew (Kd.C_below HCW1.out (Below.refl _ _).drew) hd hl).mono ?_); rintro e wa1 ⟨A1, c1, rfl, hc1, hC1, hBx⟩; have hBa1 : Below W.heap.size W wa1 := below_then (Below.refl _ _).drew hBx; have HC1 := Aside0.mk hC1; clear hC1 hBx) | (go_at_call 15; (with_reducible refine (above_any D A1 c1 es a wa1 HC1.out hc1 hl).mono ?_); rintro e wb1 ⟨vb1, rfl, hvb1, hBx⟩; have hBb1 : Below W.heap.size W wb1 := below_then hBa1 hBx; have HVB1 := Aside0.mk hvb1; clear hvb1 hBx))
  clear x0 x1 hlt1
  replace hb := blk_below hb hBb1
  have hB1 := below_then hB0 hBb1
  clear hBb1 hBa1 hB0 HC1
  have hlt2 := lt_blk hb
  have x0 := cell_blk hb 0
  have x1 := cell_blk hb 1
  simp at x0 x1
  have HCW2 := Aside0.mk (Kd.C_below HC.out hB1)
  go_wp2_with fail
  refine (rabove_any D B d es a wb1 HCW2.out hd hl).mono ?_
  rintro e w2 ⟨vb2, rfl, hvb2, hBx⟩
  have HV1 := Aside0.mk (Kd.R_below HVB1.out hBx)
  have HV2 := Aside0.mk hvb2
  clear x0 x1 hlt2 hvb2 HVB1
  replace hb := blk_below hb hBx
  have hB2 := below_then hB1 hBx
  clear hBx hB1
  have hlt3 := lt_blk hb
  have x0 := cell_blk hb 0
  have x1 := cell_blk hb 1
  simp at x0 x1
  have HCW3 := Aside0.mk (Kd.C_below HC.out hB2)
  go_wp2
  go_region_held3 (fun w' => w'.cell? ⟨w.heap.size, 0, none⟩ = some (.int .i64 D) ∧ w'.cell? ⟨w.heap.size, 1, none⟩ = some (.slice B es.length d)) (first | (with_reducible exact ⟨(hBa3.cell (p := ⟨w.heap.size, 0, none⟩) hlt3).trans x0, (hBa3.cell (p := ⟨w.heap.size, 1, none⟩) hlt3).trans x1⟩) | (with_reducible exact ⟨(hBb3.cell (p := ⟨w.heap.size, 0, none⟩) hlt3).trans x0, (hBb3.cell (p := ⟨w.heap.size, 1, none⟩) hlt3).trans x1⟩) | (with_reducible exact ⟨x0, x1⟩) | go_keep) (first | (go_at_call 11; (with_reducible refine (edges_any B d es w2.drew (Kd.C_below HCW3.out (Below.refl _ _).drew) hd hl).mono ?_); rintro e wa3 ⟨A3, c3, rfl, hc3, hC3, hBx⟩; have hBa3 : Below w2.heap.size w2 wa3 := below_then (Below.refl _ _).drew hBx; have HC3 := Aside0.mk hC3; clear hC3 hBx) | (go_at_call 19; (with_reducible refine (groups_any D A3 c3 es wa3 HC3.out hc3 hl).mono ?_); rintro e wb3 ⟨vb3, rfl, hvb3, hBx⟩; have hBb3 : Below w2.heap.size w2 wb3 := below_then hBa3 hBx; have HVB3 := Aside0.mk hvb3; clear hvb3 hBx))
  clear x0 x1 hlt3
  replace hb := blk_below hb hBb3
  have hB3 := below_then hB2 hBb3
  have HV3 := Aside0.mk (Kd.R_below HV1.out hBb3)
  have HV4 := Aside0.mk (Kd.R_below HV2.out hBb3)
  clear hBb3 hBa3 hB2 HC3 HV1 HV2
  have hlt4 := lt_blk hb
  have x0 := cell_blk hb 0
  have x1 := cell_blk hb 1
  simp at x0 x1
  have HCW4 := Aside0.mk (Kd.C_below HC.out hB3)
  go_wp2_with fail
  refine (rgroups_any D B d es wb3 HCW4.out hd hl).mono ?_
  rintro e w4 ⟨vb4, rfl, hvb4, hBx⟩
  have HV5 := Aside0.mk (Kd.R_below HV3.out hBx)
  have HV6 := Aside0.mk (Kd.R_below HV4.out hBx)
  have HV7 := Aside0.mk (Kd.R_below HVB3.out hBx)
  have HV8 := Aside0.mk hvb4
  have hB4 := below_then hB3 hBx
  clear x0 x1 hlt4 hvb4 HVB3 HV3 HV4 hBx hB3 hb HCW1 HCW2 HCW3 HCW4
  have ha16 : Aside0 ((aboveP D es a).1.length ≤ 4611686018427387904) := ⟨aboveP_len D es a⟩
  have hg16 : Aside0 ((groupsP D es).1.length ≤ 4611686018427387904) := ⟨groupsP_len D es⟩
  generalize (aboveP D es a).2 = p1 at *
  generalize (aboveP D es a).1 = l1 at *
  generalize (groupsP D es).2 = p2 at *
  generalize (groupsP D es).1 = l2 at *
  go_wp2_with fail
  refine (lives_any w4).mono ?_
  rintro e w5 ⟨rfl, hB5⟩
  go_wp2_with fail
  refine (same_ok w5 vb1 vb2 l1 (Kd.R_below HV5.out hB5) (Kd.R_below HV6.out hB5) ha16.out).mono ?_
  rintro e w6 ⟨rfl, hB6⟩
  go_wp2_with fail
  refine (same_ok w6 vb3 vb4 l2 (Kd.R_below (Kd.R_below HV7.out hB5) hB6) (Kd.R_below (Kd.R_below HV8.out hB5) hB6) hg16.out).mono ?_
  rintro e w7 ⟨rfl, hB7⟩
  go_wp2
  go_ret
  exact ⟨rfl, below_then (below_then (below_then hB4 hB5) hB6) hB7⟩
theorem policyAbove.own : ownKnob Try.prog.godebug = none := by kernel_rfl
theorem policyAbove.laidOut : laidOutB Try.prog = true := by kernel_rfl
set_option maxRecDepth 100000 in
set_option maxHeartbeats 1000000 in
theorem policyAbove.lifted (os : Os) (started : os.Started) (H : Type) (enc : TypeId × Value → H)
    : ReturnsInHanded {} Try.checked os 9 .any (Rows.policyAboveSpec.pre6 enc Try.prog Try.f9 Rows.policyAboveRow.domain false) (Rows.policyAboveSpec.post enc Try.prog Try.f9 false true false false) := by
  refine returnsInHanded_of_change_sized (C := Try.checked) policyAbove.own started (by kernel_rfl) Try.func9
    (ChangeSpec.witness6 (enc := enc) (C := Try.checked) false ⟨#[], #[.agg #[.int .i64 0, .slice none 0 0], .int .i64 0], []⟩ 8 (by kernel_rfl) (by kernel_rfl) (by kernel_rfl) (by kernel_rfl)) ?_
  intro W base args ds gs before hval0 hW hcnd hsz0 _
  have hsz : (DataW.weightsEach Try.prog (Try.f9.params.toList ++ Rows.policyAboveSpec.plain.varTypes Try.prog) (ds ++ gs)).all (· ≤ reachBytes) = true := hsz0
  have hval : ∀ (j : Nat) t v, Try.f9.params[j]? = some t → args[j]? = some v → Value.okWide Try.prog W .any base t v := hval0
  have hW' := hW
  obtain ⟨p, q, hA0, hV, rfl, hfz, hnd⟩ := hW
  have hA : DataW.TrodAll enc Try.prog W 0 (fun _ => true) true Try.f9.params.toList args.toList ds p := hA0
  rw [Try.params9] at hA hval hsz
  obtain ⟨v0, vs0, d0, ds0, p0, q0, hargs, rfl, rfl, h0, r0⟩ := trodAll_cons hA
  obtain ⟨v1, vs1, d1, ds1, p1, q1, rfl, rfl, rfl, h1, r1⟩ := trodAll_cons r0
  obtain ⟨rfl, rfl, rfl⟩ := trodAll_nil r1
  obtain rfl : args = #[v0, v1] := by cases args; simp_all
  obtain ⟨rfl, rfl⟩ := trodVars_none hV
  have k0 := h0
  have lt0 : ∀ x ∈ p0, x.block < W.heap.size := by obtain ⟨m, hm⟩ := k0; exact DataW.trod_lt m _ _ _ hm
  have W0 := Op.weights_of hsz (j := 0) (t := 24) (d := d0) rfl rfl
  obtain ⟨cs0, rfl, sz0⟩ := okWide_struct Try.underlying24 (hval 0 24 v0 rfl rfl)
  obtain ⟨f0, hf0⟩ := h0
  obtain ⟨a0, hK0, hG0, hM0⟩ := opensG H enc W _ true f0 _ (d0, p0) hf0 W0
  have k1 := h1
  have lt1 : ∀ x ∈ p1, x.block < W.heap.size := by obtain ⟨m, hm⟩ := k1; exact DataW.trod_lt m _ _ _ hm
  have W1 := Op.weights_of hsz (j := 1) (t := 3) (d := d1) rfl rfl
  obtain ⟨n1, rfl⟩ := okWide_int Try.underlying3 (hval 1 3 v1 rfl rfl)
  obtain ⟨f1, hf1⟩ := h1
  obtain ⟨a1, hK1, hG1, hM1⟩ := Op.opens_int Try.underlying3 H enc W _ true f1 _ (d1, p1) hf1 W1
  obtain rfl : n1 = a1 := by have := hK1; simpa [Value.cells, Kd.int, Kd.scalar] using this
  clear hA0 hval0 hsz0 hsz
  refine (policyAbove.walk W cs0 a0 hK0 hG0 n1 hG1).mono fun e W' ⟨he, bel⟩ => ?_
  subst he
  exact ⟨_, rfl, _, _, _, [], _, [], hW', trodAll_mk1 (shut_bool Try.underlying4 _), (trodAll_cons_mk (Below.trod policyAbove.laidOut (by kernel_rfl) (of_decide_eq_true (by kernel_rfl)) k0 bel lt0) (trodAll_cons_mk (Below.trod policyAbove.laidOut (by kernel_rfl) (of_decide_eq_true (by kernel_rfl)) k1 bel lt1) trodAll_mk0)), rfl, bel.frame _, fun h => by cases h⟩
theorem policyAbove_holds : Rows.PolicyAboveSaid :=
  OpenClaim.holds_of_wide 9 Try.f9 rfl rfl rfl rfl rfl rfl rfl ⟨rfl, rfl, rfl, rfl, rfl⟩ rfl rfl rfl rfl rfl (by kernel_rfl) Try.func9 (by kernel_rfl)
    (of_decide_eq_true (by kernel_rfl)) (by unfold Func.isWrapper; first | (rw [if_pos (by decide +kernel)]; kernel_rfl) | (rw [if_neg (by decide +kernel)]; exact ⟨rfl, rfl⟩))
    (fun os started H enc _ => policyAbove.lifted os started H enc)
#print axioms policyAbove_holds

end Go.Proofs.Ytefkdicejhjfoaa
