/- PolicyPaths: May and Path between any two answer as the document's. No condition. -/
import Derived.Test.YtefkdicejhjfoaaPolD
namespace Go.Proofs.Ytefkdicejhjfoaa
open Go.RowKit Go.ChangeShapes Go.WideShapes Go.ChangeAt Go.Proofs.YtefkdicejhjfoaaW.PrintWords Go.Proofs.Ytefkdicejhjfoaa.PPolicyPaths
set_option maxRecDepth 100000 in
set_option maxHeartbeats 4000000 in
theorem policyPaths.walk (w : World) (cs : Array Value) (g : Int × List S35) (hK : kG.K w g cs.toList) (hG : g.2.length * 16 ≤ reachBytes) (a : Int) (_ : (Lit.int .i64 a).wf = true) (b : Int) (_ : (Lit.int .i64 b).wf = true) :
    Calls Try.prog 7 #[.agg cs, .int .i64 a, .int .i64 b] w fun e w' => e = .returned (.bool true) ∧ Below w.heap.size w w' := by
  obtain ⟨B, d, hcs, hd, hC⟩ := kG_open hK
  obtain rfl : cs = #[.int .i64 g.1, .slice B g.2.length d] := Array.toList_inj.1 hcs
  clear hK hcs
  obtain ⟨D, es⟩ := g
  have hl : es.length < 8796093022208 := by unfold reachBytes at hG; simp only at hG; omega
  simp only at hd hC
  have HC := Aside0.mk hC
  clear hC hG
  go_enter Try.func7, Try.ntmps7
  go_wp2
  have hB0 : Below w.heap.size w (w.alloc (.cells #[.int .i64 D, .slice B es.length d] 24)) := below_al (Below.refl _ _) _
  have hb : (w.alloc (.cells #[.int .i64 D, .slice B es.length d] 24)).heap[w.heap.size]? = some (.cells #[.int .i64 D, .slice B es.length d] 24 (0, 0)) := blk_new _ _
  generalize w.alloc (.cells #[.int .i64 D, .slice B es.length d] 24) = W at *
  have hlt1 := lt_blk hb
  have x0 := cell_blk hb 0
  have x1 := cell_blk hb 1
  simp at x0 x1
  have HCW1 := Aside0.mk (Kd.C_below HC.out hB0)
  go_region_held3 (fun w' => w'.cell? ⟨w.heap.size, 0, none⟩ = some (.int .i64 D) ∧ w'.cell? ⟨w.heap.size, 1, none⟩ = some (.slice B es.length d)) (first | (with_reducible exact ⟨(hBa1.cell (p := ⟨w.heap.size, 0, none⟩) hlt1).trans x0, (hBa1.cell (p := ⟨w.heap.size, 1, none⟩) hlt1).trans x1⟩) | (with_reducible exact ⟨(hBb1.cell (p := ⟨w.heap.size, 0, none⟩) hlt1).trans x0, (hBb1.cell (p := ⟨w.heap.size, 1, none⟩) hlt1).trans x1⟩) | (with_reducible exact ⟨x0, x1⟩) | go_keep) (first | (go_at_call 11; (with_reducible refine (edges_any B d es W.drew (Kd.C_below HCW1.out (Below.refl _ _).drew) hd hl).mono ?_); rintro e wa1 ⟨A1, c1, rfl, hc1, hC1, hBx⟩; have hBa1 : Below W.heap.size W wa1 := below_then (Below.refl _ _).drew hBx; have HC1 := Aside0.mk hC1; clear hC1 hBx) | (go_at_call 16; (with_reducible refine (may_any D A1 c1 es a b wa1 HC1.out hc1 hl).mono ?_); rintro e wb1 ⟨rfl, hBx⟩; have hBb1 : Below W.heap.size W wb1 := below_then hBa1 hBx; clear hBx))
  clear x0 x1 hlt1
  replace hb := blk_below hb hBb1
  have hB1 := below_then hB0 hBb1
  clear hBb1 hBa1 hB0 HC1
  have hlt2 := lt_blk hb
  have x0 := cell_blk hb 0
  have x1 := cell_blk hb 1
  simp at x0 x1
  have HCW2 := Aside0.mk (Kd.C_below HC.out hB1)
  go_wp2_with fail
  refine (rmay_any D B d es a b wb1 HCW2.out hd hl).mono ?_
  generalize (mayP D es a b).1 = p1
  generalize (mayP D es a b).2 = p2
  rintro e w3 ⟨rfl, hBx⟩
  clear x0 x1 hlt2
  replace hb := blk_below hb hBx
  have hB3 := below_then hB1 hBx
  clear hBx hB1
  have hlt4 := lt_blk hb
  have x0 := cell_blk hb 0
  have x1 := cell_blk hb 1
  simp at x0 x1
  have HCW4 := Aside0.mk (Kd.C_below HC.out hB3)
  go_wp2
  go_region_held3 (fun w' => w'.cell? ⟨w.heap.size, 0, none⟩ = some (.int .i64 D) ∧ w'.cell? ⟨w.heap.size, 1, none⟩ = some (.slice B es.length d)) (first | (with_reducible exact ⟨(hBa4.cell (p := ⟨w.heap.size, 0, none⟩) hlt4).trans x0, (hBa4.cell (p := ⟨w.heap.size, 1, none⟩) hlt4).trans x1⟩) | (with_reducible exact ⟨(hBb4.cell (p := ⟨w.heap.size, 0, none⟩) hlt4).trans x0, (hBb4.cell (p := ⟨w.heap.size, 1, none⟩) hlt4).trans x1⟩) | (with_reducible exact ⟨x0, x1⟩) | go_keep) (first | (go_at_call 11; (with_reducible refine (edges_any B d es w3.drew (Kd.C_below HCW4.out (Below.refl _ _).drew) hd hl).mono ?_); rintro e wa4 ⟨A4, c4, rfl, hc4, hC4, hBx⟩; have hBa4 : Below w3.heap.size w3 wa4 := below_then (Below.refl _ _).drew hBx; have HC4 := Aside0.mk hC4; clear hC4 hBx) | (go_at_call 14; (with_reducible refine (path_any D A4 c4 es a b wa4 HC4.out hc4 (by omega)).mono ?_); rintro e wb4 ⟨rfl, hBx⟩; have hBb4 : Below w3.heap.size w3 wb4 := below_then hBa4 hBx; clear hBx))
  clear x0 x1 hlt4
  replace hb := blk_below hb hBb4
  have hB5 := below_then hB3 hBb4
  clear hBb4 hBa4 hB3 HC4
  have hlt6 := lt_blk hb
  have x0 := cell_blk hb 0
  have x1 := cell_blk hb 1
  simp at x0 x1
  have HCW6 := Aside0.mk (Kd.C_below HC.out hB5)
  go_wp2_with fail
  refine (rpath_any D B d es a b wb4 HCW6.out hd hl).mono ?_
  generalize (pathP D es a b).1 = p3
  generalize (pathP D es a b).2 = p4
  rintro e w7 ⟨rfl, hB7⟩
  go_wp2_with fail
  refine (lives_any w7).mono ?_
  rintro e w8 ⟨rfl, hB8⟩
  go_wp2
  go_ret
  exact ⟨rfl, below_then (below_then hB5 hB7) hB8⟩
theorem policyPaths.own : ownKnob Try.prog.godebug = none := by kernel_rfl
theorem policyPaths.laidOut : laidOutB Try.prog = true := by kernel_rfl
set_option maxRecDepth 100000 in
set_option maxHeartbeats 1000000 in
theorem policyPaths.lifted (os : Os) (started : os.Started) (H : Type) (enc : TypeId × Value → H)
    : ReturnsInHanded {} Try.checked os 7 .any (Rows.policyPathsSpec.pre6 enc Try.prog Try.f7 Rows.policyPathsRow.domain false) (Rows.policyPathsSpec.post enc Try.prog Try.f7 false true false false) := by
  refine returnsInHanded_of_change_sized (C := Try.checked) policyPaths.own started (by kernel_rfl) Try.func7
    (ChangeSpec.witness6 (enc := enc) (C := Try.checked) false ⟨#[], #[.agg #[.int .i64 0, .slice none 0 0], .int .i64 0, .int .i64 0], []⟩ 8 (by kernel_rfl) (by kernel_rfl) (by kernel_rfl) (by kernel_rfl)) ?_
  intro W base args ds gs before hval0 hW hcnd hsz0 _
  have hsz : (DataW.weightsEach Try.prog (Try.f7.params.toList ++ Rows.policyPathsSpec.plain.varTypes Try.prog) (ds ++ gs)).all (· ≤ reachBytes) = true := hsz0
  have hval : ∀ (j : Nat) t v, Try.f7.params[j]? = some t → args[j]? = some v → Value.okWide Try.prog W .any base t v := hval0
  have hW' := hW
  obtain ⟨p, q, hA0, hV, rfl, hfz, hnd⟩ := hW
  have hA : DataW.TrodAll enc Try.prog W 0 (fun _ => true) true Try.f7.params.toList args.toList ds p := hA0
  rw [Try.params7] at hA hval hsz
  obtain ⟨v0, vs0, d0, ds0, p0, q0, hargs, rfl, rfl, h0, r0⟩ := trodAll_cons hA
  obtain ⟨v1, vs1, d1, ds1, p1, q1, rfl, rfl, rfl, h1, r1⟩ := trodAll_cons r0
  obtain ⟨v2, vs2, d2, ds2, p2, q2, rfl, rfl, rfl, h2, r2⟩ := trodAll_cons r1
  obtain ⟨rfl, rfl, rfl⟩ := trodAll_nil r2
  obtain rfl : args = #[v0, v1, v2] := by cases args; simp_all
  obtain ⟨rfl, rfl⟩ := trodVars_none hV
  have k0 := h0
  have lt0 : ∀ x ∈ p0, x.block < W.heap.size := by obtain ⟨m, hm⟩ := k0; exact DataW.trod_lt m _ _ _ hm
  have W0 := Op.weights_of hsz (j := 0) (t := 24) (d := d0) rfl rfl
  obtain ⟨cs0, rfl, sz0⟩ := okWide_struct Try.underlying24 (hval 0 24 v0 rfl rfl)
  obtain ⟨f0, hf0⟩ := h0
  obtain ⟨a0, hK0, hG0, hM0⟩ := opensG H enc W _ true f0 _ (d0, p0) hf0 W0
  have k1 := h1
  have lt1 : ∀ x ∈ p1, x.block < W.heap.size := by obtain ⟨m, hm⟩ := k1; exact DataW.trod_lt m _ _ _ hm
  have W1 := Op.weights_of hsz (j := 1) (t := 3) (d := d1) rfl rfl
  obtain ⟨n1, rfl⟩ := okWide_int Try.underlying3 (hval 1 3 v1 rfl rfl)
  obtain ⟨f1, hf1⟩ := h1
  obtain ⟨a1, hK1, hG1, hM1⟩ := Op.opens_int Try.underlying3 H enc W _ true f1 _ (d1, p1) hf1 W1
  obtain rfl : n1 = a1 := by have := hK1; simpa [Value.cells, Kd.int, Kd.scalar] using this
  have k2 := h2
  have lt2 : ∀ x ∈ p2, x.block < W.heap.size := by obtain ⟨m, hm⟩ := k2; exact DataW.trod_lt m _ _ _ hm
  have W2 := Op.weights_of hsz (j := 2) (t := 3) (d := d2) rfl rfl
  obtain ⟨n2, rfl⟩ := okWide_int Try.underlying3 (hval 2 3 v2 rfl rfl)
  obtain ⟨f2, hf2⟩ := h2
  obtain ⟨a2, hK2, hG2, hM2⟩ := Op.opens_int Try.underlying3 H enc W _ true f2 _ (d2, p2) hf2 W2
  obtain rfl : n2 = a2 := by have := hK2; simpa [Value.cells, Kd.int, Kd.scalar] using this
  clear hA0 hval0 hsz0 hsz
  refine (policyPaths.walk W cs0 a0 hK0 hG0 n1 hG1 n2 hG2).mono fun e W' ⟨he, bel⟩ => ?_
  subst he
  exact ⟨_, rfl, _, _, _, [], _, [], hW', trodAll_mk1 (shut_bool Try.underlying4 _), (trodAll_cons_mk (Below.trod policyPaths.laidOut (by kernel_rfl) (of_decide_eq_true (by kernel_rfl)) k0 bel lt0) (trodAll_cons_mk (Below.trod policyPaths.laidOut (by kernel_rfl) (of_decide_eq_true (by kernel_rfl)) k1 bel lt1) (trodAll_cons_mk (Below.trod policyPaths.laidOut (by kernel_rfl) (of_decide_eq_true (by kernel_rfl)) k2 bel lt2) trodAll_mk0))), rfl, bel.frame _, fun h => by cases h⟩
theorem policyPaths_holds : Rows.PolicyPathsSaid :=
  OpenClaim.holds_of_wide 7 Try.f7 rfl rfl rfl rfl rfl rfl rfl ⟨rfl, rfl, rfl, rfl, rfl⟩ rfl rfl rfl rfl rfl (by kernel_rfl) Try.func7 (by kernel_rfl)
    (of_decide_eq_true (by kernel_rfl)) (by unfold Func.isWrapper; first | (rw [if_pos (by decide +kernel)]; kernel_rfl) | (rw [if_neg (by decide +kernel)]; exact ⟨rfl, rfl⟩))
    (fun os started H enc _ => policyPaths.lifted os started H enc)
#print axioms policyPaths_holds

end Go.Proofs.Ytefkdicejhjfoaa
