/- PolicyChecks: Check of any edges answers as the document's. No condition. -/
import Derived.Test.YtefkdicejhjfoaaPolC
namespace Go.Proofs.Ytefkdicejhjfoaa
open Go.RowKit Go.ChangeShapes Go.WideShapes Go.ChangeAt Go.Proofs.YtefkdicejhjfoaaW.PrintWords Go.Proofs.Ytefkdicejhjfoaa.PPolicyPaths
set_option maxRecDepth 100000 in
set_option maxHeartbeats 4000000 in
theorem policyChecks.walk (w : World) (cs : Array Value) (g : Int × List S35) (hK : kG.K w g cs.toList) (hG : g.2.length * 16 ≤ reachBytes) :
    Calls Try.prog 3 #[.agg cs] w fun e w' => e = .returned (.bool true) ∧ Below w.heap.size w w' := by
  obtain ⟨B, d, hcs, hd, hC⟩ := kG_open hK
  obtain rfl : cs = #[.int .i64 g.1, .slice B g.2.length d] := Array.toList_inj.1 hcs
  clear hK hcs
  obtain ⟨D, es⟩ := g
  have hl : es.length < 8796093022208 := by unfold reachBytes at hG; simp only at hG; omega
  simp only at hd hC
  have HC := Aside0.mk hC
  clear hC hG
  go_enter Try.func3, Try.ntmps3
  go_wp2
  have hB0 : Below w.heap.size w (w.alloc (.cells #[.int .i64 D, .slice B es.length d] 24)) := below_al (Below.refl _ _) _
  have hb : (w.alloc (.cells #[.int .i64 D, .slice B es.length d] 24)).heap[w.heap.size]? = some (.cells #[.int .i64 D, .slice B es.length d] 24 (0, 0)) := blk_new _ _
  generalize w.alloc (.cells #[.int .i64 D, .slice B es.length d] 24) = W at *
  have x0 := cell_blk hb 0
  have x1 := cell_blk hb 1
  have hlt := lt_blk hb
  simp at x0 x1
  have HCW := Aside0.mk (Kd.C_below HC.out hB0)
  go_region_held3 (fun w' => w'.cell? ⟨w.heap.size, 0, none⟩ = some (.int .i64 D) ∧ w'.cell? ⟨w.heap.size, 1, none⟩ = some (.slice B es.length d)) (first | (with_reducible exact ⟨(hB1.cell (p := ⟨w.heap.size, 0, none⟩) hlt).trans x0, (hB1.cell (p := ⟨w.heap.size, 1, none⟩) hlt).trans x1⟩) | (with_reducible exact ⟨(hB2.cell (p := ⟨w.heap.size, 0, none⟩) hlt).trans x0, (hB2.cell (p := ⟨w.heap.size, 1, none⟩) hlt).trans x1⟩) | (with_reducible exact ⟨x0, x1⟩) | go_keep) (first | (go_at_call 11; (with_reducible refine (edges_any B d es W.drew (Kd.C_below HCW.out (Below.refl _ _).drew) hd hl).mono ?_); rintro e w1 ⟨A1, c1, rfl, hc1, hC1, hB1x⟩; have hB1 : Below W.heap.size W w1 := below_then (Below.refl _ _).drew hB1x; have HC1 := Aside0.mk hC1; clear hC1) | (go_at_call 10; (with_reducible refine (check_any D A1 c1 es w1 HC1.out hc1 hl).mono ?_); rintro e w2 ⟨rfl, hB2x⟩; have hB2 : Below W.heap.size W w2 := below_then hB1 hB2x))
  clear x0 x1
  have x0 := (hB2.cell (p := ⟨w.heap.size, 0, none⟩) hlt).trans (cell_blk hb 0)
  have x1 := (hB2.cell (p := ⟨w.heap.size, 1, none⟩) hlt).trans (cell_blk hb 1)
  simp at x0 x1
  have hB02 := below_then hB0 hB2
  go_wp2_with fail
  refine (rcheck_any D B d es w2 (Kd.C_below HC.out hB02) hd hl).mono ?_
  generalize (chk D es).1 = q1
  generalize (chk D es).2 = q2
  rintro e w3 ⟨rfl, hB3⟩
  go_wp2_with fail
  refine (lives_any w3).mono ?_
  rintro e w4 ⟨rfl, hB4⟩
  go_wp2
  go_ret
  exact ⟨rfl, below_then (below_then hB02 hB3) hB4⟩
theorem policyChecks.own : ownKnob Try.prog.godebug = none := by kernel_rfl
theorem policyChecks.laidOut : laidOutB Try.prog = true := by kernel_rfl
set_option maxRecDepth 100000 in
set_option maxHeartbeats 1000000 in
theorem policyChecks.lifted (os : Os) (started : os.Started) (H : Type) (enc : TypeId × Value → H)
    : ReturnsInHanded {} Try.checked os 3 .any (Rows.policyChecksSpec.pre6 enc Try.prog Try.f3 Rows.policyChecksRow.domain false) (Rows.policyChecksSpec.post enc Try.prog Try.f3 false true false false) := by
  refine returnsInHanded_of_change_sized (C := Try.checked) policyChecks.own started (by kernel_rfl) Try.func3
    (ChangeSpec.witness6 (enc := enc) (C := Try.checked) false ⟨#[], #[.agg #[.int .i64 0, .slice none 0 0]], []⟩ 8 (by kernel_rfl) (by kernel_rfl) (by kernel_rfl) (by kernel_rfl)) ?_
  intro W base args ds gs before hval0 hW hcnd hsz0 _
  have hsz : (DataW.weightsEach Try.prog (Try.f3.params.toList ++ Rows.policyChecksSpec.plain.varTypes Try.prog) (ds ++ gs)).all (· ≤ reachBytes) = true := hsz0
  have hval : ∀ (j : Nat) t v, Try.f3.params[j]? = some t → args[j]? = some v → Value.okWide Try.prog W .any base t v := hval0
  have hW' := hW
  obtain ⟨p, q, hA0, hV, rfl, hfz, hnd⟩ := hW
  have hA : DataW.TrodAll enc Try.prog W 0 (fun _ => true) true Try.f3.params.toList args.toList ds p := hA0
  rw [Try.params3] at hA hval hsz
  obtain ⟨v0, vs0, d0, ds0, p0, q0, hargs, rfl, rfl, h0, r0⟩ := trodAll_cons hA
  obtain ⟨rfl, rfl, rfl⟩ := trodAll_nil r0
  obtain rfl : args = #[v0] := by cases args; simp_all
  obtain ⟨rfl, rfl⟩ := trodVars_none hV
  have k0 := h0
  have lt0 : ∀ x ∈ p0, x.block < W.heap.size := by obtain ⟨m, hm⟩ := k0; exact DataW.trod_lt m _ _ _ hm
  have W0 := Op.weights_of hsz (j := 0) (t := 24) (d := d0) rfl rfl
  obtain ⟨cs0, rfl, sz0⟩ := okWide_struct Try.underlying24 (hval 0 24 v0 rfl rfl)
  obtain ⟨f0, hf0⟩ := h0
  obtain ⟨a0, hK0, hG0, hM0⟩ := opensG H enc W _ true f0 _ (d0, p0) hf0 W0
  clear hA0 hval0 hsz0 hsz
  refine (policyChecks.walk W cs0 a0 hK0 hG0).mono fun e W' ⟨he, bel⟩ => ?_
  subst he
  exact ⟨_, rfl, _, _, _, [], _, [], hW', trodAll_mk1 (shut_bool Try.underlying4 _), (trodAll_cons_mk (Below.trod policyChecks.laidOut (by kernel_rfl) (of_decide_eq_true (by kernel_rfl)) k0 bel lt0) trodAll_mk0), rfl, bel.frame _, fun h => by cases h⟩
theorem policyChecks_holds : Rows.PolicyChecksSaid :=
  OpenClaim.holds_of_wide 3 Try.f3 rfl rfl rfl rfl rfl rfl rfl ⟨rfl, rfl, rfl, rfl, rfl⟩ rfl rfl rfl rfl rfl (by kernel_rfl) Try.func3 (by kernel_rfl)
    (of_decide_eq_true (by kernel_rfl)) (by unfold Func.isWrapper; first | (rw [if_pos (by decide +kernel)]; kernel_rfl) | (rw [if_neg (by decide +kernel)]; exact ⟨rfl, rfl⟩))
    (fun os started H enc _ => policyChecks.lifted os started H enc)
#print axioms policyChecks_holds

end Go.Proofs.Ytefkdicejhjfoaa
