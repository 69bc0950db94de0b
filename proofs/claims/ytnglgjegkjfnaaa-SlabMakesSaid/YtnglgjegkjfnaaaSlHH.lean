/- SlabMakes: New of any numbers answers what the document's New answers; the slab that it makes tells just the document's state. No condition. -/
import Derived.Test.YtnglgjegkjfnaaaSlGG
namespace Go.Proofs.Ytnglgjegkjfnaaa
open Go.RowKit Go.ChangeShapes Go.WideShapes Go.ChangeAt Go.Proofs.YtnglgjegkjfnaaaW.PrintWords Go.Proofs.YtnglgjegkjfnaaaW.PrintMore
theorem new_slv {w : World} {base n c : Nat} {A : Option Addr} {limit procs : Int} (hn : n = procs.toNat) (h : Row w base (fun _ => True) 26 (.slice A n c) (List.replicate n (.slice none 0 0))) : SlV w base (fun k => if (Value.slice A n c).ownBlock = some k then 4 else 0) (newS limit procs) (.slice none 0 0) (.slice none 0 0) (.slice A n c) (.slice none 0 0) (List.replicate n (.slice none 0 0)) := by
  subst hn
  refine ⟨Row.nil _ _ _ _, Row.nil _ _ _ _, ⟨fun k hk => by simp [hk], h.row, h.one⟩, Row.nil _ _ _ _, by simp [newS], fun i x hx => ?_, fun k hk => ?_, fun k hk => ?_⟩
  · have hx' : i < procs.toNat ∧ x = [] := by
      obtain ⟨h1, h2⟩ := List.getElem?_eq_some_iff.1 hx
      simp [newS] at h1 h2
      exact ⟨by omega, h2⟩
    obtain ⟨hi, rfl⟩ := hx'
    exact ⟨.slice none 0 0, by simp [hi], Row.nil _ _ _ _⟩
  · have : ¬ (Value.slice A procs.toNat c).ownBlock = some k := fun e => by have := h.lt k e; omega
    simp [this]
  · by_cases e : (Value.slice A procs.toNat c).ownBlock = some k
    · exact h.base_le k e
    · simp [e] at hk
set_option maxHeartbeats 2000000 in
theorem SlabMakes0.walk (w : World) (limit procs : Int) : Calls Try.prog 3 #[.int .i64 limit, .int .i64 procs] w fun e w' => e = .returned (.bool true) ∧ Below w.heap.size w w' := by
  go_enter Try.func3, Try.ntmps3
  go_wp2_with fail
  refine (snew_any limit procs w).mono ?_
  rintro e w1 ⟨hB1, ⟨hk, b, col, rfl, hS1, hc1⟩ | ⟨hk, rfl⟩⟩
  · have HK := Aside0.mk hk
    have HS1 := Aside0.mk hS1
    have HB1 := Aside0.mk hB1
    clear hk hS1 hB1 hc1
    go_wp2_with fail
    refine (new_ref limit procs w1).mono ?_
    rintro e w2 ⟨hB2, ⟨-, A, c, rfl, hR⟩ | ⟨h0, -⟩⟩
    · have hA : Below w2.heap.size w2 (w2.alloc (.cells #[.int .i64 limit, .slice none 0 0, .slice none 0 0, .slice A procs.toNat c, .slice none 0 0] 30)) := below_al (Below.refl _ _) _
      have hW := new_wf HK.out
      have hIs := is_law (w2.alloc (.cells #[.int .i64 limit, .slice none 0 0, .slice none 0 0, .slice A procs.toNat c, .slice none 0 0] 30)) ((HS1.out.below hB2).below hA) hW.l0 hW.ok.bd (by simp [newS]) (new_slv (limit := limit) rfl (hR.below hA))
      have HB := Aside0.mk (below_then (below_then HB1.out hB2) hA)
      clear hB2 hR hA hW
      go_wp2_with fail
      --MARK1
      refine hIs.mono ?_
      clear hIs
      rintro e w3 ⟨rfl, hB3⟩
      have HB3 := Aside0.mk (below_then HB.out hB3)
      clear hB3
      go_wp2
      go_ret
      exact ⟨by simp, HB3.out⟩
    · rw [HK.out] at h0
      cases h0
  · have HK := Aside0.mk hk
    have HB1 := Aside0.mk hB1
    clear hk hB1
    go_wp2_with fail
    refine (new_ref limit procs w1).mono ?_
    rintro e w2 ⟨hB2, ⟨h0, -⟩ | ⟨-, rfl⟩⟩
    · rw [HK.out] at h0
      cases h0
    · have HB2 := Aside0.mk (below_then HB1.out hB2)
      clear hB2
      go_wp2
      go_ret
      exact ⟨by simp, below_then HB2.out (below_al (Below.refl _ _) _)⟩
theorem slabMakes.walk (w : World) (limit : Int) (_ : (Lit.int .i64 limit).wf = true) (procs : Int) (_ : (Lit.int .i64 procs).wf = true) : Calls Try.prog 3 #[.int .i64 limit, .int .i64 procs] w fun e w' => e = .returned (.bool true) ∧ Below w.heap.size w w' := SlabMakes0.walk w limit procs
theorem slabMakes.own : ownKnob Try.prog.godebug = none := by kernel_rfl
theorem slabMakes.laidOut : laidOutB Try.prog = true := by kernel_rfl
set_option maxRecDepth 100000 in
set_option maxHeartbeats 1000000 in
theorem slabMakes.lifted (os : Os) (started : os.Started) (H : Type) (enc : TypeId × Value → H)
    : ReturnsInHanded {} Try.checked os 3 .any (Rows.slabMakesSpec.pre6 enc Try.prog Try.f3 Rows.slabMakesRow.domain false) (Rows.slabMakesSpec.post enc Try.prog Try.f3 false true false false) := by
  refine returnsInHanded_of_change_sized (C := Try.checked) slabMakes.own started (by kernel_rfl) Try.func3
    (ChangeSpec.witness6 (enc := enc) (C := Try.checked) false ⟨#[], #[.int .i64 0, .int .i64 0], []⟩ 8 (by kernel_rfl) (by kernel_rfl) (by kernel_rfl) (by kernel_rfl)) ?_
  intro W base args ds gs before hval0 hW hcnd hsz0 _
  have hsz : (DataW.weightsEach Try.prog (Try.f3.params.toList ++ Rows.slabMakesSpec.plain.varTypes Try.prog) (ds ++ gs)).all (· ≤ reachBytes) = true := hsz0
  have hval : ∀ (j : Nat) t v, Try.f3.params[j]? = some t → args[j]? = some v → Value.okWide Try.prog W .any base t v := hval0
  have hW' := hW
  obtain ⟨p, q, hA0, hV, rfl, hfz, hnd⟩ := hW
  have hA : DataW.TrodAll enc Try.prog W 0 (fun _ => true) true Try.f3.params.toList args.toList ds p := hA0
  rw [Try.params3] at hA hval hsz
  obtain ⟨v0, vs0, d0, ds0, p0, q0, hargs, rfl, rfl, h0, r0⟩ := trodAll_cons hA
  obtain ⟨v1, vs1, d1, ds1, p1, q1, rfl, rfl, rfl, h1, r1⟩ := trodAll_cons r0
  obtain ⟨rfl, rfl, rfl⟩ := trodAll_nil r1
  obtain rfl : args = #[v0, v1] := by cases args; simp_all
  obtain ⟨rfl, rfl⟩ := trodVars_none hV
  have k0 := h0
  have lt0 : ∀ x ∈ p0, x.block < W.heap.size := by obtain ⟨m, hm⟩ := k0; exact DataW.trod_lt m _ _ _ hm
  have W0 := Op.weights_of hsz (j := 0) (t := 3) (d := d0) rfl rfl
  obtain ⟨n0, rfl⟩ := okWide_int Try.underlying3 (hval 0 3 v0 rfl rfl)
  obtain ⟨f0, hf0⟩ := h0
  obtain ⟨a0, hK0, hG0, hM0⟩ := Op.opens_int Try.underlying3 H enc W _ true f0 _ (d0, p0) hf0 W0
  obtain rfl : n0 = a0 := by have := hK0; simpa [Value.cells, Kd.int, Kd.scalar] using this
  have k1 := h1
  have lt1 : ∀ x ∈ p1, x.block < W.heap.size := by obtain ⟨m, hm⟩ := k1; exact DataW.trod_lt m _ _ _ hm
  have W1 := Op.weights_of hsz (j := 1) (t := 3) (d := d1) rfl rfl
  obtain ⟨n1, rfl⟩ := okWide_int Try.underlying3 (hval 1 3 v1 rfl rfl)
  obtain ⟨f1, hf1⟩ := h1
  obtain ⟨a1, hK1, hG1, hM1⟩ := Op.opens_int Try.underlying3 H enc W _ true f1 _ (d1, p1) hf1 W1
  obtain rfl : n1 = a1 := by have := hK1; simpa [Value.cells, Kd.int, Kd.scalar] using this
  clear hA0 hval0 hsz0 hsz
  refine (slabMakes.walk W n0 hG0 n1 hG1).mono fun e W' ⟨he, bel⟩ => ?_
  subst he
  exact ⟨_, rfl, _, _, _, [], _, [], hW', trodAll_mk1 (shut_bool Try.underlying4 _), (trodAll_cons_mk (Below.trod slabMakes.laidOut (by kernel_rfl) (of_decide_eq_true (by kernel_rfl)) k0 bel lt0) (trodAll_cons_mk (Below.trod slabMakes.laidOut (by kernel_rfl) (of_decide_eq_true (by kernel_rfl)) k1 bel lt1) trodAll_mk0)), rfl, bel.frame _, fun h => by cases h⟩
theorem slabMakes_holds : Rows.SlabMakesSaid :=
  OpenClaim.holds_of_wide 3 Try.f3 rfl rfl rfl rfl rfl rfl rfl ⟨rfl, rfl, rfl, rfl, rfl⟩ rfl rfl rfl rfl rfl (by kernel_rfl) Try.func3 (by kernel_rfl)
    (of_decide_eq_true (by kernel_rfl)) (by unfold Func.isWrapper; first | (rw [if_pos (by decide +kernel)]; kernel_rfl) | (rw [if_neg (by decide +kernel)]; exact ⟨rfl, rfl⟩))
    (fun os started H enc _ => slabMakes.lifted os started H enc)
#print axioms slabMakes_holds

end Go.Proofs.Ytnglgjegkjfnaaa
