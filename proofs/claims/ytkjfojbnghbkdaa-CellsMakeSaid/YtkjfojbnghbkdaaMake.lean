/- CellsMake: New of any number of cells answers as the document's, whatever the number. No condition. -/
import Derived.Test.YtkjfojbnghbkdaaCellsD
import Derived.Test.YtkjfojbnghbkdaaOpen
namespace Go.Proofs.Ytkjfojbnghbkdaa
open Go.RowKit Go.ChangeShapes Go.WideShapes Go.ChangeAt Go.Proofs.YtkjfojbnghbkdaaW.PrintWords

set_option maxHeartbeats 2000000 in
theorem cellsMake.walk (w : World) (n : Int) (hn : (Lit.int .i64 n).wf = true) : Calls Try.prog 5 #[.int .i64 n] w fun e w' => e = .returned (.bool true) ∧ Below w.heap.size w w' := by
  clear hn
  by_cases h : 0 ≤ n ∧ n ≤ 256
  · obtain ⟨n, rfl⟩ := Int.eq_ofNat_of_zero_le h.1
    have hn : n ≤ 256 := by omega
    clear h
    go_enter Try.func5, Try.ntmps5
    go_wp2_with fail
    refine (new_ok n hn w).mono ?_
    rintro e w1 ⟨rfl, hI, hB⟩
    go_wp2_with fail
    refine (PCellsOwn.rotaref10_New.calls n _ _ w1 (refnew_ok n hn)).mono ?_
    rintro e w2 ⟨m, rfl, hm, hB2⟩
    have hI2 := hI.new hB2
    have hB' := below_then hB hB2
    go_wp2_with fail
    refine (len_any _ _ _ w2 hI2).mono ?_
    rintro e w' ⟨rfl, rfl⟩
    rw [List.length_replicate]
    go_wp2_with fail
    refine (values_any _ _ _ w2 hI2).mono ?_
    rintro e w3 ⟨v, rfl, hv, hB3⟩
    have hm3 := Kd.R_below hm hB3
    go_wp2_with fail
    refine (same_ok w3 v m _ hv hm3 (by simp; omega)).mono ?_
    rintro e w4 ⟨rfl, hB4⟩
    go_wp2_with fail
    refine (awake_any w4).mono ?_
    rintro e w5 ⟨rfl, hB5⟩
    go_wp2
    go_ret
    exact ⟨rfl, below_then (below_then (below_then hB' hB3) hB4) hB5⟩
  · have hn : n < 0 ∨ 256 < n := by omega
    have HN := Aside0.mk hn
    clear h hn
    go_enter Try.func5, Try.ntmps5
    go_wp2_with fail
    refine (new_bad n HN.out w).mono ?_
    rintro e w1 ⟨rfl, rfl⟩
    go_wp2_with fail
    refine (PCellsOwn.rotaref10_New.calls n _ _ w (refnew_bad n HN.out)).mono ?_
    rintro e w2 ⟨m, rfl, hm, hB2⟩
    go_wp2_with fail
    refine (awake_any w2).mono ?_
    rintro e w5 ⟨rfl, hB5⟩
    go_wp2
    go_ret
    exact ⟨rfl, below_then hB2 hB5⟩
theorem cellsMake.own : ownKnob Try.prog.godebug = none := by kernel_rfl
theorem cellsMake.laidOut : laidOutB Try.prog = true := by kernel_rfl
set_option maxRecDepth 100000 in
set_option maxHeartbeats 1000000 in
theorem cellsMake.lifted (os : Os) (started : os.Started) (H : Type) (enc : TypeId × Value → H)
    : ReturnsInHanded {} Try.checked os 5 .any (Rows.cellsMakeSpec.pre6 enc Try.prog Try.f5 Rows.cellsMakeRow.domain false) (Rows.cellsMakeSpec.post enc Try.prog Try.f5 false true false false) := by
  refine returnsInHanded_of_change_sized (C := Try.checked) cellsMake.own started (by kernel_rfl) Try.func5
    (ChangeSpec.witness6 (enc := enc) (C := Try.checked) false ⟨#[], #[.int .i64 0], []⟩ 8 (by kernel_rfl) (by kernel_rfl) (by kernel_rfl) (by kernel_rfl)) ?_
  intro W base args ds gs before hval0 hW hcnd hsz0 _
  have hsz : (DataW.weightsEach Try.prog (Try.f5.params.toList ++ Rows.cellsMakeSpec.plain.varTypes Try.prog) (ds ++ gs)).all (· ≤ reachBytes) = true := hsz0
  have hval : ∀ (j : Nat) t v, Try.f5.params[j]? = some t → args[j]? = some v → Value.okWide Try.prog W .any base t v := hval0
  have hW' := hW
  obtain ⟨p, q, hA0, hV, rfl, hfz, hnd⟩ := hW
  have hA : DataW.TrodAll enc Try.prog W 0 (fun _ => true) true Try.f5.params.toList args.toList ds p := hA0
  rw [Try.params5] at hA hval hsz
  obtain ⟨v0, vs0, d0, ds0, p0, q0, hargs, rfl, rfl, h0, r0⟩ := trodAll_cons hA
  obtain ⟨rfl, rfl, rfl⟩ := trodAll_nil r0
  obtain rfl : args = #[v0] := by cases args; simp_all
  obtain ⟨rfl, rfl⟩ := trodVars_none hV
  have k0 := h0
  have lt0 : ∀ x ∈ p0, x.block < W.heap.size := by obtain ⟨m, hm⟩ := k0; exact DataW.trod_lt m _ _ _ hm
  have W0 := Op.weights_of hsz (j := 0) (t := 3) (d := d0) rfl rfl
  obtain ⟨n0, rfl⟩ := okWide_int Try.underlying3 (hval 0 3 v0 rfl rfl)
  obtain ⟨f0, hf0⟩ := h0
  obtain ⟨a0, hK0, hG0, hM0⟩ := Op.opens_int Try.underlying3 H enc W _ true f0 _ (d0, p0) hf0 W0
  obtain rfl : n0 = a0 := by have := hK0; simpa [Value.cells, Kd.int, Kd.scalar] using this
  clear hA0 hval0 hsz0 hsz
  refine (cellsMake.walk W n0 hG0).mono fun e W' ⟨he, bel⟩ => ?_
  subst he
  exact ⟨_, rfl, _, _, _, [], _, [], hW', trodAll_mk1 (shut_bool Try.underlying4 _), (trodAll_cons_mk (Below.trod cellsMake.laidOut (by kernel_rfl) (of_decide_eq_true (by kernel_rfl)) k0 bel lt0) trodAll_mk0), rfl, bel.frame _, fun h => by cases h⟩
theorem cellsMake_holds : Rows.CellsMakeSaid :=
  OpenClaim.holds_of_wide 5 Try.f5 rfl rfl rfl rfl rfl rfl rfl ⟨rfl, rfl, rfl, rfl, rfl⟩ rfl rfl rfl rfl rfl (by kernel_rfl) Try.func5 (by kernel_rfl)
    (of_decide_eq_true (by kernel_rfl)) (by unfold Func.isWrapper; first | (rw [if_pos (by decide +kernel)]; kernel_rfl) | (rw [if_neg (by decide +kernel)]; exact ⟨rfl, rfl⟩))
    (fun os started H enc _ => cellsMake.lifted os started H enc)
#print axioms cellsMake_holds

end Go.Proofs.Ytkjfojbnghbkdaa
