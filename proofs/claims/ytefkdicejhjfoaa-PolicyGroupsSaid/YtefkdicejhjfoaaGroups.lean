/- PolicyGroups: two have the same group just if each is Above the other one. No condition. -/
import Derived.Test.YtefkdicejhjfoaaGrpC
import Derived.Test.YtefkdicejhjfoaaReg
namespace Go.Proofs.Ytefkdicejhjfoaa
open Go.RowKit Go.ChangeShapes Go.WideShapes Go.ChangeAt Go.Proofs.YtefkdicejhjfoaaW.PrintWords Go.Proofs.YtefkdicejhjfoaaW.PrintMore Go.Proofs.Ytefkdicejhjfoaa.PPolicyPaths
theorem chk_looked (D : Int) (es : List S35) : (groupsP D es).2 = (chk D es).2 := by
  unfold groupsP
  rw [looked_nil]
  split
  · rename_i h; exact h.symm
  · rfl
theorem groupsP_ok {D : Int} {es : List S35} (h : (groupsP D es).2 = 0) : ∃ n : Nat, D = n ∧ 1 ≤ n ∧ n ≤ 16 ∧ (groupsP D es).1 = groupsL es n ∧ ∀ l : List Int, (∀ x ∈ l, ∃ m : Nat, x = m ∧ m < n) → lookedP D es l = 0 := by
  have h0 : (chk D es).2 = 0 := by rw [← chk_looked]; exact h
  obtain ⟨n, rfl, h1, h2, _⟩ := chk_fits h0
  refine ⟨n, rfl, h1, h2, ?_, fun l hl => ?_⟩
  · rw [groupsP, looked_nil, if_pos h0, Int.toNat_natCast]
  · rw [lookedP, if_pos h0, if_neg]
    intro ha
    obtain ⟨x, hx, hb⟩ := List.any_eq_true.1 ha
    obtain ⟨m, rfl, hm⟩ := hl x hx
    unfold outB at hb
    simp at hb
    omega
theorem two_ok {a b n : Nat} (ha : a < n) (hb : b < n) : ∀ x ∈ [(a : Int), (b : Int)], ∃ m : Nat, x = m ∧ m < n := by
  intro x hx
  rcases List.mem_cons.1 hx with rfl | hx
  · exact ⟨a, rfl, ha⟩
  · rcases List.mem_cons.1 hx with rfl | hx
    · exact ⟨b, rfl, hb⟩
    · cases hx
theorem rcheck_any2 (D : Int) (B : Option Addr) (d : Nat) (es : List S35) (w : World) (hE : Kd.C k35 w B es.length es) (hd : es.length ≤ d) (hl : es.length < 8796093022208) :
    Calls Try.prog 12 #[.int .i64 D, .slice B es.length d] w fun e w' => e = .returned (.tuple #[.int .i64 (chk D es).1, .int .i64 (chk D es).2]) ∧ Below w.heap.size w w' :=
  rcheck_any D B d es w hE hd (by omega)
theorem rem_in {a : Int} {n : Nat} (h0 : 1 ≤ n) (hn : n ≤ 16) : ∃ m : Nat, m < n ∧ wrap64 (a.tmod n + n) = a.tmod n + n ∧ (a.tmod n + n).tmod n = m := by
  have h1 : a.tmod n < n := Int.tmod_lt_of_pos a (by omega)
  have h2 : -(n : Int) < a.tmod n := by
    have h3 := Int.tmod_lt_of_pos (-a) (show (0 : Int) < n by omega)
    rw [Int.neg_tmod] at h3
    omega
  generalize a.tmod n = r at *
  refine ⟨((r + n).tmod n).toNat, ?_, by unfold wrap64; omega, ?_⟩
  · have h4 := Int.tmod_lt_of_pos (r + n) (show (0 : Int) < n by omega)
    omega
  · have h5 := Int.tmod_nonneg (a := r + n) (n : Int) (by omega)
    omega
set_option maxRecDepth 100000 in
set_option maxHeartbeats 4000000 in
theorem policyGroups.walk (w : World) (cs : Array Value) (g : Int × List S35) (hK : kG.K w g cs.toList) (hG : g.2.length * 16 ≤ reachBytes) (a : Int) (_ : (Lit.int .i64 a).wf = true) (b : Int) (_ : (Lit.int .i64 b).wf = true) :
    Calls Try.prog 8 #[.agg cs, .int .i64 a, .int .i64 b] w fun e w' => e = .returned (.bool true) ∧ Below w.heap.size w w' := by
  obtain ⟨B, d, hcs, hd, hC⟩ := kG_open hK
  obtain rfl : cs = #[.int .i64 g.1, .slice B g.2.length d] := Array.toList_inj.1 hcs
  clear hK hcs
  obtain ⟨D, es⟩ := g
  have hl : es.length < 8796093022208 := by unfold reachBytes at hG; simp only at hG; omega
  simp only at hd hC
  have HC := Aside0.mk hC
  clear hC hG
  go_enter Try.func8, Try.ntmps8
  go_wp2
  have hB0 : Below w.heap.size w (w.alloc (.cells #[.int .i64 D, .slice B es.length d] 24)) := below_al (Below.refl _ _) _
  have hb : (w.alloc (.cells #[.int .i64 D, .slice B es.length d] 24)).heap[w.heap.size]? = some (.cells #[.int .i64 D, .slice B es.length d] 24 (0, 0)) := blk_new _ _
  generalize w.alloc (.cells #[.int .i64 D, .slice B es.length d] 24) = W at *
  have hlt1 := lt_blk hb
  have x0 := cell_blk hb 0
  have x1 := cell_blk hb 1
  simp at x0 x1
  have HCW1 := Aside0.mk (Kd.C_below HC.out hB0)
  go_region_held3 (fun w' => w'.cell? ⟨w.heap.size, 0, none⟩ = some (.int .i64 D) ∧ w'.cell? ⟨w.heap.size, 1, none⟩ = some (.slice B es.length d)) (first | (with_reducible exact ⟨(hBa1.cell (p := ⟨w.heap.size, 0, none⟩) hlt1).trans x0, (hBa1.cell (p := ⟨w.heap.size, 1, none⟩) hlt1).trans x1⟩) | (with_reducible exact ⟨(hBb1.cell (p := ⟨w.heap.size, 0, none⟩) hlt1).trans x0, (hBb1.cell (p := ⟨w.heap.size, 1, none⟩) hlt1).trans x1⟩) | (with_reducible exact ⟨x0, x1⟩) | go_keep) (first | (go_at_call 11; (with_reducible refine (edges_any B d es W.drew (Kd.C_below HCW1.out (Below.refl _ _).drew) hd hl).mono ?_); rintro e wa1 ⟨A1, c1, rfl, hc1, hC1, hBx⟩; have hBa1 : Below W.heap.size W wa1 := below_then (Below.refl _ _).drew hBx; have HC1 := Aside0.mk hC1; clear hC1 hBx) | (go_at_call 19; (with_reducible refine (groups_any D A1 c1 es wa1 HC1.out hc1 hl).mono ?_); rintro e wb1 ⟨vb1, rfl, hvb1, hBx⟩; have hBb1 : Below W.heap.size W wb1 := below_then hBa1 hBx; have HVB1 := Aside0.mk hvb1; clear hvb1 hBx))
  clear x0 x1 hlt1
  replace hb := blk_below hb hBb1
  have hB1 := below_then hB0 hBb1
  clear hBb1 hBa1 hB0 HC1
  have HPE := Aside0.mk (chk_looked D es)
  have hlt2 := lt_blk hb
  have x0 := cell_blk hb 0
  have x1 := cell_blk hb 1
  simp at x0 x1
  have HCW2 := Aside0.mk (Kd.C_below HC.out hB1)
  by_cases h0 : (groupsP D es).2 = 0
  · obtain ⟨n, rfl, hn1, hn2, hpp⟩ := groupsP_ok h0
    obtain ⟨hl1, hl2⟩ := hpp
    obtain ⟨ma, hma, ea1, ea2⟩ := rem_in (a := a) hn1 hn2
    obtain ⟨mb, hmb, eb1, eb2⟩ := rem_in (a := b) hn1 hn2
    rw [h0]
    rw [hl1] at HVB1
    clear HPE h0 hl1
    have hnz : ((n : Int) == 0) = false := by simp; omega
    have HL2 := Aside0.mk hl2
    have Hga : Aside0 (∀ (w' : World) (A : Option Addr), Kd.C (Kd.int .i64) w' A n (groupsL es n) → ∀ m : Nat, m < n → ∃ ab off, A = some ⟨ab, off, none⟩ ∧ ab < w'.heap.size ∧ w'.cell? ⟨ab, off + m, none⟩ = some (.int .i64 (leastOf es m))) := ⟨fun w' A h m hm => by
      obtain ⟨ab, off, rfl, hab⟩ := C_form h (by omega) (by decide)
      refine ⟨ab, off, rfl, hab, ?_⟩
      have h1 := ints_at h m hm
      have h2 : rd (groupsL es n) m = (leastOf es m : Int) := by
        have h3 := groupsL_get es n m hm
        simp [rd, List.getD_eq_getElem?_getD, h3]
      rw [h2] at h1
      exact h1⟩
    have HVV := Kd.R_reads HVB1.out
    rw [groupsL_length] at HVV
    obtain ⟨A7, c7, rfl, hc7, hC7⟩ := HVV
    have HC7 := Aside0.mk hC7
    clear hC7 hl2 HVB1
    go_wp2
    go_quiet (fail)
    clear ea1 ea2 eb1 eb2
    have hb : (wb1.drewN nq).heap[w.heap.size]? = _ := hb
    have HC7 := Aside0.mk (Kd.C_below HC7.out (below_drewN (Below.refl _ _) nq))
    have HCW2 := Aside0.mk (Kd.C_below HCW2.out (below_drewN (Below.refl _ _) nq))
    have hB1 := below_then hB1 (below_drewN (Below.refl _ _) nq)
    clear x0 x1 hlt2
    rename Nat => nq
    generalize wb1.drewN nq = W3 at *
    have x0 := cell_blk hb 0
    have x1 := cell_blk hb 1
    simp at x0 x1
    have hp1 : pathP n es ma mb = (rchB es ma mb, 0) := by rw [pathP, if_pos (HL2.out _ (two_ok hma hmb))]
    have hq1 : pathP n es mb ma = (rchB es mb ma, 0) := by rw [pathP, if_pos (HL2.out _ (two_ok hmb hma))]
    have hgg : ((leastOf es ma : Int) == (leastOf es mb : Int)) = (rchB es ma mb && rchB es mb ma) := by
      have hs := (leastOf_spec es ma).same (leastOf_spec es mb)
      unfold Mut at hs
      rw [Bool.eq_iff_iff, Bool.and_eq_true, ← hs]
      simp
      omega
    have HP1 := Aside0.mk hp1
    have HQ1 := Aside0.mk hq1
    have HGG := Aside0.mk hgg
    clear hp1 hq1 hgg HL2
    go_wp2_with fail
    refine (edges_any B d es W3 HCW2.out hd hl).mono ?_
    rintro e wa4 ⟨A4, c4, rfl, hc4, hC4, hB4⟩
    have HC4 := Aside0.mk hC4
    clear hC4
    go_wp2_with fail
    refine (path_any n A4 c4 es ma mb wa4 HC4.out hc4 (by omega)).mono ?_
    rw [HP1.out]
    rintro e wb4 ⟨rfl, hB4b⟩
    have hB4 := below_then hB4 hB4b
    have hb := blk_below hb hB4
    have HC7 := Aside0.mk (Kd.C_below HC7.out hB4)
    have HCW2 := Aside0.mk (Kd.C_below HCW2.out hB4)
    have hB1 := below_then hB1 hB4
    clear hB4b x0 x1
    have x0 := cell_blk hb 0
    have x1 := cell_blk hb 1
    simp at x0 x1
    go_wp2_with fail
    refine (edges_any B d es wb4 HCW2.out hd hl).mono ?_
    rintro e wa5 ⟨A5, c5, rfl, hc5, hC5, hB5⟩
    have HC5 := Aside0.mk hC5
    clear hC5
    go_wp2_with fail
    refine (path_any n A5 c5 es mb ma wa5 HC5.out hc5 (by omega)).mono ?_
    rw [HQ1.out]
    rintro e wb5 ⟨rfl, hB5b⟩
    have hB5 := below_then hB5 hB5b
    have HC7 := Aside0.mk (Kd.C_below HC7.out hB5)
    have hB1 := below_then hB1 hB5
    clear hB5b x0 x1 HP1 HQ1
    generalize rchB es ma mb = pv at *
    generalize rchB es mb ma = qv at *
    go_wp2
    refine wp_region_head 1 (by kernel_rfl) (by kernel_rfl) ?_
    simp only [List.take_succ_cons, List.take_zero, List.drop_succ_cons, List.drop_zero]
    go_wp2_with fail
    refine (lives_any _).mono ?_
    rintro e w6 ⟨rfl, hB6⟩
    have hB6 : Below wb5.heap.size wb5 w6 := below_then (Below.refl _ _).drew hB6
    obtain ⟨ab, off, rfl, hab, ca⟩ := Hga.out _ _ HC7.out ma hma
    obtain ⟨ab', off', he', _, cb⟩ := Hga.out _ _ HC7.out mb hmb
    injection he' with he'
    injection he' with he1 he2
    subst he1 he2
    have ca6 := (hB6.cell (p := ⟨ab, off + ma, none⟩) hab).trans ca
    have cb6 := (hB6.cell (p := ⟨ab, off + mb, none⟩) hab).trans cb
    clear ca cb Hga HC7
    have hgg := HGG.out
    generalize leastOf es ma = ga at *
    generalize leastOf es mb = gb at *
    cases pv <;> cases qv
    all_goals (simp only [Bool.and_true, Bool.and_false, Bool.true_and, Bool.false_and] at hgg; go_wp2; go_rest_quiet; go_wp2; go_ret; exact ⟨rfl, below_drewN (below_then hB1 hB6) _⟩)
  · have hn : ((groupsP D es).2 != 0) = true := by simpa using h0
    have hl0 : (groupsP D es).1 = [] := by unfold groupsP at h0 ⊢; split <;> simp_all
    have HVB := HVB1.out
    rw [hl0] at HVB
    obtain ⟨A7, c7, rfl, hc7, hC7⟩ := Kd.R_reads HVB
    clear HVB HVB1 hl0 hC7 h0
    rw [HPE.out] at hn
    rw [HPE.out]
    clear HPE
    go_wp2_with fail
    refine (rcheck_any2 D B d es wb1 HCW2.out hd hl).mono ?_
    rintro e w2 ⟨rfl, hB2⟩
    go_wp2_with fail
    refine (lives_any w2).mono ?_
    rintro e w3 ⟨rfl, hB3⟩
    go_wp2
    go_ret
    exact ⟨rfl, below_then (below_then hB1 hB2) hB3⟩
theorem policyGroups.own : ownKnob Try.prog.godebug = none := by kernel_rfl
theorem policyGroups.laidOut : laidOutB Try.prog = true := by kernel_rfl
set_option maxRecDepth 100000 in
set_option maxHeartbeats 1000000 in
theorem policyGroups.lifted (os : Os) (started : os.Started) (H : Type) (enc : TypeId × Value → H)
    : ReturnsInHanded {} Try.checked os 8 .any (Rows.policyGroupsSpec.pre6 enc Try.prog Try.f8 Rows.policyGroupsRow.domain false) (Rows.policyGroupsSpec.post enc Try.prog Try.f8 false true false false) := by
  refine returnsInHanded_of_change_sized (C := Try.checked) policyGroups.own started (by kernel_rfl) Try.func8
    (ChangeSpec.witness6 (enc := enc) (C := Try.checked) false ⟨#[], #[.agg #[.int .i64 0, .slice none 0 0], .int .i64 0, .int .i64 0], []⟩ 8 (by kernel_rfl) (by kernel_rfl) (by kernel_rfl) (by kernel_rfl)) ?_
  intro W base args ds gs before hval0 hW hcnd hsz0 _
  have hsz : (DataW.weightsEach Try.prog (Try.f8.params.toList ++ Rows.policyGroupsSpec.plain.varTypes Try.prog) (ds ++ gs)).all (· ≤ reachBytes) = true := hsz0
  have hval : ∀ (j : Nat) t v, Try.f8.params[j]? = some t → args[j]? = some v → Value.okWide Try.prog W .any base t v := hval0
  have hW' := hW
  obtain ⟨p, q, hA0, hV, rfl, hfz, hnd⟩ := hW
  have hA : DataW.TrodAll enc Try.prog W 0 (fun _ => true) true Try.f8.params.toList args.toList ds p := hA0
  rw [Try.params8] at hA hval hsz
  obtain ⟨v0, vs0, d0, ds0, p0, q0, hargs, rfl, rfl, h0, r0⟩ := trodAll_cons hA
  obtain ⟨v1, vs1, d1, ds1, p1, q1, rfl, rfl, rfl, h1, r1⟩ := trodAll_cons r0
  obtain ⟨v2, vs2, d2, ds2, p2, q2, rfl, rfl, rfl, h2, r2⟩ := trodAll_cons r1
  obtain ⟨rfl, rfl, rfl⟩ := trodAll_nil r2
  obtain rfl : args = #[v0, v1, v2] := by cases args; simp_all
  obtain ⟨rfl, rfl⟩ := trodVars_none hV
  have k0 := h0
  have lt0 : ∀ x ∈ p0, x.block < W.heap.size := by obtain ⟨m, hm⟩ := k0; exact DataW.trod_lt m _ _ _ hm
  have W0 := Op.weights_of hsz (j := 0) (t := 24) (d := d0) rfl rfl
  obtain ⟨cs0, rfl, sz0⟩ := okWide_struct Try.underlying24 (hval 0 24 v0 rfl rfl)
  obtain ⟨f0, hf0⟩ := h0
  obtain ⟨a0, hK0, hG0, hM0⟩ := opensG H enc W _ true f0 _ (d0, p0) hf0 W0
  have k1 := h1
  have lt1 : ∀ x ∈ p1, x.block < W.heap.size := by obtain ⟨m, hm⟩ := k1; exact DataW.trod_lt m _ _ _ hm
  have W1 := Op.weights_of hsz (j := 1) (t := 3) (d := d1) rfl rfl
  obtain ⟨n1, rfl⟩ := okWide_int Try.underlying3 (hval 1 3 v1 rfl rfl)
  obtain ⟨f1, hf1⟩ := h1
  obtain ⟨a1, hK1, hG1, hM1⟩ := Op.opens_int Try.underlying3 H enc W _ true f1 _ (d1, p1) hf1 W1
  obtain rfl : n1 = a1 := by have := hK1; simpa [Value.cells, Kd.int, Kd.scalar] using this
  have k2 := h2
  have lt2 : ∀ x ∈ p2, x.block < W.heap.size := by obtain ⟨m, hm⟩ := k2; exact DataW.trod_lt m _ _ _ hm
  have W2 := Op.weights_of hsz (j := 2) (t := 3) (d := d2) rfl rfl
  obtain ⟨n2, rfl⟩ := okWide_int Try.underlying3 (hval 2 3 v2 rfl rfl)
  obtain ⟨f2, hf2⟩ := h2
  obtain ⟨a2, hK2, hG2, hM2⟩ := Op.opens_int Try.underlying3 H enc W _ true f2 _ (d2, p2) hf2 W2
  obtain rfl : n2 = a2 := by have := hK2; simpa [Value.cells, Kd.int, Kd.scalar] using this
  clear hA0 hval0 hsz0 hsz
  refine (policyGroups.walk W cs0 a0 hK0 hG0 n1 hG1 n2 hG2).mono fun e W' ⟨he, bel⟩ => ?_
  subst he
  exact ⟨_, rfl, _, _, _, [], _, [], hW', trodAll_mk1 (shut_bool Try.underlying4 _), (trodAll_cons_mk (Below.trod policyGroups.laidOut (by kernel_rfl) (of_decide_eq_true (by kernel_rfl)) k0 bel lt0) (trodAll_cons_mk (Below.trod policyGroups.laidOut (by kernel_rfl) (of_decide_eq_true (by kernel_rfl)) k1 bel lt1) (trodAll_cons_mk (Below.trod policyGroups.laidOut (by kernel_rfl) (of_decide_eq_true (by kernel_rfl)) k2 bel lt2) trodAll_mk0))), rfl, bel.frame _, fun h => by cases h⟩
theorem policyGroups_holds : Rows.PolicyGroupsSaid :=
  OpenClaim.holds_of_wide 8 Try.f8 rfl rfl rfl rfl rfl rfl rfl ⟨rfl, rfl, rfl, rfl, rfl⟩ rfl rfl rfl rfl rfl (by kernel_rfl) Try.func8 (by kernel_rfl)
    (of_decide_eq_true (by kernel_rfl)) (by unfold Func.isWrapper; first | (rw [if_pos (by decide +kernel)]; kernel_rfl) | (rw [if_neg (by decide +kernel)]; exact ⟨rfl, rfl⟩))
    (fun os started H enc _ => policyGroups.lifted os started H enc)
#print axioms policyGroups_holds

end Go.Proofs.Ytefkdicejhjfoaa
