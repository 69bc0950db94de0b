/- PortLater: what is got between two deliveries does not hang on what is put between them. No condition. -/
import Derived.Test.YtdienpcifklinaaPtF
namespace Go.Proofs.Ytdienpcifklinaa
open Go.RowKit Go.ChangeShapes Go.WideShapes Go.ChangeAt Go.Proofs.YtdienpcifklinaaW.PrintWords Go.Proofs.YtdienpcifklinaaW.PrintMore Go.Proofs.YtdienpcifklinaaW.PrintLast
set_option maxRecDepth 100000 in
set_option maxHeartbeats 8000000 in
theorem PortLater0.walk (w : World) (q : Bool) (cap : Int) (A : Option Addr) (c : Nat) (acts : List Ac) (hC : kAc.C w A acts.length acts) (hc : acts.length ≤ c) (hl : acts.length ≤ 140737488355328) (B : Option Addr) (cb : Nat) (more : List Int) (hC2 : (Kd.int .i64).C w B more.length more) (hc2 : more.length ≤ cb) (hl2 : more.length ≤ 140737488355328) :
    Calls Try.prog 3 #[.agg #[.bool q, .int .i64 cap], .slice A acts.length c, .slice B more.length cb] w fun e w' => e = .returned (.bool true) ∧ Below w.heap.size w w' := by
  have HC := Aside0.mk hC
  have HC2 := Aside0.mk hC2
  have hA : Below w.heap.size w (w.alloc (.cells #[.bool q, .int .i64 cap] 23)) := below_al (Below.refl _ _) _
  have hX0 : Aside0 ((w.alloc (.cells #[.bool q, .int .i64 cap] 23)).drew.heap[w.heap.size]? = some (.cells #[.bool q, .int .i64 cap] 23 (0, 0))) := ⟨blk_drew (blk_new _ _)⟩
  have HB0 : Aside0 (Below w.heap.size w (w.alloc (.cells #[.bool q, .int .i64 cap] 23)).drew) := ⟨hA.drew⟩
  clear hC hC2
  clear hA
  go_enter Try.func3, Try.ntmps3
  go_wp2_with fail
  refine start_ (n := 6) (S := fun w' => w'.cell? ⟨w.heap.size, 0, none⟩ = some (.bool q) ∧ w'.cell? ⟨w.heap.size, 1, none⟩ = some (.int .i64 cap)) (ds := []) #[false, false, false, false, false, false] (by kernel_rfl) rfl rfl ⟨cell_blk hX0.out 0, cell_blk hX0.out 1⟩ (fun hHeld => ?_)
  generalize (w.alloc (.cells #[.bool q, .int .i64 cap] 23)).drew = x0 at *
  refine take_ (i := 0) (N := some 15) (v := ?_) (a' := ?_) #[true, false, false, false, false, false] rfl rfl (by kernel_rfl) (fun _ _ _ h => h) (Or.inl ⟨by rfl, ?_⟩) hHeld ?_ ?_
  rotate_left
  · rintro w' ⟨s0, s1⟩
    go_simp
    with_reducible rfl
  rotate_left
  · simp only [Act.put, List.setIfInBounds_toArray, List.set_cons_zero, List.set_cons_succ, i64_w, i32_w]
    rfl
  refine take_ (i := 2) (N := some 17) (v := ?_) (a' := ?_) #[true, false, true, false, false, false] rfl rfl (by kernel_rfl) (fun _ _ _ h => h) (Or.inl ⟨by rfl, ?_⟩) hHeld ?_ ?_
  rotate_left
  · rintro w' ⟨s0, s1⟩
    go_simp
    with_reducible rfl
  rotate_left
  · simp only [Act.put, List.setIfInBounds_toArray, List.set_cons_zero, List.set_cons_succ, i64_w, i32_w]
    rfl
  refine one_ (i := 1) (N := some 16) #[true, true, true, false, false, false] rfl rfl (by kernel_rfl) (by decide) (fun K hK => ?_)
  refine goes_ Try.func9 (by kernel_rfl) rfl #[.agg #[.bool q, .int .i64 cap]] (by rfl) rfl rfl (by simp only [List.map_toArray, List.map_cons, List.map_nil]; rfl) ?_
  with_reducible refine (made_any q cap x0).mono ?_
  rintro e w1 ⟨pa, okp, rfl, hP1, hB1⟩
  refine ⟨_, rfl, ?_⟩
  have hX1 := blk_below hX0.out hB1
  refine hK.out _ _ ⟨cell_blk hX1 0, cell_blk hX1 1⟩ (fun hHeld => ?_)
  clear hK K
  refine norm_ (a' := ?_) ?_ ?_
  rotate_left
  · show Act.put _ (some 16) _ = _
    simp only [Act.put, List.setIfInBounds_toArray, List.set_cons_zero, List.set_cons_succ, i64_w, i32_w]
    rfl
  refine one_ (i := 3) (N := some 18) #[true, true, true, true, false, false] rfl rfl (by kernel_rfl) (by decide) (fun K hK => ?_)
  refine goes_ Try.func9 (by kernel_rfl) rfl #[.agg #[.bool q, .int .i64 cap]] (by rfl) rfl rfl (by simp only [List.map_toArray, List.map_cons, List.map_nil]; rfl) ?_
  with_reducible refine (made_any q cap w1).mono ?_
  rintro e w2 ⟨pb, okq, rfl, hP2, hB2⟩
  refine ⟨_, rfl, ?_⟩
  have hX2 := blk_below hX1 hB2
  refine hK.out _ _ ⟨cell_blk hX2 0, cell_blk hX2 1⟩ (fun hHeld => ?_)
  clear hK K
  refine norm_ (a' := ?_) ?_ ?_
  rotate_left
  · show Act.put _ (some 18) _ = _
    simp only [Act.put, List.setIfInBounds_toArray, List.set_cons_zero, List.set_cons_succ, i64_w, i32_w]
    rfl
  refine pure_ (i := 4) (N := some 7) (v := ?_) (a' := ?_) #[true, true, true, true, true, false] rfl rfl (by kernel_rfl) (fun _ _ _ h => h) (Or.inl ⟨by rfl, ?_⟩) ?_ ?_
  rotate_left
  · intro w'
    go_simp
    with_reducible rfl
  rotate_left
  · simp only [Act.put, List.setIfInBounds_toArray, List.set_cons_zero, List.set_cons_succ, i64_w, i32_w]
    rfl
  refine pure_ (i := 5) (N := some 8) (v := ?_) (a' := ?_) #[true, true, true, true, true, true] rfl rfl (by kernel_rfl) (fun _ _ _ h => h) (Or.inl ⟨by rfl, ?_⟩) ?_ ?_
  rotate_left
  · intro w'
    go_simp
    with_reducible rfl
  rotate_left
  · simp only [Act.put, List.setIfInBounds_toArray, List.set_cons_zero, List.set_cons_succ, i64_w, i32_w]
    rfl
  refine done_ (by kernel_rfl) ?_
  have hz1 := hB1.size
  have hz0 := HB0.out.size
  have H2 : Aside0 (Two w pa pb (newP q (capOk q cap)) (newP q (capOk q cap)) w2) := ⟨⟨okp, okq, (hP1.below hB2).lower hz0, hP2.lower (by omega), fun k h1 h2 => by have := (hP1.z k h1).2; have := (hP2.z k h2).1; omega, below_then HB0.out (below_then hB1 hB2)⟩⟩
  have hXb := Aside0.mk (blk_below (blk_below hX0.out hB1) hB2)
  clear hP1 hP2 hB1 hB2 hX1 hX2 hz1 hHeld
  have hq1 := peq_some pa
  have hq2 := peq_some pb
  generalize newP q (capOk q cap) = s0 at *
  go_wp2_with fail
  refine (lives_any w2).mono ?_
  rintro e w3 ⟨rfl, hB3⟩
  have H3 := Aside0.mk (H2.out.then hB3)
  clear hB3 H2 hXb hz0 hX0 HB0
  go_wp2_with fail
  go_loopw [9] (fun i wr => ∃ (k : Nat) (s : Pt), k ≤ acts.length ∧ i = .int .i64 k ∧ Aside0 (Two w pa pb s s wr)) (fun i _ => acts.length - (intOf i).toNat)
  case atStart => exact ⟨0, s0, by omega, rfl, H3⟩
  case round =>
    clear H3
    obtain ⟨k, s, hk, rfl, HT⟩ := hrel
    by_cases hlt : k < acts.length
    · obtain ⟨ab, off, rfl, hab⟩ := C_form HC.out (by omega) (by decide)
      obtain ⟨⟨d, v⟩, ha, e0, e1⟩ := act_at HC.out k hlt
      simp only at e0 e1
      have hBr := Aside0.mk HT.out.below
      have y0 := (hBr.out.cell (p := ⟨ab, off + k * 2, none⟩) hab).trans e0
      have y1 := (hBr.out.cell (p := ⟨ab, off + k * 2 + 1, none⟩) hab).trans e1
      have hki : (0 : Int) ≤ (k : Int) := by omega
      have hkl : (k : Int) < (acts.length : Int) := by omega
      have E1 := Aside0.mk e1
      clear ha e0 e1
      rcases (show d = 0 ∨ d = 1 ∨ d = 2 ∨ (d ≠ 0 ∧ d ≠ 1 ∧ d ≠ 2) by omega) with rfl | rfl | rfl | ⟨hd, hd', hd''⟩
      · have hT := two_put HT.out v
        go_wp2_with fail
        refine hT.mono ?_
        clear hT y0 y1
        rintro e w4 ⟨rfl, h4⟩
        have hT := two_put h4.swap v
        have y1 := (h4.below.cell (p := ⟨ab, off + k * 2 + 1, none⟩) hab).trans E1.out
        clear h4
        go_wp2_with fail
        refine hT.mono ?_
        clear hT y1
        rintro e w5 ⟨rfl, h5⟩
        have H5 := Aside0.mk h5.swap
        clear h5
        go_wp2
        go_roundw
        case rel => exact ⟨k + 1, _, by omega, by go_num, H5⟩
        case measure => simp [intOf]; omega
      · have hT := two_get HT.out
        go_wp2_with fail
        refine hT.mono ?_
        clear hT y0 y1
        rintro e w4 ⟨rfl, h4⟩
        have hT := two_get h4.swap
        clear h4
        go_wp2_with fail
        refine hT.mono ?_
        clear hT
        rintro e w5 ⟨rfl, h5⟩
        have H5 := Aside0.mk h5.swap
        clear h5
        go_wp2
        go_roundw
        case rel => exact ⟨k + 1, _, by omega, by go_num, H5⟩
        case measure => simp [intOf]; omega
      · have hT := two_deliver HT.out
        go_wp2_with fail
        refine hT.mono ?_
        clear hT y0 y1
        rintro e w4 ⟨rfl, h4⟩
        have hT := two_deliver h4.swap
        clear h4
        go_wp2_with fail
        refine hT.mono ?_
        clear hT
        rintro e w5 ⟨rfl, h5⟩
        have H5 := Aside0.mk h5.swap
        clear h5
        go_wp2
        go_roundw
        case rel => exact ⟨k + 1, _, by omega, by go_num, H5⟩
        case measure => simp [intOf]; omega
      · go_wp2
        go_roundw
        case rel => exact ⟨k + 1, s, by omega, by go_num, HT⟩
        case measure => simp [intOf]; omega
    · obtain rfl : k = acts.length := by omega
      go_wp2_with fail
      go_loopw [10] (fun i wr => ∃ (k : Nat) (s t : Pt), k ≤ more.length ∧ i = .int .i64 k ∧ SameIn s t ∧ Aside0 (Two w pa pb s t wr)) (fun i _ => more.length - (intOf i).toNat)
      case atStart => exact ⟨0, s, s, by omega, rfl, ⟨rfl, rfl⟩, HT⟩
      case round =>
        clear HT
        obtain ⟨k, s, t, hk, rfl, hS, HT⟩ := hrel
        by_cases hlt : k < more.length
        · obtain ⟨ab, off, rfl, hab⟩ := C_form HC2.out (by omega) (by decide)
          have y0 := (HT.out.below.cell (p := ⟨ab, off + k, none⟩) hab).trans (ints_at HC2.out k hlt)
          generalize rd more (k : Int) = v at *
          have hki : (0 : Int) ≤ (k : Int) := by omega
          have hkl : (k : Int) < (more.length : Int) := by omega
          have hT := two_put HT.out v
          have hS1 := hS.put v
          go_wp2_with fail
          refine hT.mono ?_
          clear hT y0
          rintro e w4 ⟨rfl, h4⟩
          have hT := two_get h4
          obtain ⟨hv, hS2⟩ := hS1.get
          generalize getP (putP s v).1 = r1 at *
          clear h4
          go_wp2_with fail
          refine hT.mono ?_
          clear hT
          rintro e w5 ⟨rfl, h5⟩
          have hT := two_get h5.swap
          generalize getP t = r2 at *
          have HV := Aside0.mk hv
          have HS2 := Aside0.mk hS2
          clear h5 hv hS2 hS1 hS
          go_wp2_with fail
          refine hT.mono ?_
          clear hT
          rintro e w6 ⟨rfl, h6⟩
          have H6 := Aside0.mk h6.swap
          clear h6
          rw [← HV.out]
          go_wp2
          go_roundw
          case rel => exact ⟨k + 1, _, _, by omega, by go_num, HS2.out, H6⟩
          case measure => simp [intOf]; omega
        · obtain rfl : k = more.length := by omega
          go_wp2
          go_ret
          exact ⟨rfl, HT.out.below⟩
theorem portLater.walk (w : World) (cs : Array Value) (x : Bool × Int) (hK : kSh.K w x cs.toList) (_ : True) (A : Option Addr) (c : Nat) (acts : List Ac) (hc : acts.length ≤ c) (hC : kAc.C w A acts.length acts) (hG : acts.length * Try.prog.bytesOf 30 ≤ reachBytes ∧ acts.length ≤ 9223372036854775807 ∧ ∀ x ∈ acts, True)
    (B : Option Addr) (cb : Nat) (more : List Int) (hc2 : more.length ≤ cb) (hC2 : (Kd.int .i64).C w B more.length more) (hG2 : more.length * Try.prog.bytesOf TI ≤ reachBytes ∧ more.length ≤ 9223372036854775807 ∧ ∀ x ∈ more, (Lit.int .i64 x).wf = true) :
    Calls Try.prog 3 #[.agg cs, .slice A acts.length c, .slice B more.length cb] w fun e w' => e = .returned (.bool true) ∧ Below w.heap.size w w' := by
  have h1 : Try.prog.bytesOf 30 = 16 := by kernel_rfl
  have h2 : Try.prog.bytesOf TI = 8 := by kernel_rfl
  rw [h1] at hG
  rw [h2] at hG2
  obtain rfl : cs = #[.bool x.1, .int .i64 x.2] := Array.toList_inj.1 (kSh_open hK)
  have hg := hG.1
  have hg2 := hG2.1
  unfold reachBytes at hg hg2
  exact PortLater0.walk w x.1 x.2 A c acts hC hc (by omega) B cb more hC2 hc2 (by omega)
theorem portLater.own : ownKnob Try.prog.godebug = none := by kernel_rfl
theorem portLater.laidOut : laidOutB Try.prog = true := by kernel_rfl
set_option maxRecDepth 100000 in
set_option maxHeartbeats 1000000 in
theorem portLater.lifted (os : Os) (started : os.Started) (H : Type) (enc : TypeId × Value → H)
    : ReturnsInHanded {} Try.checked os 3 .any (Rows.portLaterSpec.pre6 enc Try.prog Try.f3 Rows.portLaterRow.domain false) (Rows.portLaterSpec.post enc Try.prog Try.f3 false true false false) := by
  refine returnsInHanded_of_change_sized (C := Try.checked) portLater.own started (by kernel_rfl) Try.func3
    (ChangeSpec.witness6 (enc := enc) (C := Try.checked) false ⟨#[], #[.agg #[.bool false, .int .i64 0], .slice none 0 0, .slice none 0 0], []⟩ 8 (by kernel_rfl) (by kernel_rfl) (by kernel_rfl) (by kernel_rfl)) ?_
  intro W base args ds gs before hval0 hW hcnd hsz0 _
  have hsz : (DataW.weightsEach Try.prog (Try.f3.params.toList ++ Rows.portLaterSpec.plain.varTypes Try.prog) (ds ++ gs)).all (· ≤ reachBytes) = true := hsz0
  have hval : ∀ (j : Nat) t v, Try.f3.params[j]? = some t → args[j]? = some v → Value.okWide Try.prog W .any base t v := hval0
  have hW' := hW
  obtain ⟨p, q, hA0, hV, rfl, hfz, hnd⟩ := hW
  have hA : DataW.TrodAll enc Try.prog W 0 (fun _ => true) true Try.f3.params.toList args.toList ds p := hA0
  rw [Try.params3] at hA hval hsz
  obtain ⟨v0, vs0, d0, ds0, p0, q0, hargs, rfl, rfl, h0, r0⟩ := trodAll_cons hA
  obtain ⟨v1, vs1, d1, ds1, p1, q1, rfl, rfl, rfl, h1, r1⟩ := trodAll_cons r0
  obtain ⟨v2, vs2, d2, ds2, p2, q2, rfl, rfl, rfl, h2, r2⟩ := trodAll_cons r1
  obtain ⟨rfl, rfl, rfl⟩ := trodAll_nil r2
  obtain rfl : args = #[v0, v1, v2] := by cases args; simp_all
  obtain ⟨rfl, rfl⟩ := trodVars_none hV
  have k0 := h0
  have lt0 : ∀ x ∈ p0, x.block < W.heap.size := by obtain ⟨m, hm⟩ := k0; exact DataW.trod_lt m _ _ _ hm
  have W0 := Op.weights_of hsz (j := 0) (t := 23) (d := d0) rfl rfl
  obtain ⟨cs0, rfl, sz0⟩ := okWide_struct Try.underlying23 (hval 0 23 v0 rfl rfl)
  obtain ⟨f0, hf0⟩ := h0
  obtain ⟨a0, hK0, hG0, hM0⟩ := opensSh H enc W _ true f0 _ (d0, p0) hf0 W0
  have k1 := h1
  have lt1 : ∀ x ∈ p1, x.block < W.heap.size := by obtain ⟨m, hm⟩ := k1; exact DataW.trod_lt m _ _ _ hm
  have W1 := Op.weights_of hsz (j := 1) (t := 24) (d := d1) rfl rfl
  obtain ⟨A1, len1, cap1, rfl⟩ := okWide_slice Try.underlying24 (hval 1 24 v1 rfl rfl)
  obtain ⟨f1, hf1⟩ := h1
  obtain ⟨a1, hK1, hG1, hM1⟩ := opensActs H enc W _ true f1 _ (d1, p1) hf1 W1
  obtain ⟨A', c', he1, hc1, hC1⟩ := hK1
  obtain ⟨rfl, rfl, rfl⟩ : A1 = A' ∧ len1 = a1.length ∧ cap1 = c' := by simpa [Value.cells] using he1
  have k2 := h2
  have lt2 : ∀ x ∈ p2, x.block < W.heap.size := by obtain ⟨m, hm⟩ := k2; exact DataW.trod_lt m _ _ _ hm
  have W2 := Op.weights_of hsz (j := 2) (t := 25) (d := d2) rfl rfl
  obtain ⟨A2, len2, cap2, rfl⟩ := okWide_slice Try.underlying25 (hval 2 25 v2 rfl rfl)
  obtain ⟨f2, hf2⟩ := h2
  obtain ⟨a2, hK2, hG2, hM2⟩ := opensVs H enc W _ true f2 _ (d2, p2) hf2 W2
  obtain ⟨A', c', he2, hc2, hC2⟩ := hK2
  obtain ⟨rfl, rfl, rfl⟩ : A2 = A' ∧ len2 = a2.length ∧ cap2 = c' := by simpa [Value.cells] using he2
  clear hA0 hval0 hsz0 hsz
  refine (portLater.walk W cs0 a0 hK0 hG0 A1 cap1 a1 hc1 hC1 hG1 A2 cap2 a2 hc2 hC2 hG2).mono fun e W' ⟨he, bel⟩ => ?_
  subst he
  exact ⟨_, rfl, _, _, _, [], _, [], hW', trodAll_mk1 (shut_bool Try.underlying4 _), (trodAll_cons_mk (Below.trod portLater.laidOut (by kernel_rfl) (of_decide_eq_true (by kernel_rfl)) k0 bel lt0) (trodAll_cons_mk (Below.trod portLater.laidOut (by kernel_rfl) (of_decide_eq_true (by kernel_rfl)) k1 bel lt1) (trodAll_cons_mk (Below.trod portLater.laidOut (by kernel_rfl) (of_decide_eq_true (by kernel_rfl)) k2 bel lt2) trodAll_mk0))), rfl, bel.frame _, fun h => by cases h⟩
theorem portLater_holds : Rows.PortLaterSaid :=
  OpenClaim.holds_of_wide 3 Try.f3 rfl rfl rfl rfl rfl rfl rfl ⟨rfl, rfl, rfl, rfl, rfl⟩ rfl rfl rfl rfl rfl (by kernel_rfl) Try.func3 (by kernel_rfl)
    (of_decide_eq_true (by kernel_rfl)) (by unfold Func.isWrapper; first | (rw [if_pos (by decide +kernel)]; kernel_rfl) | (rw [if_neg (by decide +kernel)]; exact ⟨rfl, rfl⟩))
    (fun os started H enc _ => portLater.lifted os started H enc)
#print axioms portLater_holds

end Go.Proofs.Ytdienpcifklinaa
