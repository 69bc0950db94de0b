/- FifoApart: two queues do not disturb one another. No condition. -/
import Derived.Test.YtikoonomhojlkaaFqZ
set_option linter.unusedSimpArgs false
set_option linter.unusedVariables false
namespace Go.Proofs.Ytikoonomhojlkaa
open Go.RowKit Go.ChangeShapes Go.WideShapes Go.ChangeAt Go.Proofs.YtikoonomhojlkaaW.PrintWords Go.Proofs.YtikoonomhojlkaaW.PrintMore Go.Proofs.YtikoonomhojlkaaW.PrintLast
/-! FifoApart -/
def AP (w : World) (b : Nat) (l : List Wt) (vl : Value) (b' : Nat) (m : List Wt) (vm : Value) (wr : World) : Prop := ∃ v ok P v' ok' P', DQ w b l l v vl ok P wr ∧ DQ w b' m m v' vm ok' P' wr ∧ ∀ k, (ok k ∨ P k) → ¬ (ok' k ∨ P' k)
section
variable {w wr w' : World} {b b' : Nat} {l m : List Wt} {vl vm : Value}
theorem AP.swap (h : AP w b l vl b' m vm wr) : AP w b' m vm b l vl wr := by
  obtain ⟨v, ok, P, v', ok', P', h1, h2, h3⟩ := h
  exact ⟨v', ok', P', v, ok, P, h2, h1, fun k h4 h5 => h3 k h5 h4⟩
theorem AP.then (h : AP w b l vl b' m vm wr) (hB : Below wr.heap.size wr w') : AP w b l vl b' m vm w' := by
  obtain ⟨v, ok, P, v', ok', P', h1, h2, h3⟩ := h
  exact ⟨v, ok, P, v', ok', P', h1.then hB, h2.then hB, h3⟩
theorem AP.below (h : AP w b l vl b' m vm wr) : Below w.heap.size w wr := by
  obtain ⟨v, ok, P, v', ok', P', h1, h2, h3⟩ := h
  exact h1.q.below
theorem AP.cut (h : AP w b l vl b' m vm wr) : ∃ A c, vl = .slice A l.length c := by
  obtain ⟨v, ok, P, v', ok', P', h1, h2, h3⟩ := h
  obtain ⟨A, c, he, -, -⟩ := Kd.R_reads h1.r
  exact ⟨A, c, he⟩
theorem ap_told (g0 g1 : Int) (h : AP w b l vl b' m vm wr) : Calls Try.prog 21 #[.pointer (some ⟨b, 0, none⟩), vl, .agg #[.int .i64 g0, .int .i64 g1]] wr fun e w' => e = .returned (.bool true) ∧ Below wr.heap.size wr w' := by
  obtain ⟨v, ok, P, v', ok', P', h1, h2, h3⟩ := h
  exact told_any g0 g1 h1
theorem ap_does (d : Int) (x : Wt) (procs room : Int) (h : AP w b l vl b' m vm wr) : Calls Try.prog 20 #[.pointer (some ⟨b, 0, none⟩), vl, .agg #[.int .i64 d, .int .i64 x.f0.f0, .int .i64 x.f0.f1, .int .u64 x.f1, .int .i64 procs, .int .i64 room]] wr fun e w' => ∃ vl', e = .returned (.tuple #[vl', .bool true]) ∧ AP w b (doL l d x procs room) vl' b' m vm w' := by
  obtain ⟨v, ok, P, v', ok', P', h1, h2, h3⟩ := h
  refine (does_any d x procs room h1).mono ?_
  rintro e w2 ⟨v1, vl1, ok1, P1, he, hD, hg1, hg2, hk⟩
  have hz : ∀ k, (ok' k ∨ P' k) → k < wr.heap.size := fun k hk => hk.elim (fun h => (h2.q.q.z k h).2) (fun h => (h2.zp k h).2.1)
  refine ⟨vl1, he, v1, ok1, P1, v', ok', P', hD, h2.far hk (fun k hk => ⟨hk.elim (fun h => (h1.q.q.z k h).1) (fun h => (h1.zp k h).1), fun h => h3 k hk (.inl h), fun h => h3 k hk (.inr h)⟩), fun k h4 h5 => ?_⟩
  have h6 := hz k h5
  rcases h4 with h4 | h4
  · exact (hg1 k h4).elim (fun h => h3 k (.inl h) h5) (fun h => by omega)
  · exact (hg2 k h4).elim (fun h => h3 k (.inr h) h5) (fun h => by omega)
end
theorem ap_new {w w1 w2 wr : World} {b b' : Nat} (h1 : QueE w b [] w1) (h2 : QueE w1 b' [] w2) (hB : Below w2.heap.size w2 wr) : AP w b [] (.slice (some ⟨wr.heap.size, 0, none⟩) 0 0) b' [] (.slice (some ⟨wr.heap.size + 1, 0, none⟩) 0 0) ((wr.alloc (.cells #[] TW)).alloc (.cells #[] TW)) := by
  obtain ⟨ok, v, h1⟩ := h1
  obtain ⟨ok', v', h2⟩ := h2
  have hs1 := h1.below.size
  have hs2 := h2.below.size
  have hs3 := hB.size
  have hz1 := h1.q.z
  have hz2 := h2.q.z
  have g1 := (h1.then h2.below).then hB
  have g2 := h2.then hB
  have hA : Below wr.heap.size wr (wr.alloc (.cells #[] TW)) := below_al (Below.refl _ _) _
  have hA2 : Below (wr.alloc (.cells #[] TW)).heap.size (wr.alloc (.cells #[] TW)) ((wr.alloc (.cells #[] TW)).alloc (.cells #[] TW)) := below_al (Below.refl _ _) _
  have hsz : (wr.alloc (.cells #[] TW)).heap.size = wr.heap.size + 1 := by simp
  have r2 := R_empty' (wr.alloc (.cells #[] TW)) w.heap.size (by omega)
  rw [hsz] at r2
  refine ⟨v, ok, fun k => k = wr.heap.size, v', ok', fun k => k = wr.heap.size + 1, ⟨(g1.then hA).then hA2, Kd.R_below (R_empty' wr w.heap.size (by omega)) hA2, fun k hk => ?_⟩, ⟨⟨g1.below.trans ((below_then hA hA2).mono (by omega)), ?_, h2.g⟩, r2, fun k hk => ?_⟩, fun k h4 h5 => ?_⟩
  · subst hk
    exact ⟨by omega, by simp; omega, fun ho => by have := (hz1 _ ho).2; omega⟩
  · have q := (g2.q.below hA).below hA2
    exact ⟨fun k hk => ⟨by have := (hz2 k hk).1; omega, (q.z k hk).2⟩, q.hb, q.blk, Kd.R_lower q.r hs1⟩
  · subst hk
    exact ⟨by omega, by simp, fun ho => by have := (hz2 _ ho).2; omega⟩
  · rcases h4 with h4 | h4 <;> rcases h5 with h5 | h5
    · have := (hz1 k h4).2; have := (hz2 k h5).1; omega
    · have := (hz1 k h4).2; omega
    · have := (hz2 k h5).2; omega
    · omega
set_option maxRecDepth 100000 in
set_option maxHeartbeats 8000000 in
theorem FifoApart0.walk (w : World) (A : Option Addr) (c : Nat) (one : List Ac) (hC : kAc.C w A one.length one) (hc : one.length ≤ c) (hl : one.length ≤ 140737488355328) (B : Option Addr) (cb : Nat) (two : List Ac) (hC2 : kAc.C w B two.length two) (hc2 : two.length ≤ cb) (hl2 : two.length ≤ 140737488355328) :
    Calls Try.prog 7 #[.slice A one.length c, .slice B two.length cb] w fun e w' => e = .returned (.bool true) ∧ Below w.heap.size w w' := by
  have HC := Aside0.mk hC
  have HC2 := Aside0.mk hC2
  have hN := que_new w
  clear hC hC2
  go_enter Try.func7, Try.ntmps7
  go_wp2_with fail
  refine hN.mono ?_
  clear hN
  rintro e w1 ⟨b, rfl, hQ1⟩
  have HQ1 := Aside0.mk hQ1
  clear hQ1
  go_wp2_with fail
  refine (que_new w1).mono ?_
  rintro e w2 ⟨b', rfl, hQ2⟩
  have HQ2 := Aside0.mk hQ2
  have hqe := qeq_some b
  have hqe2 := qeq_some b'
  clear hQ2
  go_wp2_with fail
  refine (lives_any w2).mono ?_
  rintro e w3 ⟨rfl, hB3⟩
  have H3 := Aside0.mk (ap_new HQ1.out HQ2.out hB3)
  clear hB3 HQ1 HQ2
  go_wp2_with fail
  go_loopw [7, 8, 9, 10] (fun s7 s8 _ i wr => ∃ (k : Nat) (L M : List Wt), k ≤ one.length + two.length ∧ i = .int .i64 k ∧ Aside0 (AP w b L s7 b' M s8 wr)) (fun _ _ _ i _ => one.length + two.length - (intOf i).toNat)
  case atStart => exact ⟨0, [], [], by omega, rfl, H3⟩
  case round =>
    clear H3
    obtain ⟨k, L, M, hk, rfl, HA⟩ := hrel
    obtain ⟨A1, c1, he1⟩ := HA.out.cut
    obtain ⟨A2, c2, he2⟩ := HA.out.swap.cut
    subst he1
    subst he2
    have HB := Aside0.mk HA.out.below
    by_cases h1 : k < one.length
    · have hk1 : (k : Int) < (one.length : Int) := by omega
      obtain ⟨ab, off, rfl, hab⟩ := C_form HC.out (by omega) (by decide)
      obtain ⟨⟨d, x, procs, room⟩, ha, e0, e1, e2, e3, e4, e5⟩ := act_at HC.out k h1
      simp only at e0 e1 e2 e3 e4 e5
      have e0 := (HB.out.cell (p := ⟨ab, off + k * 6, none⟩) hab).trans e0
      have e1 := (HB.out.cell (p := ⟨ab, off + k * 6 + 1, none⟩) hab).trans e1
      have e2 := (HB.out.cell (p := ⟨ab, off + k * 6 + 2, none⟩) hab).trans e2
      have e3 := (HB.out.cell (p := ⟨ab, off + k * 6 + 3, none⟩) hab).trans e3
      have e4 := (HB.out.cell (p := ⟨ab, off + k * 6 + 4, none⟩) hab).trans e4
      have e5 := (HB.out.cell (p := ⟨ab, off + k * 6 + 5, none⟩) hab).trans e5
      have hki : (0 : Int) ≤ (k : Int) := by omega
      clear ha
      by_cases h2 : k < two.length
      · have hk2 : (k : Int) < (two.length : Int) := by omega
        have hT := ap_does d x procs room HA.out
        go_wp2_with fail
        refine hT.mono ?_
        clear hT e0 e1 e2 e3 e4 e5
        rintro e w3 ⟨vl3, rfl, hA3⟩
        obtain ⟨A3, c3, he3⟩ := hA3.cut
        subst he3
        have HA3 := Aside0.mk hA3
        have HB3 := Aside0.mk hA3.below
        clear hA3 HA HB
        have HA := HA3
        have HB := HB3
        clear HA3 HB3
        obtain ⟨ab2, off2, rfl, hab2⟩ := C_form HC2.out (by omega) (by decide)
        obtain ⟨⟨d, x, procs, room⟩, ha, e0, e1, e2, e3, e4, e5⟩ := act_at HC2.out k h2
        simp only at e0 e1 e2 e3 e4 e5
        have e0 := (HB.out.cell (p := ⟨ab2, off2 + k * 6, none⟩) hab2).trans e0
        have e1 := (HB.out.cell (p := ⟨ab2, off2 + k * 6 + 1, none⟩) hab2).trans e1
        have e2 := (HB.out.cell (p := ⟨ab2, off2 + k * 6 + 2, none⟩) hab2).trans e2
        have e3 := (HB.out.cell (p := ⟨ab2, off2 + k * 6 + 3, none⟩) hab2).trans e3
        have e4 := (HB.out.cell (p := ⟨ab2, off2 + k * 6 + 4, none⟩) hab2).trans e4
        have e5 := (HB.out.cell (p := ⟨ab2, off2 + k * 6 + 5, none⟩) hab2).trans e5
        clear ha
        have hT := ap_does d x procs room HA.out.swap
        go_wp2_with fail
        refine hT.mono ?_
        clear hT e0 e1 e2 e3 e4 e5
        rintro e w3 ⟨vl3, rfl, hA3⟩
        obtain ⟨A3, c3, he3⟩ := hA3.cut
        subst he3
        have HA3 := Aside0.mk hA3.swap
        have HB3 := Aside0.mk hA3.below
        clear hA3 HA HB
        go_wp2
        go_roundw
        case rel => exact ⟨k + 1, _, _, by omega, by go_num, HA3⟩
        case measure => simp [intOf]; omega
      · have hk2 : ¬ (k : Int) < (two.length : Int) := by omega
        have hT := ap_does d x procs room HA.out
        go_wp2_with fail
        refine hT.mono ?_
        clear hT e0 e1 e2 e3 e4 e5
        rintro e w3 ⟨vl3, rfl, hA3⟩
        obtain ⟨A3, c3, he3⟩ := hA3.cut
        subst he3
        have HA3 := Aside0.mk hA3
        have HB3 := Aside0.mk hA3.below
        clear hA3 HA HB
        go_wp2
        go_roundw
        case rel => exact ⟨k + 1, _, _, by omega, by go_num, HA3⟩
        case measure => simp [intOf]; omega
    · have hk1 : ¬ (k : Int) < (one.length : Int) := by omega
      by_cases h2 : k < two.length
      · have hk2 : (k : Int) < (two.length : Int) := by omega
        obtain ⟨ab, off, rfl, hab⟩ := C_form HC2.out (by omega) (by decide)
        obtain ⟨⟨d, x, procs, room⟩, ha, e0, e1, e2, e3, e4, e5⟩ := act_at HC2.out k h2
        simp only at e0 e1 e2 e3 e4 e5
        have e0 := (HB.out.cell (p := ⟨ab, off + k * 6, none⟩) hab).trans e0
        have e1 := (HB.out.cell (p := ⟨ab, off + k * 6 + 1, none⟩) hab).trans e1
        have e2 := (HB.out.cell (p := ⟨ab, off + k * 6 + 2, none⟩) hab).trans e2
        have e3 := (HB.out.cell (p := ⟨ab, off + k * 6 + 3, none⟩) hab).trans e3
        have e4 := (HB.out.cell (p := ⟨ab, off + k * 6 + 4, none⟩) hab).trans e4
        have e5 := (HB.out.cell (p := ⟨ab, off + k * 6 + 5, none⟩) hab).trans e5
        have hki : (0 : Int) ≤ (k : Int) := by omega
        clear ha
        have hT := ap_does d x procs room HA.out.swap
        go_wp2_with fail
        refine hT.mono ?_
        clear hT e0 e1 e2 e3 e4 e5
        rintro e w3 ⟨vl3, rfl, hA3⟩
        obtain ⟨A3, c3, he3⟩ := hA3.cut
        subst he3
        have HA3 := Aside0.mk hA3.swap
        have HB3 := Aside0.mk hA3.below
        clear hA3 HA HB
        go_wp2
        go_roundw
        case rel => exact ⟨k + 1, _, _, by omega, by go_num, HA3⟩
        case measure => simp [intOf]; omega
      · have hk2 : ¬ (k : Int) < (two.length : Int) := by omega
        have hT := ap_told 0 0 HA.out
        go_wp2_with fail
        refine hT.mono ?_
        clear hT
        rintro e w4 ⟨rfl, hB4⟩
        have HA4 := Aside0.mk (HA.out.then hB4)
        have hT := ap_told 0 0 HA4.out.swap
        clear hB4 HA HB
        go_wp2_with fail
        refine hT.mono ?_
        clear hT
        rintro e w5 ⟨rfl, hB5⟩
        have HA5 := Aside0.mk (HA4.out.then hB5).below
        clear hB5
        go_wp2
        go_ret
        exact ⟨rfl, HA5.out⟩
theorem fifoApart.walk (w : World) (A : Option Addr) (c : Nat) (one : List Ac) (hc : one.length ≤ c) (hC : kAc.C w A one.length one) (hG : one.length * Try.prog.bytesOf 51 ≤ reachBytes ∧ one.length ≤ 9223372036854775807 ∧ ∀ x ∈ one, True) (B : Option Addr) (cb : Nat) (two : List Ac) (hc2 : two.length ≤ cb) (hC2 : kAc.C w B two.length two) (hG2 : two.length * Try.prog.bytesOf 51 ≤ reachBytes ∧ two.length ≤ 9223372036854775807 ∧ ∀ x ∈ two, True) :
    Calls Try.prog 7 #[.slice A one.length c, .slice B two.length cb] w fun e w' => e = .returned (.bool true) ∧ Below w.heap.size w w' := by
  have h1 : Try.prog.bytesOf 51 = 48 := by kernel_rfl
  rw [h1] at hG hG2
  have hg := hG.1
  have hg2 := hG2.1
  unfold reachBytes at hg hg2
  exact FifoApart0.walk w A c one hC hc (by omega) B cb two hC2 hc2 (by omega)
theorem fifoApart.own : ownKnob Try.prog.godebug = none := by kernel_rfl
theorem fifoApart.laidOut : laidOutB Try.prog = true := by kernel_rfl
set_option maxRecDepth 100000 in
set_option maxHeartbeats 1000000 in
theorem fifoApart.lifted (os : Os) (started : os.Started) (H : Type) (enc : TypeId × Value → H)
    : ReturnsInHanded {} Try.checked os 7 .any (Rows.fifoApartSpec.pre6 enc Try.prog Try.f7 Rows.fifoApartRow.domain false) (Rows.fifoApartSpec.post enc Try.prog Try.f7 false true false false) := by
  refine returnsInHanded_of_change_sized (C := Try.checked) fifoApart.own started (by kernel_rfl) Try.func7
    (ChangeSpec.witness6 (enc := enc) (C := Try.checked) false ⟨#[], #[.slice none 0 0, .slice none 0 0], []⟩ 8 (by kernel_rfl) (by kernel_rfl) (by kernel_rfl) (by kernel_rfl)) ?_
  intro W base args ds gs before hval0 hW hcnd hsz0 _
  have hsz : (DataW.weightsEach Try.prog (Try.f7.params.toList ++ Rows.fifoApartSpec.plain.varTypes Try.prog) (ds ++ gs)).all (· ≤ reachBytes) = true := hsz0
  have hval : ∀ (j : Nat) t v, Try.f7.params[j]? = some t → args[j]? = some v → Value.okWide Try.prog W .any base t v := hval0
  have hW' := hW
  obtain ⟨p, q, hA0, hV, rfl, hfz, hnd⟩ := hW
  have hA : DataW.TrodAll enc Try.prog W 0 (fun _ => true) true Try.f7.params.toList args.toList ds p := hA0
  rw [Try.params7] at hA hval hsz
  obtain ⟨v0, vs0, d0, ds0, p0, q0, hargs, rfl, rfl, h0, r0⟩ := trodAll_cons hA
  obtain ⟨v1, vs1, d1, ds1, p1, q1, rfl, rfl, rfl, h1, r1⟩ := trodAll_cons r0
  obtain ⟨rfl, rfl, rfl⟩ := trodAll_nil r1
  obtain rfl : args = #[v0, v1] := by cases args; simp_all
  obtain ⟨rfl, rfl⟩ := trodVars_none hV
  have k0 := h0
  have lt0 : ∀ x ∈ p0, x.block < W.heap.size := by obtain ⟨m, hm⟩ := k0; exact DataW.trod_lt m _ _ _ hm
  have W0 := Op.weights_of hsz (j := 0) (t := 47) (d := d0) rfl rfl
  obtain ⟨A0, len0, cap0, rfl⟩ := okWide_slice Try.underlying47 (hval 0 47 v0 rfl rfl)
  obtain ⟨f0, hf0⟩ := h0
  obtain ⟨a0, hK0, hG0, hM0⟩ := Op.opens_slice Try.underlying47 (by kernel_rfl) opensAc H enc W _ true f0 _ (d0, p0) hf0 W0
  obtain ⟨A', c', he0, hc0, hC0⟩ := hK0
  obtain ⟨rfl, rfl, rfl⟩ : A0 = A' ∧ len0 = a0.length ∧ cap0 = c' := by simpa [Value.cells] using he0
  have k1 := h1
  have lt1 : ∀ x ∈ p1, x.block < W.heap.size := by obtain ⟨m, hm⟩ := k1; exact DataW.trod_lt m _ _ _ hm
  have W1 := Op.weights_of hsz (j := 1) (t := 47) (d := d1) rfl rfl
  obtain ⟨A1, len1, cap1, rfl⟩ := okWide_slice Try.underlying47 (hval 1 47 v1 rfl rfl)
  obtain ⟨f1, hf1⟩ := h1
  obtain ⟨a1, hK1, hG1, hM1⟩ := Op.opens_slice Try.underlying47 (by kernel_rfl) opensAc H enc W _ true f1 _ (d1, p1) hf1 W1
  obtain ⟨A', c', he1, hc1, hC1⟩ := hK1
  obtain ⟨rfl, rfl, rfl⟩ : A1 = A' ∧ len1 = a1.length ∧ cap1 = c' := by simpa [Value.cells] using he1
  clear hA0 hval0 hsz0 hsz
  refine (fifoApart.walk W A0 cap0 a0 hc0 hC0 hG0 A1 cap1 a1 hc1 hC1 hG1).mono fun e W' ⟨he, bel⟩ => ?_
  subst he
  exact ⟨_, rfl, _, _, _, [], _, [], hW', trodAll_mk1 (shut_bool Try.underlying4 _), (trodAll_cons_mk (Below.trod fifoApart.laidOut (by kernel_rfl) (of_decide_eq_true (by kernel_rfl)) k0 bel lt0) (trodAll_cons_mk (Below.trod fifoApart.laidOut (by kernel_rfl) (of_decide_eq_true (by kernel_rfl)) k1 bel lt1) trodAll_mk0)), rfl, bel.frame _, fun h => by cases h⟩
theorem fifoApart_holds : Rows.FifoApartSaid :=
  OpenClaim.holds_of_wide 7 Try.f7 rfl rfl rfl rfl rfl rfl rfl ⟨rfl, rfl, rfl, rfl, rfl⟩ rfl rfl rfl rfl rfl (by kernel_rfl) Try.func7 (by kernel_rfl)
    (of_decide_eq_true (by kernel_rfl)) (by unfold Func.isWrapper; first | (rw [if_pos (by decide +kernel)]; kernel_rfl) | (rw [if_neg (by decide +kernel)]; exact ⟨rfl, rfl⟩))
    (fun os started H enc _ => fifoApart.lifted os started H enc)
#print axioms fifoApart_holds

end Go.Proofs.Ytikoonomhojlkaa
