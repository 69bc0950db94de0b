/- CellsOne: of several that would swap the same away, one does, whichever values they bring. No condition. -/
import Derived.Test.YtkjfojbnghbkdaaCellsD
import Derived.Test.YtkjfojbnghbkdaaLib2
import Derived.Test.YtkjfojbnghbkdaaOpen
namespace Go.Proofs.Ytkjfojbnghbkdaa
open Go.RowKit Go.ChangeShapes Go.WideShapes Go.ChangeAt Go.Proofs.YtkjfojbnghbkdaaW.PrintWords

theorem stp_swap1 (x old v : Int) : stp [x] 3 0 old v = if x = old then ([v], ⟨0, 3, x, v, true⟩, 0) else ([x], ⟨0, 3, x, x, false⟩, 0) := by
  simp [stp]

set_option maxRecDepth 100000 in
set_option maxHeartbeats 4000000 in
theorem cellsOne.walk (w : World) (old : Int) (_ : (Lit.int .i64 old).wf = true) (A : Option Addr) (c : Nat) (xs : List Int) (_ : xs.length ≤ c) (hC : Kd.C (Kd.int .i64) w A xs.length xs)
    (hG : xs.length * Try.prog.bytesOf 2 ≤ reachBytes ∧ xs.length ≤ 9223372036854775807 ∧ ∀ x ∈ xs, (Lit.int .i64 x).wf = true) :
    Calls Try.prog 3 #[.int .i64 old, .slice A xs.length c] w fun e w' => e = .returned (.bool true) ∧ Below w.heap.size w w' := by
  have hlen := hG.2.1
  clear hG
  have HC := Aside0.mk hC
  clear hC
  go_enter Try.func3, Try.ntmps3
  go_wp2_with fail
  refine (new_ok 1 (by omega) w).mono ?_
  rintro e w1 ⟨rfl, hI, hB⟩
  go_wp2_with fail
  refine (store_any _ _ _ 0 old w1 hI).mono ?_
  have hs : stp (List.replicate 1 0) 2 0 0 old = ([old], ⟨0, 2, 0, old, true⟩, 0) := by simp [stp]
  rw [hs]
  clear hs
  rintro e w2 ⟨rfl, hI2, hK⟩
  have hB2 : Below w.heap.size w w2 := below_then_keep hB hB.size hK (by simp)
  clear hK hB hI
  have HB2 := Aside0.mk hB2
  have HI2 := Aside0.mk hI2
  clear hB2 hI2
  unfold Acc.val
  go_wp2
  go_loopw [7, 8] (fun n i wr => ∃ (k : Nat) (y : Int) (m : Nat), k ≤ xs.length ∧ m ≤ 1 ∧ i = .int .i64 k ∧ n = .int .i64 m ∧ Aside0 (m = 0 ↔ y = old) ∧ Aside0 (IsCells wr (w.heap.size + 1) w.heap.size [y]) ∧ Aside0 (Below w.heap.size w wr)) (fun _ i _ => xs.length - (intOf i).toNat)
  case atStart => exact ⟨0, old, 0, by omega, by omega, rfl, rfl, ⟨by simp⟩, HI2, HB2⟩
  case round =>
    obtain ⟨k, y, m, hk, hm, rfl, rfl, HY, HI, HB⟩ := hrel
    by_cases hlt : k < xs.length
    · obtain ⟨ab, off, rfl, hab⟩ := C_form HC.out (by omega) (by decide)
      have hcell := ints_at HC.out k hlt
      have hcell' := (HB.out.cell (p := ⟨ab, off + k, none⟩) hab).trans hcell
      obtain ⟨v, hv⟩ : ∃ v, v = rd xs k := ⟨_, rfl⟩
      rw [← hv] at hcell' hcell
      clear hv
      have HCELL := Aside0.mk hcell
      clear hcell
      have HI1 := HI.out
      have HB1 := HB.out
      by_cases hy : y = old
      · obtain rfl : m = 0 := HY.out.2 hy
        subst hy
        clear HY
        go_wp2_with fail
        refine (swap_any _ _ _ 0 y v _ HI1).mono ?_
        rw [stp_swap1, if_pos rfl]
        rintro e w3 ⟨rfl, hI3, hK3⟩
        have hB3 : Below w.heap.size w w3 := below_then_keep HB1 HB1.size hK3 (by simp)
        have Hf := Aside0.mk hI3
        have Hb := Aside0.mk hB3
        have hcell3 := (hB3.cell (p := ⟨ab, off + k, none⟩) hab).trans HCELL.out
        have hab3 := Nat.lt_of_lt_of_le hab hB3.size
        clear hI3 hB3 hK3 HI1 HB1 hcell'
        unfold Acc.val
        by_cases hvy : v = y
        · subst hvy
          go_wp2
          go_roundw
          case rel => exact ⟨k + 1, v, 0, by omega, by omega, by go_num, rfl, ⟨by simp⟩, ⟨Hf.out.new (below_al (Below.refl _ _) _)⟩, ⟨below_al Hb.out _⟩⟩
          case measure => simp [intOf]; omega
        · have h1 : (v != y) = true := by simpa using hvy
          have h2 : (v == y) = false := by simpa using hvy
          have HV := Aside0.mk hvy
          clear hvy
          go_wp2
          go_roundw
          case rel => exact ⟨k + 1, v, 1, by omega, by omega, by go_num, rfl, ⟨by simp [HV.out]⟩, ⟨Hf.out.new (below_al (Below.refl _ _) _)⟩, ⟨below_al Hb.out _⟩⟩
          case measure => simp [intOf]; omega
      · obtain rfl : m = 1 := by have := HY.out; omega
        have hyo : (y == old) = false := by simpa using hy
        have HY1 := Aside0.mk hy
        clear HY hyo hy
        go_wp2_with fail
        refine (swap_any _ _ [y] 0 old v _ HI1).mono ?_
        rw [stp_swap1, if_neg HY1.out]
        rintro e w3 ⟨rfl, hI3, hK3⟩
        have hB3 : Below w.heap.size w w3 := below_then_keep HB1 HB1.size hK3 (by simp)
        have Hf := Aside0.mk hI3
        have Hb := Aside0.mk hB3
        clear hI3 hB3 hK3 HI1 HB1 hcell'
        unfold Acc.val
        go_wp2
        go_roundw
        case rel => exact ⟨k + 1, y, 1, by omega, by omega, by go_num, rfl, ⟨by simp [HY1.out]⟩, ⟨Hf.out.new (below_al (Below.refl _ _) _)⟩, ⟨below_al Hb.out _⟩⟩
        case measure => simp [intOf]; omega
    · have hk' : k = xs.length := by omega
      have hd : decide ((k : Int) < (xs.length : Int)) = false := by simp; omega
      clear hk'
      go_wp2_with fail
      refine (awake_any wr).mono ?_
      rintro e w5 ⟨rfl, hB5⟩
      go_wp2
      go_ret
      exact ⟨rfl, below_then HB.out hB5⟩
theorem cellsOne.own : ownKnob Try.prog.godebug = none := by kernel_rfl
theorem cellsOne.laidOut : laidOutB Try.prog = true := by kernel_rfl
set_option maxRecDepth 100000 in
set_option maxHeartbeats 1000000 in
theorem cellsOne.lifted (os : Os) (started : os.Started) (H : Type) (enc : TypeId × Value → H)
    : ReturnsInHanded {} Try.checked os 3 .any (Rows.cellsOneSpec.pre6 enc Try.prog Try.f3 Rows.cellsOneRow.domain false) (Rows.cellsOneSpec.post enc Try.prog Try.f3 false true false false) := by
  refine returnsInHanded_of_change_sized (C := Try.checked) cellsOne.own started (by kernel_rfl) Try.func3
    (ChangeSpec.witness6 (enc := enc) (C := Try.checked) false ⟨#[], #[.int .i64 0, .slice none 0 0], []⟩ 8 (by kernel_rfl) (by kernel_rfl) (by kernel_rfl) (by kernel_rfl)) ?_
  intro W base args ds gs before hval0 hW hcnd hsz0 _
  have hsz : (DataW.weightsEach Try.prog (Try.f3.params.toList ++ Rows.cellsOneSpec.plain.varTypes Try.prog) (ds ++ gs)).all (· ≤ reachBytes) = true := hsz0
  have hval : ∀ (j : Nat) t v, Try.f3.params[j]? = some t → args[j]? = some v → Value.okWide Try.prog W .any base t v := hval0
  have hW' := hW
  obtain ⟨p, q, hA0, hV, rfl, hfz, hnd⟩ := hW
  have hA : DataW.TrodAll enc Try.prog W 0 (fun _ => true) true Try.f3.params.toList args.toList ds p := hA0
  rw [Try.params3] at hA hval hsz
  obtain ⟨v0, vs0, d0, ds0, p0, q0, hargs, rfl, rfl, h0, r0⟩ := trodAll_cons hA
  obtain ⟨v1, vs1, d1, ds1, p1, q1, rfl, rfl, rfl, h1, r1⟩ := trodAll_cons r0
  obtain ⟨rfl, rfl, rfl⟩ := trodAll_nil r1
  obtain rfl : args = #[v0, v1] := by cases args; simp_all
  obtain ⟨rfl, rfl⟩ := trodVars_none hV
  have k0 := h0
  have lt0 : ∀ x ∈ p0, x.block < W.heap.size := by obtain ⟨m, hm⟩ := k0; exact DataW.trod_lt m _ _ _ hm
  have W0 := Op.weights_of hsz (j := 0) (t := 2) (d := d0) rfl rfl
  obtain ⟨n0, rfl⟩ := okWide_int Try.underlying2 (hval 0 2 v0 rfl rfl)
  obtain ⟨f0, hf0⟩ := h0
  obtain ⟨a0, hK0, hG0, hM0⟩ := Op.opens_int Try.underlying2 H enc W _ true f0 _ (d0, p0) hf0 W0
  obtain rfl : n0 = a0 := by have := hK0; simpa [Value.cells, Kd.int, Kd.scalar] using this
  have k1 := h1
  have lt1 : ∀ x ∈ p1, x.block < W.heap.size := by obtain ⟨m, hm⟩ := k1; exact DataW.trod_lt m _ _ _ hm
  have W1 := Op.weights_of hsz (j := 1) (t := 22) (d := d1) rfl rfl
  obtain ⟨A1, len1, cap1, rfl⟩ := okWide_slice Try.underlying22 (hval 1 22 v1 rfl rfl)
  obtain ⟨f1, hf1⟩ := h1
  obtain ⟨a1, hK1, hG1, hM1⟩ := Op.opens_slice Try.underlying22 (by kernel_rfl) (Op.opens_int Try.underlying2) H enc W _ true f1 _ (d1, p1) hf1 W1
  obtain ⟨A', c', he1, hc1, hC1⟩ := hK1
  obtain ⟨rfl, rfl, rfl⟩ : A1 = A' ∧ len1 = a1.length ∧ cap1 = c' := by simpa [Value.cells] using he1
  clear hA0 hval0 hsz0 hsz
  refine (cellsOne.walk W n0 hG0 A1 cap1 a1 hc1 hC1 hG1).mono fun e W' ⟨he, bel⟩ => ?_
  subst he
  exact ⟨_, rfl, _, _, _, [], _, [], hW', trodAll_mk1 (shut_bool Try.underlying4 _), (trodAll_cons_mk (Below.trod cellsOne.laidOut (by kernel_rfl) (of_decide_eq_true (by kernel_rfl)) k0 bel lt0) (trodAll_cons_mk (Below.trod cellsOne.laidOut (by kernel_rfl) (of_decide_eq_true (by kernel_rfl)) k1 bel lt1) trodAll_mk0)), rfl, bel.frame _, fun h => by cases h⟩
theorem cellsOne_holds : Rows.CellsOneSaid :=
  OpenClaim.holds_of_wide 3 Try.f3 rfl rfl rfl rfl rfl rfl rfl ⟨rfl, rfl, rfl, rfl, rfl⟩ rfl rfl rfl rfl rfl (by kernel_rfl) Try.func3 (by kernel_rfl)
    (of_decide_eq_true (by kernel_rfl)) (by unfold Func.isWrapper; first | (rw [if_pos (by decide +kernel)]; kernel_rfl) | (rw [if_neg (by decide +kernel)]; exact ⟨rfl, rfl⟩))
    (fun os started H enc _ => cellsOne.lifted os started H enc)
#print axioms cellsOne_holds

end Go.Proofs.Ytkjfojbnghbkdaa
