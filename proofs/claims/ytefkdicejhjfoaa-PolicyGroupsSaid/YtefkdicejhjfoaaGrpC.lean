import Derived.Test.YtefkdicejhjfoaaGrpB
namespace Go.Proofs.Ytefkdicejhjfoaa
open Go.RowKit Go.Proofs.YtefkdicejhjfoaaW.PrintWords Go.Proofs.YtefkdicejhjfoaaW.PrintLast Go.Proofs.YtefkdicejhjfoaaW.PrintMore Go.Proofs.Ytefkdicejhjfoaa.PPolicyPaths
/-! Groups of the program. -/
theorem info_49 : (Try.prog.info? 49).map (fun i => (i.zero, i.size, i.bytes)) = some (some (.int .u32 0), 1, 4) := by kernel_rfl
theorem get_rd {xs : List Int} {i : Nat} (h : i < xs.length) : xs[i]? = some (rd xs i) := by
  have he : xs[i]? = some xs[i] := List.getElem?_eq_getElem h
  rw [he]
  simp [rd, List.getD_eq_getElem?_getD, he]
/-- Each domain's set, a bit each. -/
def Masks (es : List S35) (ms : List Int) : Prop := ∀ (i : Nat) m, ms[i]? = some m → ∃ s : Nat, s < 65536 ∧ m = (s : Int) ∧ ∀ b : Nat, s.testBit b = rchB es i b
theorem Masks.nil (es : List S35) : Masks es [] := fun i m h => by simp at h
theorem Masks.snoc {es : List S35} {ms : List Int} (h : Masks es ms) {s : Nat} (hs : s < 65536) (hb : ∀ b : Nat, s.testBit b = rchB es ms.length b) : Masks es (ms ++ [(s : Int)]) := by
  intro i m hi
  rcases Nat.lt_trichotomy i ms.length with l | l | l
  · rw [List.getElem?_append_left l] at hi; exact h i m hi
  · subst l
    rw [List.getElem?_append_right (Nat.le_refl _), Nat.sub_self] at hi
    simp at hi
    exact ⟨s, hs, hi.symm, hb⟩
  · rw [List.getElem?_eq_none (by simp; omega)] at hi; cases hi
theorem Masks.at {es : List S35} {ms : List Int} (h : Masks es ms) {i o : Nat} (hi : i < ms.length) (ho : o < 16) : (Go.bits .and .u32 (rd ms i / 2 ^ o) 1 == 1) = rchB es i o := by
  obtain ⟨s, hs, hm, hb⟩ := h i _ (get_rd hi)
  rw [hm, ← hb o]
  exact bit_test' hs ho
set_option maxHeartbeats 4000000 in
theorem groups_any (D : Int) (B : Option Addr) (d : Nat) (es : List S35) (w : World) (hE : Kd.C k35 w B es.length es) (hd : es.length ≤ d) (hl : es.length < 8796093022208) :
    Calls Try.prog 19 #[.int .i64 D, .slice B es.length d] w fun e w' => ∃ v, e = .returned (.tuple #[v, .int .i64 (groupsP D es).2]) ∧ Kd.R (Kd.int .i64) 3 w' w.heap.size (fun _ => True) v (groupsP D es).1 ∧ Below w.heap.size w w' := by
  have HE := Aside0.mk hE
  clear hE
  obtain ⟨p, hp⟩ : ∃ p, p = (groupsP D es).1 := ⟨_, rfl⟩
  obtain ⟨q, hq⟩ : ∃ q, q = (groupsP D es).2 := ⟨_, rfl⟩
  rw [← hp, ← hq]
  have HP := Aside0.mk hp
  have HQ := Aside0.mk hq
  clear hp hq
  go_enter Try.func19, Try.ntmps19
  go_wp2_with fail
  refine (looked_any D B d es none 0 [] w HE.out hd (Kd.C_nil _ _) (by omega) (by simp)).mono ?_
  obtain ⟨r, hr⟩ : ∃ r, r = lookedP D es [] := ⟨_, rfl⟩
  rw [← hr]
  rintro e w1 ⟨rfl, hB1⟩
  have hP := HP.out
  have hQ := HQ.out
  rw [groupsP, ← hr] at hP hQ
  by_cases h0 : r = 0
  · subst h0
    obtain ⟨D', rfl, h1, h2, hf, _⟩ := looked_zero hr.symm
    rw [if_pos rfl] at hP hQ
    subst hQ
    rw [Int.toNat_natCast] at hP
    have HPP := Aside0.mk hP
    have HB1 := Aside0.mk hB1
    clear hP hr HP HQ hB1
    go_wp2
    go_loopw [7, 19] (fun v i wr => ∃ (k : Nat) (ms : List Int), k ≤ D' ∧ i = .int .i64 k ∧ Aside0 (Below w.heap.size w wr) ∧ Aside0 (ms.length = k) ∧ Aside0 (Masks es ms) ∧ Aside0 (Kd.R (Kd.int .u32) 49 wr w.heap.size (fun _ => True) v ms)) (fun _ i _ => D' - (intOf i).toNat)
    case atStart => exact ⟨0, [], by omega, rfl, HB1, ⟨rfl⟩, ⟨Masks.nil es⟩, ⟨Kd.R_nil _ _ _ _ _⟩⟩
    case round =>
      obtain ⟨k, ms, hk, rfl, HB, HL, HM, HR⟩ := hrel
      by_cases hlt : k < D'
      · obtain ⟨kk, s, hs, hkk, hbit⟩ := reached_f h2 hlt hf (by omega)
        have HM2 := Aside0.mk (HM.out.snoc hs (fun b => by rw [HL.out]; exact rchB_bit hbit b))
        have hml : ms.length ≤ 16 := by rw [HL.out]; omega
        clear hbit HM
        go_wp2_with (first | (go_at_call 25; (with_reducible refine (policy_reached.calls kk B d es k s wr (Kd.C_below HE.out HB.out) hd hkk).mono ?_); rintro e w2 ⟨rfl, hB2⟩; have HR2 := Aside0.mk (Kd.R_below HR.out hB2); have HB2 := Aside0.mk (below_then HB.out hB2); clear hB2 HR HB) | ((with_reducible refine gate_builtin (b := .append) (xs := #[.tmp 22, .tmp 26]) rfl ?_); at_builtin; refine Kd.R_append (Kd.int .u32) (w0 := w) w.heap.size rfl (.tmp 22) (.tmp 26) 55 49 (.int .u32 0) 4 rfl Try.underlying55 info_49 rfl (by decide) (by omega) u7 ms (s : Int) [.int .u32 s] (fun _ => True) (fun _ => False) rfl rfl ?aM (fun _ h => h.elim) ?aF ?aO ?aB ?aS ?aL ?_; (case aM => exact rfl); (case aF => exact fun _ _ => trivial); (case aO => exact HR2.out); (case aB => exact HB2.out); (case aS => exact HB2.out.size); (case aL => omega); intro v1 w5 ho5 hb5 hg hat))
        go_roundw
        case rel => exact ⟨k + 1, _, by omega, by go_num, ⟨hb5⟩, ⟨by rw [List.length_append, HL.out]; rfl⟩, HM2, ⟨ho5⟩⟩
        case measure => simp [intOf]; omega
      · obtain rfl : k = D' := by omega
        obtain ⟨A7, c7, rfl, hc7, hC7⟩ := Kd.R_reads HR.out
        have HC7 := Aside0.mk hC7
        clear hC7 hlt hk HR HB1
        go_wp2
        have HMM := Aside0.mk (fun (i o : Nat) (hi : i < k) (ho : o < 16) => HM.out.at (show i < ms.length by rw [HL.out]; exact hi) ho)
        have hml : ms.length ≤ 16 := by rw [HL.out]; omega
        have hpos : 0 < ms.length := by rw [HL.out]; omega
        have HCC : Aside0 (∀ i : Nat, i < k → i < ms.length) := ⟨fun i hi => by rw [HL.out]; exact hi⟩
        clear HL HM
        obtain ⟨ab, off, rfl, hab⟩ := C_form HC7.out hpos (by decide)
        obtain ⟨wA, rfl⟩ : ∃ wA : World, wA = wr := ⟨_, rfl⟩
        go_wp2
        go_loopw [9, 30] (fun v i wr2 => ∃ (j : Nat), j ≤ k ∧ i = .int .i64 j ∧ Aside0 (Below wA.heap.size wA wr2) ∧ Aside0 (Kd.R (Kd.int .i64) 3 wr2 wA.heap.size (fun _ => True) v (groupsL es j))) (fun _ i _ => k - (intOf i).toNat)
        case atStart => exact ⟨0, by omega, rfl, ⟨Below.refl _ _⟩, ⟨Kd.R_nil _ _ _ _ _⟩⟩
        case round =>
          obtain ⟨j, hj, rfl, HB2, HR2⟩ := hrel
          by_cases hlt : j < k
          · obtain ⟨wo, rfl⟩ : ∃ wo : World, wo = wr := ⟨_, rfl⟩
            have hal : (groupsL es j).length ≤ 16 := by rw [groupsL_length]; omega
            have HG := Aside0.mk (fun (o : Nat) (h : leastOf es j = o) => show groupsL es (j + 1) = groupsL es j ++ [(o : Int)] by rw [groupsL, h])
            generalize groupsL es j = acc at *
            go_wp2
            go_loopw [9, 34] (fun v i wi => ∃ (o : Nat), o ≤ j ∧ i = .int .i64 o ∧ v = u9 ∧ wi = wo ∧ Aside0 (∀ o', o' < o → ¬ Mut es j o')) (fun _ i _ => k - (intOf i).toNat)
            case atStart => exact ⟨0, by omega, rfl, rfl, rfl, ⟨fun o ho => by omega⟩⟩
            case round =>
              obtain ⟨o, ho, rfl, rfl, rfl, HN⟩ := hrel
              have hx := (HB2.out.cell (p := ⟨ab, off + j, none⟩) hab).trans (ints_at HC7.out j (HCC.out j hlt))
              have hy := (HB2.out.cell (p := ⟨ab, off + o, none⟩) hab).trans (ints_at HC7.out o (HCC.out o (by omega)))
              have hm1 := HMM.out j o hlt (by omega)
              have hm2 := HMM.out o j (by omega) (by omega)
              have hjl := HCC.out j hlt
              have hol := HCC.out o (by omega)
              generalize rd ms j = x at *
              generalize rd ms o = y at *
              cases c1 : rchB es j o with
              | true =>
                rw [c1] at hm1
                cases c2 : rchB es o j with
                | true =>
                  rw [c2] at hm2
                  have HG2 := Aside0.mk (HG.out o (leastOf_eq ⟨⟨c1, c2⟩, HN.out⟩))
                  clear c1 c2 HG
                  go_wp2_with (first | ((with_reducible refine gate_builtin (b := .append) (xs := #[.tmp 55, .tmp 57]) rfl ?_); at_builtin; refine Kd.R_append (Kd.int .i64) (w0 := wA) wA.heap.size rfl (.tmp 55) (.tmp 57) 38 3 (.int .i64 0) 8 rfl Try.underlying38 info_3 rfl (by decide) (by omega) u9 acc (o : Int) [.int .i64 o] (fun _ => True) (fun _ => False) rfl rfl ?aM (fun _ h => h.elim) ?aF ?aO ?aB ?aS ?aL ?_; (case aM => exact rfl); (case aF => exact fun _ _ => trivial); (case aO => exact HR2.out); (case aB => exact HB2.out); (case aS => exact HB2.out.size); (case aL => omega); intro v1 w5 ho5 hb5 hg hat))
                  go_roundw
                  case rel => exact ⟨j + 1, by omega, by go_num, ⟨hb5⟩, ⟨by rw [HG2.out]; exact ho5⟩⟩
                  case measure => simp [intOf]; omega
                | false =>
                  rw [c2] at hm2
                  have hoj : o ≠ j := by rintro rfl; rw [rchB_refl] at c2; cases c2
                  have HN2 : Aside0 (∀ o', o' < o + 1 → ¬ Mut es j o') := ⟨fun o' h hm => by
                    by_cases he : o' = o
                    · subst he; rw [hm.2] at c2; cases c2
                    · exact HN.out o' (by omega) hm⟩
                  clear c1 c2 HG
                  go_wp2
                  go_roundw
                  case rel => exact ⟨o + 1, by omega, by go_num, by first | rfl | trivial, by first | rfl | trivial, HN2⟩
                  case measure => simp [intOf]; omega
              | false =>
                rw [c1] at hm1
                have hoj : o ≠ j := by rintro rfl; rw [rchB_refl] at c1; cases c1
                have HN2 : Aside0 (∀ o', o' < o + 1 → ¬ Mut es j o') := ⟨fun o' h hm => by
                  by_cases he : o' = o
                  · subst he; rw [hm.1] at c1; cases c1
                  · exact HN.out o' (by omega) hm⟩
                clear c1 HG
                go_wp2
                go_roundw
                case rel => exact ⟨o + 1, by omega, by go_num, by first | rfl | trivial, by first | rfl | trivial, HN2⟩
                case measure => simp [intOf]; omega
          · obtain rfl : j = k := by omega
            go_wp2
            go_ret2
            exact ⟨_, rfl, by rw [HPP.out]; exact Kd.R_lower HR2.out HB.out.size, below_then HB.out HB2.out⟩
  · have hn : (r != 0) = true := by simpa using h0
    rw [if_neg h0] at hP hQ
    subst hP hQ
    clear h0 hr HP HQ
    go_wp2
    go_ret2
    exact ⟨_, rfl, Kd.R_nil _ _ _ _ _, hB1⟩
end Go.Proofs.Ytefkdicejhjfoaa
