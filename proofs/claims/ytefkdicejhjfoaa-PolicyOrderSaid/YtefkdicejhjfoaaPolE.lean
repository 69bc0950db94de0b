import Derived.Test.YtefkdicejhjfoaaPolD
namespace Go.Proofs.Ytefkdicejhjfoaa
open Go.RowKit Go.Proofs.YtefkdicejhjfoaaW.PrintWords Go.Proofs.YtefkdicejhjfoaaW.PrintLast Go.Proofs.YtefkdicejhjfoaaW.PrintMore Go.Proofs.Ytefkdicejhjfoaa.PPolicyPaths
/-! Above. -/
theorem info_3 : (Try.prog.info? 3).map (fun i => (i.zero, i.size, i.bytes)) = some (some (.int .i64 0), 1, 8) := by kernel_rfl
noncomputable def aboveL (es : List S35) (of : Int) : Nat → List Int
  | 0 => []
  | n + 1 => if rchB es n of = true then aboveL es of n ++ [(n : Int)] else aboveL es of n
theorem aboveL_length (es : List S35) (of : Int) (n : Nat) : (aboveL es of n).length ≤ n := by
  induction n with
  | zero => exact Nat.le_refl _
  | succ n ih =>
    rw [aboveL]
    split
    · simp; omega
    · omega
noncomputable def aboveP (D : Int) (es : List S35) (of : Int) : List Int × Int := if lookedP D es [of] = 0 then (aboveL es of D.toNat, 0) else ([], lookedP D es [of])
set_option maxHeartbeats 2000000 in
theorem above_any (D : Int) (B : Option Addr) (d : Nat) (es : List S35) (of : Int) (w : World) (hE : Kd.C k35 w B es.length es) (hd : es.length ≤ d) (hl : es.length < 8796093022208) :
    Calls Try.prog 15 #[.int .i64 D, .slice B es.length d, .int .i64 of] w fun e w' => ∃ v, e = .returned (.tuple #[v, .int .i64 (aboveP D es of).2]) ∧ Kd.R (Kd.int .i64) 3 w' w.heap.size (fun _ => True) v (aboveP D es of).1 ∧ Below w.heap.size w w' := by
  have HE := Aside0.mk hE
  clear hE
  obtain ⟨p, hp⟩ : ∃ p, p = (aboveP D es of).1 := ⟨_, rfl⟩
  obtain ⟨q, hq⟩ : ∃ q, q = (aboveP D es of).2 := ⟨_, rfl⟩
  rw [← hp, ← hq]
  have HP := Aside0.mk hp
  have HQ := Aside0.mk hq
  clear hp hq
  go_enter Try.func15, Try.ntmps15
  go_wp2_with fail
  have hB0 : Below w.heap.size w (w.alloc (.cells #[.int .i64 of] 3)) := below_al (Below.refl _ _) _
  have hc0 : (w.alloc (.cells #[.int .i64 of] 3)).cell? ⟨w.heap.size, 0, none⟩ = some (.int .i64 of) := cell_blk (blk_new _ _) 0
  generalize w.alloc (.cells #[.int .i64 of] 3) = W at *
  refine (looked_any D B d es _ 1 [of] W (Kd.C_below HE.out hB0) hd (C_one hc0) (by omega) (by simp)).mono ?_
  obtain ⟨r, hr⟩ : ∃ r, r = lookedP D es [of] := ⟨_, rfl⟩
  rw [← hr]
  rintro e w1 ⟨rfl, hB1⟩
  have hP := HP.out
  have hQ := HQ.out
  rw [aboveP, ← hr] at hP hQ
  by_cases h0 : r = 0
  · subst h0
    obtain ⟨D', rfl, h1, h2, hf, hof⟩ := looked_zero hr.symm
    obtain ⟨o, rfl, ho⟩ := hof of (by simp)
    rw [if_pos rfl] at hP hQ
    subst hQ
    rw [Int.toNat_natCast] at hP
    have HPP := Aside0.mk hP
    have HB1 := Aside0.mk (below_then hB0 hB1)
    clear hP hr hof HP HQ hB0 hB1 hc0
    go_wp2
    go_loopw [9, 20] (fun v i wr => ∃ (k : Nat), k ≤ D' ∧ i = .int .i64 k ∧ Aside0 (Below w.heap.size w wr) ∧ Aside0 (Kd.R (Kd.int .i64) 3 wr w.heap.size (fun _ => True) v (aboveL es o k))) (fun _ i _ => D' - (intOf i).toNat)
    case atStart => exact ⟨0, by omega, rfl, HB1, ⟨Kd.R_nil _ _ _ _ _⟩⟩
    case round =>
      obtain ⟨k, hk, rfl, HB, HR⟩ := hrel
      by_cases hlt : k < D'
      · obtain ⟨kk, s, hs, hkk, hbit⟩ := reached_f h2 hlt hf (by omega)
        have hbt := bit_test' hs (show o < 16 by omega)
        rw [rchB_bit hbit o] at hbt
        have HBT := Aside0.mk hbt
        clear hbt hbit
        go_wp2_with fail
        refine (policy_reached.calls kk B d es k s wr (Kd.C_below HE.out HB.out) hd hkk).mono ?_
        rintro e w2 ⟨rfl, hB2⟩
        have HR2 := Aside0.mk (Kd.R_below HR.out hB2)
        have HB2 := Aside0.mk (below_then HB.out hB2)
        clear hB2 HR HB
        have hal := aboveL_length es o k
        cases hc : rchB es k o with
        | true =>
          have hbt := HBT.out
          rw [hc] at hbt
          have hst : aboveL es o (k + 1) = aboveL es o k ++ [(k : Int)] := by rw [aboveL, if_pos hc]
          have HST := Aside0.mk hst
          generalize aboveL es o k = acc at *
          clear hst hc
          go_wp2_with (first | ((with_reducible refine gate_builtin (b := .append) (xs := #[.tmp 30, .tmp 32]) rfl ?_); at_builtin; refine Kd.R_append (Kd.int .i64) (w0 := w) w.heap.size rfl (.tmp 30) (.tmp 32) 38 3 (.int .i64 0) 8 rfl Try.underlying38 info_3 rfl (by decide) (by omega) u9 acc (k : Int) [.int .i64 k] (fun _ => True) (fun _ => False) rfl rfl ?aM (fun _ h => h.elim) ?aF ?aO ?aB ?aS ?aL ?_; (case aM => exact rfl); (case aF => exact fun _ _ => trivial); (case aO => exact HR2.out); (case aB => exact HB2.out); (case aS => exact HB2.out.size); (case aL => omega); intro v1 w5 ho5 hb5 hg hat))
          go_roundw
          case rel => exact ⟨k + 1, by omega, by go_num, ⟨hb5⟩, ⟨by rw [HST.out]; exact ho5⟩⟩
          case measure => simp [intOf]; omega
        | false =>
          have hbt := HBT.out
          rw [hc] at hbt
          have hst : aboveL es o (k + 1) = aboveL es o k := by rw [aboveL, if_neg (by rw [hc]; decide)]
          have HST := Aside0.mk hst
          generalize aboveL es o k = acc at *
          clear hst hc
          go_wp2
          go_roundw
          case rel => exact ⟨k + 1, by omega, by go_num, HB2, ⟨by rw [HST.out]; exact HR2.out⟩⟩
          case measure => simp [intOf]; omega
      · obtain rfl : k = D' := by omega
        go_wp2
        go_ret2
        exact ⟨_, rfl, by rw [HPP.out]; exact HR.out, HB.out⟩
  · have hn : (r != 0) = true := by simpa using h0
    rw [if_neg h0] at hP hQ
    subst hP hQ
    clear h0 hr HP HQ
    go_wp2
    go_ret2
    exact ⟨_, rfl, Kd.R_nil _ _ _ _ _, below_then hB0 hB1⟩
end Go.Proofs.Ytefkdicejhjfoaa
