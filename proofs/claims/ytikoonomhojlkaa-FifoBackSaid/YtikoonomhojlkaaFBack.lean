/- FifoBack: what was taken and is put again stands where it stood. No condition. -/
import Derived.Deep.CutBlock
import Derived.Test.YtikoonomhojlkaaFqBk
set_option linter.unusedSimpArgs false
set_option linter.unusedVariables false
namespace Go.Proofs.Ytikoonomhojlkaa
open Go.RowKit Go.ChangeShapes Go.WideShapes Go.ChangeAt Go.Proofs.YtikoonomhojlkaaW.PrintWords Go.Proofs.YtikoonomhojlkaaW.PrintMore Go.Proofs.YtikoonomhojlkaaW.PrintLast
/-! FifoBack -/
set_option maxRecDepth 100000 in
set_option maxHeartbeats 8000000 in
theorem FifoBack0.walk (w : World) (A : Option Addr) (c : Nat) (l : List Wt) (hC : kW.C w A l.length l) (hc : l.length ≤ c) (hl : l.length ≤ 8796093022208) (d : Int) (x : Wt) (procs room : Int) :
    Calls Try.prog 6 #[.slice A l.length c, .agg #[.int .i64 d, .int .i64 x.f0.f0, .int .i64 x.f0.f1, .int .u64 x.f1, .int .i64 procs, .int .i64 room]] w fun e w' => e = .returned (.bool true) ∧ Below w.heap.size w w' := by
  have hA : Below w.heap.size w (w.alloc (.cells #[.int .i64 d, .int .i64 x.f0.f0, .int .i64 x.f0.f1, .int .u64 x.f1, .int .i64 procs, .int .i64 room] 51)) := below_al (Below.refl _ _) _
  have HB0 := Aside0.mk hA
  have HX0 : Aside0 ((w.alloc (.cells #[.int .i64 d, .int .i64 x.f0.f0, .int .i64 x.f0.f1, .int .u64 x.f1, .int .i64 procs, .int .i64 room] 51)).heap[w.heap.size]? = some (.cells #[.int .i64 d, .int .i64 x.f0.f0, .int .i64 x.f0.f1, .int .u64 x.f1, .int .i64 procs, .int .i64 room] 51 (0, 0))) := ⟨blk_new _ _⟩
  have HC := Aside0.mk (Kd.C_below hC hA)
  have HXl : Aside0 (w.heap.size < (w.alloc (.cells #[.int .i64 d, .int .i64 x.f0.f0, .int .i64 x.f0.f1, .int .u64 x.f1, .int .i64 procs, .int .i64 room] 51)).heap.size) := ⟨lt_blk HX0.out⟩
  have hN := que_new (w.alloc (.cells #[.int .i64 d, .int .i64 x.f0.f0, .int .i64 x.f0.f1, .int .u64 x.f1, .int .i64 procs, .int .i64 room] 51))
  clear hA hC
  go_enter Try.func6, Try.ntmps6
  go_wp2_with fail
  generalize (w.alloc (.cells #[.int .i64 d, .int .i64 x.f0.f0, .int .i64 x.f0.f1, .int .u64 x.f1, .int .i64 procs, .int .i64 room] 51)) = W at *
  refine hN.mono ?_
  clear hN
  rintro e w1 ⟨b, rfl, hQ1⟩
  have hqe := qeq_some b
  go_wp2_with fail
  refine (lives_any w1).mono ?_
  rintro e w2 ⟨rfl, hB2⟩
  have H2 := Aside0.mk (hQ1.then hB2)
  clear hQ1 hB2
  go_wp2_with fail
  go_loopw [6] (fun i wr => ∃ (k : Nat) (Q : List Wt), k ≤ l.length ∧ i = .int .i64 k ∧ Aside0 (QueE W b Q wr)) (fun i _ => l.length - (intOf i).toNat)
  case atStart => exact ⟨0, [], by omega, rfl, H2⟩
  case round =>
    clear H2
    obtain ⟨k, Q, hk, rfl, HQ⟩ := hrel
    by_cases hlt : k < l.length
    · obtain ⟨ab, off, rfl, hab⟩ := C_form HC.out (by omega) (by decide)
      obtain ⟨y, hy, e0, e1, e2⟩ := waits_at HC.out k hlt
      have HB := Aside0.mk HQ.out.below
      have e0 := (HB.out.cell (p := ⟨ab, off + k * 3, none⟩) hab).trans e0
      have e1 := (HB.out.cell (p := ⟨ab, off + k * 3 + 1, none⟩) hab).trans e1
      have e2 := (HB.out.cell (p := ⟨ab, off + k * 3 + 2, none⟩) hab).trans e2
      have hki : (0 : Int) ≤ (k : Int) := by omega
      have hkl : (k : Int) < (l.length : Int) := by omega
      obtain ⟨ok, v, hQ⟩ := HQ.out
      have hP := que_put y hQ
      clear hy hQ
      go_wp2_with fail
      refine hP.mono ?_
      clear hP e0 e1 e2
      rintro e w3 ⟨rfl, ⟨v3, hQ3⟩, -⟩
      have H3 := Aside0.mk (show QueE W b (putL Q y).1 w3 from ⟨_, _, hQ3⟩)
      clear hQ3
      generalize putL Q y = r at *
      go_wp2
      go_roundw
      case rel => exact ⟨k + 1, r.1, by omega, by go_num, H3⟩
      case measure => simp [intOf]; omega
    · obtain rfl : k = l.length := by omega
      have HG := Aside0.mk HQ.out.good
      have hQl := HG.out.len
      obtain ⟨ok, v, hQ⟩ := HQ.out
      have hAl := all_any hQ.q hQ.g.len
      clear hQ
      go_wp2_with fail
      refine hAl.mono ?_
      clear hAl
      rintro e w3 ⟨vw, rfl, hRw, hB3⟩
      have HKE := Aside0.mk (bk_new HQ.out hRw hB3)
      obtain ⟨Aw, cw, hew, -, -⟩ := Kd.R_reads hRw
      subst hew
      clear hRw hB3 HQ
      obtain ⟨v, ok, P, R, hK⟩ := HKE.out
      have hX3 := blk_below HX0.out hK.d.q.below
      have y0 := cell_blk hX3 0
      have y1 := cell_blk hX3 1
      have y2 := cell_blk hX3 2
      have y3 := cell_blk hX3 3
      have y4 := cell_blk hX3 4
      have y5 := cell_blk hX3 5
      have yl := lt_blk hX3
      simp only [List.getElem?_toArray, List.getElem?_cons_zero, List.getElem?_cons_succ] at y0 y1 y2 y3 y4 y5
      have HK : Aside0 (BK W b Q Q [] v (.slice Aw Q.length cw) (.slice (some ⟨w3.heap.size, 0, none⟩) 0 0) ok P R (w3.alloc (.cells #[] TW))) := ⟨hK⟩
      clear hK hX3 HKE
      go_upto_block 2 with fail
      generalize (w3.alloc (.cells #[] TW)) = W3 at *
      generalize hAT : (some (⟨w3.heap.size, 0, none⟩ : Addr)) = AT at *
      clear hAT
      go_cut [8] (fun s8 wx => ∃ (T L : List Wt) (A8 : Option Addr) (c8 : Nat), s8 = .slice A8 T.length c8 ∧ Aside0 (BKE W b L Q T (.slice Aw Q.length cw) (.slice A8 T.length c8) wx) ∧ Aside0 ((L ++ T).Perm Q))
      case first =>
        by_cases hd1 : d = 1
        · subst hd1
          have hT := que_take HK.out.d.q
          have hM := bk_take Q
          generalize takeL Q = r at *
          go_wp2_with fail
          refine hT.mono ?_
          clear hT
          rintro e w4 ⟨rfl, ⟨v4, hQ4⟩, hk4⟩
          have HK5 := Aside0.mk ((HK.out.qstep hQ4 hk4).then (w' := w4.alloc (.cells #[.int .i64 r.2.1.f0.f0, .int .i64 r.2.1.f0.f1, .int .u64 r.2.1.f1] TW)) (below_al (Below.refl _ _) _))
          have HZ5 : Aside0 ((w4.alloc (.cells #[.int .i64 r.2.1.f0.f0, .int .i64 r.2.1.f0.f1, .int .u64 r.2.1.f1] TW)).heap[w4.heap.size]? = some (.cells #[.int .i64 r.2.1.f0.f0, .int .i64 r.2.1.f0.f1, .int .u64 r.2.1.f1] TW (0, 0))) := ⟨blk_new _ _⟩
          obtain ⟨z0, z1, z2⟩ := cells3 HZ5.out
          have hzl := lt_blk HZ5.out
          have hwz := HK5.out.d.q.below.size
          clear hQ4 hk4 HK
          rcases hM with ⟨h0, hM⟩ | ⟨h0, hM⟩
          · rw [h0]
            have HM := Aside0.mk hM
            clear hM h0
            go_wp2_with ((with_reducible refine gate_builtin (b := .append) (xs := #[.tmp 72, .tmp 74]) rfl ?_); at_builtin; refine Kd.R_append kW (w0 := w4.alloc (.cells #[.int .i64 r.2.1.f0.f0, .int .i64 r.2.1.f0.f1, .int .u64 r.2.1.f1] TW)) W.heap.size rfl (.tmp 72) (.tmp 74) 22 TW (.agg #[.int .i64 0, .int .i64 0, .int .u64 0]) 24 rfl Try.underlying22 infoW rfl (by decide) (by omega) (.slice AT 0 0) ([] : List Wt) r.2.1 [.int .i64 r.2.1.f0.f0, .int .i64 r.2.1.f0.f1, .int .u64 r.2.1.f1] (fun k => R k ∨ (w4.alloc (.cells #[.int .i64 r.2.1.f0.f0, .int .i64 r.2.1.f0.f1, .int .u64 r.2.1.f1] TW)).heap.size ≤ k) (fun _ => False) rfl ?aX ?aM (fun _ h => h.elim) ?aF ?aO ?aB ?aS ?aL ?_; (case aX => first | rfl | exact congrArg (fun n => Value.slice (some ⟨n, 0, none⟩) 1 1) (by simp)); (case aM => exact kW_mkM _ _ _ _); (case aF => exact fun _ h => .inr h); (case aO => exact (Kd.R_mono HK5.out.t.r (fun _ h => .inl h))); (case aB => exact Below.refl _ _); (case aS => first | omega | (simp; omega)); (case aL => first | omega | simp); intro v9 w9 ho hb hg hat; skip)
            have hk9 := (grown_keep hg).mono (fun k _ e => HK5.out.t.r.1 k e)
            have HK9 := Aside0.mk (HK5.out.tstep (R_new ho) hk9)
            obtain ⟨A9, c9, he9, -, -⟩ := Kd.R_reads ho
            subst he9
            clear hk9 ho hb hg hat z0 z1 z2
            go_wp2_with fail
            go_meet
            exact ⟨[r.2.1], r.1, A9, c9, rfl, ⟨_, _, _, _, HK9.out⟩, HM⟩
          · have hrb : (r.2.2 == 0) = false := by simpa using h0
            have HM := Aside0.mk hM
            clear hM h0
            go_wp2_with fail
            go_meet
            exact ⟨[], r.1, AT, 0, rfl, ⟨_, _, _, _, HK5.out⟩, HM⟩
        · by_cases hd3 : d = 3
          · subst hd3
            have hT := que_drop x.f0.f0 x.f0.f1 HK.out.d.q
            have hM := bk_drop Q x.f0.f0 x.f0.f1
            generalize dropL Q x.f0.f0 x.f0.f1 = r at *
            go_wp2_with fail
            refine hT.mono ?_
            clear hT
            rintro e w4 ⟨rfl, ⟨v4, hQ4⟩, hk4⟩
            have HK5 := Aside0.mk ((HK.out.qstep hQ4 hk4).then (w' := w4.alloc (.cells #[.int .i64 r.2.1.f0.f0, .int .i64 r.2.1.f0.f1, .int .u64 r.2.1.f1] TW)) (below_al (Below.refl _ _) _))
            have HZ5 : Aside0 ((w4.alloc (.cells #[.int .i64 r.2.1.f0.f0, .int .i64 r.2.1.f0.f1, .int .u64 r.2.1.f1] TW)).heap[w4.heap.size]? = some (.cells #[.int .i64 r.2.1.f0.f0, .int .i64 r.2.1.f0.f1, .int .u64 r.2.1.f1] TW (0, 0))) := ⟨blk_new _ _⟩
            obtain ⟨z0, z1, z2⟩ := cells3 HZ5.out
            have hzl := lt_blk HZ5.out
            have hwz := HK5.out.d.q.below.size
            clear hQ4 hk4 HK
            rcases hM with ⟨h0, hM⟩ | ⟨h0, hM⟩
            · rw [h0]
              have HM := Aside0.mk hM
              clear hM h0
              go_wp2_with ((with_reducible refine gate_builtin (b := .append) (xs := #[.tmp 88, .tmp 90]) rfl ?_); at_builtin; refine Kd.R_append kW (w0 := w4.alloc (.cells #[.int .i64 r.2.1.f0.f0, .int .i64 r.2.1.f0.f1, .int .u64 r.2.1.f1] TW)) W.heap.size rfl (.tmp 88) (.tmp 90) 22 TW (.agg #[.int .i64 0, .int .i64 0, .int .u64 0]) 24 rfl Try.underlying22 infoW rfl (by decide) (by omega) (.slice AT 0 0) ([] : List Wt) r.2.1 [.int .i64 r.2.1.f0.f0, .int .i64 r.2.1.f0.f1, .int .u64 r.2.1.f1] (fun k => R k ∨ (w4.alloc (.cells #[.int .i64 r.2.1.f0.f0, .int .i64 r.2.1.f0.f1, .int .u64 r.2.1.f1] TW)).heap.size ≤ k) (fun _ => False) rfl ?aX ?aM (fun _ h => h.elim) ?aF ?aO ?aB ?aS ?aL ?_; (case aX => first | rfl | exact congrArg (fun n => Value.slice (some ⟨n, 0, none⟩) 1 1) (by simp)); (case aM => exact kW_mkM _ _ _ _); (case aF => exact fun _ h => .inr h); (case aO => exact (Kd.R_mono HK5.out.t.r (fun _ h => .inl h))); (case aB => exact Below.refl _ _); (case aS => first | omega | (simp; omega)); (case aL => first | omega | simp); intro v9 w9 ho hb hg hat; skip)
              have hk9 := (grown_keep hg).mono (fun k _ e => HK5.out.t.r.1 k e)
              have HK9 := Aside0.mk (HK5.out.tstep (R_new ho) hk9)
              obtain ⟨A9, c9, he9, -, -⟩ := Kd.R_reads ho
              subst he9
              clear hk9 ho hb hg hat z0 z1 z2
              go_wp2_with fail
              go_meet
              exact ⟨[r.2.1], r.1, A9, c9, rfl, ⟨_, _, _, _, HK9.out⟩, HM⟩
            · have hrb : (r.2.2 == 0) = false := by simpa using h0
              have HM := Aside0.mk hM
              clear hM h0
              go_wp2_with fail
              go_meet
              exact ⟨[], r.1, AT, 0, rfl, ⟨_, _, _, _, HK5.out⟩, HM⟩
          · have hb1 : (d == 1) = false := by simpa using hd1
            have hb3 : (d == 3) = false := by simpa using hd3
            have hT := batch_any procs room HK.out.d.q.q HK.out.d.q.g.len
            have HM := Aside0.mk (bk_batch Q procs room)
            have hBl := batch_len Q procs room
            have HGB := Aside0.mk (batchL_good procs room HK.out.d.q.g).1
            generalize batchL Q procs room = r at *
            go_wp2_with fail
            refine hT.mono ?_
            clear hT
            rintro e w4 ⟨v4, u4, rfl, hq4, hu4, hdj, hk4⟩
            have HK4 := Aside0.mk (bk_batched HK.out hq4 hu4 hdj hk4 HGB.out)
            obtain ⟨A4, c4, he4, hc4, -⟩ := Kd.R_reads hu4
            subst he4
            clear hq4 hu4 hdj hk4 HK y0 y1 y2 y3 y4 y5 yl
            obtain ⟨r1, r2, r3⟩ := r
            simp only at HM hBl hc4 HK4 ⊢
            go_wp2_with fail
            go_loopw [8, 15] (fun s8 i wr => ∃ (k : Nat) (A8 : Option Addr) (c8 : Nat), k ≤ r2.length ∧ i = .int .i64 k ∧ s8 = .slice A8 (r2.take k).length c8 ∧ Aside0 (BK4E W b r1 Q r2 (r2.take k) (.slice Aw Q.length cw) (.slice A4 r2.length c4) (.slice A8 (r2.take k).length c8) wr)) (fun _ i _ => r2.length - (intOf i).toNat)
            case atStart => exact ⟨0, _, _, by omega, rfl, rfl, HK4⟩
            case round =>
              clear HK4
              obtain ⟨k, A8, c8, hk, rfl, rfl, HI⟩ := hrel
              by_cases hlt : k < r2.length
              · obtain ⟨v, ok, P, R, U, hI⟩ := HI.out
                obtain ⟨A', c', he', -, hC'⟩ := Kd.R_reads hI.u.r
                injection he' with e1 e2 e3
                rw [← e1] at hC'
                obtain ⟨ab, off, rfl, hab⟩ := C_form hC' (by omega) (by decide)
                obtain ⟨y, hy, f0, f1, f2⟩ := waits_at hC' k hlt
                have HI2 := Aside0.mk hI
                have HTS := Aside0.mk (take_snoc hy)
                have HTl : Aside0 ((r2.take k).length ≤ 4096) := ⟨by rw [List.length_take]; omega⟩
                have hwz := hI.k.d.q.below.size
                have hki : (0 : Int) ≤ (k : Int) := by omega
                have hkl : (k : Int) < (r2.length : Int) := by omega
                clear hI hC' e1 e2 e3 hy HI
                generalize r2.take k = T at *
                go_wp2_with ((with_reducible refine gate_builtin (b := .append) (xs := #[.tmp 56, .tmp 61]) rfl ?_); at_builtin; refine Kd.R_append kW (w0 := wr) W.heap.size rfl (.tmp 56) (.tmp 61) 22 TW (.agg #[.int .i64 0, .int .i64 0, .int .u64 0]) 24 rfl Try.underlying22 infoW rfl (by decide) (by omega) (.slice A8 T.length c8) T y [.int .i64 y.f0.f0, .int .i64 y.f0.f1, .int .u64 y.f1] (fun k => R k ∨ wr.heap.size ≤ k) (fun _ => False) rfl ?aX ?aM (fun _ h => h.elim) ?aF ?aO ?aB ?aS ?aL ?_; (case aX => first | rfl | exact congrArg (fun n => Value.slice (some ⟨n, 0, none⟩) 1 1) (by simp)); (case aM => exact kW_mkM _ _ _ _); (case aF => exact fun _ h => .inr h); (case aO => exact (Kd.R_mono HI2.out.k.t.r (fun _ h => .inl h))); (case aB => exact Below.refl _ _); (case aS => first | omega | (simp; omega)); (case aL => (have := HTl.out; omega)); intro v9 w9 ho hb hg hat; skip)
                have hk9 := (grown_keep hg).mono (fun k _ e => HI2.out.k.t.r.1 k e)
                have HI9 := Aside0.mk (HI2.out.tstep (R_new ho) hk9)
                obtain ⟨A9, c9, he9, -, -⟩ := Kd.R_reads ho
                subst he9
                rw [← HTS.out] at HI9 ⊢
                clear hk9 ho hb hg hat f0 f1 f2
                go_wp2_with fail
                go_roundw
                case rel => first | exact ⟨k + 1, A9, c9, by omega, by go_num, rfl, ⟨_, _, _, _, _, HI9.out⟩⟩ | (repeat apply Exists.intro); exact ⟨⟨k + 1, A9, c9, by omega, by go_num, rfl, ⟨_, _, _, _, _, HI9.out⟩⟩, rfl⟩
                case measure => simp [intOf]; omega
              · obtain rfl : k = r2.length := by omega
                rw [List.take_length] at HI ⊢
                obtain ⟨v, ok, P, R, U, hI⟩ := HI.out
                have HK9 := Aside0.mk (show BKE W b r1 Q r2 (.slice Aw Q.length cw) (.slice A8 r2.length c8) wr from ⟨_, _, _, _, hI.k⟩)
                clear hI
                go_wp2_with fail
                go_meet
                exact ⟨r2, r1, A8, c8, rfl, HK9, HM⟩
      case rest =>
        clear HK y0 y1 y2 y3 y4 y5 yl
        obtain ⟨T, L, A8, c8, rfl, HK, HM⟩ := hcut
        obtain ⟨v, ok, P, R, hK⟩ := HK.out
        have hLn := len_any hK.d.q.q
        have hsum : (L.length : Int) + T.length = Q.length := by have := HM.out.length_eq; rw [List.length_append] at this; omega
        have hTl : T.length ≤ 4096 := by omega
        have hne : (((L.length : Int) + T.length) != Q.length) = false := by simpa using hsum
        have HB := Aside0.mk (hK.d.q.below)
        clear hK
        go_wp2_with fail
        refine hLn.mono ?_
        rintro e wz ⟨rfl, rfl⟩
        clear hLn
        go_wp2_with fail
        go_loopw [16] (fun i wr => ∃ (m : Nat) (L : List Wt), m ≤ T.length ∧ i = .int .i64 ((m : Int) - 1) ∧ Aside0 (BKE W b L Q T (.slice Aw Q.length cw) (.slice A8 T.length c8) wr) ∧ Aside0 ((L ++ T.take m).Perm Q)) (fun i _ => (intOf i + 1).toNat)
        case atStart => exact ⟨T.length, L, by omega, by go_num, HK, ⟨by rw [List.take_length]; exact HM.out⟩⟩
        case round =>
          clear HK HM HB hne hsum
          obtain ⟨m, L, hm, rfl, HK, HM⟩ := hrel
          obtain ⟨v, ok, P, R, hK⟩ := HK.out
          cases m with
          | zero =>
            have HE := bk_end HG.out hK.d.q.g (by simpa using HM.out)
            subst HE
            have hAl := all_any hK.d.q.q hK.d.q.g.len
            have HK0 := Aside0.mk hK
            clear hK HM HK
            go_wp2_with fail
            refine hAl.mono ?_
            clear hAl
            rintro e w5 ⟨v5, rfl, hR5, hB5⟩
            have HK5 := Aside0.mk (HK0.out.then hB5)
            have HS := Aside0.mk (same_any hR5 HK5.out.d.r (by omega))
            clear hR5 hB5 HK0
            go_wp2_with fail
            refine HS.out.mono ?_
            clear HS
            rintro e w6 ⟨rfl, hB6⟩
            have HB6 := Aside0.mk (HB0.out.trans (((HK5.out.then hB6).d.q.below).mono HB0.out.size))
            clear hB6 HK5
            go_wp2
            go_ret
            exact ⟨rfl, HB6.out⟩
          | succ m =>
            obtain ⟨A', c', he', -, hC'⟩ := Kd.R_reads hK.t.r
            injection he' with e1 e2 e3
            rw [← e1] at hC'
            obtain ⟨ab, off, rfl, hab⟩ := C_form hC' (by omega) (by decide)
            obtain ⟨y, hy, f0, f1, f2⟩ := waits_at hC' m (by omega)
            have hM := HM.out
            rw [take_snoc hy] at hM
            obtain ⟨p1, p2, p3⟩ := bk_put HG.out hM
            have HP1 := Aside0.mk p1
            have HP3 := Aside0.mk p3
            have HK0 := Aside0.mk hK
            have hmi : ((m + 1 : Nat) : Int) - 1 = (m : Int) := by omega
            rw [hmi]
            have hki : (0 : Int) ≤ (m : Int) := by omega
            have hkl : (m : Int) < (T.length : Int) := by omega
            clear hM p1 p3 hK e1 e2 e3 hy HM HK hC' hmi
            have HY := Aside0.mk p2
            clear p2
            go_wp2_with fail
            have HH := Aside0.mk (has_any y.f0.f0 y.f0.f1 HK0.out.d.q.q HK0.out.d.q.g.len)
            rw [HP1.out] at HH
            refine HH.out.mono ?_
            clear HH
            rintro e w6 ⟨rfl, hB6⟩
            have f0 := (hB6.cell (p := ⟨ab, off + m * 3, none⟩) hab).trans f0
            have f1 := (hB6.cell (p := ⟨ab, off + m * 3 + 1, none⟩) hab).trans f1
            have f2 := (hB6.cell (p := ⟨ab, off + m * 3 + 2, none⟩) hab).trans f2
            have HK6 := Aside0.mk (HK0.out.then hB6)
            clear hB6 HK0
            go_wp2_with fail
            refine (que_put y HK6.out.d.q).mono ?_
            rintro e w7 ⟨rfl, ⟨v7, hQ7⟩, hk7⟩
            have HK7 := Aside0.mk (show BKE W b (putL L y).1 Q T (.slice Aw Q.length cw) _ w7 from ⟨_, _, _, _, HK6.out.qstep hQ7 hk7⟩)
            rw [HY.out]
            clear f0 f1 f2 hQ7 hk7
            go_wp2
            go_roundw
            case rel => exact ⟨m, (putL L y).1, by omega, by go_num, HK7, HP3⟩
            case measure => first | (simp [intOf]; done) | (simp [intOf]; omega)
theorem fifoBack.walk (w : World) (A : Option Addr) (c : Nat) (l : List Wt) (hc : l.length ≤ c) (hC : kW.C w A l.length l) (hG : l.length * Try.prog.bytesOf 32 ≤ reachBytes ∧ l.length ≤ 9223372036854775807 ∧ ∀ x ∈ l, True) (cs : Array Value) (a : Ac) (hK : kAc.K w a cs.toList) (_ : True) :
    Calls Try.prog 6 #[.slice A l.length c, .agg cs] w fun e w' => e = .returned (.bool true) ∧ Below w.heap.size w w' := by
  have h1 : Try.prog.bytesOf 32 = 24 := by kernel_rfl
  rw [h1] at hG
  obtain ⟨d, x, procs, room⟩ := a
  obtain rfl : cs = #[.int .i64 d, .int .i64 x.f0.f0, .int .i64 x.f0.f1, .int .u64 x.f1, .int .i64 procs, .int .i64 room] := Array.toList_inj.1 (kAc_open hK)
  have hg := hG.1
  unfold reachBytes at hg
  exact FifoBack0.walk w A c l hC hc (by omega) d x procs room
theorem fifoBack.own : ownKnob Try.prog.godebug = none := by kernel_rfl
theorem fifoBack.laidOut : laidOutB Try.prog = true := by kernel_rfl
set_option maxRecDepth 100000 in
set_option maxHeartbeats 1000000 in
theorem fifoBack.lifted (os : Os) (started : os.Started) (H : Type) (enc : TypeId × Value → H)
    : ReturnsInHanded {} Try.checked os 6 .any (Rows.fifoBackSpec.pre6 enc Try.prog Try.f6 Rows.fifoBackRow.domain false) (Rows.fifoBackSpec.post enc Try.prog Try.f6 false true false false) := by
  refine returnsInHanded_of_change_sized (C := Try.checked) fifoBack.own started (by kernel_rfl) Try.func6
    (ChangeSpec.witness6 (enc := enc) (C := Try.checked) false ⟨#[], #[.slice none 0 0, .agg #[.int .i64 0, .int .i64 0, .int .i64 0, .int .u64 0, .int .i64 0, .int .i64 0]], []⟩ 8 (by kernel_rfl) (by kernel_rfl) (by kernel_rfl) (by kernel_rfl)) ?_
  intro W base args ds gs before hval0 hW hcnd hsz0 _
  have hsz : (DataW.weightsEach Try.prog (Try.f6.params.toList ++ Rows.fifoBackSpec.plain.varTypes Try.prog) (ds ++ gs)).all (· ≤ reachBytes) = true := hsz0
  have hval : ∀ (j : Nat) t v, Try.f6.params[j]? = some t → args[j]? = some v → Value.okWide Try.prog W .any base t v := hval0
  have hW' := hW
  obtain ⟨p, q, hA0, hV, rfl, hfz, hnd⟩ := hW
  have hA : DataW.TrodAll enc Try.prog W 0 (fun _ => true) true Try.f6.params.toList args.toList ds p := hA0
  rw [Try.params6] at hA hval hsz
  obtain ⟨v0, vs0, d0, ds0, p0, q0, hargs, rfl, rfl, h0, r0⟩ := trodAll_cons hA
  obtain ⟨v1, vs1, d1, ds1, p1, q1, rfl, rfl, rfl, h1, r1⟩ := trodAll_cons r0
  obtain ⟨rfl, rfl, rfl⟩ := trodAll_nil r1
  obtain rfl : args = #[v0, v1] := by cases args; simp_all
  obtain ⟨rfl, rfl⟩ := trodVars_none hV
  have k0 := h0
  have lt0 : ∀ x ∈ p0, x.block < W.heap.size := by obtain ⟨m, hm⟩ := k0; exact DataW.trod_lt m _ _ _ hm
  have W0 := Op.weights_of hsz (j := 0) (t := 22) (d := d0) rfl rfl
  obtain ⟨A0, len0, cap0, rfl⟩ := okWide_slice Try.underlying22 (hval 0 22 v0 rfl rfl)
  obtain ⟨f0, hf0⟩ := h0
  obtain ⟨a0, hK0, hG0, hM0⟩ := Op.opens_slice Try.underlying22 (by kernel_rfl) opensW H enc W _ true f0 _ (d0, p0) hf0 W0
  obtain ⟨A', c', he0, hc0, hC0⟩ := hK0
  obtain ⟨rfl, rfl, rfl⟩ : A0 = A' ∧ len0 = a0.length ∧ cap0 = c' := by simpa [Value.cells] using he0
  have k1 := h1
  have lt1 : ∀ x ∈ p1, x.block < W.heap.size := by obtain ⟨m, hm⟩ := k1; exact DataW.trod_lt m _ _ _ hm
  have W1 := Op.weights_of hsz (j := 1) (t := 51) (d := d1) rfl rfl
  obtain ⟨cs1, rfl, sz1⟩ := okWide_struct Try.underlying51 (hval 1 51 v1 rfl rfl)
  obtain ⟨f1, hf1⟩ := h1
  obtain ⟨a1, hK1, hG1, hM1⟩ := opensAc H enc W _ true f1 _ (d1, p1) hf1 W1
  clear hA0 hval0 hsz0 hsz
  refine (fifoBack.walk W A0 cap0 a0 hc0 hC0 hG0 cs1 a1 hK1 hG1).mono fun e W' ⟨he, bel⟩ => ?_
  subst he
  exact ⟨_, rfl, _, _, _, [], _, [], hW', trodAll_mk1 (shut_bool Try.underlying4 _), (trodAll_cons_mk (Below.trod fifoBack.laidOut (by kernel_rfl) (of_decide_eq_true (by kernel_rfl)) k0 bel lt0) (trodAll_cons_mk (Below.trod fifoBack.laidOut (by kernel_rfl) (of_decide_eq_true (by kernel_rfl)) k1 bel lt1) trodAll_mk0)), rfl, bel.frame _, fun h => by cases h⟩
theorem fifoBack_holds : Rows.FifoBackSaid :=
  OpenClaim.holds_of_wide 6 Try.f6 rfl rfl rfl rfl rfl rfl rfl ⟨rfl, rfl, rfl, rfl, rfl⟩ rfl rfl rfl rfl rfl (by kernel_rfl) Try.func6 (by kernel_rfl)
    (of_decide_eq_true (by kernel_rfl)) (by unfold Func.isWrapper; first | (rw [if_pos (by decide +kernel)]; kernel_rfl) | (rw [if_neg (by decide +kernel)]; exact ⟨rfl, rfl⟩))
    (fun os started H enc _ => fifoBack.lifted os started H enc)
#print axioms fifoBack_holds

end Go.Proofs.Ytikoonomhojlkaa
