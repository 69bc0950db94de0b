/- FifoOwn: lists that are handed in stay and are not kept; those that come out are new memory. No condition. -/
import Derived.Test.YtikoonomhojlkaaFqOw
set_option linter.unusedSimpArgs false
set_option linter.unusedVariables false
namespace Go.Proofs.Ytikoonomhojlkaa
open Go.RowKit Go.ChangeShapes Go.WideShapes Go.ChangeAt Go.Proofs.YtikoonomhojlkaaW.PrintWords Go.Proofs.YtikoonomhojlkaaW.PrintMore Go.Proofs.YtikoonomhojlkaaW.PrintLast
/-! FifoOwn -/
set_option maxRecDepth 100000 in
set_option maxHeartbeats 8000000 in
theorem FifoOwn0.walk (w : World) (A : Option Addr) (c : Nat) (l : List Wt) (hC : kW.C w A l.length l) (hc : l.length ≤ c) (hl : l.length ≤ 8796093022208) (procs room : Int) :
    Calls Try.prog 4 #[.slice A l.length c, .int .i64 procs, .int .i64 room] w fun e w' => e = .returned (.bool true) ∧ Below w.heap.size w w' := by
  have HC := Aside0.mk hC
  clear hC
  go_enter Try.func4, Try.ntmps4
  go_wp2_with ((with_reducible refine gate_dst (N := 27) rfl ?_); refine Kd.R_make kW _ TW rfl (N := 27) rfl 22 _ _ rfl l.length rfl rfl Try.underlying22 (.agg #[.int .i64 0, .int .i64 0, .int .u64 0]) 24 infoW rfl (by decide) (by omega) zWt (ok := fun _ => True) (okp := fun _ => True) (kW_mkM _ _ _ _) (fun _ hk => hk) trivial (by omega) (by simp; omega) (Below.refl _ _) (Nat.le_refl _) ?_; intro vin w1 ho hb hg hnew)
  rw [Int.toNat_natCast] at ho
  obtain ⟨g, cin, rfl, hcin⟩ : ∃ g c, vin = .slice (some ⟨g, 0, none⟩) l.length c ∧ l.length ≤ c := by
    rcases (OR.of ho).form with ⟨rfl, -⟩ | ⟨g, c, rfl, h⟩
    · obtain ⟨b, h, -⟩ := hnew
      simp [Value.ownBlock] at h
    · rw [List.length_replicate] at h ⊢
      exact ⟨g, c, rfl, h⟩
  have HI1 : Aside0 (OR w.heap.size w1 (.slice (some ⟨g, 0, none⟩) l.length cin) (fillW l 0)) := ⟨by have := OR.of ho; simpa [fillW] using this⟩
  have HB1 := Aside0.mk hb
  clear ho hb hg hnew
  go_wp2_with fail
  go_loopw [8] (fun i wr => ∃ k : Nat, k ≤ l.length ∧ i = .int .i64 k ∧ Aside0 (OR w.heap.size wr (.slice (some ⟨g, 0, none⟩) l.length cin) (fillW l k)) ∧ Aside0 (Below w.heap.size w wr)) (fun i _ => l.length - (intOf i).toNat)
  case atStart => exact ⟨0, by omega, rfl, HI1, HB1⟩
  case round =>
    clear HI1 HB1
    obtain ⟨k, hk, rfl, HI, HB⟩ := hrel
    by_cases hlt : k < l.length
    · obtain ⟨ab, off, rfl, hab⟩ := C_form HC.out (by omega) (by decide)
      obtain ⟨y, hy, e0, e1, e2⟩ := waits_at HC.out k hlt
      have e0 := (HB.out.cell (p := ⟨ab, off + k * 3, none⟩) hab).trans e0
      have e1 := (HB.out.cell (p := ⟨ab, off + k * 3 + 1, none⟩) hab).trans e1
      have e2 := (HB.out.cell (p := ⟨ab, off + k * 3 + 2, none⟩) hab).trans e2
      have hki : (0 : Int) ≤ (k : Int) := by omega
      have hkl : (k : Int) < (l.length : Int) := by omega
      obtain ⟨z, g0, g1, g2, gf, gl⟩ := HI.out.cells k hlt
      have q0 := gf (k * 3)
      have q1 := gf (k * 3 + 1)
      have q2 := gf (k * 3 + 2)
      have hs := HI.out.set k hlt y
      rw [fill_set hy] at hs
      have hgz := (HI.out.z g (by simp [Value.ownBlock])).1
      have HS := Aside0.mk hs.1
      have HBS := Aside0.mk (below_then_keep HB.out HB.out.size hs.2 (fun i e => by subst e; exact hgz))
      clear hs gf hy
      go_wp2_with fail
      go_roundw
      case rel => exact ⟨k + 1, by omega, by go_num, HS, HBS⟩
      case measure => simp [intOf]; omega
    · obtain rfl : k = l.length := by omega
      rw [fill_end] at HI
      have hgl : g < wr.heap.size := (HI.out.z g (by simp [Value.ownBlock])).2
      have hQ := qload_any wr (some ⟨g, 0, none⟩) cin l (by obtain ⟨A', c', he, -, hC⟩ := Kd.R_reads HI.out; injection he with e1 e2 e3; subst e1; exact hC) hcin hl
      go_wp2_with fail
      refine hQ.mono ?_
      clear hQ
      rintro e w2 ⟨hB2, ⟨h0, b, rfl, hQ2⟩ | ⟨h0, rfl⟩⟩
      · have HI2 := Aside0.mk (HI.out.below hB2)
        have HB2 := Aside0.mk (HB.out.trans (hB2.mono HB.out.size))
        have hRL := rload_any w2 A c l (Kd.C_below HC.out HB2.out) hc hl
        rw [h0] at hRL
        have HQ2 := Aside0.mk hQ2
        clear hB2 hQ2 h0
        generalize (loadF l []).1 = L at *
        go_wp2_with fail
        refine hRL.mono ?_
        clear hRL
        rintro e w3 ⟨vm, rfl, hR3, hB3⟩
        have hD3 := own_load HB.out HQ2.out hR3 hB3
        obtain ⟨Am, cm, hem, -, -⟩ := Kd.R_reads hR3
        subst hem
        have HI3 := Aside0.mk (HI2.out.below hB3)
        obtain ⟨v, ok, hD, hlo⟩ := hD3
        have HD3 := Aside0.mk hD
        have HG : Aside0 (¬ ok g ∧ ¬ (Value.slice Am L.length cm).ownBlock = some g) := ⟨⟨fun h => by have := hlo g (.inl h); omega, fun h => by have := hlo g (.inr h); omega⟩⟩
        have HL := Aside0.mk hD.q.g
        have hLl := hD.q.g.len
        have hqe := qeq_some b
        have hqn := qne_some b
        have HS3 := Aside0.mk (same_C (w := w3) (A := some ⟨g, 0, none⟩) (c := cin) (A' := A) (c' := c) (l := l) (by obtain ⟨A', c', he, -, hC⟩ := Kd.R_reads HI3.out; injection he with e1 e2 e3; subst e1; exact hC) hcin (Kd.C_below HC.out hD.q.below) hc hl)
        clear hR3 hB3 hD HQ2 HI2 HB2 hlo
        go_wp2_with fail
        refine HS3.out.mono ?_
        clear HS3
        rintro e w4 ⟨rfl, hB4⟩
        have HI4 := Aside0.mk (HI3.out.below hB4)
        have HD4 := Aside0.mk (HD3.out.then hB4)
        clear hB4 HI3 HD3
        go_wp2_with fail
        refine (lives_any w4).mono ?_
        rintro e w5 ⟨rfl, hB5⟩
        have HI5 := Aside0.mk (Sp.start (HI4.out.below hB5))
        have HD5 := Aside0.mk (HD4.out.then hB5)
        have hgz := (HI4.out.z g (by simp [Value.ownBlock])).1
        clear hB5 HI4 HD4 HI HB
        go_wp2_with fail
        go_loopw [13] (fun i wr => ∃ k : Nat, k ≤ l.length ∧ i = .int .i64 k ∧ Aside0 (Sp w5 w.heap.size (.slice (some ⟨g, 0, none⟩) l.length cin) (.slice (some ⟨g, 0, none⟩) l.length cin) l.length wr)) (fun i _ => l.length - (intOf i).toNat)
        case atStart => exact ⟨0, by omega, rfl, HI5⟩
        case round =>
          clear HI5
          obtain ⟨k, hk, rfl, HS⟩ := hrel
          by_cases hlt : k < l.length
          · obtain ⟨ys, hys, hry⟩ := HS.out.r
            have hki : (0 : Int) ≤ (k : Int) := by omega
            have hkl : (k : Int) < (l.length : Int) := by omega
            obtain ⟨z, g0, g1, g2, gf, gl⟩ := hry.cells k hlt
            have q0 := gf (k * 3)
            have q1 := gf (k * 3 + 1)
            have q2 := gf (k * 3 + 2)
            have HS2 := Aside0.mk (HS.out.set k hlt (⟨⟨0, 0⟩, 99⟩ : Wt))
            clear gf hry HS
            go_wp2_with fail
            go_roundw
            case rel => exact ⟨k + 1, by omega, by go_num, HS2⟩
            case measure => simp [intOf]; omega
          · obtain rfl : k = l.length := by omega
            have HD6 := Aside0.mk (HD5.out.far HS.out.k (fun k e => (show g = k by simpa [Value.ownBlock] using e) ▸ ⟨hgz, HG.out.1, HG.out.2⟩))
            clear HS HD5 HG
            have HAl := Aside0.mk (all_any HD6.out.q.q HD6.out.q.g.len)
            go_wp2_with fail
            refine HAl.out.mono ?_
            clear HAl
            rintro e w6 ⟨va, rfl, hRa, hBa⟩
            have hNa := new_row HD6.out hRa
            have HD7 := Aside0.mk (HD6.out.then hBa)
            obtain ⟨Aa, ca, hea, -, -⟩ := Kd.R_reads hRa
            subst hea
            have HAl := Aside0.mk (all_any HD7.out.q.q HD7.out.q.g.len)
            have HNa := Aside0.mk hNa
            clear hRa hBa hNa HD6
            go_wp2_with fail
            refine HAl.out.mono ?_
            clear HAl
            rintro e w7 ⟨vb, rfl, hRb, hBb⟩
            have hNb := new_row HD7.out hRb
            have HD8 := Aside0.mk (HD7.out.then hBb)
            have HRa := Aside0.mk (HNa.out.1.below hBb)
            have HRb := Aside0.mk hNb.1
            have HXa : Aside0 (∀ k, (Value.slice Aa L.length ca).ownBlock = some k → w.heap.size ≤ k ∧ ¬ ok k ∧ ¬ (Value.slice Am L.length cm).ownBlock = some k ∧ ¬ vb.ownBlock = some k) := ⟨fun k e => ⟨(HNa.out.2 k e).2.1, (HNa.out.2 k e).2.2.1, (HNa.out.2 k e).2.2.2, fun e' => by have := (hNb.2 k e').1; have := (HNa.out.1.z k e).2; omega⟩⟩
            obtain ⟨Ab, cb, heb, -, -⟩ := Kd.R_reads hRb
            subst heb
            have HSm := Aside0.mk (same_any HRa.out HD8.out.r (by omega))
            clear hRb hBb hNb HD7 HNa
            go_wp2_with fail
            refine HSm.out.mono ?_
            clear HSm
            rintro e w8 ⟨rfl, hB8⟩
            have HD8 := Aside0.mk (HD8.out.then hB8)
            have HRa := Aside0.mk (HRa.out.below hB8)
            have HRb := Aside0.mk (HRb.out.below hB8)
            have HSm := Aside0.mk (same_any HRb.out HD8.out.r (by omega))
            clear hB8
            go_wp2_with fail
            refine HSm.out.mono ?_
            clear HSm
            rintro e w9 ⟨rfl, hB9⟩
            have HD8 := Aside0.mk (HD8.out.then hB9)
            have HRa := Aside0.mk (Sp.start (HRa.out.below hB9))
            have HRb := Aside0.mk (HRb.out.below hB9)
            have hwW := HD8.out.q.below.size
            clear hB9
            go_wp2_with fail
            go_loopw [16] (fun i wr => ∃ k : Nat, k ≤ L.length ∧ i = .int .i64 k ∧ Aside0 (Sp w9 w.heap.size (.slice Aa L.length ca) (.slice Aa L.length ca) L.length wr)) (fun i _ => L.length - (intOf i).toNat)
            case atStart => exact ⟨0, by omega, rfl, HRa⟩
            case round =>
              clear HRa
              obtain ⟨k, hk, rfl, HS⟩ := hrel
              by_cases hlt : k < L.length
              · obtain ⟨xs, hx, hr⟩ := HS.out.r
                obtain ⟨g, hg⟩ : ∃ g, Aa = some (⟨g, 0, none⟩ : Addr) := by
                  rcases hr.form with ⟨he, h0⟩ | ⟨g, c', he, -⟩
                  · omega
                  · injection he with e1 e2 e3
                    exact ⟨g, e1⟩
                subst hg
                obtain ⟨ys, hys, hry⟩ := HS.out.r
                have hki : (0 : Int) ≤ (k : Int) := by omega
                have hkl : (k : Int) < (L.length : Int) := by omega
                obtain ⟨z, g0, g1, g2, gf, gl⟩ := hry.cells k hlt
                have q0 := gf (k * 3)
                have q1 := gf (k * 3 + 1)
                have q2 := gf (k * 3 + 2)
                have HS2 := Aside0.mk (HS.out.set k hlt (⟨⟨0, 0⟩, 98⟩ : Wt))
                clear gf hry HS
                go_wp2_with fail
                go_roundw
                case rel => exact ⟨k + 1, by omega, by go_num, HS2⟩
                case measure => simp [intOf]; omega
              · obtain rfl : k = L.length := by omega
                go_wp2_with fail
                go_loopw [14, 17] (fun s8 i wr => ∃ (k : Nat) (A8 : Option Addr) (c8 : Nat), k ≤ 16 ∧ i = .int .i64 k ∧ s8 = .slice A8 (L.length + k) c8 ∧ Aside0 (Sp w9 w.heap.size (.slice Aa L.length ca) (.slice A8 (L.length + k) c8) (L.length + k) wr)) (fun _ i _ => 16 - (intOf i).toNat)
                case atStart => exact ⟨0, _, _, by omega, rfl, rfl, HS⟩
                case round =>
                  clear HS
                  obtain ⟨k, A8, c8, hk, rfl, rfl, HS⟩ := hrel
                  by_cases hlt : k < 16
                  · obtain ⟨ys, hys, hry⟩ := HS.out.r
                    have hkl : (k : Int) < 16 := by omega
                    obtain ⟨nk, hnk⟩ : ∃ nk, L.length + k = nk := ⟨_, rfl⟩
                    rw [hnk] at hry HS hys ⊢
                    have HR := Aside0.mk hry
                    have hzz := Nat.le_trans hwW HS.out.k.size
                    clear hry
                    go_wp2_with ((with_reducible refine gate_builtin (b := .append) (xs := #[.tmp 110, .tmp 112]) rfl ?_); at_builtin; refine Kd.R_append kW (w0 := wr) w.heap.size rfl (.tmp 110) (.tmp 112) 22 TW (.agg #[.int .i64 0, .int .i64 0, .int .u64 0]) 24 rfl Try.underlying22 infoW rfl (by decide) (by omega) (.slice A8 nk c8) ys (⟨⟨0, 0⟩, 97⟩ : Wt) [.int .i64 0, .int .i64 0, .int .u64 97] (fun j => (Value.slice A8 nk c8).ownBlock = some j ∨ wr.heap.size ≤ j) (fun _ => False) rfl ?aX ?aM (fun _ h => h.elim) ?aF ?aO ?aB ?aS ?aL ?_; (case aX => first | rfl | exact congrArg (fun n => Value.slice (some ⟨n, 0, none⟩) 1 1) (by simp)); (case aM => exact kW_mkM _ _ _ (⟨⟨0, 0⟩, 97⟩ : Wt)); (case aF => exact fun _ h => .inr h); (case aO => exact (Kd.R_mono HR.out (fun _ h => .inl h))); (case aB => exact Below.refl _ _); (case aS => first | omega | (simp; omega)); (case aL => omega); intro v9 w9 ho hb hg hat; skip)
                    have HS9 := Aside0.mk (HS.out.app hys ho (fun _ h => h) hg)
                    obtain ⟨A9, c9, he9, -, -⟩ := Kd.R_reads ho
                    rw [List.length_append, List.length_singleton, hys, ← hnk, Nat.add_assoc] at he9
                    subst he9
                    rw [← hnk, Nat.add_assoc] at HS9
                    clear ho hb hg hat HS HR
                    go_wp2_with fail
                    go_roundw
                    case rel => first | exact ⟨k + 1, A9, c9, by omega, by go_num, rfl, HS9⟩ | (repeat apply Exists.intro); exact ⟨⟨k + 1, A9, c9, by omega, by go_num, rfl, HS9⟩, rfl⟩
                    case measure => simp [intOf]; omega
                  · obtain rfl : k = 16 := by omega
                    have HD9 := Aside0.mk (HD8.out.far HS.out.k (fun k e => ⟨(HXa.out k e).1, (HXa.out k e).2.1, (HXa.out k e).2.2.1⟩))
                    have HB9 := Aside0.mk (HRb.out.far HS.out.k (fun k e => (HXa.out k e).2.2.2))
                    have HSm := Aside0.mk (same_any HB9.out HD9.out.r (by omega))
                    have hnA : (((L.length + 16 : Nat)) : Int) = (L.length : Int) + 16 := by omega
                    clear HS HD8 HRb HXa
                    go_wp2_with fail
                    refine HSm.out.mono ?_
                    clear HSm
                    rintro e w10 ⟨rfl, hB10⟩
                    have HD10 := Aside0.mk (HD9.out.then hB10)
                    have HAl := Aside0.mk (all_any HD10.out.q.q HD10.out.q.g.len)
                    clear hB10 HB9 HD9
                    go_wp2_with fail
                    refine HAl.out.mono ?_
                    clear HAl
                    rintro e w11 ⟨v11, rfl, hR11, hB11⟩
                    have HD11 := Aside0.mk (HD10.out.then hB11)
                    have HSm := Aside0.mk (same_any hR11 HD11.out.r (by omega))
                    clear hR11 hB11 HD10
                    go_wp2_with fail
                    refine HSm.out.mono ?_
                    clear HSm
                    rintro e w12 ⟨rfl, hB12⟩
                    have HD12 := Aside0.mk (HD11.out.then hB12)
                    clear hB12 HD11
                    go_wp2_with fail
                    have HT := Aside0.mk (batch_any procs room HD12.out.q.q HD12.out.q.g.len)
                    have HGB := Aside0.mk (batchL_good procs room HD12.out.q.g)
                    obtain ⟨r, hr⟩ : ∃ r, batchL L procs room = r := ⟨_, rfl⟩
                    have HR := Aside0.mk hr
                    rw [hr] at HT HGB
                    have hrl := HGB.out.2
                    clear hr
                    refine HT.out.mono ?_
                    clear HT
                    rintro e w13 ⟨v13, u, rfl, hq13, hu13, hd13, hk13⟩
                    obtain ⟨ok2, hQ2, hU2, hX2, hM2⟩ := own_batched HD12.out hq13 hu13 hd13 hk13 HGB.out.1
                    have HX2 : Aside0 (∀ k, u.ownBlock = some k → w.heap.size ≤ k ∧ k < w13.heap.size ∧ ¬ ok2 k ∧ ¬ (Value.slice Am L.length cm).ownBlock = some k) := ⟨fun k e => ⟨(hX2 k e).2.1, (hU2.z k e).2, (hX2 k e).2.2, fun e' => by have := (HD12.out.zp k e').2.1; have := (hX2 k e).1; omega⟩⟩
                    obtain ⟨Au, cu, heu, -, -⟩ := Kd.R_reads hu13
                    subst heu
                    have HRB := Aside0.mk (rbatch_any procs room hM2 hQ2.below.size (fun k e => ((OR.of hM2).z k e).2) hLl)
                    rw [HR.out] at HRB
                    have HQ2 := Aside0.mk hQ2
                    have HU2 := Aside0.mk hU2
                    clear hq13 hu13 hd13 hk13 hQ2 hU2 hX2 hM2 HD12
                    go_wp2_with fail
                    refine HRB.out.mono ?_
                    clear HRB
                    rintro e w14 ⟨vr, u2, rfl, hr14, hu14, hB14⟩
                    have HQ14 := Aside0.mk (HQ2.out.then hB14)
                    have HU14 := Aside0.mk (HU2.out.below hB14)
                    have HR14 := Aside0.mk (OR.of hr14)
                    have HX14 : Aside0 (∀ k, (Value.slice Au r.2.1.length cu).ownBlock = some k → w.heap.size ≤ k ∧ ¬ ok2 k ∧ ¬ vr.ownBlock = some k) := ⟨fun k e => ⟨(HX2.out k e).1, (HX2.out k e).2.2.1, fun e' => (hr14.1 k e').elim (HX2.out k e).2.2.2 (fun h => by have := (HX2.out k e).2.1; omega)⟩⟩
                    obtain ⟨Ar, cr, her, -, -⟩ := Kd.R_reads hr14
                    subst her
                    obtain ⟨A2, c2, he2, -, -⟩ := Kd.R_reads hu14
                    subst he2
                    have HSm := Aside0.mk (same_any HU14.out hu14 (by omega))
                    clear hr14 hu14 hB14 HQ2 HU2 HX2
                    go_wp2_with fail
                    refine HSm.out.mono ?_
                    clear HSm
                    rintro e w15 ⟨rfl, hB15⟩
                    have HQ15 := Aside0.mk (HQ14.out.then hB15)
                    have HU15 := Aside0.mk (Sp.start (HU14.out.below hB15))
                    have HR15 := Aside0.mk (HR14.out.below hB15)
                    have hwV := HQ15.out.below.size
                    have hnB : (((r.2.1.length + 16 : Nat)) : Int) = (r.2.1.length : Int) + 16 := by omega
                    clear hB15 HQ14 HU14 HR14
                    go_wp2_with fail
                    go_loopw [23] (fun i wr => ∃ k : Nat, k ≤ r.2.1.length ∧ i = .int .i64 k ∧ Aside0 (Sp w15 w.heap.size (.slice Au r.2.1.length cu) (.slice Au r.2.1.length cu) r.2.1.length wr)) (fun i _ => r.2.1.length - (intOf i).toNat)
                    case atStart => exact ⟨0, by omega, rfl, HU15⟩
                    case round =>
                      clear HU15
                      obtain ⟨k, hk, rfl, HS⟩ := hrel
                      by_cases hlt : k < r.2.1.length
                      · obtain ⟨xs, hx, hr⟩ := HS.out.r
                        obtain ⟨g, hg⟩ : ∃ g, Au = some (⟨g, 0, none⟩ : Addr) := by
                          rcases hr.form with ⟨he, h0⟩ | ⟨g, c', he, -⟩
                          · omega
                          · injection he with e1 e2 e3
                            exact ⟨g, e1⟩
                        subst hg
                        obtain ⟨ys, hys, hry⟩ := HS.out.r
                        have hki : (0 : Int) ≤ (k : Int) := by omega
                        have hkl : (k : Int) < (r.2.1.length : Int) := by omega
                        obtain ⟨z, g0, g1, g2, gf, gl⟩ := hry.cells k hlt
                        have q0 := gf (k * 3)
                        have q1 := gf (k * 3 + 1)
                        have q2 := gf (k * 3 + 2)
                        have HS2 := Aside0.mk (HS.out.set k hlt (⟨⟨0, 0⟩, 96⟩ : Wt))
                        clear gf hry HS
                        go_wp2_with fail
                        go_roundw
                        case rel => exact ⟨k + 1, by omega, by go_num, HS2⟩
                        case measure => simp [intOf]; omega
                      · obtain rfl : k = r.2.1.length := by omega
                        go_wp2_with fail
                        go_loopw [18, 24] (fun s8 i wr => ∃ (k : Nat) (A8 : Option Addr) (c8 : Nat), k ≤ 16 ∧ i = .int .i64 k ∧ s8 = .slice A8 (r.2.1.length + k) c8 ∧ Aside0 (Sp w15 w.heap.size (.slice Au r.2.1.length cu) (.slice A8 (r.2.1.length + k) c8) (r.2.1.length + k) wr)) (fun _ i _ => 16 - (intOf i).toNat)
                        case atStart => exact ⟨0, _, _, by omega, rfl, rfl, HS⟩
                        case round =>
                          clear HS
                          obtain ⟨k, A8, c8, hk, rfl, rfl, HS⟩ := hrel
                          by_cases hlt : k < 16
                          · obtain ⟨ys, hys, hry⟩ := HS.out.r
                            have hkl : (k : Int) < 16 := by omega
                            obtain ⟨nk, hnk⟩ : ∃ nk, r.2.1.length + k = nk := ⟨_, rfl⟩
                            rw [hnk] at hry HS hys ⊢
                            have HR := Aside0.mk hry
                            have hzz := Nat.le_trans hwV HS.out.k.size
                            clear hry
                            go_wp2_with ((with_reducible refine gate_builtin (b := .append) (xs := #[.tmp 158, .tmp 160]) rfl ?_); at_builtin; refine Kd.R_append kW (w0 := wr) w.heap.size rfl (.tmp 158) (.tmp 160) 22 TW (.agg #[.int .i64 0, .int .i64 0, .int .u64 0]) 24 rfl Try.underlying22 infoW rfl (by decide) (by omega) (.slice A8 nk c8) ys (⟨⟨0, 0⟩, 95⟩ : Wt) [.int .i64 0, .int .i64 0, .int .u64 95] (fun j => (Value.slice A8 nk c8).ownBlock = some j ∨ wr.heap.size ≤ j) (fun _ => False) rfl ?aX ?aM (fun _ h => h.elim) ?aF ?aO ?aB ?aS ?aL ?_; (case aX => first | rfl | exact congrArg (fun n => Value.slice (some ⟨n, 0, none⟩) 1 1) (by simp)); (case aM => exact kW_mkM _ _ _ (⟨⟨0, 0⟩, 95⟩ : Wt)); (case aF => exact fun _ h => .inr h); (case aO => exact (Kd.R_mono HR.out (fun _ h => .inl h))); (case aB => exact Below.refl _ _); (case aS => first | omega | (simp; omega)); (case aL => omega); intro v9 w9 ho hb hg hat; skip)
                            have HS9 := Aside0.mk (HS.out.app hys ho (fun _ h => h) hg)
                            obtain ⟨A9, c9, he9, -, -⟩ := Kd.R_reads ho
                            rw [List.length_append, List.length_singleton, hys, ← hnk, Nat.add_assoc] at he9
                            subst he9
                            rw [← hnk, Nat.add_assoc] at HS9
                            clear ho hb hg hat HS HR
                            go_wp2_with fail
                            go_roundw
                            case rel => first | exact ⟨k + 1, A9, c9, by omega, by go_num, rfl, HS9⟩ | (repeat apply Exists.intro); exact ⟨⟨k + 1, A9, c9, by omega, by go_num, rfl, HS9⟩, rfl⟩
                            case measure => simp [intOf]; omega
                          · obtain rfl : k = 16 := by omega
                            have HQ16 := Aside0.mk (HQ15.out.far HS.out.k (fun k e => ⟨(HX14.out k e).1, (HX14.out k e).2.1⟩))
                            have HR16 := Aside0.mk (HR15.out.far HS.out.k (fun k e => (HX14.out k e).2.2))
                            have HAl := Aside0.mk (all_any HQ16.out.q HQ16.out.g.len)
                            clear HS HQ15 HR15 HX14
                            go_wp2_with fail
                            refine HAl.out.mono ?_
                            clear HAl
                            rintro e w16 ⟨v16, rfl, hR16, hB16⟩
                            have HQ17 := Aside0.mk (HQ16.out.then hB16)
                            have HSm := Aside0.mk (same_any hR16 (HR16.out.below hB16) (by have := HGB.out.1.len; omega))
                            clear hR16 hB16 HR16 HQ16
                            go_wp2_with fail
                            refine HSm.out.mono ?_
                            clear HSm
                            rintro e w17 ⟨rfl, hB17⟩
                            have HB17 := Aside0.mk (HQ17.out.then hB17).below
                            clear hB17 HQ17
                            go_wp2
                            go_ret
                            exact ⟨rfl, HB17.out⟩
      · have hRL := rload_any w2 A c l (Kd.C_below HC.out (HB.out.trans (hB2.mono HB.out.size))) hc hl
        have HI2 := Aside0.mk (HI.out.below hB2)
        have HB2 := Aside0.mk (HB.out.trans (hB2.mono HB.out.size))
        clear hB2 HI HB
        generalize loadF l [] = r at *
        obtain ⟨r1, r2⟩ := r
        simp only at hRL h0 ⊢
        go_wp2_with fail
        refine hRL.mono ?_
        clear hRL
        rintro e w3 ⟨v3, rfl, hR3, hB3⟩
        have HI3 := Aside0.mk (HI2.out.below hB3)
        have HB3 := Aside0.mk (HB2.out.trans (hB3.mono HB2.out.size))
        have hqe := qeq_none
        have hqn := qne_none
        have hr1 : (r2 == 0) = false := by simpa using h0
        have hr2 : (r2 != 0) = true := by simpa using h0
        have HS3 := Aside0.mk (same_C (w := w3) (A := some ⟨g, 0, none⟩) (c := cin) (A' := A) (c' := c) (l := l) (by obtain ⟨A', c', he, -, hC⟩ := Kd.R_reads HI3.out; injection he with e1 e2 e3; subst e1; exact hC) hcin (Kd.C_below HC.out HB3.out) hc hl)
        clear hR3 hB3 HB2 HI2
        go_wp2_with fail
        refine HS3.out.mono ?_
        clear HS3
        rintro e w4 ⟨rfl, hB4⟩
        have HB4 := Aside0.mk (HB3.out.trans (hB4.mono HB3.out.size))
        clear hB4 HI3 HB3
        go_wp2_with fail
        refine (lives_any w4).mono ?_
        rintro e w5 ⟨rfl, hB5⟩
        have HB5 := Aside0.mk (HB4.out.trans (hB5.mono HB4.out.size))
        clear hB5
        go_wp2
        go_ret
        exact ⟨rfl, HB5.out⟩
theorem fifoOwn.walk (w : World) (A : Option Addr) (c : Nat) (l : List Wt) (hc : l.length ≤ c) (hC : kW.C w A l.length l) (hG : l.length * Try.prog.bytesOf 32 ≤ reachBytes ∧ l.length ≤ 9223372036854775807 ∧ ∀ x ∈ l, True) (procs : Int) (_ : (Lit.int .i64 procs).wf = true) (room : Int) (_ : (Lit.int .i64 room).wf = true) :
    Calls Try.prog 4 #[.slice A l.length c, .int .i64 procs, .int .i64 room] w fun e w' => e = .returned (.bool true) ∧ Below w.heap.size w w' := by
  have h1 : Try.prog.bytesOf 32 = 24 := by kernel_rfl
  rw [h1] at hG
  have hg := hG.1
  unfold reachBytes at hg
  exact FifoOwn0.walk w A c l hC hc (by omega) procs room
theorem fifoOwn.own : ownKnob Try.prog.godebug = none := by kernel_rfl
theorem fifoOwn.laidOut : laidOutB Try.prog = true := by kernel_rfl
set_option maxRecDepth 100000 in
set_option maxHeartbeats 1000000 in
theorem fifoOwn.lifted (os : Os) (started : os.Started) (H : Type) (enc : TypeId × Value → H)
    : ReturnsInHanded {} Try.checked os 4 .any (Rows.fifoOwnSpec.pre6 enc Try.prog Try.f4 Rows.fifoOwnRow.domain false) (Rows.fifoOwnSpec.post enc Try.prog Try.f4 false true false false) := by
  refine returnsInHanded_of_change_sized (C := Try.checked) fifoOwn.own started (by kernel_rfl) Try.func4
    (ChangeSpec.witness6 (enc := enc) (C := Try.checked) false ⟨#[], #[.slice none 0 0, .int .i64 0, .int .i64 0], []⟩ 8 (by kernel_rfl) (by kernel_rfl) (by kernel_rfl) (by kernel_rfl)) ?_
  intro W base args ds gs before hval0 hW hcnd hsz0 _
  have hsz : (DataW.weightsEach Try.prog (Try.f4.params.toList ++ Rows.fifoOwnSpec.plain.varTypes Try.prog) (ds ++ gs)).all (· ≤ reachBytes) = true := hsz0
  have hval : ∀ (j : Nat) t v, Try.f4.params[j]? = some t → args[j]? = some v → Value.okWide Try.prog W .any base t v := hval0
  have hW' := hW
  obtain ⟨p, q, hA0, hV, rfl, hfz, hnd⟩ := hW
  have hA : DataW.TrodAll enc Try.prog W 0 (fun _ => true) true Try.f4.params.toList args.toList ds p := hA0
  rw [Try.params4] at hA hval hsz
  obtain ⟨v0, vs0, d0, ds0, p0, q0, hargs, rfl, rfl, h0, r0⟩ := trodAll_cons hA
  obtain ⟨v1, vs1, d1, ds1, p1, q1, rfl, rfl, rfl, h1, r1⟩ := trodAll_cons r0
  obtain ⟨v2, vs2, d2, ds2, p2, q2, rfl, rfl, rfl, h2, r2⟩ := trodAll_cons r1
  obtain ⟨rfl, rfl, rfl⟩ := trodAll_nil r2
  obtain rfl : args = #[v0, v1, v2] := by cases args; simp_all
  obtain ⟨rfl, rfl⟩ := trodVars_none hV
  have k0 := h0
  have lt0 : ∀ x ∈ p0, x.block < W.heap.size := by obtain ⟨m, hm⟩ := k0; exact DataW.trod_lt m _ _ _ hm
  have W0 := Op.weights_of hsz (j := 0) (t := 22) (d := d0) rfl rfl
  obtain ⟨A0, len0, cap0, rfl⟩ := okWide_slice Try.underlying22 (hval 0 22 v0 rfl rfl)
  obtain ⟨f0, hf0⟩ := h0
  obtain ⟨a0, hK0, hG0, hM0⟩ := Op.opens_slice Try.underlying22 (by kernel_rfl) opensW H enc W _ true f0 _ (d0, p0) hf0 W0
  obtain ⟨A', c', he0, hc0, hC0⟩ := hK0
  obtain ⟨rfl, rfl, rfl⟩ : A0 = A' ∧ len0 = a0.length ∧ cap0 = c' := by simpa [Value.cells] using he0
  have k1 := h1
  have lt1 : ∀ x ∈ p1, x.block < W.heap.size := by obtain ⟨m, hm⟩ := k1; exact DataW.trod_lt m _ _ _ hm
  have W1 := Op.weights_of hsz (j := 1) (t := 3) (d := d1) rfl rfl
  obtain ⟨n1, rfl⟩ := okWide_int Try.underlying3 (hval 1 3 v1 rfl rfl)
  obtain ⟨f1, hf1⟩ := h1
  obtain ⟨a1, hK1, hG1, hM1⟩ := Op.opens_int Try.underlying3 H enc W _ true f1 _ (d1, p1) hf1 W1
  obtain rfl : n1 = a1 := by have := hK1; simpa [Value.cells, Kd.int, Kd.scalar] using this
  have k2 := h2
  have lt2 : ∀ x ∈ p2, x.block < W.heap.size := by obtain ⟨m, hm⟩ := k2; exact DataW.trod_lt m _ _ _ hm
  have W2 := Op.weights_of hsz (j := 2) (t := 3) (d := d2) rfl rfl
  obtain ⟨n2, rfl⟩ := okWide_int Try.underlying3 (hval 2 3 v2 rfl rfl)
  obtain ⟨f2, hf2⟩ := h2
  obtain ⟨a2, hK2, hG2, hM2⟩ := Op.opens_int Try.underlying3 H enc W _ true f2 _ (d2, p2) hf2 W2
  obtain rfl : n2 = a2 := by have := hK2; simpa [Value.cells, Kd.int, Kd.scalar] using this
  clear hA0 hval0 hsz0 hsz
  refine (fifoOwn.walk W A0 cap0 a0 hc0 hC0 hG0 n1 hG1 n2 hG2).mono fun e W' ⟨he, bel⟩ => ?_
  subst he
  exact ⟨_, rfl, _, _, _, [], _, [], hW', trodAll_mk1 (shut_bool Try.underlying4 _), (trodAll_cons_mk (Below.trod fifoOwn.laidOut (by kernel_rfl) (of_decide_eq_true (by kernel_rfl)) k0 bel lt0) (trodAll_cons_mk (Below.trod fifoOwn.laidOut (by kernel_rfl) (of_decide_eq_true (by kernel_rfl)) k1 bel lt1) (trodAll_cons_mk (Below.trod fifoOwn.laidOut (by kernel_rfl) (of_decide_eq_true (by kernel_rfl)) k2 bel lt2) trodAll_mk0))), rfl, bel.frame _, fun h => by cases h⟩
theorem fifoOwn_holds : Rows.FifoOwnSaid :=
  OpenClaim.holds_of_wide 4 Try.f4 rfl rfl rfl rfl rfl rfl rfl ⟨rfl, rfl, rfl, rfl, rfl⟩ rfl rfl rfl rfl rfl (by kernel_rfl) Try.func4 (by kernel_rfl)
    (of_decide_eq_true (by kernel_rfl)) (by unfold Func.isWrapper; first | (rw [if_pos (by decide +kernel)]; kernel_rfl) | (rw [if_neg (by decide +kernel)]; exact ⟨rfl, rfl⟩))
    (fun os started H enc _ => fifoOwn.lifted os started H enc)
#print axioms fifoOwn_holds

end Go.Proofs.Ytikoonomhojlkaa
