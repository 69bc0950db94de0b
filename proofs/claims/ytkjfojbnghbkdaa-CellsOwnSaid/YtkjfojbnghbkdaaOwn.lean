/- CellsOwn: values that are told may be spoilt, and a log and values that are handed in stay as they are. No condition. -/
import Derived.Test.YtkjfojbnghbkdaaReplay
import Derived.Test.YtkjfojbnghbkdaaFoundP
namespace Go.Proofs.Ytkjfojbnghbkdaa
open Go.RowKit Go.ChangeShapes Go.WideShapes Go.ChangeAt Go.Proofs.YtkjfojbnghbkdaaW.PrintWords
theorem Inv.new {w0 w w' : World} {b vb : Nat} {P : Nat → Prop} {m : Value} {xs : List Int} (h : Inv w0 w b vb P m xs) (k : Below w.heap.size w w') : Inv w0 w' b vb P m xs := ⟨h.cells.new k, Kd.R_below h.own k, h.below.trans (k.mono h.below.size), h.b0, h.vb0⟩
set_option maxRecDepth 100000 in
set_option maxHeartbeats 4000000 in
theorem cellsOwn.walk (w : World) (n : Int) (_ : (Lit.int .i64 n).wf = true) (A : Option Addr) (c : Nat) (xs : List COp) (_ : xs.length ≤ c) (hC : kOp.C w A xs.length xs)
    (hG : xs.length * Try.prog.bytesOf 45 ≤ reachBytes ∧ xs.length ≤ 9223372036854775807 ∧ ∀ x ∈ xs, True)
    (B : Option Addr) (d : Nat) (l : List Acc) (hd : l.length ≤ d) (hD : kAcc.C w B l.length l)
    (hG2 : l.length * Try.prog.bytesOf 28 ≤ reachBytes ∧ l.length ≤ 9223372036854775807 ∧ ∀ x ∈ l, True) :
    Calls Try.prog 11 #[.int .i64 n, .slice A xs.length c, .slice B l.length d] w fun e w' => e = .returned (.bool true) ∧ Below w.heap.size w w' := by
  have hlen := hG.2.1
  have hll : l.length * 40 ≤ 140737488355328 := by
    have h := hG2.1
    rw [show Try.prog.bytesOf 28 = 40 from by kernel_rfl] at h
    unfold reachBytes at h
    omega
  clear hG hG2
  have HC := Aside0.mk hC
  have HD := Aside0.mk hD
  clear hC hD
  have hfn := fitN_le n
  go_enter Try.func11, Try.ntmps11
  go_wp2_with fail
  refine (fit_ok n w).mono ?_
  rintro e w0 ⟨rfl, hB0⟩
  generalize fitN n = N at *
  go_wp2_with fail
  refine (new_ok N hfn w0).mono ?_
  rintro e w1 ⟨rfl, hI, hB⟩
  go_wp2_with fail
  refine (PCellsOwn.rotaref10_New.calls N _ _ w1 (refnew_ok N hfn)).mono ?_
  rintro e w2 ⟨m, rfl, hm, hB2⟩
  have hs1 := hB.size
  have hs0 := hB0.size
  have hI2 := hI.new hB2
  have hlt2 := lt_blk hI2.blk
  have hltI := lt_blk hI.blk
  have HINV : Inv w w2 (w0.heap.size + 1) w0.heap.size (fun k => k ≠ w0.heap.size + 1 ∧ k ≠ w0.heap.size) m (List.replicate N 0) := ⟨hI2, Kd.R_lower (Kd.R_mono (Kd.R_bound hm) (fun k hk => by have := hk.2.1; omega)) (by omega), below_then (below_then hB0 hB) hB2, by omega, by omega⟩
  have HV := Aside0.mk HINV
  clear hI2 hI hm hB2 hB hB0 HINV
  go_wp2
  go_loopw [9, 11, 12] (fun mv ok i wr => ∃ (k : Nat) (ys : List Int), k ≤ xs.length ∧ i = .int .i64 k ∧ ok = .bool true ∧ Aside0 (ys.length = N) ∧ Aside0 (Inv w wr (w0.heap.size + 1) w0.heap.size (fun k => k ≠ w0.heap.size + 1 ∧ k ≠ w0.heap.size) mv ys)) (fun _ _ i _ => xs.length - (intOf i).toNat)
  case atStart => exact ⟨0, _, by omega, rfl, rfl, ⟨by simp⟩, HV⟩
  case round =>
    obtain ⟨k, ys, hk, rfl, rfl, HL, HI⟩ := hrel
    by_cases hlt : k < xs.length
    · obtain ⟨ab, off, rfl, hab⟩ := C_form HC.out (by omega) (by decide)
      obtain ⟨o, ho, h0, h1, h2, h3⟩ := ops_at HC.out k hlt
      replace h0 := (HI.out.below.cell (p := ⟨ab, off + k * 4, none⟩) hab).trans h0
      replace h1 := (HI.out.below.cell (p := ⟨ab, off + k * 4 + 1, none⟩) hab).trans h1
      replace h2 := (HI.out.below.cell (p := ⟨ab, off + k * 4 + 2, none⟩) hab).trans h2
      replace h3 := (HI.out.below.cell (p := ⟨ab, off + k * 4 + 3, none⟩) hab).trans h3
      clear ho
      go_wp2_with fail
      refine (calls_any w _ _ _ _ ys o _ HI.out (by simp)).mono ?_
      rintro e w3 ⟨m', rfl, hI3', _⟩
      have hb1 := lt_blk HI.out.cells.blk
      have hb2 := lt_blk HI.out.cells.vals
      have hI3 := hI3'.mono (Q := fun k => k ≠ w0.heap.size + 1 ∧ k ≠ w0.heap.size) (fun k h => by omega)
      clear hI3' hb1 hb2
      have hl3 : (ck ys o).1.length = N := (ck_length ys o).trans HL.out
      generalize hck : ck ys o = q at hI3 hl3 ⊢
      clear hck
      obtain ⟨zs, ⟨ac, ak, ab', aa, aw⟩, sm⟩ := q
      have HL3 := Aside0.mk hl3
      have HI3 := Aside0.mk hI3
      clear hl3 hI3 h0 h1 h2 h3
      unfold Acc.val
      go_wp2_with fail
      refine (values_any _ _ zs _ HI3.out.cells).mono ?_
      rintro e w4 ⟨v, rfl, hv, hB4⟩
      obtain ⟨A4, c4, rfl, hc4, _⟩ := Kd.R_reads hv
      have HB4 := Aside0.mk hB4
      have HV4 := Aside0.mk hv
      have hl4 := HL3.out
      clear hv hB4
      go_wp2
      go_loopw [14] (fun i wq => ∃ (j : Nat) (vs : List Int), j ≤ zs.length ∧ i = .int .i64 j ∧ vs.length = zs.length ∧ Aside0 (Below w3.heap.size w3 wq) ∧ Aside0 (Kd.R (Kd.int .i64) 2 wq w3.heap.size (fun _ => True) (.slice A4 zs.length c4) vs)) (fun i _ => zs.length - (intOf i).toNat)
      case atStart => exact ⟨0, zs, by omega, rfl, rfl, HB4, HV4⟩
      case round =>
        obtain ⟨j, vs, hj, rfl, hvl, HBq, HVq⟩ := hrel
        by_cases hjt : j < zs.length
        · obtain ⟨g, cap, hge, hg0, hgl, _⟩ := Kd.R_form HVq.out (by omega)
          injection hge with e1 e2 e3
          clear e2
          subst e1 e3
          obtain ⟨hcy, hfy⟩ := Kd.R_celln 0 HVq.out (j : Int) (by omega) (by omega)
          rw [Int.toNat_natCast] at hcy hfy
          go_wp2
          go_roundw
          case rel =>
            have hp := Kd.R_putg HVq.out (j : Int) 77
            rw [Int.toNat_natCast] at hp
            exact ⟨j + 1, vs.set j 77, by omega, by go_num, by simpa using hvl, ⟨HBq.out.setCell hg0 _⟩, ⟨hp.1⟩⟩
          case measure => simp [intOf]; omega
        · have hd : decide ((j : Int) < (zs.length : Int)) = false := by simp; omega
          go_wp2
          go_roundw
          case rel =>
            exact ⟨k + 1, zs, by omega, by go_num, rfl, HL3, ⟨HI3.out.new HBq.out⟩⟩
          case measure => simp [intOf]; omega
    · have hd : decide ((k : Int) < (xs.length : Int)) = false := by simp; omega
      have hl2 : ys.length ≤ 4611686018427387904 := by have := HI.out.cells.len; omega
      have hlN : ys.length ≤ 256 := HI.out.cells.len
      go_wp2_with fail
      refine (values_any _ _ ys _ HI.out.cells).mono ?_
      rintro e w4 ⟨vin, rfl, hv, hB4⟩
      have HV4 := Aside0.mk hv
      have HB4 := Aside0.mk (HI.out.below.trans (hB4.mono HI.out.below.size))
      have HI4 := Aside0.mk (HI.out.new hB4)
      clear hv hB4 HI
      go_wp2_with (first | ((with_reducible refine gate_builtin (b := .append) (xs := #[.tmp 72, .tmp 73]) rfl ?_); at_builtin; refine Kd.R_append_rows kAcc (w0 := w4) w4.heap.size rfl (.tmp 72) (.tmp 73) 34 28 (.agg #[.int .i64 0, .int .i64 0, .int .i64 0, .int .i64 0, .bool false]) 40 rfl Try.underlying34 Try.info28 rfl (by decide) (by omega) (.slice none 0 0) ([] : List Acc) l _ _ _ (fun _ => True) (fun _ => False) rfl rfl ?aO ?aR (fun _ _ h => h) (fun _ h => h.elim) ?aF ?aB ?aS ?aL ?_; (case aR => exact Kd.C_below HD.out HB4.out); (case aB => exact Below.refl _ _); (case aF => exact (fun _ _ => trivial)); (case aO => exact Kd.R_nil _ _ _ _ _); (case aS => exact Nat.le_refl _); (case aL => simp; omega); intro v1 w5 ho hb hg hat))
      have ho' : kAcc.R 28 w5 w4.heap.size (fun _ => True) v1 l := by simpa using ho
      obtain ⟨A5, c5, rfl, hc5, hC5⟩ := Kd.R_reads ho'
      obtain ⟨A4, c4, rfl, hc4, hC4⟩ := Kd.R_reads HV4.out
      have HC5 := Aside0.mk hC5
      have HB45 := Aside0.mk hb
      have HB5 := Aside0.mk (below_then HB4.out hb)
      have hC4' := Kd.C_below hC4 hb
      clear ho ho' hg hat hC5 hC4 hb
      refine (replay_any w5 A4 c4 ys A5 c5 l hC4' HC5.out (by omega) (by omega)).mono ?_
      have hol := Nat.le_trans (rpl_length ys 0 l) hlN
      generalize rpl ys 0 l = q at hol ⊢
      obtain ⟨os, on, oe⟩ := q
      have hol' : os.length ≤ 9223372036854775807 := Nat.le_trans hol (by decide)
      replace hol : os.length ≤ 256 := hol
      rintro e w6 ⟨v6, rfl, hv6, hB6⟩
      obtain ⟨A6, c6, rfl, _, _⟩ := Kd.R_reads hv6
      have HX := Aside0.mk (And.intro hl2 (And.intro hlN (And.intro hll (And.intro hc5 hlt))))
      clear hl2 hlN hll hc5 hlt hol hd hlen hk hs1 hs0 hlt2 hltI hfn
      have HB6 := Aside0.mk hB6
      have HV6 := Aside0.mk hv6
      clear hv6 hB6 hC4' hc4
      go_wp2
      generalize Value.tuple #[Value.slice A6 os.length c6, Value.int IntKind.i64 on, Value.int IntKind.i64 oe] = z1
      generalize Value.tuple #[m, Value.int IntKind.i64 0] = z2
      generalize Value.tuple #[Value.pointer (some ⟨w0.heap.size + 1, 0, none⟩), Value.int IntKind.i64 0] = z3
      generalize Value.slice A xs.length c = z4
      generalize Value.int IntKind.i64 xs.length = z5
      generalize Value.int IntKind.i64 N = z6
      generalize Value.int IntKind.i64 n = z7
      generalize Value.int IntKind.i64 k = z8
      generalize Value.int IntKind.i64 on = z9
      generalize Value.int IntKind.i64 oe = z10
      go_loopw [20] (fun i wq => ∃ (j : Nat) (vs : List Int), j ≤ os.length ∧ i = .int .i64 j ∧ vs.length = os.length ∧ Aside0 (Below w5.heap.size w5 wq) ∧ Aside0 (Kd.R (Kd.int .i64) 2 wq w5.heap.size (fun _ => True) (.slice A6 os.length c6) vs)) (fun i _ => os.length - (intOf i).toNat)
      case atStart => exact ⟨0, _, by omega, rfl, rfl, HB6, HV6⟩
      case round =>
        obtain ⟨j, vs, hj, rfl, hvl, HBq, HVq⟩ := hrel
        by_cases hjt : j < os.length
        · obtain ⟨g, cap, hge, hg0, hgl, _⟩ := Kd.R_form HVq.out (by omega)
          injection hge with e1 e2 e3
          clear e2
          subst e1 e3
          obtain ⟨hcy, hfy⟩ := Kd.R_celln 0 HVq.out (j : Int) (by omega) (by omega)
          rw [Int.toNat_natCast] at hcy hfy
          go_wp2
          go_roundw
          case rel =>
            have hp := Kd.R_putg HVq.out (j : Int) 78
            rw [Int.toNat_natCast] at hp
            exact ⟨j + 1, vs.set j 78, by omega, by go_num, by simpa using hvl, ⟨HBq.out.setCell hg0 _⟩, ⟨hp.1⟩⟩
          case measure => simp [intOf]; omega
        · have hd : decide ((j : Int) < (os.length : Int)) = false := by simp; omega
          clear HVq hvl
          generalize hwq : wr = wq at *
          clear hwq
          have hC5q := Kd.C_below HC5.out HBq.out
          have hC2 := C_conv toF rfl (fun _ _ => toF_k) hC5q
          have hll := HX.out.2.2.1
          have hc5 := HX.out.2.2.2.1
          have hcall := PCellsFrom.cells_From.calls _ A5 c5 (l.map toF) _ wq (by rw [List.length_map]; exact hC2) (by rw [List.length_map]; exact hc5) (PCellsFrom.cells_From_eq (by rw [List.length_map]; omega))
          rw [List.length_map] at hcall
          clear hC5q hC2
          go_wp2_with fail
          refine hcall.mono ?_
          rintro e w7 ⟨v7, rfl, hv7, hB7⟩
          have hzl := PCellsFrom.frm_length (l.map toF) l.length
          generalize PCellsFrom.frm (l.map toF) l.length = zf at hv7 hzl
          have hzl2 : zf.length ≤ 9223372036854775807 := by omega
          have hll2 : l.length ≤ 9223372036854775807 := by omega
          have HB57 := HBq
          have HB7 := Aside0.mk hB7
          clear hcall hB7 HBq
          obtain ⟨A7, c7, rfl, _, _⟩ := Kd.R_reads hv7
          clear hll hc5 hzl
          have HV7 := Aside0.mk hv7
          clear hv7
          go_wp2
          go_loopw [22] (fun i ww => ∃ (j : Nat) (vs : List Int), j ≤ zf.length ∧ i = .int .i64 j ∧ vs.length = zf.length ∧ Aside0 (Below wq.heap.size wq ww) ∧ Aside0 (Kd.R (Kd.int .i64) 3 ww wq.heap.size (fun _ => True) (.slice A7 zf.length c7) vs)) (fun i _ => zf.length - (intOf i).toNat)
          case atStart => exact ⟨0, _, by omega, rfl, rfl, HB7, HV7⟩
          case round =>
            obtain ⟨j, vs, hj, rfl, hvl, HBq, HVq⟩ := hrel
            by_cases hjt : j < zf.length
            · obtain ⟨g, cap, hge, hg0, hgl, _⟩ := Kd.R_form HVq.out (by omega)
              injection hge with e1 e2 e3
              clear e2
              subst e1 e3
              obtain ⟨hcy, hfy⟩ := Kd.R_celln 0 HVq.out (j : Int) (by omega) (by omega)
              rw [Int.toNat_natCast] at hcy hfy
              go_wp2
              go_roundw
              case rel =>
                have hp := Kd.R_putg HVq.out (j : Int) 79
                rw [Int.toNat_natCast] at hp
                exact ⟨j + 1, vs.set j 79, by omega, by go_num, by simpa using hvl, ⟨HBq.out.setCell hg0 _⟩, ⟨hp.1⟩⟩
              case measure => simp [intOf]; omega
            · have hd : decide ((j : Int) < (zf.length : Int)) = false := by simp; omega
              clear HVq hvl
              have H7 := HBq
              go_wp2
              go_loopw [23] (fun i ww => ∃ (j : Nat), j ≤ l.length ∧ i = .int .i64 j ∧ Aside0 (Below wq.heap.size wq ww)) (fun i _ => l.length - (intOf i).toNat)
              case atStart => exact ⟨0, by omega, rfl, H7⟩
              case round =>
                obtain ⟨j, hj, rfl, HBz⟩ := hrel
                by_cases hjt : j < l.length
                · obtain ⟨ab, off, rfl, hab⟩ := C_form HD.out (by omega) (by decide)
                  obtain ⟨ab2, off2, rfl, hab2⟩ := C_form HC5.out (by omega) (by decide)
                  obtain ⟨a, ha, h0, h1, h2, h3, h4⟩ := accs_at HD.out j hjt
                  obtain ⟨a', ha', g0, g1, g2, g3, g4⟩ := accs_at HC5.out j hjt
                  have hbb : a' = a := by rw [ha] at ha'; exact (Option.some.inj ha').symm
                  rw [hbb] at g0 g1 g2 g3 g4
                  clear ha ha' hbb
                  have hBw : Below w.heap.size w wr := below_then (below_then HB5.out HB57.out) HBz.out
                  have hB5z : Below w5.heap.size w5 wr := below_then HB57.out HBz.out
                  replace h0 := (hBw.cell (p := ⟨ab, off + j * 5, none⟩) hab).trans h0
                  replace h1 := (hBw.cell (p := ⟨ab, off + j * 5 + 1, none⟩) hab).trans h1
                  replace h2 := (hBw.cell (p := ⟨ab, off + j * 5 + 2, none⟩) hab).trans h2
                  replace h3 := (hBw.cell (p := ⟨ab, off + j * 5 + 3, none⟩) hab).trans h3
                  replace h4 := (hBw.cell (p := ⟨ab, off + j * 5 + 4, none⟩) hab).trans h4
                  replace g0 := (hB5z.cell (p := ⟨ab2, off2 + j * 5, none⟩) hab2).trans g0
                  replace g1 := (hB5z.cell (p := ⟨ab2, off2 + j * 5 + 1, none⟩) hab2).trans g1
                  replace g2 := (hB5z.cell (p := ⟨ab2, off2 + j * 5 + 2, none⟩) hab2).trans g2
                  replace g3 := (hB5z.cell (p := ⟨ab2, off2 + j * 5 + 3, none⟩) hab2).trans g3
                  replace g4 := (hB5z.cell (p := ⟨ab2, off2 + j * 5 + 4, none⟩) hab2).trans g4
                  obtain ⟨ac, ak, ab', aa, aw⟩ := a
                  simp only at h0 h1 h2 h3 h4 g0 g1 g2 g3 g4
                  go_wp2
                  go_quiet (fail)
                  go_wp2
                  go_roundw
                  case rel => exact ⟨j + 1, by omega, by go_num, ⟨below_drewN HBz.out _⟩⟩
                  case measure => simp [intOf]; omega
                · have hd : decide ((j : Int) < (l.length : Int)) = false := by simp; omega
                  have hB4z : Below w4.heap.size w4 wr := below_then (below_then HB45.out HB57.out) HBz.out
                  have HIz := Aside0.mk (HI4.out.new hB4z)
                  have hvz := Kd.R_below HV4.out hB4z
                  have HVZ := Aside0.mk hvz
                  clear hvz hB4z
                  go_wp2_with fail
                  refine (values_any _ _ ys _ HIz.out.cells).mono ?_
                  rintro e w9 ⟨v9, rfl, hv9, hB9⟩
                  have hm9 := Kd.R_below HIz.out.own hB9
                  have hn9 := Kd.R_below HVZ.out hB9
                  go_wp2_with fail
                  refine (same_ok w9 v9 _ _ hv9 hm9 HX.out.1).mono ?_
                  rintro e wa ⟨rfl, hBa⟩
                  have hma := Kd.R_below hm9 hBa
                  have hna := Kd.R_below hn9 hBa
                  go_wp2_with fail
                  refine (same_ok wa _ _ _ hna hma HX.out.1).mono ?_
                  rintro e wb ⟨rfl, hBb⟩
                  go_wp2_with fail
                  refine (awake_any wb).mono ?_
                  rintro e wc ⟨rfl, hBc⟩
                  go_wp2
                  go_ret
                  exact ⟨rfl, HIz.out.below.trans ((below_then (below_then (below_then hB9 hBa) hBb) hBc).mono HIz.out.below.size)⟩
theorem cellsOwn.own : ownKnob Try.prog.godebug = none := by kernel_rfl
theorem cellsOwn.laidOut : laidOutB Try.prog = true := by kernel_rfl
set_option maxRecDepth 100000 in
set_option maxHeartbeats 1000000 in
theorem cellsOwn.lifted (os : Os) (started : os.Started) (H : Type) (enc : TypeId × Value → H)
    : ReturnsInHanded {} Try.checked os 11 .any (Rows.cellsOwnSpec.pre6 enc Try.prog Try.f11 Rows.cellsOwnRow.domain false) (Rows.cellsOwnSpec.post enc Try.prog Try.f11 false true false false) := by
  refine returnsInHanded_of_change_sized (C := Try.checked) cellsOwn.own started (by kernel_rfl) Try.func11
    (ChangeSpec.witness6 (enc := enc) (C := Try.checked) false ⟨#[], #[.int .i64 0, .slice none 0 0, .slice none 0 0], []⟩ 8 (by kernel_rfl) (by kernel_rfl) (by kernel_rfl) (by kernel_rfl)) ?_
  intro W base args ds gs before hval0 hW hcnd hsz0 _
  have hsz : (DataW.weightsEach Try.prog (Try.f11.params.toList ++ Rows.cellsOwnSpec.plain.varTypes Try.prog) (ds ++ gs)).all (· ≤ reachBytes) = true := hsz0
  have hval : ∀ (j : Nat) t v, Try.f11.params[j]? = some t → args[j]? = some v → Value.okWide Try.prog W .any base t v := hval0
  have hW' := hW
  obtain ⟨p, q, hA0, hV, rfl, hfz, hnd⟩ := hW
  have hA : DataW.TrodAll enc Try.prog W 0 (fun _ => true) true Try.f11.params.toList args.toList ds p := hA0
  rw [Try.params11] at hA hval hsz
  obtain ⟨v0, vs0, d0, ds0, p0, q0, hargs, rfl, rfl, h0, r0⟩ := trodAll_cons hA
  obtain ⟨v1, vs1, d1, ds1, p1, q1, rfl, rfl, rfl, h1, r1⟩ := trodAll_cons r0
  obtain ⟨v2, vs2, d2, ds2, p2, q2, rfl, rfl, rfl, h2, r2⟩ := trodAll_cons r1
  obtain ⟨rfl, rfl, rfl⟩ := trodAll_nil r2
  obtain rfl : args = #[v0, v1, v2] := by cases args; simp_all
  obtain ⟨rfl, rfl⟩ := trodVars_none hV
  have k0 := h0
  have lt0 : ∀ x ∈ p0, x.block < W.heap.size := by obtain ⟨m, hm⟩ := k0; exact DataW.trod_lt m _ _ _ hm
  have W0 := Op.weights_of hsz (j := 0) (t := 3) (d := d0) rfl rfl
  obtain ⟨n0, rfl⟩ := okWide_int Try.underlying3 (hval 0 3 v0 rfl rfl)
  obtain ⟨f0, hf0⟩ := h0
  obtain ⟨a0, hK0, hG0, hM0⟩ := Op.opens_int Try.underlying3 H enc W _ true f0 _ (d0, p0) hf0 W0
  obtain rfl : n0 = a0 := by have := hK0; simpa [Value.cells, Kd.int, Kd.scalar] using this
  have k1 := h1
  have lt1 : ∀ x ∈ p1, x.block < W.heap.size := by obtain ⟨m, hm⟩ := k1; exact DataW.trod_lt m _ _ _ hm
  have W1 := Op.weights_of hsz (j := 1) (t := 50) (d := d1) rfl rfl
  obtain ⟨A1, len1, cap1, rfl⟩ := okWide_slice Try.underlying50 (hval 1 50 v1 rfl rfl)
  obtain ⟨f1, hf1⟩ := h1
  obtain ⟨a1, hK1, hG1, hM1⟩ := Op.opens_slice Try.underlying50 (by kernel_rfl) (Op.opens_mono opensOp (fun _ _ => trivial) (fun _ => Nat.le_refl _)) H enc W _ true f1 _ (d1, p1) hf1 W1
  obtain ⟨A', c', he1, hc1, hC1⟩ := hK1
  obtain ⟨rfl, rfl, rfl⟩ : A1 = A' ∧ len1 = a1.length ∧ cap1 = c' := by simpa [Value.cells] using he1
  have k2 := h2
  have lt2 : ∀ x ∈ p2, x.block < W.heap.size := by obtain ⟨m, hm⟩ := k2; exact DataW.trod_lt m _ _ _ hm
  have W2 := Op.weights_of hsz (j := 2) (t := 34) (d := d2) rfl rfl
  obtain ⟨A2, len2, cap2, rfl⟩ := okWide_slice Try.underlying34 (hval 2 34 v2 rfl rfl)
  obtain ⟨f2, hf2⟩ := h2
  obtain ⟨a2, hK2, hG2, hM2⟩ := Op.opens_slice Try.underlying34 (by kernel_rfl) opensAcc H enc W _ true f2 _ (d2, p2) hf2 W2
  obtain ⟨A', c', he2, hc2, hC2⟩ := hK2
  obtain ⟨rfl, rfl, rfl⟩ : A2 = A' ∧ len2 = a2.length ∧ cap2 = c' := by simpa [Value.cells] using he2
  clear hA0 hval0 hsz0 hsz
  refine (cellsOwn.walk W n0 hG0 A1 cap1 a1 hc1 hC1 hG1 A2 cap2 a2 hc2 hC2 hG2).mono fun e W' ⟨he, bel⟩ => ?_
  subst he
  exact ⟨_, rfl, _, _, _, [], _, [], hW', trodAll_mk1 (shut_bool Try.underlying4 _), (trodAll_cons_mk (Below.trod cellsOwn.laidOut (by kernel_rfl) (of_decide_eq_true (by kernel_rfl)) k0 bel lt0) (trodAll_cons_mk (Below.trod cellsOwn.laidOut (by kernel_rfl) (of_decide_eq_true (by kernel_rfl)) k1 bel lt1) (trodAll_cons_mk (Below.trod cellsOwn.laidOut (by kernel_rfl) (of_decide_eq_true (by kernel_rfl)) k2 bel lt2) trodAll_mk0))), rfl, bel.frame _, fun h => by cases h⟩
theorem cellsOwn_holds : Rows.CellsOwnSaid :=
  OpenClaim.holds_of_wide 11 Try.f11 rfl rfl rfl rfl rfl rfl rfl ⟨rfl, rfl, rfl, rfl, rfl⟩ rfl rfl rfl rfl rfl (by kernel_rfl) Try.func11 (by kernel_rfl)
    (of_decide_eq_true (by kernel_rfl)) (by unfold Func.isWrapper; first | (rw [if_pos (by decide +kernel)]; kernel_rfl) | (rw [if_neg (by decide +kernel)]; exact ⟨rfl, rfl⟩))
    (fun os started H enc _ => cellsOwn.lifted os started H enc)
#print axioms cellsOwn_holds

end Go.Proofs.Ytkjfojbnghbkdaa
