/- PolicyGrows: more edges take no path away. Where what is read is of bulk at most 1048576. -/
import Derived.Test.YtefkdicejhjfoaaGrowsP
namespace Go.Proofs.Ytefkdicejhjfoaa
open Go.RowKit Go.ChangeShapes Go.WideShapes Go.ChangeAt Go.Proofs.YtefkdicejhjfoaaW.PrintWords Go.Proofs.YtefkdicejhjfoaaW.PrintMore Go.Proofs.Ytefkdicejhjfoaa.PPolicyPaths
theorem info_35 : (Try.prog.info? 35).map (fun i => (i.zero, i.size, i.bytes)) = some (some (.agg #[.int .i64 0, .int .i64 0]), 2, 16) := by kernel_rfl
theorem edge_at {w : World} {b off : Nat} {n : Nat} {xs : List S35} (h : k35.C w (some ⟨b, off, none⟩) n xs) (i : Nat) (hi : i < n) : ∃ e, xs[i]? = some e ∧ w.cell? ⟨b, off + i * 2, none⟩ = some (.int .i64 e.f0) ∧ w.cell? ⟨b, off + i * 2 + 1, none⟩ = some (.int .i64 e.f1) := by
  obtain ⟨ad, e, hc⟩ := h.2.2 (by omega)
  injection e with e
  subst e
  have hl : i < xs.length := by have := h.1; omega
  obtain ⟨cs, hcl, hK, hat⟩ := hc i _ (List.getElem?_eq_getElem hl)
  obtain ⟨_, _, rfl, rfl, rfl⟩ := hK
  refine ⟨_, List.getElem?_eq_getElem hl, ?_, ?_⟩
  · have := hat 0 _ rfl; rw [adds] at this; exact this
  · have := hat 1 _ rfl; rw [adds, ← Nat.add_assoc] at this; exact this
theorem len_sum (xs : List S35) : xs.length ≤ (xs.map (fun _ => 3)).sum + 1 := by
  have : ∀ xs : List S35, xs.length ≤ (xs.map (fun _ => 3)).sum := fun xs => by
    induction xs with
    | nil => exact Nat.zero_le _
    | cons x xs ih => rw [List.map_cons, List.sum_cons, List.length_cons]; omega
  have := this xs
  omega
theorem aboveP_err (D : Int) (es : List S35) (of : Int) : (aboveP D es of).2 = lookedP D es [of] := by
  unfold aboveP
  split
  · rename_i h; exact h.symm
  · rfl
theorem above_more {D : Int} {es more : List S35} {a : Int} (h : lookedP D es [a] = 0) (h2 : lookedP D (es ++ more) [a] = 0) : (aboveP D es a).1.Sublist (aboveP D (es ++ more) a).1 ∧ 0 < (aboveP D es a).1.length ∧ (aboveP D es a).1.length ≤ 16 ∧ (aboveP D (es ++ more) a).1.length ≤ 16 := by
  obtain ⟨D', rfl, h1, h3, hf, hof⟩ := looked_zero h
  obtain ⟨o, rfl, ho⟩ := hof a (by simp)
  rw [aboveP, aboveP, if_pos h, if_pos h2, Int.toNat_natCast]
  refine ⟨above_sub (fun n => rchB_more) _, above_self ho, ?_, ?_⟩
  · exact Nat.le_trans (aboveL_length _ _ _) h3
  · exact Nat.le_trans (aboveL_length _ _ _) h3
theorem rd_at {xs : List Int} {i : Nat} (h : i < xs.length) : xs[i]? = some (rd xs i) := by
  have he : xs[i]? = some xs[i] := List.getElem?_eq_getElem h
  rw [he]
  simp [rd, List.getD_eq_getElem?_getD, he]
set_option maxRecDepth 100000 in
set_option maxHeartbeats 4000000 in
theorem policyGrows.walk (w : World) (cs : Array Value) (g : Int × List S35) (hK : kG.K w g cs.toList) (hG : g.2.length * 16 ≤ reachBytes) (A : Option Addr) (c : Nat) (more : List S35) (hc : more.length ≤ c) (hM : k35.C w A more.length more) (_ : more.length * Try.prog.bytesOf 35 ≤ reachBytes ∧ more.length ≤ 9223372036854775807 ∧ ∀ x ∈ more, True) (a : Int) (_ : (Lit.int .i64 a).wf = true) (hMM : g.2.length + more.length + 1 ≤ 1048576) :
    Calls Try.prog 6 #[.agg cs, .slice A more.length c, .int .i64 a] w fun e w' => e = .returned (.bool true) ∧ Below w.heap.size w w' := by
  obtain ⟨B, d, hcs, hd, hC⟩ := kG_open hK
  obtain rfl : cs = #[.int .i64 g.1, .slice B g.2.length d] := Array.toList_inj.1 hcs
  clear hK hcs
  obtain ⟨D, es⟩ := g
  have hl : es.length < 8796093022208 := by unfold reachBytes at hG; simp only at hG; omega
  simp only at hd hC
  have HC := Aside0.mk hC
  have HM := Aside0.mk hM
  clear hM
  replace hMM : es.length + more.length + 1 ≤ 1048576 := hMM
  clear hC hG
  go_enter Try.func6, Try.ntmps6
  go_wp2_with fail
  have hB0 : Below w.heap.size w (w.alloc (.cells #[.int .i64 D, .slice B es.length d] 24)) := below_al (Below.refl _ _) _
  have hb : (w.alloc (.cells #[.int .i64 D, .slice B es.length d] 24)).heap[w.heap.size]? = some (.cells #[.int .i64 D, .slice B es.length d] 24 (0, 0)) := blk_new _ _
  generalize w.alloc (.cells #[.int .i64 D, .slice B es.length d] 24) = W at *
  refine (rotalaw17_edges.calls (es.length + 1) B d es es W (Kd.C_below HC.out hB0) hd (edges_f hl (Nat.le_refl _))).mono ?_
  rintro e w1 ⟨v, rfl, hv, hB1⟩
  have HV : Aside0 (Kd.R k35 35 w1 W.heap.size (fun _ => True) v (es ++ more.take 0)) := ⟨by simpa using hv⟩
  have HB1 := Aside0.mk hB1
  clear hv hB1
  go_wp2
  go_loopw [7, 8] (fun v i wr => ∃ (k : Nat), k ≤ more.length ∧ i = .int .i64 k ∧ Aside0 (Below W.heap.size W wr) ∧ Aside0 (Kd.R k35 35 wr W.heap.size (fun _ => True) v (es ++ more.take k))) (fun _ i _ => more.length - (intOf i).toNat)
  case atStart => exact ⟨0, by omega, rfl, HB1, HV⟩
  case round =>
    obtain ⟨k, hk, rfl, HB, HR⟩ := hrel
    by_cases hlt : k < more.length
    · obtain ⟨ab, off, rfl, hab⟩ := C_form HM.out (by omega) (by decide)
      obtain ⟨e, he, h0, h1⟩ := edge_at HM.out k hlt
      have hBw := hB0.trans (HB.out.mono hB0.size)
      replace h0 := (hBw.cell (p := ⟨ab, off + k * 2, none⟩) hab).trans h0
      replace h1 := (hBw.cell (p := ⟨ab, off + k * 2 + 1, none⟩) hab).trans h1
      have hst : es ++ more.take (k + 1) = (es ++ more.take k) ++ [e] := by
        rw [List.take_add_one, he, List.append_assoc]
        rfl
      have HST := Aside0.mk hst
      have hll : (es ++ more.take k).length ≤ 1048576 := by rw [List.length_append, List.length_take]; omega
      generalize es ++ more.take k = acc at *
      clear hst he hBw
      obtain ⟨e0, e1⟩ := e
      simp only at h0 h1
      go_wp2_with (first | ((with_reducible refine gate_builtin (b := .append) (xs := #[.tmp 24, .tmp 29]) rfl ?_); at_builtin; refine Kd.R_append k35 (w0 := W) W.heap.size rfl (.tmp 24) (.tmp 29) 22 35 (.agg #[.int .i64 0, .int .i64 0]) 16 rfl Try.underlying22 info_35 rfl (by decide) (by omega) u7 acc (⟨e0, e1⟩ : S35) [.int .i64 e0, .int .i64 e1] (fun _ => True) (fun _ => False) rfl rfl ?aM (fun _ h => h.elim) ?aF ?aO ?aB ?aS ?aL ?_; (case aM => exact k35_mkM _ _ _ _); (case aF => exact fun _ _ => trivial); (case aO => exact HR.out); (case aB => exact HB.out); (case aS => exact HB.out.size); (case aL => omega); intro v1 w5 ho5 hb5 hg hat))
      go_roundw
      case rel => exact ⟨k + 1, by omega, by go_num, ⟨hb5⟩, ⟨by rw [HST.out]; exact ho5⟩⟩
      case measure => simp [intOf]; omega
    · have hd : decide ((k : Int) < (more.length : Int)) = false := by simp; omega
      have hr := HR.out
      rw [List.take_of_length_le (by omega)] at hr
      have HR2 := Aside0.mk hr
      clear hr HR
      obtain ⟨fs, hfs⟩ : ∃ fs, fs = es ++ more := ⟨_, rfl⟩
      have hfl : fs.length ≤ 1048576 := by rw [hfs, List.length_append]; omega
      have hfl2 : fs.length < 8796093022208 := by omega
      rw [← hfs] at HR2
      have HFS := Aside0.mk hfs
      clear hfs
      obtain ⟨A7, c7, rfl, hc7, hC7⟩ := Kd.R_reads HR2.out
      have HC7 := Aside0.mk hC7
      clear hC7 HV HB1 HR2
      have hB3 := below_then hB0 HB.out
      replace hb := blk_below hb HB.out
      have hlt6 := lt_blk hb
      have x0 := cell_blk hb 0
      have x1 := cell_blk hb 1
      simp at x0 x1
      have HCW6 := Aside0.mk (Kd.C_below HC.out hB3)
      go_wp2
      clear hd hlt hk hc HB
      go_region_held3 (fun w' => w'.cell? ⟨w.heap.size, 0, none⟩ = some (.int .i64 D) ∧ w'.cell? ⟨w.heap.size, 1, none⟩ = some (.slice B es.length d)) (first | (with_reducible exact ⟨(hBa6.cell (p := ⟨w.heap.size, 0, none⟩) hlt6).trans x0, (hBa6.cell (p := ⟨w.heap.size, 1, none⟩) hlt6).trans x1⟩) | (with_reducible exact ⟨(hBb6.cell (p := ⟨w.heap.size, 0, none⟩) hlt6).trans x0, (hBb6.cell (p := ⟨w.heap.size, 1, none⟩) hlt6).trans x1⟩) | (with_reducible exact ⟨x0, x1⟩) | go_keep) (first | (go_at_call 11; (with_reducible refine (edges_any B d es wr.drew (Kd.C_below HCW6.out (Below.refl _ _).drew) hd hl).mono ?_); rintro e wa6 ⟨A6, c6, rfl, hc6, hC6, hBx⟩; have hBa6 : Below wr.heap.size wr wa6 := below_then (Below.refl _ _).drew hBx; have HC6 := Aside0.mk hC6; clear hC6 hBx) | (go_at_call 15; (with_reducible refine (above_any D A6 c6 es a wa6 HC6.out hc6 hl).mono ?_); rintro e wb6 ⟨vb6, rfl, hvb6, hBx⟩; have hBb6 : Below wr.heap.size wr wb6 := below_then hBa6 hBx; have HVB6 := Aside0.mk hvb6; clear hvb6 hBx))
      clear x0 x1 hlt6
      replace hb := blk_below hb hBb6
      have hB5 := below_then hB3 hBb6
      have hC8 := Kd.C_below HC7.out hBb6
      have HC8 := Aside0.mk hC8
      clear hC8 hBb6 hBa6 hB3 HC6 HC7
      have hlt8 := lt_blk hb
      have x0 := cell_blk hb 0
      have x1 := cell_blk hb 1
      simp at x0 x1
      have HCW8 := Aside0.mk (Kd.C_below HC.out hB5)
      go_wp2
      go_region_held3 (fun w' => w'.cell? ⟨w.heap.size, 0, none⟩ = some (.int .i64 D)) (first | (with_reducible exact (hBa8.cell (p := ⟨w.heap.size, 0, none⟩) hlt8).trans x0) | (with_reducible exact (hBb8.cell (p := ⟨w.heap.size, 0, none⟩) hlt8).trans x0) | (with_reducible exact x0) | go_keep) (first | (go_at_call 11; (with_reducible refine (edges_any A7 c7 fs wb6.drew (Kd.C_below HC8.out (Below.refl _ _).drew) hc7 hfl2).mono ?_); rintro e wa8 ⟨A8, c8, rfl, hc8, hC8, hBx⟩; have hBa8 : Below wb6.heap.size wb6 wa8 := below_then (Below.refl _ _).drew hBx; have HC9 := Aside0.mk hC8; clear hC8 hBx) | (go_at_call 15; (with_reducible refine (above_any D A8 c8 fs a wa8 HC9.out hc8 hfl2).mono ?_); rintro e wb8 ⟨vb8, rfl, hvb8, hBx⟩; have hBb8 : Below wb6.heap.size wb6 wb8 := below_then hBa8 hBx; have HVB8 := Aside0.mk hvb8; clear hvb8 hBx))
      have hB9 := below_then hB5 hBb8
      have HV6 := Aside0.mk (Kd.R_below HVB6.out hBb8)
      have HLM := Aside0.mk (looked_more D es more [a])
      clear HVB6 x0 x1 hlt8 hb HCW6 HCW8 HC8 HC9 hBa8
      have hpp := aboveP_err D es a
      have hqq := aboveP_err D fs a
      have HAM : Aside0 (lookedP D es [a] = 0 → lookedP D fs [a] = 0 → (aboveP D es a).1.Sublist (aboveP D fs a).1 ∧ 0 < (aboveP D es a).1.length ∧ (aboveP D es a).1.length ≤ 16 ∧ (aboveP D fs a).1.length ≤ 16) := ⟨by rw [HFS.out]; exact above_more⟩
      rw [← HFS.out] at HLM
      rw [← hpp, ← hqq] at HLM HAM
      clear hpp hqq HFS
      generalize (aboveP D es a).2 = p at *
      generalize (aboveP D fs a).2 = q at *
      generalize (aboveP D es a).1 = was at *
      generalize (aboveP D fs a).1 = now at *
      by_cases h1 : p = 0
      · subst h1
        by_cases h2 : q = 0
        · subst h2
          obtain ⟨hsub, hpos, hl1, hl2⟩ := HAM.out rfl rfl
          obtain ⟨A6, c6, rfl, hc6, hC6⟩ := Kd.R_reads HV6.out
          obtain ⟨A8, c8, rfl, hc8, hC8⟩ := Kd.R_reads HVB8.out
          have HC6 := Aside0.mk hC6
          have HC8 := Aside0.mk hC8
          have HS := Aside0.mk hsub
          have HB9 := Aside0.mk hB9
          clear hsub hC6 hC8 HAM HLM hB9 hBb8
          go_wp2
          go_loopw [13, 14] (fun k i wr => ∃ (kk ii : Nat), ii ≤ was.length ∧ kk ≤ now.length ∧ k = .int .i64 kk ∧ i = .int .i64 ii ∧ Aside0 ((was.drop ii).Sublist (now.drop kk)) ∧ Aside0 (Below wb8.heap.size wb8 wr)) (fun _ i _ => was.length - (intOf i).toNat)
          case atStart => exact ⟨0, 0, by omega, by omega, rfl, rfl, ⟨by simpa using HS.out⟩, ⟨Below.refl _ _⟩⟩
          case round =>
            obtain ⟨kk, ii, hii, hkk, rfl, rfl, HSS, HBW⟩ := hrel
            by_cases hlt : ii < was.length
            · obtain ⟨wo, rfl⟩ : ∃ wo : World, wo = wr := ⟨_, rfl⟩
              obtain ⟨ab, off, rfl, hab⟩ := C_form HC6.out (by omega) (by decide)
              have H6 := Aside0.mk (ints_at HC6.out ii hlt)
              have HX : Aside0 (was[ii]? = some (rd was ii)) := ⟨rd_at hlt⟩
              go_wp2
              go_loopw [13] (fun k wr => ∃ (kk : Nat), kk ≤ now.length ∧ k = .int .i64 kk ∧ Aside0 ((was.drop ii).Sublist (now.drop kk)) ∧ Aside0 (Below wb8.heap.size wb8 wr)) (fun k _ => now.length - (intOf k).toNat)
              case atStart => exact ⟨kk, hkk, rfl, HSS, HBW⟩
              case round =>
                obtain ⟨k2, hk2, rfl, HS2, HB2⟩ := hrel
                have hin := sub_in HS2.out HX.out
                obtain ⟨ab8, off8, rfl, hab8⟩ := C_form HC8.out (by omega) (by decide)
                have h6 := (HB2.out.cell (p := ⟨ab, off + ii, none⟩) hab).trans H6.out
                have h8 := (HB2.out.cell (p := ⟨ab8, off8 + k2, none⟩) hab8).trans (ints_at HC8.out k2 hin)
                have HY : Aside0 (now[k2]? = some (rd now k2)) := ⟨rd_at hin⟩
                generalize rd now k2 = y at *
                generalize rd was ii = x at *
                by_cases hxy : y = x
                · subst hxy
                  have hS3 := Aside0.mk (sub_next HS2.out HX.out)
                  go_wp2
                  go_quiet (fail)
                  go_wp2
                  go_roundw
                  case rel => exact ⟨k2, ii + 1, by omega, hk2, rfl, by go_num, hS3, ⟨below_drewN HB2.out _⟩⟩
                  case measure => simp [intOf]; omega
                · have hb : (y != x) = true := by simpa using hxy
                  have hS3 := Aside0.mk (sub_skip HS2.out HX.out HY.out hxy)
                  clear hxy
                  go_wp2
                  go_quiet (fail)
                  go_wp2
                  go_roundw
                  case rel => exact ⟨k2 + 1, by omega, by go_num, hS3, ⟨below_drewN HB2.out _⟩⟩
                  case measure => simp [intOf]; omega
            · have hd1 : decide ((ii : Int) < (was.length : Int)) = false := by simp; omega
              have hd2 : decide ((was.length : Int) > 0) = true := by simp; omega
              have hd3 : decide (0 < was.length) = true := by simp; omega
              go_wp2_with fail
              refine (lives_any _).mono ?_
              rintro e w9 ⟨rfl, hB10⟩
              go_wp2
              go_ret
              exact ⟨rfl, below_then (below_then HB9.out HBW.out) hB10⟩
        · have hq : q = 170 := by
            rcases HLM.out with h | h
            · exact absurd h.symm h2
            · exact h
          subst hq
          clear h2 HLM HAM
          go_wp2_with fail
          refine (lives_any wb8).mono ?_
          rintro e w9 ⟨rfl, hB10⟩
          go_wp2
          go_ret
          exact ⟨rfl, below_then hB9 hB10⟩
      · have hn : (p != 0) = true := by simpa using h1
        have hor := HLM.out
        clear HLM HAM h1
        by_cases h2 : p = q
        · subst h2
          clear hor
          go_wp2_with fail
          refine (lives_any wb8).mono ?_
          rintro e w9 ⟨rfl, hB10⟩
          go_wp2
          go_ret
          exact ⟨rfl, below_then hB9 hB10⟩
        · have hq : q = 170 := hor.resolve_left h2
          have hb : (p == q) = false := by simpa using h2
          subst hq
          clear hor h2
          go_wp2_with fail
          refine (lives_any wb8).mono ?_
          rintro e w9 ⟨rfl, hB10⟩
          go_wp2
          go_ret
          exact ⟨rfl, below_then hB9 hB10⟩
theorem policyGrows.own : ownKnob Try.prog.godebug = none := by kernel_rfl
theorem policyGrows.laidOut : laidOutB Try.prog = true := by kernel_rfl
set_option maxRecDepth 100000 in
set_option maxHeartbeats 1000000 in
theorem policyGrows.lifted (os : Os) (started : os.Started) (H : Type) (enc : TypeId × Value → H)
  (F : Stop.Interp) : ReturnsInHanded {} Try.checked os 6 .any ((Rows.OpenSpec.upto Rows.policyGrowsSpec).pre6 enc Try.prog Try.f6 Rows.policyGrowsUptoRow.domain false) (((Rows.OpenSpec.upto Rows.policyGrowsSpec).at F).post enc Try.prog Try.f6 false true false false) := by
  refine returnsInHanded_of_cond_sized (C := Try.checked) (s := Rows.OpenSpec.upto Rows.policyGrowsSpec) (k := Rows.uptoSmall) rfl policyGrows.own started (by kernel_rfl) Try.func6
    (OpenSpec.witness (enc := enc) (C := Try.checked) (s := Rows.OpenSpec.upto Rows.policyGrowsSpec) (k := Rows.uptoSmall) rfl false ⟨#[], #[.agg #[.int .i64 0, .slice none 0 0], .slice none 0 0, .int .i64 0], []⟩ 8 (by kernel_rfl) (by kernel_rfl) (by kernel_rfl)
      (x := ([.agg [.lit (.int .i64 0), .nil], .nil, .lit (.int .i64 0)], [], [])) (by kernel_rfl) rfl (by kernel_rfl)) ?_
  intro W base args ds gs before hval0 hW hcnd hk hsz0 _
  have hsz : (DataW.weightsEach Try.prog (Try.f6.params.toList ++ Rows.policyGrowsSpec.plain.varTypes Try.prog) (ds ++ gs)).all (· ≤ reachBytes) = true := hsz0
  have hval : ∀ (j : Nat) t v, Try.f6.params[j]? = some t → args[j]? = some v → Value.okWide Try.prog W .any base t v := hval0
  have hW' := hW
  obtain ⟨p, q, hA0, hV, rfl, hfz, hnd⟩ := hW
  have hA : DataW.TrodAll enc Try.prog W 0 (fun _ => true) true Try.f6.params.toList args.toList ds p := hA0
  rw [Try.params6] at hA hval hsz
  obtain ⟨v0, vs0, d0, ds0, p0, q0, hargs, rfl, rfl, h0, r0⟩ := trodAll_cons hA
  obtain ⟨v1, vs1, d1, ds1, p1, q1, rfl, rfl, rfl, h1, r1⟩ := trodAll_cons r0
  obtain ⟨v2, vs2, d2, ds2, p2, q2, rfl, rfl, rfl, h2, r2⟩ := trodAll_cons r1
  obtain ⟨rfl, rfl, rfl⟩ := trodAll_nil r2
  obtain rfl : args = #[v0, v1, v2] := by cases args; simp_all
  obtain ⟨rfl, rfl⟩ := trodVars_none hV
  have k0 := h0
  have lt0 : ∀ x ∈ p0, x.block < W.heap.size := by obtain ⟨m, hm⟩ := k0; exact DataW.trod_lt m _ _ _ hm
  have W0 := Op.weights_of hsz (j := 0) (t := 24) (d := d0) rfl rfl
  obtain ⟨cs0, rfl, sz0⟩ := okWide_struct Try.underlying24 (hval 0 24 v0 rfl rfl)
  obtain ⟨f0, hf0⟩ := h0
  obtain ⟨a0, hK0, hG0, hM0⟩ := opensG H enc W _ true f0 _ (d0, p0) hf0 W0
  have k1 := h1
  have lt1 : ∀ x ∈ p1, x.block < W.heap.size := by obtain ⟨m, hm⟩ := k1; exact DataW.trod_lt m _ _ _ hm
  have W1 := Op.weights_of hsz (j := 1) (t := 22) (d := d1) rfl rfl
  obtain ⟨A1, len1, cap1, rfl⟩ := okWide_slice Try.underlying22 (hval 1 22 v1 rfl rfl)
  obtain ⟨f1, hf1⟩ := h1
  obtain ⟨a1, hK1, hG1, hM1⟩ := Op.opens_mono (Op.opens_slice Try.underlying22 (by kernel_rfl) opensEdge) (fun _ h => h) (fun xs => len_sum xs) H enc W _ true f1 _ (d1, p1) hf1 W1
  obtain ⟨A', c', he1, hc1, hC1⟩ := hK1
  obtain ⟨rfl, rfl, rfl⟩ : A1 = A' ∧ len1 = a1.length ∧ cap1 = c' := by simpa [Value.cells] using he1
  have k2 := h2
  have lt2 : ∀ x ∈ p2, x.block < W.heap.size := by obtain ⟨m, hm⟩ := k2; exact DataW.trod_lt m _ _ _ hm
  have W2 := Op.weights_of hsz (j := 2) (t := 3) (d := d2) rfl rfl
  obtain ⟨n2, rfl⟩ := okWide_int Try.underlying3 (hval 2 3 v2 rfl rfl)
  obtain ⟨f2, hf2⟩ := h2
  obtain ⟨a2, hK2, hG2, hM2⟩ := Op.opens_int Try.underlying3 H enc W _ true f2 _ (d2, p2) hf2 W2
  obtain rfl : n2 = a2 := by have := hK2; simpa [Value.cells, Kd.int, Kd.scalar] using this
  have hM : Rows.uptoBulk d0 + Rows.uptoBulk d1 + Rows.uptoBulk d2 ≤ 1048576 := by
    have := of_decide_eq_true hk
    simp only [List.append_nil, Rows.uptoBulkAll] at this
    omega
  have hMM := Nat.le_trans (Nat.add_le_add (Nat.add_le_add hM0 hM1) hM2) hM
  clear hA0 hval0 hsz0 hsz
  refine (policyGrows.walk W cs0 a0 hK0 hG0 A1 cap1 a1 hc1 hC1 hG1 n2 hG2 hMM).mono fun e W' ⟨he, bel⟩ => ?_
  subst he
  exact ⟨_, rfl, _, _, _, [], _, [], hW', trodAll_mk1 (shut_bool Try.underlying4 _), (trodAll_cons_mk (Below.trod policyGrows.laidOut (by kernel_rfl) (of_decide_eq_true (by kernel_rfl)) k0 bel lt0) (trodAll_cons_mk (Below.trod policyGrows.laidOut (by kernel_rfl) (of_decide_eq_true (by kernel_rfl)) k1 bel lt1) (trodAll_cons_mk (Below.trod policyGrows.laidOut (by kernel_rfl) (of_decide_eq_true (by kernel_rfl)) k2 bel lt2) trodAll_mk0))), rfl, bel.frame _, fun h => by cases h⟩
theorem policyGrows_holds : Rows.PolicyGrowsUptoSaid :=
  OpenClaim.holds_of_cond 6 Try.f6 rfl rfl rfl rfl rfl rfl rfl ⟨rfl, rfl, rfl, rfl, rfl⟩ rfl rfl rfl rfl rfl (by kernel_rfl) Try.func6 (by kernel_rfl)
    (of_decide_eq_true (by kernel_rfl)) (by unfold Func.isWrapper; first | (rw [if_pos (by decide +kernel)]; kernel_rfl) | (rw [if_neg (by decide +kernel)]; exact ⟨rfl, rfl⟩))
    (fun os started H enc _ F => policyGrows.lifted os started H enc F)
#print axioms policyGrows_holds

end Go.Proofs.Ytefkdicejhjfoaa
