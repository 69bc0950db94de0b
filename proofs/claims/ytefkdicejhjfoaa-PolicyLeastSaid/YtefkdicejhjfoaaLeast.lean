/- PolicyLeast: whatever closed set has a domain has all to which a path leads from it. No condition. -/
import Derived.Test.YtefkdicejhjfoaaLeastP
namespace Go.Proofs.Ytefkdicejhjfoaa
open Go.RowKit Go.ChangeShapes Go.WideShapes Go.ChangeAt Go.Proofs.YtefkdicejhjfoaaW.PrintWords Go.Proofs.YtefkdicejhjfoaaW.PrintMore Go.Proofs.Ytefkdicejhjfoaa.PPolicyPaths
theorem rem_in {a : Int} {n : Nat} (h0 : 1 ≤ n) (hn : n ≤ 16) : ∃ m : Nat, m < n ∧ wrap64 (a.tmod n + n) = a.tmod n + n ∧ (a.tmod n + n).tmod n = m := by
  have h1 : a.tmod n < n := Int.tmod_lt_of_pos a (by omega)
  have h2 : -(n : Int) < a.tmod n := by
    have h3 := Int.tmod_lt_of_pos (-a) (show (0 : Int) < n by omega)
    rw [Int.neg_tmod] at h3
    omega
  generalize a.tmod n = r at *
  refine ⟨((r + n).tmod n).toNat, ?_, by unfold wrap64; omega, ?_⟩
  · have h4 := Int.tmod_lt_of_pos (r + n) (show (0 : Int) < n by omega)
    omega
  · have h5 := Int.tmod_nonneg (a := r + n) (n : Int) (by omega)
    omega
theorem path_ok {n : Nat} {es : List S35} (h : (chk n es).2 = 0) {a b : Nat} (ha : a < n) (hb : b < n) : pathP n es a b = (rchB es a b, 0) := by
  rw [pathP, if_pos]
  rw [lookedP, if_pos h, if_neg]
  intro hh
  obtain ⟨x, hx, hb'⟩ := List.any_eq_true.1 hh
  unfold outB at hb'
  simp at hx hb'
  omega
set_option maxRecDepth 100000 in
set_option maxHeartbeats 4000000 in
theorem policyLeast.walk (w : World) (cs : Array Value) (g : Int × List S35) (hK : kG.K w g cs.toList) (hG : g.2.length * 16 ≤ reachBytes) (a : Int) (_ : (Lit.int .i64 a).wf = true) (A : Option Addr) (c : Nat) (st : List Bool) (hc : st.length ≤ c) (hS : Kd.bool.C w A st.length st) (hGS : st.length * Try.prog.bytesOf 4 ≤ reachBytes ∧ st.length ≤ 9223372036854775807 ∧ ∀ x ∈ st, True) :
    Calls Try.prog 5 #[.agg cs, .int .i64 a, .slice A st.length c] w fun e w' => e = .returned (.bool true) ∧ Below w.heap.size w w' := by
  obtain ⟨B, d, hcs, hd, hC⟩ := kG_open hK
  obtain rfl : cs = #[.int .i64 g.1, .slice B g.2.length d] := Array.toList_inj.1 hcs
  clear hK hcs
  obtain ⟨D, es⟩ := g
  have hl : es.length < 8796093022208 := by unfold reachBytes at hG; simp only at hG; omega
  simp only at hd hC
  have HC := Aside0.mk hC
  have HS := Aside0.mk hS
  have hsl : st.length ≤ 9223372036854775807 := hGS.2.1
  clear hS hGS
  clear hC hG
  go_enter Try.func5, Try.ntmps5
  go_wp2_with fail
  have hB0 : Below w.heap.size w (w.alloc (.cells #[.int .i64 D, .slice B es.length d] 24)) := below_al (Below.refl _ _) _
  have hb : (w.alloc (.cells #[.int .i64 D, .slice B es.length d] 24)).heap[w.heap.size]? = some (.cells #[.int .i64 D, .slice B es.length d] 24 (0, 0)) := blk_new _ _
  generalize w.alloc (.cells #[.int .i64 D, .slice B es.length d] 24) = W at *
  have hlt1 := lt_blk hb
  have x0 := cell_blk hb 0
  have x1 := cell_blk hb 1
  simp at x0 x1
  have HCW1 := Aside0.mk (Kd.C_below HC.out hB0)
  refine (rcheck_any D B d es W HCW1.out hd hl).mono ?_
  rintro e w1 ⟨rfl, hBx⟩
  clear x0 x1 hlt1
  replace hb := blk_below hb hBx
  have hB1 := below_then hB0 hBx
  clear hBx hB0 HCW1
  by_cases h0 : (chk D es).2 = 0
  · obtain ⟨n, rfl, hn1, hn2, hf⟩ := chk_fits h0
    obtain ⟨m, hm, e1, e2⟩ := rem_in (a := a) hn1 hn2
    have hnz : ((n : Int) == 0) = false := by simp; omega
    have HF := Aside0.mk hf
    have HK := Aside0.mk h0
    rw [h0]
    clear hf h0
    have hlt2 := lt_blk hb
    have x0 := cell_blk hb 0
    have x1 := cell_blk hb 1
    simp at x0 x1
    have HCW2 := Aside0.mk (Kd.C_below HC.out hB1)
    have hmk := run_make_row' (P := Try.prog) 37 4 (.bool false) 1 Try.underlying37 info_4 rfl .i64 .i64 n (by omega) (by omega)
    have hrow := BoolRow.made w1 n
    have hgr := blk_alloc (o' := .cells (madeCells #[.bool false] n) 4) hb
    have hBg := below_al hB1 (.cells (madeCells #[.bool false] n) 4)
    have HL : Aside0 (LR w (w1.alloc (.cells (madeCells #[.bool false] n) 4)) w1.heap.size n B es d (fun _ => false)) := ⟨⟨hBg, hgr, hrow, hlt2⟩⟩
    have hcm := hrow.cell hm
    have hfm := hrow.frozen m
    clear hrow hgr hBg
    go_wp2
    have hl1 := HL.out.set hm true
    rw [World.setCell_alloc_at _ _ _ _ _ rfl] at hl1
    have HL1 := Aside0.mk hl1
    clear hl1
    clear hcm hfm HL e1 e2
    go_loopw [13] (fun i wr => ∃ (k : Nat) (S : Nat → Bool), k ≤ n ∧ i = .int .i64 k ∧ Aside0 (S m = true) ∧ Aside0 (LR w wr w1.heap.size n B es d S)) (fun i _ => n - (intOf i).toNat)
    case atStart => exact ⟨0, _, by omega, rfl, ⟨by simp⟩, HL1⟩
    case round =>
      obtain ⟨k, S, hk, rfl, HSm, HLR⟩ := hrel
      clear HL1 x0 x1 hb
      by_cases hlt : k < n ∧ k < st.length
      · obtain ⟨hk1, hk2⟩ := hlt
        obtain ⟨ab, off, rfl, hab⟩ := C_form HS.out (by omega) (by decide)
        have hst := (HLR.out.below.cell (p := ⟨ab, off + k, none⟩) hab).trans (bools_at HS.out k hk2)
        have hck := HLR.out.row.cell hk1
        have hfk := HLR.out.row.frozen k
        have HLS := Aside0.mk (fun b => HLR.out.set hk1 b)
        have HSS : Aside0 ((if m = k then S k else S m) = true) := ⟨by
          by_cases h : m = k
          · rw [if_pos h, ← h]; exact HSm.out
          · rw [if_neg h]; exact HSm.out⟩
        have HST : Aside0 (∀ b : Bool, (S k = true → b = true) → (if m = k then b else S m) = true) := ⟨fun b hb => by
          by_cases h : m = k
          · rw [if_pos h]; exact hb (h ▸ HSm.out)
          · rw [if_neg h]; exact HSm.out⟩
        generalize rdOf false st k = q at *
        cases hs : S k with
        | true =>
          rw [hs] at hck
          clear hs HSS
          go_wp2
          go_roundw
          case rel => exact ⟨k + 1, _, by omega, by go_num, ⟨HST.out true (fun _ => rfl)⟩, ⟨HLS.out true⟩⟩
          case measure => simp [intOf]; omega
        | false =>
          rw [hs] at hck
          have HSQ := Aside0.mk (HST.out q (fun h => by rw [hs] at h; cases h))
          clear hs HSS
          go_wp2
          go_roundw
          case rel => exact ⟨k + 1, _, by omega, by go_num, HSQ, ⟨HLS.out q⟩⟩
          case measure => simp [intOf]; omega
      · have hlt2 : (k < n ∧ st.length ≤ k) ∨ n ≤ k := by omega
        clear hlt
        obtain ⟨p, hp, hlt2⟩ : ∃ p : Prop, (p ↔ (k < n ∧ st.length ≤ k)) ∧ (p ∨ n ≤ k) := ⟨_, Iff.rfl, hlt2⟩
        rcases hlt2 with hk1 | hk1
        case' inl =>
          obtain ⟨hk1, hk2⟩ := hp.1 hk1
          have hdd : decide (k < st.length) = false := by simp; omega
        case' inr =>
          have hdd : decide (k < n) = false := by simp; omega
        all_goals clear hp
        all_goals
          obtain ⟨wo, rfl⟩ : ∃ wo : World, wo = wr := ⟨_, rfl⟩
          go_wp2
          go_loopw [14] (fun i wr => ∃ (r : Nat), r ≤ n ∧ i = .int .i64 r ∧ Aside0 (LR w wr w1.heap.size n B es d (passes S (toE es) r))) (fun i _ => n - (intOf i).toNat)
          case atStart => exact ⟨0, by omega, rfl, HLR⟩
          case round =>
            obtain ⟨r, hr, rfl, HL2⟩ := hrel
            by_cases hlt : r < n
            · obtain ⟨wp, rfl⟩ : ∃ wp : World, wp = wr := ⟨_, rfl⟩
              go_wp2
              go_loopw [15] (fun i wr => ∃ (j : Nat) (T : Nat → Bool), j ≤ es.length ∧ i = .int .i64 j ∧ Aside0 (LR w wr w1.heap.size n B es d T) ∧ Aside0 (pass T (toE (es.drop j)) = passes S (toE es) (r + 1))) (fun i _ => es.length - (intOf i).toNat)
              case atStart => exact ⟨0, _, by omega, rfl, HL2, ⟨rfl⟩⟩
              case round =>
                obtain ⟨j, T, hj, rfl, HL3, HP3⟩ := hrel
                have x0 := HL3.out.x0
                have x1 := HL3.out.x1
                by_cases hjl : j < es.length
                · obtain ⟨eb, eoff, rfl, heb⟩ := C_form HC.out (by omega) (by decide)
                  obtain ⟨e, he, c0, c1⟩ := edge_at HC.out j hjl
                  have hfe := HF.out e (List.mem_of_getElem? he)
                  have HPD := Aside0.mk ((pass_drop he T).symm.trans HP3.out)
                  clear he HP3
                  obtain ⟨f0, f1⟩ := e
                  obtain ⟨h1, h2, h3, h4⟩ := hfe
                  simp only at c0 c1 h1 h2 h3 h4
                  obtain ⟨x, rfl⟩ := Int.eq_ofNat_of_zero_le h1
                  obtain ⟨y, rfl⟩ := Int.eq_ofNat_of_zero_le h3
                  have hxn : x < n := by omega
                  have hyn : y < n := by omega
                  clear h1 h2 h3 h4
                  have k0 := (HL3.out.below.cell (p := ⟨eb, eoff + j * 2, none⟩) heb).trans c0
                  have k1 := (HL3.out.below.cell (p := ⟨eb, eoff + j * 2 + 1, none⟩) heb).trans c1
                  have hcx := HL3.out.row.cell hxn
                  have hcy := HL3.out.row.cell hyn
                  have hfy := HL3.out.row.frozen y
                  have HL4 := Aside0.mk (HL3.out.set hyn true)
                  have hpd := HPD.out
                  simp only [Int.toNat_natCast] at hpd
                  clear HPD c0 c1
                  cases hs : T x with
                  | true =>
                    rw [hs] at hcx hpd
                    rw [if_pos rfl, ← upd_if] at hpd
                    have HPD := Aside0.mk hpd
                    clear hs hpd
                    go_wp2
                    go_roundw
                    case rel => exact ⟨j + 1, _, by omega, by go_num, HL4, HPD⟩
                    case measure => simp [intOf]; omega
                  | false =>
                    rw [hs] at hcx hpd
                    rw [if_neg (by decide)] at hpd
                    have HPD := Aside0.mk hpd
                    clear hs hpd
                    go_wp2
                    go_roundw
                    case rel => exact ⟨j + 1, _, by omega, by go_num, HL3, HPD⟩
                    case measure => simp [intOf]; omega
                · have hdr : es.drop j = [] := List.drop_eq_nil_of_le (by omega)
                  have hp := HP3.out
                  rw [hdr] at hp
                  have HL5 : Aside0 (LR w wr w1.heap.size n B es d (passes S (toE es) (r + 1))) := ⟨by rw [← hp]; exact HL3.out⟩
                  clear hp hdr HP3
                  go_wp2
                  go_roundw
                  case rel => exact ⟨r + 1, by omega, by go_num, HL5⟩
                  case measure => simp [intOf]; omega
            · obtain rfl : r = n := by omega
              obtain ⟨wp, rfl⟩ : ∃ wp : World, wp = wr := ⟨_, rfl⟩
              go_wp2
              go_loopw [16] (fun i wr => ∃ (k : Nat), k ≤ r ∧ i = .int .i64 k ∧ Aside0 (LR w wr w1.heap.size r B es d (passes S (toE es) r))) (fun i _ => r - (intOf i).toNat)
              case atStart => exact ⟨0, by omega, rfl, HL2⟩
              case round =>
                obtain ⟨q, hq, rfl, HL3⟩ := hrel
                have x0 := HL3.out.x0
                have x1 := HL3.out.x1
                by_cases hql : q < r
                · have HPO := Aside0.mk (path_ok HK.out hm hql)
                  have HIN := Aside0.mk (fun h => least_in HF.out hm HSm.out (d := q) h)
                  go_wp2_with fail
                  refine (edges_any B d es wr (Kd.C_below HC.out HL3.out.below) hd hl).mono ?_
                  rintro e wa4 ⟨A4, c4, rfl, hc4, hC4, hB4⟩
                  have HC4 := Aside0.mk hC4
                  clear hC4
                  go_wp2_with fail
                  refine (path_any r A4 c4 es m q wa4 HC4.out hc4 (by omega)).mono ?_
                  rw [HPO.out]
                  rintro e wb4 ⟨rfl, hB4b⟩
                  have HL4 := Aside0.mk (HL3.out.then (below_then hB4 hB4b))
                  have hcq := HL4.out.row.cell hql
                  clear hB4b hB4 x0 x1 HPO
                  generalize rchB es m q = pv at *
                  cases hs : passes S (toE es) r q with
                  | true =>
                    rw [hs] at hcq
                    clear hs HIN
                    cases pv
                    all_goals
                      go_wp2
                      go_roundw
                      case rel => first | exact ⟨q + 1, by omega, by go_num, HL4⟩ | ((repeat apply Exists.intro); exact ⟨⟨q + 1, by omega, by go_num, HL4⟩, rfl⟩)
                      case measure => simp [intOf]; omega
                  | false =>
                    cases pv with
                    | true => exact absurd (HIN.out rfl) (by rw [hs]; decide)
                    | false =>
                      rw [hs] at hcq
                      clear hs HIN
                      go_wp2
                      go_roundw
                      case rel => first | exact ⟨q + 1, by omega, by go_num, HL4⟩ | ((repeat apply Exists.intro); exact ⟨⟨q + 1, by omega, by go_num, HL4⟩, rfl⟩)
                      case measure => simp [intOf]; omega
                · obtain rfl : q = r := by omega
                  go_wp2_with fail
                  refine (lives_any _).mono ?_
                  rintro e w6 ⟨rfl, hB6⟩
                  go_wp2
                  go_ret
                  exact ⟨rfl, below_then HL3.out.below hB6⟩
  · have hn : ((chk D es).2 != 0) = true := by simpa using h0
    have hae := above_chk (of := a) h0
    have HAE := Aside0.mk hae
    clear hae h0
    have hlt2 := lt_blk hb
    have x0 := cell_blk hb 0
    have x1 := cell_blk hb 1
    simp at x0 x1
    have HCW2 := Aside0.mk (Kd.C_below HC.out hB1)
    go_wp2
    go_region_held3 (fun w' => w'.cell? ⟨w.heap.size, 0, none⟩ = some (.int .i64 D) ∧ w'.cell? ⟨w.heap.size, 1, none⟩ = some (.slice B es.length d)) (first | (with_reducible exact ⟨(hBa2.cell (p := ⟨w.heap.size, 0, none⟩) hlt2).trans x0, (hBa2.cell (p := ⟨w.heap.size, 1, none⟩) hlt2).trans x1⟩) | (with_reducible exact ⟨(hBb2.cell (p := ⟨w.heap.size, 0, none⟩) hlt2).trans x0, (hBb2.cell (p := ⟨w.heap.size, 1, none⟩) hlt2).trans x1⟩) | (with_reducible exact ⟨x0, x1⟩) | go_keep) (first | (go_at_call 11; (with_reducible refine (edges_any B d es w1.drew (Kd.C_below HCW2.out (Below.refl _ _).drew) hd hl).mono ?_); rintro e wa2 ⟨A2, c2, rfl, hc2, hC2, hBx⟩; have hBa2 : Below w1.heap.size w1 wa2 := below_then (Below.refl _ _).drew hBx; have HC2 := Aside0.mk hC2; clear hC2 hBx) | (go_at_call 15; (with_reducible refine (above_any D A2 c2 es a wa2 HC2.out hc2 hl).mono ?_); rintro e wb2 ⟨vb2, rfl, hvb2, hBx⟩; have hBb2 : Below w1.heap.size w1 wb2 := below_then hBa2 hBx; have HVB2 := Aside0.mk hvb2; clear hvb2 hBx))
    rw [HAE.out]
    go_wp2_with fail
    refine (lives_any _).mono ?_
    rintro e w3 ⟨rfl, hB3⟩
    go_wp2
    go_ret
    exact ⟨rfl, below_then (below_then hB1 hBb2) hB3⟩
theorem policyLeast.own : ownKnob Try.prog.godebug = none := by kernel_rfl
theorem policyLeast.laidOut : laidOutB Try.prog = true := by kernel_rfl
set_option maxRecDepth 100000 in
set_option maxHeartbeats 1000000 in
theorem policyLeast.lifted (os : Os) (started : os.Started) (H : Type) (enc : TypeId × Value → H)
    : ReturnsInHanded {} Try.checked os 5 .any (Rows.policyLeastSpec.pre6 enc Try.prog Try.f5 Rows.policyLeastRow.domain false) (Rows.policyLeastSpec.post enc Try.prog Try.f5 false true false false) := by
  refine returnsInHanded_of_change_sized (C := Try.checked) policyLeast.own started (by kernel_rfl) Try.func5
    (ChangeSpec.witness6 (enc := enc) (C := Try.checked) false ⟨#[], #[.agg #[.int .i64 0, .slice none 0 0], .int .i64 0, .slice none 0 0], []⟩ 8 (by kernel_rfl) (by kernel_rfl) (by kernel_rfl) (by kernel_rfl)) ?_
  intro W base args ds gs before hval0 hW hcnd hsz0 _
  have hsz : (DataW.weightsEach Try.prog (Try.f5.params.toList ++ Rows.policyLeastSpec.plain.varTypes Try.prog) (ds ++ gs)).all (· ≤ reachBytes) = true := hsz0
  have hval : ∀ (j : Nat) t v, Try.f5.params[j]? = some t → args[j]? = some v → Value.okWide Try.prog W .any base t v := hval0
  have hW' := hW
  obtain ⟨p, q, hA0, hV, rfl, hfz, hnd⟩ := hW
  have hA : DataW.TrodAll enc Try.prog W 0 (fun _ => true) true Try.f5.params.toList args.toList ds p := hA0
  rw [Try.params5] at hA hval hsz
  obtain ⟨v0, vs0, d0, ds0, p0, q0, hargs, rfl, rfl, h0, r0⟩ := trodAll_cons hA
  obtain ⟨v1, vs1, d1, ds1, p1, q1, rfl, rfl, rfl, h1, r1⟩ := trodAll_cons r0
  obtain ⟨v2, vs2, d2, ds2, p2, q2, rfl, rfl, rfl, h2, r2⟩ := trodAll_cons r1
  obtain ⟨rfl, rfl, rfl⟩ := trodAll_nil r2
  obtain rfl : args = #[v0, v1, v2] := by cases args; simp_all
  obtain ⟨rfl, rfl⟩ := trodVars_none hV
  have k0 := h0
  have lt0 : ∀ x ∈ p0, x.block < W.heap.size := by obtain ⟨m, hm⟩ := k0; exact DataW.trod_lt m _ _ _ hm
  have W0 := Op.weights_of hsz (j := 0) (t := 24) (d := d0) rfl rfl
  obtain ⟨cs0, rfl, sz0⟩ := okWide_struct Try.underlying24 (hval 0 24 v0 rfl rfl)
  obtain ⟨f0, hf0⟩ := h0
  obtain ⟨a0, hK0, hG0, hM0⟩ := opensG H enc W _ true f0 _ (d0, p0) hf0 W0
  have k1 := h1
  have lt1 : ∀ x ∈ p1, x.block < W.heap.size := by obtain ⟨m, hm⟩ := k1; exact DataW.trod_lt m _ _ _ hm
  have W1 := Op.weights_of hsz (j := 1) (t := 3) (d := d1) rfl rfl
  obtain ⟨n1, rfl⟩ := okWide_int Try.underlying3 (hval 1 3 v1 rfl rfl)
  obtain ⟨f1, hf1⟩ := h1
  obtain ⟨a1, hK1, hG1, hM1⟩ := Op.opens_int Try.underlying3 H enc W _ true f1 _ (d1, p1) hf1 W1
  obtain rfl : n1 = a1 := by have := hK1; simpa [Value.cells, Kd.int, Kd.scalar] using this
  have k2 := h2
  have lt2 : ∀ x ∈ p2, x.block < W.heap.size := by obtain ⟨m, hm⟩ := k2; exact DataW.trod_lt m _ _ _ hm
  have W2 := Op.weights_of hsz (j := 2) (t := 37) (d := d2) rfl rfl
  obtain ⟨A2, len2, cap2, rfl⟩ := okWide_slice Try.underlying37 (hval 2 37 v2 rfl rfl)
  obtain ⟨f2, hf2⟩ := h2
  obtain ⟨a2, hK2, hG2, hM2⟩ := (Op.opens_slice Try.underlying37 (by kernel_rfl) (Op.opens_bool Try.underlying4)) H enc W _ true f2 _ (d2, p2) hf2 W2
  obtain ⟨A', c', he2, hc2, hC2⟩ := hK2
  obtain ⟨rfl, rfl, rfl⟩ : A2 = A' ∧ len2 = a2.length ∧ cap2 = c' := by simpa [Value.cells] using he2
  clear hA0 hval0 hsz0 hsz
  refine (policyLeast.walk W cs0 a0 hK0 hG0 n1 hG1 A2 cap2 a2 hc2 hC2 hG2).mono fun e W' ⟨he, bel⟩ => ?_
  subst he
  exact ⟨_, rfl, _, _, _, [], _, [], hW', trodAll_mk1 (shut_bool Try.underlying4 _), (trodAll_cons_mk (Below.trod policyLeast.laidOut (by kernel_rfl) (of_decide_eq_true (by kernel_rfl)) k0 bel lt0) (trodAll_cons_mk (Below.trod policyLeast.laidOut (by kernel_rfl) (of_decide_eq_true (by kernel_rfl)) k1 bel lt1) (trodAll_cons_mk (Below.trod policyLeast.laidOut (by kernel_rfl) (of_decide_eq_true (by kernel_rfl)) k2 bel lt2) trodAll_mk0))), rfl, bel.frame _, fun h => by cases h⟩
theorem policyLeast_holds : Rows.PolicyLeastSaid :=
  OpenClaim.holds_of_wide 5 Try.f5 rfl rfl rfl rfl rfl rfl rfl ⟨rfl, rfl, rfl, rfl, rfl⟩ rfl rfl rfl rfl rfl (by kernel_rfl) Try.func5 (by kernel_rfl)
    (of_decide_eq_true (by kernel_rfl)) (by unfold Func.isWrapper; first | (rw [if_pos (by decide +kernel)]; kernel_rfl) | (rw [if_neg (by decide +kernel)]; exact ⟨rfl, rfl⟩))
    (fun os started H enc _ => policyLeast.lifted os started H enc)
#print axioms policyLeast_holds

end Go.Proofs.Ytefkdicejhjfoaa
