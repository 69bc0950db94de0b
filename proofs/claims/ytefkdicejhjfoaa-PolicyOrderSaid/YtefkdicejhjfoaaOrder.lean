/- PolicyOrder: paths lead everywhere from a domain to itself, go on where others end, and have all edges. No condition. -/
import Derived.Test.YtefkdicejhjfoaaLeastP
namespace Go.Proofs.Ytefkdicejhjfoaa
open Go.RowKit Go.ChangeShapes Go.WideShapes Go.ChangeAt Go.Proofs.YtefkdicejhjfoaaW.PrintWords Go.Proofs.YtefkdicejhjfoaaW.PrintMore Go.Proofs.Ytefkdicejhjfoaa.PPolicyPaths
theorem okWide_array {P : Program} {w : World} {r : Reach} {base : Nat} {t e : TypeId} {n : Nat} {v : Value} (ht : P.underlying t = some (.array n e)) (h : Value.okWide P w r base t v) : ∃ cs, v = .agg cs ∧ cs.size = P.cellsOf t := by
  simp only [Value.okWide, ht] at h
  obtain ⟨cs, h1, h2, _⟩ := h
  exact ⟨cs, h1, h2⟩
def k3 : Kd (Int × Int × Int) := Kd.pair (Kd.int .i64) (Kd.pair (Kd.int .i64) (Kd.int .i64))
theorem opens3 : Op.Opens Try.prog k3 31 (fun _ => True) (fun _ => 0) := by
  intro H enc w spare held fuel cs x h hw
  obtain ⟨_, _, _, _, hl, _, _⟩ := DataW.trod_array Try.underlying31 h
  rw [show Try.prog.cellsOf 31 = 3 from by kernel_rfl] at hl
  match cs, hl with
  | [c0, c1, c2], _ =>
    obtain ⟨y0, y1, y2, n, rfl, h0, h1, h2⟩ := trod_array3 Try.underlying31 (by kernel_rfl) h
    obtain ⟨a, q0, _, _⟩ := DataW.trod_int Try.underlying3 h0
    obtain rfl : c0 = .int .i64 a := by simpa using q0
    obtain ⟨b, q1, _, _⟩ := DataW.trod_int Try.underlying3 h1
    obtain rfl : c1 = .int .i64 b := by simpa using q1
    obtain ⟨c, q2, _, _⟩ := DataW.trod_int Try.underlying3 h2
    obtain rfl : c2 = .int .i64 c := by simpa using q2
    exact ⟨(a, b, c), ⟨[.int .i64 a], [.int .i64 b, .int .i64 c], rfl, rfl, ⟨[.int .i64 b], [.int .i64 c], rfl, rfl, rfl⟩⟩, trivial, Nat.zero_le _⟩
theorem rem_in {a : Int} {n : Nat} (h0 : 1 ≤ n) (hn : n ≤ 16) : ∃ m : Nat, m < n ∧ wrap64 (a.tmod n + n) = a.tmod n + n ∧ (a.tmod n + n).tmod n = m := by
  have h1 : a.tmod n < n := Int.tmod_lt_of_pos a (by omega)
  have h2 : -(n : Int) < a.tmod n := by
    have h3 := Int.tmod_lt_of_pos (-a) (show (0 : Int) < n by omega)
    rw [Int.neg_tmod] at h3
    omega
  generalize a.tmod n = r at *
  refine ⟨((r + n).tmod n).toNat, ?_, by unfold wrap64; omega, ?_⟩
  · have h4 := Int.tmod_lt_of_pos (r + n) (show (0 : Int) < n by omega)
    omega
  · have h5 := Int.tmod_nonneg (a := r + n) (n : Int) (by omega)
    omega
theorem path_ok {n : Nat} {es : List S35} (h : (chk n es).2 = 0) {a b : Nat} (ha : a < n) (hb : b < n) : pathP n es a b = (rchB es a b, 0) := by
  rw [pathP, if_pos]
  rw [lookedP, if_pos h, if_neg]
  intro hh
  obtain ⟨x, hx, hb'⟩ := List.any_eq_true.1 hh
  unfold outB at hb'
  simp at hx hb'
  omega
theorem path_chk {D : Int} {es : List S35} {a b : Int} (h : (chk D es).2 ≠ 0) : (pathP D es a b).2 = (chk D es).2 := by
  have h1 : lookedP D es [a, b] = (chk D es).2 := by rw [lookedP, if_neg h]
  rw [pathP, h1, if_neg h]
structure GR (w W : World) (B : Option Addr) (es : List S35) (d : Nat) (D : Int) : Prop where
  below : Below w.heap.size w W
  graph : W.heap[w.heap.size]? = some (.cells #[.int .i64 D, .slice B es.length d] 24 (0, 0))
theorem GR.then {w W W2 : World} {B : Option Addr} {es : List S35} {d : Nat} {D : Int} (h : GR w W B es d D) (hB : Below W.heap.size W W2) : GR w W2 B es d D := ⟨below_then h.below hB, blk_below h.graph hB⟩
theorem GR.lt {w W : World} {B : Option Addr} {es : List S35} {d : Nat} {D : Int} (h : GR w W B es d D) : w.heap.size < W.heap.size := lt_blk h.graph
theorem GR.x0 {w W : World} {B : Option Addr} {es : List S35} {d : Nat} {D : Int} (h : GR w W B es d D) : W.cell? ⟨w.heap.size, 0, none⟩ = some (.int .i64 D) := cell_blk h.graph 0
theorem GR.x1 {w W : World} {B : Option Addr} {es : List S35} {d : Nat} {D : Int} (h : GR w W B es d D) : W.cell? ⟨w.heap.size, 1, none⟩ = some (.slice B es.length d) := cell_blk h.graph 1
set_option maxRecDepth 100000 in
set_option maxHeartbeats 4000000 in
theorem policyOrder.walk (w : World) (cs : Array Value) (g : Int × List S35) (hK : kG.K w g cs.toList) (hG : g.2.length * 16 ≤ reachBytes) (ts : Array Value) (t3 : Int × Int × Int) (hT : k3.K w t3 ts.toList) (_ : True) :
    Calls Try.prog 4 #[.agg cs, .agg ts] w fun e w' => e = .returned (.bool true) ∧ Below w.heap.size w w' := by
  obtain ⟨B, d, hcs, hd, hC⟩ := kG_open hK
  obtain rfl : cs = #[.int .i64 g.1, .slice B g.2.length d] := Array.toList_inj.1 hcs
  obtain ⟨a, b, c⟩ := t3
  obtain ⟨_, _, e1, rfl, ⟨_, _, rfl, rfl, rfl⟩⟩ := hT
  obtain rfl : ts = #[.int .i64 a, .int .i64 b, .int .i64 c] := Array.toList_inj.1 e1
  clear hK hcs e1
  obtain ⟨D, es⟩ := g
  have hl : es.length < 8796093022208 := by unfold reachBytes at hG; simp only at hG; omega
  simp only at hd hC
  have HC := Aside0.mk hC
  clear hC hG
  have hG0 : GR w ((w.alloc (.cells #[.int .i64 D, .slice B es.length d] 24)).alloc (.cells #[.int .i64 a, .int .i64 b, .int .i64 c] 31)) B es d D := ⟨below_al (below_al (Below.refl _ _) _) _, blk_alloc (blk_new _ _)⟩
  have hy := blk_new1 w (.cells #[.int .i64 D, .slice B es.length d] 24) (.cells #[.int .i64 a, .int .i64 b, .int .i64 c] 31)
  have y0 := cell_blk hy 0
  have y1 := cell_blk hy 1
  have y2 := cell_blk hy 2
  simp at y0 y1 y2
  have HG0 := Aside0.mk hG0
  clear hG0 hy
  go_enter Try.func4, Try.ntmps4
  go_wp2_with fail
  go_quiet (fail)
  have HG1 := Aside0.mk (HG0.out.then (below_drewN (Below.refl _ _) nq))
  clear y0 y1 y2 HG0
  generalize (((w.alloc (.cells #[.int .i64 D, .slice B es.length d] 24)).alloc (.cells #[.int .i64 a, .int .i64 b, .int .i64 c] 31)).drewN nq) = W at *
  have x0 := HG1.out.x0
  have x1 := HG1.out.x1
  go_wp2_with fail
  refine (rcheck_any D B d es W (Kd.C_below HC.out HG1.out.below) hd hl).mono ?_
  rintro e w1 ⟨rfl, hBx⟩
  have HG2 := Aside0.mk (HG1.out.then hBx)
  clear x0 x1 hBx HG1
  by_cases h0 : (chk D es).2 = 0
  · obtain ⟨n, rfl, hn1, hn2, hf⟩ := chk_fits h0
    rw [h0]
    have HK := Aside0.mk h0
    have HF := Aside0.mk hf
    clear h0 hf
    go_wp2_with fail
    refine (lives_any w1).mono ?_
    rintro e w2 ⟨rfl, hB2⟩
    have HG3 := Aside0.mk (HG2.out.then hB2)
    clear hB2 HG2
    obtain ⟨ma, hma, ea1, ea2⟩ := rem_in (a := a) hn1 hn2
    obtain ⟨mb, hmb, eb1, eb2⟩ := rem_in (a := b) hn1 hn2
    obtain ⟨mc, hmc, ec1, ec2⟩ := rem_in (a := c) hn1 hn2
    have hnz : ((n : Int) == 0) = false := by simp; omega
    have x0 := HG3.out.x0
    have x1 := HG3.out.x1
    go_wp2
    go_quiet (fail)
    clear ea1 ea2 eb1 eb2 ec1 ec2 x0 x1
    have HG4 := Aside0.mk (HG3.out.then (below_drewN (Below.refl _ _) nq))
    clear HG3
    generalize w2.drewN nq = W3 at *
    have x1 := HG4.out.x1
    go_wp2_with fail
    refine (edges_any B d es W3 (Kd.C_below HC.out HG4.out.below) hd hl).mono ?_
    rintro e wa5 ⟨A5, c5, rfl, hc5, hC5, hB5⟩
    have HC5 := Aside0.mk hC5
    have HP5 := Aside0.mk (path_ok HK.out hma hma)
    clear hC5 x1
    go_wp2_with fail
    refine (path_any n A5 c5 es ma ma wa5 HC5.out hc5 (by omega)).mono ?_
    rw [HP5.out]
    rintro e wb5 ⟨rfl, hB5b⟩
    have HG5 := Aside0.mk (HG4.out.then (below_then hB5 hB5b))
    clear hB5 hB5b HG4 HP5 HC5
    have x1 := HG5.out.x1
    go_wp2_with fail
    refine (edges_any B d es wb5 (Kd.C_below HC.out HG5.out.below) hd hl).mono ?_
    rintro e wa6 ⟨A6, c6, rfl, hc6, hC6, hB6⟩
    have HC6 := Aside0.mk hC6
    have HP6 := Aside0.mk (path_ok HK.out hma hmb)
    clear hC6 x1
    go_wp2_with fail
    refine (path_any n A6 c6 es ma mb wa6 HC6.out hc6 (by omega)).mono ?_
    rw [HP6.out]
    rintro e wb6 ⟨rfl, hB6b⟩
    have HG6 := Aside0.mk (HG5.out.then (below_then hB6 hB6b))
    clear hB6 hB6b HG5 HP6 HC6
    have x1 := HG6.out.x1
    go_wp2_with fail
    refine (edges_any B d es wb6 (Kd.C_below HC.out HG6.out.below) hd hl).mono ?_
    rintro e wa7 ⟨A7, c7, rfl, hc7, hC7, hB7⟩
    have HC7 := Aside0.mk hC7
    have HP7 := Aside0.mk (path_ok HK.out hmb hmc)
    clear hC7 x1
    go_wp2_with fail
    refine (path_any n A7 c7 es mb mc wa7 HC7.out hc7 (by omega)).mono ?_
    rw [HP7.out]
    rintro e wb7 ⟨rfl, hB7b⟩
    have HG7 := Aside0.mk (HG6.out.then (below_then hB7 hB7b))
    clear hB7 hB7b HG6 HP7 HC7
    have x1 := HG7.out.x1
    go_wp2_with fail
    refine (edges_any B d es wb7 (Kd.C_below HC.out HG7.out.below) hd hl).mono ?_
    rintro e wa8 ⟨A8, c8, rfl, hc8, hC8, hB8⟩
    have HC8 := Aside0.mk hC8
    have HP8 := Aside0.mk (path_ok HK.out hma hmc)
    clear hC8 x1
    go_wp2_with fail
    refine (path_any n A8 c8 es ma mc wa8 HC8.out hc8 (by omega)).mono ?_
    rw [HP8.out]
    rintro e wb8 ⟨rfl, hB8b⟩
    have HG8 := Aside0.mk (HG7.out.then (below_then hB8 hB8b))
    clear hB8 hB8b HG7 HP8 HC8
    have haa : rchB es ma ma = true := rchB_iff.2 .refl
    have hac : Aside0 (rchB es ma mb = true → rchB es mb mc = true → rchB es ma mc = true) := ⟨fun h k => rchB_iff.2 ((rchB_iff.1 h).trans (rchB_iff.1 k))⟩
    rw [haa]
    clear haa
    have HE : Aside0 (∀ (i : Nat) (e : S35), es[i]? = some e → ∃ x y : Nat, e.f0 = x ∧ e.f1 = y ∧ pathP n es x y = (true, 0)) := ⟨fun i e he => by
      have hm := List.mem_of_getElem? he
      have hfe := HF.out e hm
      obtain ⟨x, hx⟩ := Int.eq_ofNat_of_zero_le hfe.1
      obtain ⟨y, hy⟩ := Int.eq_ofNat_of_zero_le hfe.2.2.1
      refine ⟨x, y, hx, hy, ?_⟩
      rw [path_ok HK.out (by omega) (by omega)]
      congr 1
      rw [rchB_iff]
      have hmem : (x, y) ∈ toE es := by
        unfold toE
        refine List.mem_map.2 ⟨e, hm, ?_⟩
        rw [hx, hy, Int.toNat_natCast, Int.toNat_natCast]
      have := Rch.edge hmem
      simpa using this⟩
    clear HF HK
    generalize rchB es ma mb = pv at *
    generalize rchB es mb mc = qv at *
    generalize rchB es ma mc = rv at *
    have hpq : (pv = false ∨ qv = false ∨ rv = true) := by
      have := hac.out
      revert this
      cases pv <;> cases qv <;> cases rv <;> simp
    clear hac
    obtain ⟨wo, rfl⟩ : ∃ wo : World, wo = wb8 := ⟨_, rfl⟩
    have REST : Aside0 (pv = false ∨ qv = false ∨ rv = true) := ⟨hpq⟩
    cases pv <;> cases qv <;> cases rv
    all_goals first | (exfalso; revert hpq; decide) | skip
    all_goals
      clear hpq REST
      go_wp2
      go_loopw [21] (fun i wr => ∃ (k : Nat), k ≤ es.length ∧ i = .int .i64 k ∧ Aside0 (GR w wr B es d n)) (fun i _ => es.length - (intOf i).toNat)
      case atStart => exact ⟨0, by omega, rfl, HG8⟩
      case round =>
        obtain ⟨k, hk, rfl, HG⟩ := hrel
        clear HG8
        have x1 := HG.out.x1
        have hlt := HG.out.lt
        by_cases hkl : k < es.length
        · obtain ⟨eb, eoff, rfl, heb⟩ := C_form HC.out (by omega) (by decide)
          obtain ⟨e, he, c0, c1⟩ := edge_at HC.out k hkl
          obtain ⟨x, y, hx, hy, hp⟩ := HE.out k e he
          rw [hx] at c0
          rw [hy] at c1
          have hebw := Nat.lt_of_lt_of_le heb HG.out.below.size
          have k0 := (HG.out.below.cell (p := ⟨eb, eoff + k * 2, none⟩) heb).trans c0
          have k1 := (HG.out.below.cell (p := ⟨eb, eoff + k * 2 + 1, none⟩) heb).trans c1
          have HP := Aside0.mk hp
          have HCW := Aside0.mk (Kd.C_below HC.out HG.out.below)
          clear hp he hx hy c0 c1 e
          go_wp2
          go_region_held3 (fun w' => w'.cell? ⟨w.heap.size, 1, none⟩ = some (.slice (some ⟨eb, eoff, none⟩) es.length d) ∧ w'.cell? ⟨eb, eoff + k * 2, none⟩ = some (.int .i64 x) ∧ w'.cell? ⟨eb, eoff + k * 2 + 1, none⟩ = some (.int .i64 y)) (first | (with_reducible exact ⟨(hBa.cell (p := ⟨w.heap.size, 1, none⟩) hlt).trans x1, (hBa.cell (p := ⟨eb, eoff + k * 2, none⟩) hebw).trans k0, (hBa.cell (p := ⟨eb, eoff + k * 2 + 1, none⟩) hebw).trans k1⟩) | (with_reducible exact ⟨(hBb.cell (p := ⟨w.heap.size, 1, none⟩) hlt).trans x1, (hBb.cell (p := ⟨eb, eoff + k * 2, none⟩) hebw).trans k0, (hBb.cell (p := ⟨eb, eoff + k * 2 + 1, none⟩) hebw).trans k1⟩) | (with_reducible exact ⟨x1, k0, k1⟩) | go_keep) (first | (go_at_call 11; (with_reducible refine (edges_any (some ⟨eb, eoff, none⟩) d es wr.drew (Kd.C_below HCW.out (Below.refl _ _).drew) hd hl).mono ?_); rintro e wa ⟨A9, c9, rfl, hc9, hC9, hBx⟩; have hBa : Below wr.heap.size wr wa := below_then (Below.refl _ _).drew hBx; have HC9 := Aside0.mk hC9; clear hC9 hBx) | (go_at_call 14; (with_reducible refine (path_any n A9 c9 es x y wa HC9.out hc9 (by omega)).mono ?_); rw [HP.out]; rintro e wb ⟨rfl, hBx⟩; have hBb : Below wr.heap.size wr wb := below_then hBa hBx; clear hBx))
          have HGN := Aside0.mk (HG.out.then hBb)
          go_wp2
          go_roundw
          case rel => exact ⟨k + 1, by omega, by go_num, HGN⟩
          case measure => simp [intOf]; omega
        · obtain rfl : k = es.length := by omega
          go_wp2
          go_ret
          exact ⟨rfl, HG.out.below⟩
  · have hn : ((chk D es).2 != 0) = true := by simpa using h0
    have HAE := Aside0.mk (path_chk (a := a) (b := b) h0)
    clear h0
    have hb := HG2.out.graph
    have hB1 := HG2.out.below
    have hlt2 := lt_blk hb
    have x0 := cell_blk hb 0
    have x1 := cell_blk hb 1
    simp at x0 x1
    have HCW2 := Aside0.mk (Kd.C_below HC.out hB1)
    go_wp2
    go_region_held3 (fun w' => w'.cell? ⟨w.heap.size, 0, none⟩ = some (.int .i64 D) ∧ w'.cell? ⟨w.heap.size, 1, none⟩ = some (.slice B es.length d)) (first | (with_reducible exact ⟨(hBa2.cell (p := ⟨w.heap.size, 0, none⟩) hlt2).trans x0, (hBa2.cell (p := ⟨w.heap.size, 1, none⟩) hlt2).trans x1⟩) | (with_reducible exact ⟨(hBb2.cell (p := ⟨w.heap.size, 0, none⟩) hlt2).trans x0, (hBb2.cell (p := ⟨w.heap.size, 1, none⟩) hlt2).trans x1⟩) | (with_reducible exact ⟨x0, x1⟩) | go_keep) (first | (go_at_call 11; (with_reducible refine (edges_any B d es w1.drew (Kd.C_below HCW2.out (Below.refl _ _).drew) hd hl).mono ?_); rintro e wa2 ⟨A2, c2, rfl, hc2, hC2, hBx⟩; have hBa2 : Below w1.heap.size w1 wa2 := below_then (Below.refl _ _).drew hBx; have HC2 := Aside0.mk hC2; clear hC2 hBx) | (go_at_call 14; (with_reducible refine (path_any D A2 c2 es a b wa2 HC2.out hc2 (by omega)).mono ?_); rintro e wb2 ⟨rfl, hBx⟩; have hBb2 : Below w1.heap.size w1 wb2 := below_then hBa2 hBx; clear hBx))
    rw [HAE.out]
    go_wp2_with fail
    refine (lives_any _).mono ?_
    rintro e w3 ⟨rfl, hB3⟩
    go_wp2
    go_ret
    exact ⟨rfl, below_then (below_then hB1 hBb2) hB3⟩
theorem policyOrder.own : ownKnob Try.prog.godebug = none := by kernel_rfl
theorem policyOrder.laidOut : laidOutB Try.prog = true := by kernel_rfl
set_option maxRecDepth 100000 in
set_option maxHeartbeats 1000000 in
theorem policyOrder.lifted (os : Os) (started : os.Started) (H : Type) (enc : TypeId × Value → H)
    : ReturnsInHanded {} Try.checked os 4 .any (Rows.policyOrderSpec.pre6 enc Try.prog Try.f4 Rows.policyOrderRow.domain false) (Rows.policyOrderSpec.post enc Try.prog Try.f4 false true false false) := by
  refine returnsInHanded_of_change_sized (C := Try.checked) policyOrder.own started (by kernel_rfl) Try.func4
    (ChangeSpec.witness6 (enc := enc) (C := Try.checked) false ⟨#[], #[.agg #[.int .i64 0, .slice none 0 0], .agg #[.int .i64 0, .int .i64 0, .int .i64 0]], []⟩ 8 (by kernel_rfl) (by kernel_rfl) (by kernel_rfl) (by kernel_rfl)) ?_
  intro W base args ds gs before hval0 hW hcnd hsz0 _
  have hsz : (DataW.weightsEach Try.prog (Try.f4.params.toList ++ Rows.policyOrderSpec.plain.varTypes Try.prog) (ds ++ gs)).all (· ≤ reachBytes) = true := hsz0
  have hval : ∀ (j : Nat) t v, Try.f4.params[j]? = some t → args[j]? = some v → Value.okWide Try.prog W .any base t v := hval0
  have hW' := hW
  obtain ⟨p, q, hA0, hV, rfl, hfz, hnd⟩ := hW
  have hA : DataW.TrodAll enc Try.prog W 0 (fun _ => true) true Try.f4.params.toList args.toList ds p := hA0
  rw [Try.params4] at hA hval hsz
  obtain ⟨v0, vs0, d0, ds0, p0, q0, hargs, rfl, rfl, h0, r0⟩ := trodAll_cons hA
  obtain ⟨v1, vs1, d1, ds1, p1, q1, rfl, rfl, rfl, h1, r1⟩ := trodAll_cons r0
  obtain ⟨rfl, rfl, rfl⟩ := trodAll_nil r1
  obtain rfl : args = #[v0, v1] := by cases args; simp_all
  obtain ⟨rfl, rfl⟩ := trodVars_none hV
  have k0 := h0
  have lt0 : ∀ x ∈ p0, x.block < W.heap.size := by obtain ⟨m, hm⟩ := k0; exact DataW.trod_lt m _ _ _ hm
  have W0 := Op.weights_of hsz (j := 0) (t := 24) (d := d0) rfl rfl
  obtain ⟨cs0, rfl, sz0⟩ := okWide_struct Try.underlying24 (hval 0 24 v0 rfl rfl)
  obtain ⟨f0, hf0⟩ := h0
  obtain ⟨a0, hK0, hG0, hM0⟩ := opensG H enc W _ true f0 _ (d0, p0) hf0 W0
  have k1 := h1
  have lt1 : ∀ x ∈ p1, x.block < W.heap.size := by obtain ⟨m, hm⟩ := k1; exact DataW.trod_lt m _ _ _ hm
  have W1 := Op.weights_of hsz (j := 1) (t := 31) (d := d1) rfl rfl
  obtain ⟨cs1, rfl, sz1⟩ := okWide_array Try.underlying31 (hval 1 31 v1 rfl rfl)
  obtain ⟨f1, hf1⟩ := h1
  obtain ⟨a1, hK1, hG1, hM1⟩ := opens3 H enc W _ true f1 _ (d1, p1) hf1 W1
  clear hA0 hval0 hsz0 hsz
  refine (policyOrder.walk W cs0 a0 hK0 hG0 cs1 a1 hK1 hG1).mono fun e W' ⟨he, bel⟩ => ?_
  subst he
  exact ⟨_, rfl, _, _, _, [], _, [], hW', trodAll_mk1 (shut_bool Try.underlying4 _), (trodAll_cons_mk (Below.trod policyOrder.laidOut (by kernel_rfl) (of_decide_eq_true (by kernel_rfl)) k0 bel lt0) (trodAll_cons_mk (Below.trod policyOrder.laidOut (by kernel_rfl) (of_decide_eq_true (by kernel_rfl)) k1 bel lt1) trodAll_mk0)), rfl, bel.frame _, fun h => by cases h⟩
theorem policyOrder_holds : Rows.PolicyOrderSaid :=
  OpenClaim.holds_of_wide 4 Try.f4 rfl rfl rfl rfl rfl rfl rfl ⟨rfl, rfl, rfl, rfl, rfl⟩ rfl rfl rfl rfl rfl (by kernel_rfl) Try.func4 (by kernel_rfl)
    (of_decide_eq_true (by kernel_rfl)) (by unfold Func.isWrapper; first | (rw [if_pos (by decide +kernel)]; kernel_rfl) | (rw [if_neg (by decide +kernel)]; exact ⟨rfl, rfl⟩))
    (fun os started H enc _ => policyOrder.lifted os started H enc)
#print axioms policyOrder_holds

end Go.Proofs.Ytefkdicejhjfoaa
