/- SlabPlays: New of any numbers and any calls in any order: the slab answers what the document answers, call by call, and tells just the document's state behind each. No condition. -/
import Derived.Test.YtnglgjegkjfnaaaSlCe
import Derived.Test.YtnglgjegkjfnaaaSlTT
import Derived.Test.YtnglgjegkjfnaaaSlAC
import Derived.Deep.DrawnRows
set_option linter.unusedSimpArgs false
set_option linter.unusedVariables false
namespace Go.Proofs.Ytnglgjegkjfnaaa
open Go.RowKit Go.ChangeShapes Go.WideShapes Go.ChangeAt Go.Proofs.YtnglgjegkjfnaaaW.PrintWords Go.Proofs.YtnglgjegkjfnaaaW.PrintMore Go.Proofs.YtnglgjegkjfnaaaW.PrintLast
/-! SlabPlays: printed by gen04cc.py. -/
attribute [local go_sem high] eqG
/-- From round to round: S holds the document's state. -/
structure PlW (w0 wr : World) (b S : Nat) (col hc : Nat → Nat) (s : Sl) (vG vA vC vF : Value) (vs : List Value) (vh : Value) (had : List (Int × Int)) (k : Nat) : Prop where
  ca : CaW w0 wr b col hc s s vG vA vC vF vs vh had
  m : wr.heap[S]? = some (.cells #[.int .i64 s.limit, vG, vA, vC, vF] TT (0, 0))
  hm : hc S = 3
  wf : Wf s
  hl : had.length ≤ k
section
variable {w0 wr w' : World} {b S : Nat} {col col' hc hc' : Nat → Nat} {s s' m : Sl} {vG vA vC vF uG uA uC uF : Value} {vs us : List Value} {vh v1 : Value} {had l1 : List (Int × Int)} {k : Nat}
theorem PlW.then (h : PlW w0 wr b S col hc s vG vA vC vF vs vh had k) (hB : Below wr.heap.size wr w') : PlW w0 w' b S col hc s vG vA vC vF vs vh had k := ⟨h.ca.then hB, blk_below h.m hB, h.hm, h.wf, h.hl⟩
theorem CaW.box3 (h : CaW w0 wr b col hc s m vG vA vC vF vs vh had) (hS : hc S = 3) (hk : Keep (fun i => i = S) wr w') : CaW w0 w' b col hc s m vG vA vC vF vs vh had := by
  have hz := h.cz S (by rw [hS]; decide)
  exact ⟨below_then_keep h.b0 h.b0.size hk (fun i e => by omega), h.sl.keep hk (fun i e => by rw [e]; exact hz.1), h.rd.keep h.own hk (fun k e f => by rw [f, hS] at e; exact absurd e.2.2 (by decide)), h.own.mono (fun k e => ⟨Nat.lt_of_lt_of_le e.1 hk.size, e.2⟩),
    Kd.R_step h.h (fun k e hl => hk.block k hl (fun f => by rw [f, hS] at e; exact absurd e (by decide))), fun k e => by have := h.cz k e; exact ⟨this.1, this.2.1, Nat.lt_of_lt_of_le this.2.2 hk.size⟩⟩
theorem PlW.next {w5 : World} (h : PlW w0 wr b S col hc s vG vA vC vF vs vh had k) (hCA : CaW w0 w5 b col' hc' s' s' uG uA uC uF us v1 l1) (hk3 : ∀ k, hc k = 3 → hc' k = 3 ∧ w5.heap[k]? = wr.heap[k]?) (hwf : Wf s') (hll : l1.length ≤ had.length + 1) :
    PlW w0 ((((((w5.setCell ⟨S, 0, none⟩ (.int .i64 s'.limit)).setCell ⟨S, 1, none⟩ (uG)).setCell ⟨S, 2, none⟩ (uA)).setCell ⟨S, 3, none⟩ (uC)).setCell ⟨S, 4, none⟩ (uF))) b S col' hc' s' uG uA uC uF us v1 l1 (k + 1) := by
  have h3 := hk3 S h.hm
  have hm5 := h3.2.trans h.m
  have hk : Keep (fun i => i = S) w5 ((((((w5.setCell ⟨S, 0, none⟩ (.int .i64 s'.limit)).setCell ⟨S, 1, none⟩ (uG)).setCell ⟨S, 2, none⟩ (uA)).setCell ⟨S, 3, none⟩ (uC)).setCell ⟨S, 4, none⟩ (uF))) := set5_keep _ _ _ _ _ _ _
  have := h.hl
  exact ⟨hCA.box3 h3.1 hk, blk_set5 hm5, h3.1, hwf, by omega⟩
end
def PlL (w0 : World) (b S k : Nat) (vh : Value) (wr : World) : Prop := ∃ s vG vA vC vF vs had col hc, PlW w0 wr b S col hc s vG vA vC vF vs vh had k
theorem new_sl2 {w : World} {base n c : Nat} {A : Option Addr} {limit procs : Int} (hn : n = procs.toNat) (h : Row w base (fun _ => True) 26 (.slice A n c) (List.replicate n (.slice none 0 0))) : SlV w base (fun k => if (Value.slice A n c).ownBlock = some k then 4 else 0) (newS limit procs) (.slice none 0 0) (.slice none 0 0) (.slice A n c) (.slice none 0 0) (List.replicate n (.slice none 0 0)) := by
  subst hn
  refine ⟨Row.nil _ _ _ _, Row.nil _ _ _ _, ⟨fun k hk => by simp [hk], h.row, h.one⟩, Row.nil _ _ _ _, by simp [newS], fun i x hx => ?_, fun k hk => ?_, fun k hk => ?_⟩
  · have hx' : i < procs.toNat ∧ x = [] := by
      obtain ⟨h1, h2⟩ := List.getElem?_eq_some_iff.1 hx
      simp [newS] at h1 h2
      exact ⟨by omega, h2⟩
    obtain ⟨hi, rfl⟩ := hx'
    exact ⟨.slice none 0 0, by simp [hi], Row.nil _ _ _ _⟩
  · have : ¬ (Value.slice A procs.toNat c).ownBlock = some k := fun e => by have := h.lt k e; omega
    simp [this]
  · by_cases e : (Value.slice A procs.toNat c).ownBlock = some k
    · exact h.base_le k e
    · simp [e] at hk
set_option maxRecDepth 100000 in
set_option maxHeartbeats 16000000 in
theorem SlabPlays0.walk (w : World) (L P : Int) (A : Option Addr) (c : Nat) (ops : List SOp) (hC : kSOp.C w A ops.length ops) (hc : ops.length ≤ c) (hl : ops.length * 16 ≤ 140737488355328) :
    Calls Try.prog 8 #[.agg #[.int .i64 L, .int .i64 P, .slice A ops.length c]] w fun e w' => e = .returned (.bool true) ∧ Below w.heap.size w w' := by
  have hW : Below w.heap.size w (w.alloc (.cells #[.int .i64 L, .int .i64 P, .slice A ops.length c] 37)) := below_al (Below.refl _ _) _
  have HX : Aside0 ((w.alloc (.cells #[.int .i64 L, .int .i64 P, .slice A ops.length c] 37)).heap[w.heap.size]? = some (.cells #[.int .i64 L, .int .i64 P, .slice A ops.length c] 37 (0, 0))) := ⟨blk_new _ _⟩
  have HC := Aside0.mk (Kd.C_below hC hW)
  have HW := Aside0.mk hW
  clear hC hW
  go_enter Try.func8, Try.ntmps8
  go_wp2_with fail
  generalize (w.alloc (.cells #[.int .i64 L, .int .i64 P, .slice A ops.length c] 37)) = W at *
  refine (snew_any L P W).mono ?_
  rintro e w1 ⟨hB1, hN1⟩
  have hX1 := blk_below HX.out hB1
  have x0 := cell_blk hX1 0
  have x1 := cell_blk hX1 1
  simp only [List.getElem?_toArray, List.getElem?_cons_zero, List.getElem?_cons_succ] at x0 x1
  have hXl := lt_blk hX1
  have HB1 := Aside0.mk hB1
  have HX1 := Aside0.mk hX1
  rcases hN1 with ⟨hk, b, col, rfl, hS1, hc1⟩ | ⟨hk, rfl⟩
  · have HK := Aside0.mk hk
    have HS1 := Aside0.mk hS1
    clear hk hS1 hc1 hB1 hX1
    go_wp2_with fail
    refine (new_ref L P w1).mono ?_
    clear x0 x1 hXl
    rintro e w2 ⟨hB2, ⟨-, A2, c2, rfl, hR⟩ | ⟨h0, -⟩⟩
    · have hA : Below w2.heap.size w2 (w2.alloc (.cells #[.int .i64 L, .slice none 0 0, .slice none 0 0, .slice A2 P.toNat c2, .slice none 0 0] TT)) := below_al (Below.refl _ _) _
      have hV := (new_sl2 (limit := L) rfl hR).rdo (I := fun _ => False)
      have hw1 := HB1.out.size
      have hw2 := hB2.size
      have hw3 : (w2.alloc (.cells #[.int .i64 L, .slice none 0 0, .slice none 0 0, .slice A2 P.toNat c2, .slice none 0 0] TT)).heap.size = w2.heap.size + 1 := by simp
      have hc0 := HS1.out.z
      have HP : Aside0 (PlW W (w2.alloc (.cells #[.int .i64 L, .slice none 0 0, .slice none 0 0, .slice A2 P.toNat c2, .slice none 0 0] TT)) b w2.heap.size col (fun k => if k = w2.heap.size then 3 else 0) (newS L P) (.slice none 0 0) (.slice none 0 0) (.slice A2 P.toNat c2) (.slice none 0 0) (List.replicate P.toNat (.slice none 0 0)) (.slice none 0 0) [] 0) :=
        ⟨⟨⟨below_then (below_then HB1.out hB2) hA, (HS1.out.below hB2).below hA, hV.rd.below hA, hV.own.mono (fun k hk => by
          rcases hk with hk | hk
          · exact hk.elim
          · exact ⟨by omega, hc0 k hk.1, if_neg (by omega)⟩), Kd.R_nil _ _ _ _ _, fun k hk => by
          by_cases e : k = w2.heap.size
          · subst e; exact ⟨hc0 _ hw2, by omega, by omega⟩
          · exact absurd (if_neg e) hk⟩, blk_new _ _, if_pos rfl, new_wf HK.out, Nat.le_refl _⟩⟩
      have hX3 := blk_below (blk_below HX1.out hB2) hA
      have hPm := cells5 HP.out.m
      generalize hcc : (fun k => if k = w2.heap.size then 3 else 0) = hc0' at HP
      clear hV hc0 hB2 hR hcc
      generalize (fun k => if k = w2.heap.size then 3 else 0) = hc3 at *
      have HP0 : Aside0 (PlL W b w2.heap.size 0 (.slice none 0 0) (w2.alloc (.cells #[.int .i64 L, .slice none 0 0, .slice none 0 0, .slice A2 P.toNat c2, .slice none 0 0] TT))) := ⟨⟨_, _, _, _, _, _, _, _, _, HP.out⟩⟩
      clear HP hX3 hPm hA
      --MARKL
      go_wp2_with fail
      generalize (w2.alloc (.cells #[.int .i64 L, .slice none 0 0, .slice none 0 0, .slice A2 P.toNat c2, .slice none 0 0] TT)) = W3 at *
      obtain ⟨S, hS⟩ : ∃ S, w2.heap.size = S := ⟨_, rfl⟩
      rw [hS] at HP0 ⊢
      clear hS
      go_loopw [7, 9] (fun vh i wr => ∃ k : Nat, k ≤ ops.length ∧ i = .int .i64 k ∧ Aside0 (PlL W b S k vh wr)) (fun _ i _ => ops.length - (intOf i).toNat)
      case atStart => exact ⟨0, by omega, rfl, HP0⟩
      case round =>
        clear HP0
        obtain ⟨k, hk, rfl, ⟨s, vG, vA, vC, vF, vs, had, col, hc, hP⟩⟩ := hrel
        obtain ⟨AG0, cG0, rfl, -⟩ := hP.ca.rd.g.slice
        obtain ⟨AA0, cA0, rfl, -⟩ := hP.ca.rd.a.slice
        obtain ⟨AC0, cC0, rfl, -⟩ := hP.ca.rd.c.slice
        obtain ⟨AF0, cF0, rfl, -⟩ := hP.ca.rd.f.slice
        obtain ⟨AH, cH, rfl, hcH, -⟩ := gid_rd hP.ca.h
        have HP := Aside0.mk hP
        have hXr := blk_below HX.out hP.ca.b0
        have x2 := cell_blk hXr 2
        simp only [List.getElem?_toArray, List.getElem?_cons_zero, List.getElem?_cons_succ] at x2
        have hXl := lt_blk hXr
        clear hP hXr
        by_cases hlt : k < ops.length
        · obtain ⟨ab, off, rfl, hab⟩ := C_form HC.out (by omega) (by decide)
          obtain ⟨⟨d, p, q, g1, g2⟩, ho, e0, e1, e2, e3, e4⟩ := sop_at HC.out k hlt
          simp only at e0 e1 e2 e3 e4
          have hBr := HP.out.ca.b0
          have y0 := (hBr.cell (p := ⟨ab, off + k * 5, none⟩) hab).trans e0
          have y1 := (hBr.cell (p := ⟨ab, off + k * 5 + 1, none⟩) hab).trans e1
          have y2 := (hBr.cell (p := ⟨ab, off + k * 5 + 2, none⟩) hab).trans e2
          have y3 := (hBr.cell (p := ⟨ab, off + k * 5 + 3, none⟩) hab).trans e3
          have y4 := (hBr.cell (p := ⟨ab, off + k * 5 + 4, none⟩) hab).trans e4
          have hki : (0 : Int) ≤ (k : Int) := by omega
          have hkl : (k : Int) < (ops.length : Int) := by omega
          obtain ⟨s', had', hcs⟩ : ∃ s' had', callS s had ⟨d, p, q, (g1, g2)⟩ = (s', had') := ⟨_, _, rfl⟩
          have hin := callS_in (had := had) (o := ⟨d, p, q, (g1, g2)⟩) HP.out.wf
          rw [hcs] at hin
          have HIN := Aside0.mk hin
          have HCS := Aside0.mk hcs
          have hBd : Below wr.heap.size wr wr.drew := (Below.refl _ _).drew
          have HP0 := Aside0.mk (HP.out.then hBd)
          obtain ⟨k0, k1, k2, k3, k4⟩ := cells5 HP0.out.m
          have x2' : wr.drew.cell? ⟨w.heap.size, 2, none⟩ = some (.slice (some ⟨ab, off, none⟩) ops.length c) := x2
          have z0 : wr.drew.cell? ⟨ab, off + k * 5, none⟩ = some (.int .i64 d) := y0
          have z1 : wr.drew.cell? ⟨ab, off + k * 5 + 1, none⟩ = some (.int .i64 p) := y1
          have z2 : wr.drew.cell? ⟨ab, off + k * 5 + 2, none⟩ = some (.int .i64 q) := y2
          have z3 : wr.drew.cell? ⟨ab, off + k * 5 + 3, none⟩ = some (.int .i64 g1) := y3
          have z4 : wr.drew.cell? ⟨ab, off + k * 5 + 4, none⟩ = some (.int .i64 g2) := y4
          clear e0 e1 e2 e3 e4 hBr hin hcs hBd ho y0 y1 y2 y3 y4
          go_wp2_with fail
          --MARK10
          clear x2
          refine start_ (n := 16) (S := fun w' => w'.cell? ⟨S, 0, none⟩ = some (.int .i64 s.limit) ∧ w'.cell? ⟨S, 1, none⟩ = some ((.slice AG0 (ints s.gens).length cG0)) ∧ w'.cell? ⟨S, 2, none⟩ = some ((.slice AA0 (bools s.alive).length cA0)) ∧ w'.cell? ⟨S, 3, none⟩ = some ((.slice AC0 vs.length cC0)) ∧ w'.cell? ⟨S, 4, none⟩ = some ((.slice AF0 (ints s.free).length cF0)) ∧ w'.cell? ⟨w.heap.size, 2, none⟩ = some (.slice (some ⟨ab, off, none⟩) ops.length c) ∧ w'.cell? ⟨ab, off + k * 5, none⟩ = some (.int .i64 d) ∧ w'.cell? ⟨ab, off + k * 5 + 1, none⟩ = some (.int .i64 p) ∧ w'.cell? ⟨ab, off + k * 5 + 2, none⟩ = some (.int .i64 q) ∧ w'.cell? ⟨ab, off + k * 5 + 3, none⟩ = some (.int .i64 g1) ∧ w'.cell? ⟨ab, off + k * 5 + 4, none⟩ = some (.int .i64 g2)) (ds := [8, 13]) #[false, false, false, false, false, false, false, false, false, false, false, false, false, false, false, false] (by kernel_rfl) rfl rfl ⟨k0, k1, k2, k3, k4, x2', z0, z1, z2, z3, z4⟩ (fun hHeld => ?_)
          generalize wr.drew = x9 at *
          refine pure_ (i := 0) (N := some 48) (v := ?_) (a' := ?_) #[true, false, false, false, false, false, false, false, false, false, false, false, false, false, false, false] rfl rfl (by kernel_rfl) (fun _ _ _ h => h) (Or.inl ⟨by rfl, ?_⟩) ?_ ?_
          rotate_left
          · intro w'
            go_simp
            with_reducible rfl
          rotate_left
          · simp only [Act.put, List.setIfInBounds_toArray, List.set_cons_zero, List.set_cons_succ, i64_w, i32_w]
            rfl
          refine pure_ (i := 2) (N := some 50) (v := ?_) (a' := ?_) #[true, false, true, false, false, false, false, false, false, false, false, false, false, false, false, false] rfl rfl (by kernel_rfl) (fun _ _ _ h => h) (Or.inl ⟨by rfl, ?_⟩) ?_ ?_
          rotate_left
          · intro w'
            go_simp
            with_reducible rfl
          rotate_left
          · simp only [Act.put, List.setIfInBounds_toArray, List.set_cons_zero, List.set_cons_succ, i64_w, i32_w]
            rfl
          refine pure_ (i := 4) (N := some 52) (v := ?_) (a' := ?_) #[true, false, true, false, true, false, false, false, false, false, false, false, false, false, false, false] rfl rfl (by kernel_rfl) (fun _ _ _ h => h) (Or.inl ⟨by rfl, ?_⟩) ?_ ?_
          rotate_left
          · intro w'
            go_simp
            with_reducible rfl
          rotate_left
          · simp only [Act.put, List.setIfInBounds_toArray, List.set_cons_zero, List.set_cons_succ, i64_w, i32_w]
            rfl
          refine pure_ (i := 7) (N := some 55) (v := ?_) (a' := ?_) #[true, false, true, false, true, false, false, true, false, false, false, false, false, false, false, false] rfl rfl (by kernel_rfl) (fun _ _ _ h => h) (Or.inl ⟨by rfl, ?_⟩) ?_ ?_
          rotate_left
          · intro w'
            go_simp
            with_reducible rfl
          rotate_left
          · simp only [Act.put, List.setIfInBounds_toArray, List.set_cons_zero, List.set_cons_succ, i64_w, i32_w]
            rfl
          refine take_ (i := 1) (N := some 49) (v := ?_) (a' := ?_) #[true, true, true, false, true, false, false, true, false, false, false, false, false, false, false, false] rfl rfl (by kernel_rfl) (fun _ _ _ h => h) (Or.inl ⟨by rfl, ?_⟩) hHeld ?_ ?_
          rotate_left
          · rintro w' ⟨s0, s1, s2, s3, s4, s5, s6, s7, s8, s9, s10⟩
            go_simp
            with_reducible rfl
          rotate_left
          · simp only [Act.put, List.setIfInBounds_toArray, List.set_cons_zero, List.set_cons_succ, i64_w, i32_w]
            rfl
          refine take_ (i := 3) (N := some 51) (v := ?_) (a' := ?_) #[true, true, true, true, true, false, false, true, false, false, false, false, false, false, false, false] rfl rfl (by kernel_rfl) (fun _ _ _ h => h) (Or.inl ⟨by rfl, ?_⟩) hHeld ?_ ?_
          rotate_left
          · rintro w' ⟨s0, s1, s2, s3, s4, s5, s6, s7, s8, s9, s10⟩
            go_simp
            with_reducible rfl
          rotate_left
          · simp only [Act.put, List.setIfInBounds_toArray, List.set_cons_zero, List.set_cons_succ, i64_w, i32_w]
            rfl
          refine pure_ (i := 5) (N := some 53) (v := ?_) (a' := ?_) #[true, true, true, true, true, true, false, true, false, false, false, false, false, false, false, false] rfl rfl (by kernel_rfl) (fun _ _ _ h => h) (Or.inl ⟨by rfl, ?_⟩) ?_ ?_
          rotate_left
          · intro w'
            go_simp
            with_reducible rfl
          rotate_left
          · simp only [Act.put, List.setIfInBounds_toArray, List.set_cons_zero, List.set_cons_succ, i64_w, i32_w]
            rfl
          refine take_ (i := 6) (N := some 54) (v := ?_) (a' := ?_) #[true, true, true, true, true, true, true, true, false, false, false, false, false, false, false, false] rfl rfl (by kernel_rfl) (fun _ _ _ h => h) (Or.inl ⟨by rfl, ?_⟩) hHeld ?_ ?_
          rotate_left
          · rintro w' ⟨s0, s1, s2, s3, s4, s5, s6, s7, s8, s9, s10⟩
            go_simp
            with_reducible rfl
          rotate_left
          · simp only [Act.put, List.setIfInBounds_toArray, List.set_cons_zero, List.set_cons_succ, i64_w, i32_w]
            rfl
          refine last_ (i := 8) (N := some 56) #[true, true, true, true, true, true, true, true, true, false, false, false, false, false, false, false] rfl rfl (by kernel_rfl) (by decide) (fun K hK => ?_)
          have HCL := calls_law ⟨d, p, q, (g1, g2)⟩ HP0.out.ca HP0.out.wf (by have := HP0.out.hl; omega)
          rw [HCS.out] at HCL
          unfold CallsP at HCL
          refine goes_ Try.func26 (by kernel_rfl) rfl #[.pointer (some ⟨b, 0, none⟩), .agg #[.int .i64 s.limit, (.slice AG0 (ints s.gens).length cG0), (.slice AA0 (bools s.alive).length cA0), (.slice AC0 vs.length cC0), (.slice AF0 (ints s.free).length cF0)], .agg #[.int .i64 d, .int .i64 p, .int .i64 q, .int .i64 g1, .int .i64 g2], .slice AH had.length cH] (by rfl) rfl rfl (by simp only [List.map_toArray, List.map_cons, List.map_nil]; rfl) ?_
          with_reducible refine (HCL).mono ?_
          rintro e w5 ⟨uG, uA, uC, uF, us, vh2, col2, hc2, rfl, hCA, hk3⟩
          refine ⟨_, rfl, ?_⟩
          obtain ⟨AG3, cG3, rfl, -⟩ := hCA.rd.g.slice
          obtain ⟨AA3, cA3, rfl, -⟩ := hCA.rd.a.slice
          obtain ⟨AC3, cC3, rfl, -⟩ := hCA.rd.c.slice
          obtain ⟨AF3, cF3, rfl, -⟩ := hCA.rd.f.slice
          obtain ⟨AH3, cH3, rfl, -, -⟩ := gid_rd hCA.h
          refine hK.out _ _ ?_
          clear hK K
          refine norm_ (a' := ?_) ?_ ?_
          rotate_left
          · show Act.put _ (some 56) _ = _
            simp only [Act.put, List.setIfInBounds_toArray, List.set_cons_zero, List.set_cons_succ, i64_w, i32_w]
            rfl
          refine pure_ (i := 9) (N := some 47) (v := ?_) (a' := ?_) #[true, true, true, true, true, true, true, true, true, true, false, false, false, false, false, false] rfl rfl (by kernel_rfl) (fun _ _ _ h => h) (Or.inl ⟨by rfl, ?_⟩) ?_ ?_
          rotate_left
          · intro w'
            go_simp
            with_reducible rfl
          rotate_left
          · simp only [Act.put, List.setIfInBounds_toArray, List.set_cons_zero, List.set_cons_succ, i64_w, i32_w]
            rfl
          refine pure_ (i := 10) (N := some 57) (v := ?_) (a' := ?_) #[true, true, true, true, true, true, true, true, true, true, true, false, false, false, false, false] rfl rfl (by kernel_rfl) (fun _ _ _ h => h) (Or.inl ⟨by rfl, ?_⟩) ?_ ?_
          rotate_left
          · intro w'
            go_simp
            with_reducible rfl
          rotate_left
          · simp only [Act.put, List.setIfInBounds_toArray, List.set_cons_zero, List.set_cons_succ, i64_w, i32_w]
            rfl
          refine pure_ (i := 11) (N := some 58) (v := ?_) (a' := ?_) #[true, true, true, true, true, true, true, true, true, true, true, true, false, false, false, false] rfl rfl (by kernel_rfl) (fun _ _ _ h => h) (Or.inl ⟨by rfl, ?_⟩) ?_ ?_
          rotate_left
          · intro w'
            go_simp
            with_reducible rfl
          rotate_left
          · simp only [Act.put, List.setIfInBounds_toArray, List.set_cons_zero, List.set_cons_succ, i64_w, i32_w]
            rfl
          refine pure_ (i := 12) (N := some 59) (v := ?_) (a' := ?_) #[true, true, true, true, true, true, true, true, true, true, true, true, true, false, false, false] rfl rfl (by kernel_rfl) (fun _ _ _ h => h) (Or.inl ⟨by rfl, ?_⟩) ?_ ?_
          rotate_left
          · intro w'
            go_simp
            with_reducible rfl
          rotate_left
          · simp only [Act.put, List.setIfInBounds_toArray, List.set_cons_zero, List.set_cons_succ, i64_w, i32_w]
            rfl
          refine last_ (i := 13) (N := none) #[true, true, true, true, true, true, true, true, true, true, true, true, true, true, false, false] rfl rfl (by kernel_rfl) (by decide) (fun K hK => ?_)
          have hm5 := (hk3 S HP0.out.hm).2.trans HP0.out.m
          obtain ⟨ra0, ra1, ra2, ra3, ra4⟩ := cells5 hm5
          obtain ⟨ga0, ga1, ga2, ga3, ga4⟩ := froz5 hm5
          have hRl := lt_blk hm5
          refine skip_ (w1 := ?_) (by rfl) rfl ?_ ?_
          rotate_left
          · go_simp
            first | with_reducible rfl | rfl
          refine hK.out _ _ ?_
          clear hK K
          refine pure_ (i := 14) (N := some 7) (v := ?_) (a' := ?_) #[true, true, true, true, true, true, true, true, true, true, true, true, true, true, true, false] rfl rfl (by kernel_rfl) (fun _ _ _ h => h) (Or.inl ⟨by rfl, ?_⟩) ?_ ?_
          rotate_left
          · intro w'
            go_simp
            with_reducible rfl
          rotate_left
          · simp only [Act.put, List.setIfInBounds_toArray, List.set_cons_zero, List.set_cons_succ, i64_w, i32_w]
            rfl
          refine pure_ (i := 15) (N := some 8) (v := ?_) (a' := ?_) #[true, true, true, true, true, true, true, true, true, true, true, true, true, true, true, true] rfl rfl (by kernel_rfl) (fun _ _ _ h => h) (Or.inl ⟨by rfl, ?_⟩) ?_ ?_
          rotate_left
          · intro w'
            go_simp
            with_reducible rfl
          rotate_left
          · simp only [Act.put, List.setIfInBounds_toArray, List.set_cons_zero, List.set_cons_succ, i64_w, i32_w]
            rfl
          refine done_ (by kernel_rfl) ?_
          have HP6 := Aside0.mk (HP0.out.next hCA hk3 HIN.out.1 HIN.out.2.2)
          generalize ((((((w5.setCell ⟨S, 0, none⟩ (.int .i64 s'.limit)).setCell ⟨S, 1, none⟩ ((.slice AG3 (ints s'.gens).length cG3))).setCell ⟨S, 2, none⟩ ((.slice AA3 (bools s'.alive).length cA3))).setCell ⟨S, 3, none⟩ ((.slice AC3 us.length cC3))).setCell ⟨S, 4, none⟩ ((.slice AF3 (ints s'.free).length cF3)))) = W6 at *
          clear ra0 ra1 ra2 ra3 ra4 ga0 ga1 ga2 ga3 ga4 hRl hCA hk3 hm5 HP0 HCL hHeld
          obtain ⟨q0, q1, q2, q3, q4⟩ := cells5 HP6.out.m
          have hSl := lt_blk HP6.out.m
          have hIs := is_rd W6 HP6.out.ca.sl HP6.out.wf.l0 HP6.out.wf.ok.bd (by have := HP6.out.wf.a; have := HP6.out.wf.g; have := HP6.out.wf.l1; omega) HP6.out.ca.rd
          --MARKT
          go_wp2_with fail
          refine hIs.mono ?_
          clear hIs q0 q1 q2 q3 q4 hSl
          rintro e w7 ⟨rfl, hB7⟩
          have HP7 := Aside0.mk (HP6.out.then hB7)
          clear hB7
          go_wp2
          go_roundw
          case rel => exact ⟨k + 1, by omega, by go_num, ⟨⟨_, _, _, _, _, _, _, _, _, HP7.out⟩⟩⟩
          case measure => simp [intOf]; omega
        · obtain rfl : k = ops.length := by omega
          go_wp2
          go_ret
          exact ⟨by simp, below_then HW.out HP.out.ca.b0⟩
    · rw [HK.out] at h0
      cases h0
  · have HK := Aside0.mk hk
    clear hk hB1 hX1
    go_wp2_with fail
    refine (new_ref L P w1).mono ?_
    rintro e w2 ⟨hB2, ⟨h0, -⟩ | ⟨-, rfl⟩⟩
    · rw [HK.out] at h0
      cases h0
    · have hA : Below w2.heap.size w2 (w2.alloc (.cells #[.int .i64 0, .slice none 0 0, .slice none 0 0, .slice none 0 0, .slice none 0 0] TT)) := below_al (Below.refl _ _) _
      have hX2 := blk_below (blk_below HX1.out hB2) hA
      have HB2 := Aside0.mk (below_then (below_then HW.out (below_then HB1.out hB2)) hA)
      clear hB2 x0 x1 hXl hA
      go_wp2_with fail
      generalize (w2.alloc (.cells #[.int .i64 0, .slice none 0 0, .slice none 0 0, .slice none 0 0, .slice none 0 0] TT)) = W9 at *
      have x2 := cell_blk hX2 2
      simp only [List.getElem?_toArray, List.getElem?_cons_zero, List.getElem?_cons_succ] at x2
      have hXl2 := lt_blk hX2
      clear hX2
      --MARKN
      go_loopw [7, 9] (fun vh i wr => i = .int .i64 0 ∧ wr = W9) (fun _ i _ => 0)
      case atStart => exact ⟨rfl, rfl⟩
      case round =>
        obtain ⟨rfl, rfl⟩ := hrel
        by_cases h0 : 0 < ops.length
        · have h0' : (0 : Int) < (ops.length : Int) := by omega
          go_wp2
          go_ret
          exact ⟨by simp, HB2.out⟩
        · have h0' : ¬ (0 : Int) < (ops.length : Int) := by omega
          go_wp2
          go_ret
          exact ⟨by simp, HB2.out⟩
theorem opensScr2 : Op.Opens Try.prog kScr 37 (fun x => x.2.2.length * Try.prog.bytesOf 55 ≤ reachBytes) (fun s => s.2.2.length) :=
  Op.opens_mono (Op.opens_struct Try.underlying37 (by kernel_rfl) (Op.opensF_cons rfl (by kernel_rfl) (by decide) (Op.opens_int Try.underlying3) (Op.opensF_cons rfl (by kernel_rfl) (by decide) (Op.opens_int Try.underlying3) (Op.opensF_last rfl (by kernel_rfl) (Op.opens_slice Try.underlying35 (by kernel_rfl) opensSOp)))))
    (fun _ h => h.2.2.1) (fun s => by have := sum_one s.2.2; omega)
theorem slabPlays.walk (w : World) (cs : Array Value) (x : Int × Int × List SOp) (hK : kScr.K w x cs.toList) (hG : x.2.2.length * Try.prog.bytesOf 55 ≤ reachBytes) : Calls Try.prog 8 #[.agg cs] w fun e w' => e = .returned (.bool true) ∧ Below w.heap.size w w' := by
  obtain ⟨A, c, hcs, hc, hC⟩ := kScr_open hK
  obtain rfl := Array.toList_inj.1 hcs
  have hb : Try.prog.bytesOf 55 = 40 := by kernel_rfl
  rw [hb] at hG
  exact SlabPlays0.walk w x.1 x.2.1 A c x.2.2 hC hc (by unfold reachBytes at hG; omega)
theorem slabPlays.own : ownKnob Try.prog.godebug = none := by kernel_rfl
theorem slabPlays.laidOut : laidOutB Try.prog = true := by kernel_rfl
set_option maxRecDepth 100000 in
set_option maxHeartbeats 1000000 in
theorem slabPlays.lifted (os : Os) (started : os.Started) (H : Type) (enc : TypeId × Value → H)
    : ReturnsInHanded {} Try.checked os 8 .any (Rows.slabPlaysSpec.pre6 enc Try.prog Try.f8 Rows.slabPlaysRow.domain false) (Rows.slabPlaysSpec.post enc Try.prog Try.f8 false true false false) := by
  refine returnsInHanded_of_change_sized (C := Try.checked) slabPlays.own started (by kernel_rfl) Try.func8
    (ChangeSpec.witness6 (enc := enc) (C := Try.checked) false ⟨#[], #[.agg #[.int .i64 0, .int .i64 0, .slice none 0 0]], []⟩ 8 (by kernel_rfl) (by kernel_rfl) (by kernel_rfl) (by kernel_rfl)) ?_
  intro W base args ds gs before hval0 hW hcnd hsz0 _
  have hsz : (DataW.weightsEach Try.prog (Try.f8.params.toList ++ Rows.slabPlaysSpec.plain.varTypes Try.prog) (ds ++ gs)).all (· ≤ reachBytes) = true := hsz0
  have hval : ∀ (j : Nat) t v, Try.f8.params[j]? = some t → args[j]? = some v → Value.okWide Try.prog W .any base t v := hval0
  have hW' := hW
  obtain ⟨p, q, hA0, hV, rfl, hfz, hnd⟩ := hW
  have hA : DataW.TrodAll enc Try.prog W 0 (fun _ => true) true Try.f8.params.toList args.toList ds p := hA0
  rw [Try.params8] at hA hval hsz
  obtain ⟨v0, vs0, d0, ds0, p0, q0, hargs, rfl, rfl, h0, r0⟩ := trodAll_cons hA
  obtain ⟨rfl, rfl, rfl⟩ := trodAll_nil r0
  obtain rfl : args = #[v0] := by cases args; simp_all
  obtain ⟨rfl, rfl⟩ := trodVars_none hV
  have k0 := h0
  have lt0 : ∀ x ∈ p0, x.block < W.heap.size := by obtain ⟨m, hm⟩ := k0; exact DataW.trod_lt m _ _ _ hm
  have W0 := Op.weights_of hsz (j := 0) (t := 37) (d := d0) rfl rfl
  obtain ⟨cs0, rfl, sz0⟩ := okWide_struct Try.underlying37 (hval 0 37 v0 rfl rfl)
  obtain ⟨f0, hf0⟩ := h0
  obtain ⟨a0, hK0, hG0, hM0⟩ := opensScr2 H enc W _ true f0 _ (d0, p0) hf0 W0
  clear hA0 hval0 hsz0 hsz
  refine (slabPlays.walk W cs0 a0 hK0 hG0).mono fun e W' ⟨he, bel⟩ => ?_
  subst he
  exact ⟨_, rfl, _, _, _, [], _, [], hW', trodAll_mk1 (shut_bool Try.underlying4 _), (trodAll_cons_mk (Below.trod slabPlays.laidOut (by kernel_rfl) (of_decide_eq_true (by kernel_rfl)) k0 bel lt0) trodAll_mk0), rfl, bel.frame _, fun h => by cases h⟩
theorem slabPlays_holds : Rows.SlabPlaysSaid :=
  OpenClaim.holds_of_wide 8 Try.f8 rfl rfl rfl rfl rfl rfl rfl ⟨rfl, rfl, rfl, rfl, rfl⟩ rfl rfl rfl rfl rfl (by kernel_rfl) Try.func8 (by kernel_rfl)
    (of_decide_eq_true (by kernel_rfl)) (by unfold Func.isWrapper; first | (rw [if_pos (by decide +kernel)]; kernel_rfl) | (rw [if_neg (by decide +kernel)]; exact ⟨rfl, rfl⟩))
    (fun os started H enc _ => slabPlays.lifted os started H enc)
#print axioms slabPlays_holds

end Go.Proofs.Ytnglgjegkjfnaaa
