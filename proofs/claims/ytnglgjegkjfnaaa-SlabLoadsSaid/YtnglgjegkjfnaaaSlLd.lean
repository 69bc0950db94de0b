import Derived.Test.YtnglgjegkjfnaaaSlCe
import Derived.Test.YtnglgjegkjfnaaaSlTT
import Derived.Test.YtnglgjegkjfnaaaSlAC
import Derived.Deep.DrawnRows
import Derived.Test.YtnglgjegkjfnaaaSlLs
set_option linter.unusedSimpArgs false
set_option linter.unusedVariables false
namespace Go.Proofs.Ytnglgjegkjfnaaa
open Go.RowKit Go.ChangeShapes Go.WideShapes Go.ChangeAt Go.Proofs.YtnglgjegkjfnaaaW.PrintWords Go.Proofs.YtnglgjegkjfnaaaW.PrintMore Go.Proofs.YtnglgjegkjfnaaaW.PrintLast
/-! What SlabPlays and SlabLoads keep: printed by gen04ee.py. -/
attribute [local go_sem high] eqG
/-- From round to round: S holds the document's state. -/
structure PlW (w0 wr : World) (b S : Nat) (col hc : Nat → Nat) (s : Sl) (vG vA vC vF : Value) (vs : List Value) (vh : Value) (had : List (Int × Int)) (k : Nat) : Prop where
  ca : CaW w0 wr b col hc s s vG vA vC vF vs vh had
  m : wr.heap[S]? = some (.cells #[.int .i64 s.limit, vG, vA, vC, vF] TT (0, 0))
  hm : hc S = 3
  wf : Wf s
  hl : had.length ≤ k
section
variable {w0 wr w' : World} {b S : Nat} {col col' hc hc' : Nat → Nat} {s s' m : Sl} {vG vA vC vF uG uA uC uF : Value} {vs us : List Value} {vh v1 : Value} {had l1 : List (Int × Int)} {k : Nat}
theorem PlW.then (h : PlW w0 wr b S col hc s vG vA vC vF vs vh had k) (hB : Below wr.heap.size wr w') : PlW w0 w' b S col hc s vG vA vC vF vs vh had k := ⟨h.ca.then hB, blk_below h.m hB, h.hm, h.wf, h.hl⟩
theorem CaW.box3 (h : CaW w0 wr b col hc s m vG vA vC vF vs vh had) (hS : hc S = 3) (hk : Keep (fun i => i = S) wr w') : CaW w0 w' b col hc s m vG vA vC vF vs vh had := by
  have hz := h.cz S (by rw [hS]; decide)
  exact ⟨below_then_keep h.b0 h.b0.size hk (fun i e => by omega), h.sl.keep hk (fun i e => by rw [e]; exact hz.1), h.rd.keep h.own hk (fun k e f => by rw [f, hS] at e; exact absurd e.2.2 (by decide)), h.own.mono (fun k e => ⟨Nat.lt_of_lt_of_le e.1 hk.size, e.2⟩),
    Kd.R_step h.h (fun k e hl => hk.block k hl (fun f => by rw [f, hS] at e; exact absurd e (by decide))), fun k e => by have := h.cz k e; exact ⟨this.1, this.2.1, Nat.lt_of_lt_of_le this.2.2 hk.size⟩⟩
theorem PlW.next {w5 : World} (h : PlW w0 wr b S col hc s vG vA vC vF vs vh had k) (hCA : CaW w0 w5 b col' hc' s' s' uG uA uC uF us v1 l1) (hk3 : ∀ k, hc k = 3 → hc' k = 3 ∧ w5.heap[k]? = wr.heap[k]?) (hwf : Wf s') (hll : l1.length ≤ had.length + 1) :
    PlW w0 ((((((w5.setCell ⟨S, 0, none⟩ (.int .i64 s'.limit)).setCell ⟨S, 1, none⟩ (uG)).setCell ⟨S, 2, none⟩ (uA)).setCell ⟨S, 3, none⟩ (uC)).setCell ⟨S, 4, none⟩ (uF))) b S col' hc' s' uG uA uC uF us v1 l1 (k + 1) := by
  have h3 := hk3 S h.hm
  have hm5 := h3.2.trans h.m
  have hk : Keep (fun i => i = S) w5 ((((((w5.setCell ⟨S, 0, none⟩ (.int .i64 s'.limit)).setCell ⟨S, 1, none⟩ (uG)).setCell ⟨S, 2, none⟩ (uA)).setCell ⟨S, 3, none⟩ (uC)).setCell ⟨S, 4, none⟩ (uF))) := set5_keep _ _ _ _ _ _ _
  have := h.hl
  exact ⟨hCA.box3 h3.1 hk, blk_set5 hm5, h3.1, hwf, by omega⟩
end
def PlL (w0 : World) (b S k : Nat) (vh : Value) (wr : World) : Prop := ∃ s vG vA vC vF vs had col hc, PlW w0 wr b S col hc s vG vA vC vF vs vh had k
end Go.Proofs.Ytnglgjegkjfnaaa
/- SlabLoads: any state: Load takes it just if the document does, and answers as it does; the slab that it makes answers any calls as the document does, and tells just the document's state ahead of them and behind them. No condition. -/
set_option linter.unusedSimpArgs false
set_option linter.unusedVariables false
namespace Go.Proofs.Ytnglgjegkjfnaaa
open Go.RowKit Go.ChangeShapes Go.WideShapes Go.ChangeAt Go.Proofs.YtnglgjegkjfnaaaW.PrintWords Go.Proofs.YtnglgjegkjfnaaaW.PrintMore Go.Proofs.YtnglgjegkjfnaaaW.PrintLast
/-! SlabLoads: printed by gen04ee.py. -/
attribute [local go_sem high] eqG
set_option maxRecDepth 100000 in
set_option maxHeartbeats 16000000 in
theorem SlabLoads0.walk (w : World) {s : Sl} {vG vA vC vF : Value} {vs : List Value} (h : SlR w s vG vA vC vF vs) (hBd0 : Bd s) (A : Option Addr) (c : Nat) (ops : List SOp) (hC : kSOp.C w A ops.length ops) (hc : ops.length ≤ c) (hl : ops.length * 16 ≤ 140737488355328) :
    Calls Try.prog 11 #[.agg #[.int .i64 s.limit, vG, vA, vC, vF], .slice A ops.length c] w fun e w' => e = .returned (.bool true) ∧ Below w.heap.size w w' := by
  obtain ⟨AG0, cG0, rfl, -⟩ := h.g.slice
  obtain ⟨AA0, cA0, rfl, -⟩ := h.a.slice
  obtain ⟨AC0, cC0, rfl, -⟩ := h.c.slice
  obtain ⟨AF0, cF0, rfl, -⟩ := h.f.slice
  have hW : Below w.heap.size w (w.alloc (.cells #[.int .i64 s.limit, (.slice AG0 (ints s.gens).length cG0), (.slice AA0 (bools s.alive).length cA0), (.slice AC0 vs.length cC0), (.slice AF0 (ints s.free).length cF0)] 30)) := below_al (Below.refl _ _) _
  have HX : Aside0 ((w.alloc (.cells #[.int .i64 s.limit, (.slice AG0 (ints s.gens).length cG0), (.slice AA0 (bools s.alive).length cA0), (.slice AC0 vs.length cC0), (.slice AF0 (ints s.free).length cF0)] 30)).heap[w.heap.size]? = some (.cells #[.int .i64 s.limit, (.slice AG0 (ints s.gens).length cG0), (.slice AA0 (bools s.alive).length cA0), (.slice AC0 vs.length cC0), (.slice AF0 (ints s.free).length cF0)] 30 (0, 0))) := ⟨blk_new _ _⟩
  have HC := Aside0.mk (Kd.C_below hC hW)
  have HR := Aside0.mk (h.below hW)
  have HW := Aside0.mk hW
  have HBD := Aside0.mk hBd0
  clear hC hW h hBd0
  go_enter Try.func11, Try.ntmps11
  go_wp2_with fail
  generalize (w.alloc (.cells #[.int .i64 s.limit, (.slice AG0 (ints s.gens).length cG0), (.slice AA0 (bools s.alive).length cA0), (.slice AC0 vs.length cC0), (.slice AF0 (ints s.free).length cF0)] 30)) = W at *
  refine (slload_any W HR.out HBD.out).mono ?_
  rintro e w1 ⟨hB1, hL1⟩
  have HB1 := Aside0.mk hB1
  have hR1 := HR.out.below hB1
  have hX1 := blk_below HX.out hB1
  obtain ⟨x0, x1, x2, x3, x4⟩ := cells5 hX1
  have hXl := lt_blk hX1
  have HL := load_rd w1 hR1 HBD.out
  rcases hL1 with ⟨hk, rfl⟩ | ⟨hk, hwf, b, col, rfl, hS1, hc1⟩ | ⟨hk, hwf, rfl⟩
  · clear hX1 hR1 hB1
    have HK := Aside0.mk hk
    clear hk
    go_wp2_with fail
    refine HL.mono ?_
    clear HL x0 x1 x2 x3 x4 hXl
    rintro e w2 ⟨hB2, ⟨hk2, rfl⟩ | ⟨hk2, -, rfl⟩ | ⟨hk2, -, rfl⟩⟩
    · have HB2 := Aside0.mk (below_then HW.out (below_then HB1.out hB2))
      clear hB2 hk2
      go_wp2
      go_ret
      exact ⟨by simp, HB2.out⟩
    · rw [HK.out] at hk2; cases hk2
    · rw [HK.out] at hk2; cases hk2
  · have HX1 := Aside0.mk hX1
    have HR1 := Aside0.mk hR1
    have HS1 := Aside0.mk hS1
    have HK := Aside0.mk hk
    have HWF := Aside0.mk hwf
    clear hX1 hR1 hB1 hk hS1 hc1 hwf
    go_wp2_with fail
    refine HL.mono ?_
    clear HL x0 x1 x2 x3 x4 hXl
    rintro e w2 ⟨hB2, ⟨hk2, rfl⟩ | ⟨hk2, -, rfl⟩ | ⟨-, hwf2, rfl⟩⟩
    · rw [HK.out] at hk2; cases hk2
    · have HX2 := Aside0.mk (blk_below HX1.out hB2)
      have HR2 := Aside0.mk (HR1.out.below hB2)
      have HS2 := Aside0.mk (HS1.out.below hB2)
      have HB2 := Aside0.mk (below_then HB1.out hB2)
      have hw2 := hB2.size
      obtain ⟨x0, x1, x2, x3, x4⟩ := cells5 HX2.out
      have hXl := lt_blk HX2.out
      have HCP := copy_rd w2 HR2.out HBD.out
      clear hB2 hk2
      go_wp2_with fail
      refine HCP.mono ?_
      clear HCP x0 x1 x2 x3 x4 hXl
      rintro e w3 ⟨uG, uA, uC, uF, us, colm, rfl, hV3, hz3, hB3⟩
      obtain ⟨AG2, cG2, rfl, -⟩ := hV3.g.slice
      obtain ⟨AA2, cA2, rfl, -⟩ := hV3.a.slice
      obtain ⟨AC2, cC2, rfl, -⟩ := hV3.c.slice
      obtain ⟨AF2, cF2, rfl, -⟩ := hV3.f.slice
      have hA : Below w3.heap.size w3 (w3.alloc (.cells #[.int .i64 s.limit, (.slice AG2 (ints s.gens).length cG2), (.slice AA2 (bools s.alive).length cA2), (.slice AC2 us.length cC2), (.slice AF2 (ints s.free).length cF2)] TT)) := below_al (Below.refl _ _) _
      have hV := hV3.rdo (I := fun _ => False)
      have hw1 := HB1.out.size
      have hw3 := hB3.size
      have hw4 : (w3.alloc (.cells #[.int .i64 s.limit, (.slice AG2 (ints s.gens).length cG2), (.slice AA2 (bools s.alive).length cA2), (.slice AC2 us.length cC2), (.slice AF2 (ints s.free).length cF2)] TT)).heap.size = w3.heap.size + 1 := by simp
      have hc0 := HS1.out.z
      have HP : Aside0 (PlW W (w3.alloc (.cells #[.int .i64 s.limit, (.slice AG2 (ints s.gens).length cG2), (.slice AA2 (bools s.alive).length cA2), (.slice AC2 us.length cC2), (.slice AF2 (ints s.free).length cF2)] TT)) b w3.heap.size col (fun k => if k = w3.heap.size then 3 else 0) s (.slice AG2 (ints s.gens).length cG2) (.slice AA2 (bools s.alive).length cA2) (.slice AC2 us.length cC2) (.slice AF2 (ints s.free).length cF2) us (.slice none 0 0) [] 0) :=
        ⟨⟨⟨below_then (below_then HB2.out hB3) hA, (HS2.out.below hB3).below hA, hV.rd.below hA, hV.own.mono (fun k hk => by
          rcases hk with hk | hk
          · exact hk.elim
          · exact ⟨by omega, hc0 k (by omega), if_neg (by omega)⟩), Kd.R_nil _ _ _ _ _, fun k hk => by
          by_cases e : k = w3.heap.size
          · subst e; exact ⟨hc0 _ (by omega), by omega, by omega⟩
          · exact absurd (if_neg e) hk⟩, blk_new _ _, if_pos rfl, HWF.out, Nat.le_refl _⟩⟩
      generalize (fun k => if k = w3.heap.size then 3 else 0) = hc3 at *
      clear hV hV3 hc0 hB3 hA hw4 hz3
      go_upto_region 8 with fail
      generalize (w3.alloc (.cells #[.int .i64 s.limit, (.slice AG2 (ints s.gens).length cG2), (.slice AA2 (bools s.alive).length cA2), (.slice AC2 us.length cC2), (.slice AF2 (ints s.free).length cF2)] TT)) = W4 at *
      obtain ⟨S, hS⟩ : ∃ S, w3.heap.size = S := ⟨_, rfl⟩
      rw [hS] at HP ⊢
      clear hS
      obtain ⟨x0, x1, x2, x3, x4⟩ := cells5 HP.out.m
      have hSl := lt_blk HP.out.m
      have hIs := is_rd W4 HP.out.ca.sl HP.out.wf.l0 HP.out.wf.ok.bd (by have := HP.out.wf.a; have := HP.out.wf.g; have := HP.out.wf.l1; omega) HP.out.ca.rd
      go_wp2_with fail
      refine hIs.mono ?_
      clear hIs x0 x1 x2 x3 x4 hSl
      rintro e w5 ⟨rfl, hB5⟩
      have HP5 : Aside0 (PlL W b S 0 (.slice none 0 0) w5) := ⟨⟨_, _, _, _, _, _, _, _, _, HP.out.then hB5⟩⟩
      clear HP hB5
      go_wp2_with fail
      --MARKL
      go_loopw [9, 10, 11] (fun ok vh i wr => ∃ k : Nat, k ≤ ops.length ∧ ok = .bool true ∧ i = .int .i64 k ∧ Aside0 (PlL W b S k vh wr)) (fun _ _ i _ => ops.length - (intOf i).toNat)
      case atStart => exact ⟨0, by omega, rfl, rfl, HP5⟩
      case round =>
        clear HP5
        obtain ⟨k, hk, rfl, rfl, ⟨s1, vG, vA, vC, vF, vs1, had, col, hc, hP⟩⟩ := hrel
        obtain ⟨AG1, cG1, rfl, -⟩ := hP.ca.rd.g.slice
        obtain ⟨AA1, cA1, rfl, -⟩ := hP.ca.rd.a.slice
        obtain ⟨AC1, cC1, rfl, -⟩ := hP.ca.rd.c.slice
        obtain ⟨AF1, cF1, rfl, -⟩ := hP.ca.rd.f.slice
        obtain ⟨AH, cH, rfl, hcH, -⟩ := gid_rd hP.ca.h
        have HP := Aside0.mk hP
        clear hP
        by_cases hlt : k < ops.length
        · skip
          obtain ⟨ab, off, rfl, hab⟩ := C_form HC.out (by omega) (by decide)
          obtain ⟨⟨d, p, q, g1, g2⟩, ho, e0, e1, e2, e3, e4⟩ := sop_at HC.out k hlt
          simp only at e0 e1 e2 e3 e4
          have hBr := HP.out.ca.b0
          have y0 := (hBr.cell (p := ⟨ab, off + k * 5, none⟩) hab).trans e0
          have y1 := (hBr.cell (p := ⟨ab, off + k * 5 + 1, none⟩) hab).trans e1
          have y2 := (hBr.cell (p := ⟨ab, off + k * 5 + 2, none⟩) hab).trans e2
          have y3 := (hBr.cell (p := ⟨ab, off + k * 5 + 3, none⟩) hab).trans e3
          have y4 := (hBr.cell (p := ⟨ab, off + k * 5 + 4, none⟩) hab).trans e4
          have hki : (0 : Int) ≤ (k : Int) := by omega
          have hkl : (k : Int) < (ops.length : Int) := by omega
          obtain ⟨s', had', hcs⟩ : ∃ s' had', callS s1 had ⟨d, p, q, (g1, g2)⟩ = (s', had') := ⟨_, _, rfl⟩
          have hin := callS_in (had := had) (o := ⟨d, p, q, (g1, g2)⟩) HP.out.wf
          rw [hcs] at hin
          have HIN := Aside0.mk hin
          have HCS := Aside0.mk hcs
          have hBd : Below wr.heap.size wr wr.drew := (Below.refl _ _).drew
          have HP0 := Aside0.mk (HP.out.then hBd)
          obtain ⟨k0, k1, k2, k3, k4⟩ := cells5 HP0.out.m
          have z0 : wr.drew.cell? ⟨ab, off + k * 5, none⟩ = some (.int .i64 d) := y0
          have z1 : wr.drew.cell? ⟨ab, off + k * 5 + 1, none⟩ = some (.int .i64 p) := y1
          have z2 : wr.drew.cell? ⟨ab, off + k * 5 + 2, none⟩ = some (.int .i64 q) := y2
          have z3 : wr.drew.cell? ⟨ab, off + k * 5 + 3, none⟩ = some (.int .i64 g1) := y3
          have z4 : wr.drew.cell? ⟨ab, off + k * 5 + 4, none⟩ = some (.int .i64 g2) := y4
          clear e0 e1 e2 e3 e4 hBr hin hcs hBd ho y0 y1 y2 y3 y4
          go_wp2_with fail
          --MARK13
          refine start_ (n := 15) (S := fun w' => w'.cell? ⟨S, 0, none⟩ = some (.int .i64 s1.limit) ∧ w'.cell? ⟨S, 1, none⟩ = some ((.slice AG1 (ints s1.gens).length cG1)) ∧ w'.cell? ⟨S, 2, none⟩ = some ((.slice AA1 (bools s1.alive).length cA1)) ∧ w'.cell? ⟨S, 3, none⟩ = some ((.slice AC1 vs1.length cC1)) ∧ w'.cell? ⟨S, 4, none⟩ = some ((.slice AF1 (ints s1.free).length cF1)) ∧ w'.cell? ⟨ab, off + k * 5, none⟩ = some (.int .i64 d) ∧ w'.cell? ⟨ab, off + k * 5 + 1, none⟩ = some (.int .i64 p) ∧ w'.cell? ⟨ab, off + k * 5 + 2, none⟩ = some (.int .i64 q) ∧ w'.cell? ⟨ab, off + k * 5 + 3, none⟩ = some (.int .i64 g1) ∧ w'.cell? ⟨ab, off + k * 5 + 4, none⟩ = some (.int .i64 g2)) (ds := [7, 12]) #[false, false, false, false, false, false, false, false, false, false, false, false, false, false, false] (by kernel_rfl) rfl rfl ⟨k0, k1, k2, k3, k4, z0, z1, z2, z3, z4⟩ (fun hHeld => ?_)
          generalize wr.drew = x9 at *
          refine pure_ (i := 0) (N := some 46) (v := ?_) (a' := ?_) #[true, false, false, false, false, false, false, false, false, false, false, false, false, false, false] rfl rfl (by kernel_rfl) (fun _ _ _ h => h) (Or.inl ⟨by rfl, ?_⟩) ?_ ?_
          rotate_left
          · intro w'
            go_simp
            with_reducible rfl
          rotate_left
          · simp only [Act.put, List.setIfInBounds_toArray, List.set_cons_zero, List.set_cons_succ, i64_w, i32_w]
            rfl
          refine pure_ (i := 2) (N := some 48) (v := ?_) (a' := ?_) #[true, false, true, false, false, false, false, false, false, false, false, false, false, false, false] rfl rfl (by kernel_rfl) (fun _ _ _ h => h) (Or.inl ⟨by rfl, ?_⟩) ?_ ?_
          rotate_left
          · intro w'
            go_simp
            with_reducible rfl
          rotate_left
          · simp only [Act.put, List.setIfInBounds_toArray, List.set_cons_zero, List.set_cons_succ, i64_w, i32_w]
            rfl
          refine pure_ (i := 3) (N := some 49) (v := ?_) (a' := ?_) #[true, false, true, true, false, false, false, false, false, false, false, false, false, false, false] rfl rfl (by kernel_rfl) (fun _ _ _ h => h) (Or.inl ⟨by rfl, ?_⟩) ?_ ?_
          rotate_left
          · intro w'
            go_simp
            with_reducible rfl
          rotate_left
          · simp only [Act.put, List.setIfInBounds_toArray, List.set_cons_zero, List.set_cons_succ, i64_w, i32_w]
            rfl
          refine pure_ (i := 4) (N := some 50) (v := ?_) (a' := ?_) #[true, false, true, true, true, false, false, false, false, false, false, false, false, false, false] rfl rfl (by kernel_rfl) (fun _ _ _ h => h) (Or.inl ⟨by rfl, ?_⟩) ?_ ?_
          rotate_left
          · intro w'
            go_simp
            with_reducible rfl
          rotate_left
          · simp only [Act.put, List.setIfInBounds_toArray, List.set_cons_zero, List.set_cons_succ, i64_w, i32_w]
            rfl
          refine pure_ (i := 6) (N := some 52) (v := ?_) (a' := ?_) #[true, false, true, true, true, false, true, false, false, false, false, false, false, false, false] rfl rfl (by kernel_rfl) (fun _ _ _ h => h) (Or.inl ⟨by rfl, ?_⟩) ?_ ?_
          rotate_left
          · intro w'
            go_simp
            with_reducible rfl
          rotate_left
          · simp only [Act.put, List.setIfInBounds_toArray, List.set_cons_zero, List.set_cons_succ, i64_w, i32_w]
            rfl
          refine take_ (i := 1) (N := some 47) (v := ?_) (a' := ?_) #[true, true, true, true, true, false, true, false, false, false, false, false, false, false, false] rfl rfl (by kernel_rfl) (fun _ _ _ h => h) (Or.inl ⟨by rfl, ?_⟩) hHeld ?_ ?_
          rotate_left
          · rintro w' ⟨s0, s1, s2, s3, s4, s5, s6, s7, s8, s9⟩
            go_simp
            with_reducible rfl
          rotate_left
          · simp only [Act.put, List.setIfInBounds_toArray, List.set_cons_zero, List.set_cons_succ, i64_w, i32_w]
            rfl
          refine take_ (i := 5) (N := some 51) (v := ?_) (a' := ?_) #[true, true, true, true, true, true, true, false, false, false, false, false, false, false, false] rfl rfl (by kernel_rfl) (fun _ _ _ h => h) (Or.inl ⟨by rfl, ?_⟩) hHeld ?_ ?_
          rotate_left
          · rintro w' ⟨s0, s1, s2, s3, s4, s5, s6, s7, s8, s9⟩
            go_simp
            with_reducible rfl
          rotate_left
          · simp only [Act.put, List.setIfInBounds_toArray, List.set_cons_zero, List.set_cons_succ, i64_w, i32_w]
            rfl
          refine last_ (i := 7) (N := some 53) #[true, true, true, true, true, true, true, true, false, false, false, false, false, false, false] rfl rfl (by kernel_rfl) (by decide) (fun K hK => ?_)
          have HCL := calls_law ⟨d, p, q, (g1, g2)⟩ HP0.out.ca HP0.out.wf (by have := HP0.out.hl; omega)
          rw [HCS.out] at HCL
          unfold CallsP at HCL
          refine goes_ Try.func26 (by kernel_rfl) rfl #[.pointer (some ⟨b, 0, none⟩), .agg #[.int .i64 s1.limit, (.slice AG1 (ints s1.gens).length cG1), (.slice AA1 (bools s1.alive).length cA1), (.slice AC1 vs1.length cC1), (.slice AF1 (ints s1.free).length cF1)], .agg #[.int .i64 d, .int .i64 p, .int .i64 q, .int .i64 g1, .int .i64 g2], .slice AH had.length cH] (by rfl) rfl rfl (by simp only [List.map_toArray, List.map_cons, List.map_nil]; rfl) ?_
          with_reducible refine (HCL).mono ?_
          rintro e w5 ⟨uG, uA, uC, uF, us, vh2, col2, hc2, rfl, hCA, hk3⟩
          refine ⟨_, rfl, ?_⟩
          obtain ⟨AG3, cG3, rfl, -⟩ := hCA.rd.g.slice
          obtain ⟨AA3, cA3, rfl, -⟩ := hCA.rd.a.slice
          obtain ⟨AC3, cC3, rfl, -⟩ := hCA.rd.c.slice
          obtain ⟨AF3, cF3, rfl, -⟩ := hCA.rd.f.slice
          obtain ⟨AH3, cH3, rfl, -, -⟩ := gid_rd hCA.h
          refine hK.out _ _ ?_
          clear hK K
          refine norm_ (a' := ?_) ?_ ?_
          rotate_left
          · show Act.put _ (some 53) _ = _
            simp only [Act.put, List.setIfInBounds_toArray, List.set_cons_zero, List.set_cons_succ, i64_w, i32_w]
            rfl
          refine pure_ (i := 8) (N := some 45) (v := ?_) (a' := ?_) #[true, true, true, true, true, true, true, true, true, false, false, false, false, false, false] rfl rfl (by kernel_rfl) (fun _ _ _ h => h) (Or.inl ⟨by rfl, ?_⟩) ?_ ?_
          rotate_left
          · intro w'
            go_simp
            with_reducible rfl
          rotate_left
          · simp only [Act.put, List.setIfInBounds_toArray, List.set_cons_zero, List.set_cons_succ, i64_w, i32_w]
            rfl
          refine pure_ (i := 9) (N := some 54) (v := ?_) (a' := ?_) #[true, true, true, true, true, true, true, true, true, true, false, false, false, false, false] rfl rfl (by kernel_rfl) (fun _ _ _ h => h) (Or.inl ⟨by rfl, ?_⟩) ?_ ?_
          rotate_left
          · intro w'
            go_simp
            with_reducible rfl
          rotate_left
          · simp only [Act.put, List.setIfInBounds_toArray, List.set_cons_zero, List.set_cons_succ, i64_w, i32_w]
            rfl
          refine pure_ (i := 10) (N := some 55) (v := ?_) (a' := ?_) #[true, true, true, true, true, true, true, true, true, true, true, false, false, false, false] rfl rfl (by kernel_rfl) (fun _ _ _ h => h) (Or.inl ⟨by rfl, ?_⟩) ?_ ?_
          rotate_left
          · intro w'
            go_simp
            with_reducible rfl
          rotate_left
          · simp only [Act.put, List.setIfInBounds_toArray, List.set_cons_zero, List.set_cons_succ, i64_w, i32_w]
            rfl
          refine pure_ (i := 11) (N := some 56) (v := ?_) (a' := ?_) #[true, true, true, true, true, true, true, true, true, true, true, true, false, false, false] rfl rfl (by kernel_rfl) (fun _ _ _ h => h) (Or.inl ⟨by rfl, ?_⟩) ?_ ?_
          rotate_left
          · intro w'
            go_simp
            with_reducible rfl
          rotate_left
          · simp only [Act.put, List.setIfInBounds_toArray, List.set_cons_zero, List.set_cons_succ, i64_w, i32_w]
            rfl
          refine last_ (i := 12) (N := none) #[true, true, true, true, true, true, true, true, true, true, true, true, true, false, false] rfl rfl (by kernel_rfl) (by decide) (fun K hK => ?_)
          have hm5 := (hk3 S HP0.out.hm).2.trans HP0.out.m
          obtain ⟨ra0, ra1, ra2, ra3, ra4⟩ := cells5 hm5
          obtain ⟨ga0, ga1, ga2, ga3, ga4⟩ := froz5 hm5
          have hRl := lt_blk hm5
          refine skip_ (w1 := ?_) (by rfl) rfl ?_ ?_
          rotate_left
          · go_simp
            first | with_reducible rfl | rfl
          refine hK.out _ _ ?_
          clear hK K
          refine pure_ (i := 13) (N := some 10) (v := ?_) (a' := ?_) #[true, true, true, true, true, true, true, true, true, true, true, true, true, true, false] rfl rfl (by kernel_rfl) (fun _ _ _ h => h) (Or.inl ⟨by rfl, ?_⟩) ?_ ?_
          rotate_left
          · intro w'
            go_simp
            with_reducible rfl
          rotate_left
          · simp only [Act.put, List.setIfInBounds_toArray, List.set_cons_zero, List.set_cons_succ, i64_w, i32_w]
            rfl
          refine pure_ (i := 14) (N := some 9) (v := ?_) (a' := ?_) #[true, true, true, true, true, true, true, true, true, true, true, true, true, true, true] rfl rfl (by kernel_rfl) (fun _ _ _ h => h) (Or.inl ⟨by rfl, ?_⟩) ?_ ?_
          rotate_left
          · intro w'
            go_simp
            with_reducible rfl
          rotate_left
          · simp only [Act.put, List.setIfInBounds_toArray, List.set_cons_zero, List.set_cons_succ, i64_w, i32_w]
            rfl
          refine done_ (by kernel_rfl) ?_
          have HP6 := Aside0.mk (HP0.out.next hCA hk3 HIN.out.1 HIN.out.2.2)
          generalize ((((((w5.setCell ⟨S, 0, none⟩ (.int .i64 s'.limit)).setCell ⟨S, 1, none⟩ ((.slice AG3 (ints s'.gens).length cG3))).setCell ⟨S, 2, none⟩ ((.slice AA3 (bools s'.alive).length cA3))).setCell ⟨S, 3, none⟩ ((.slice AC3 us.length cC3))).setCell ⟨S, 4, none⟩ ((.slice AF3 (ints s'.free).length cF3)))) = W6 at *
          clear ra0 ra1 ra2 ra3 ra4 ga0 ga1 ga2 ga3 ga4 hRl hCA hk3 hm5 HP0 HCL hHeld
          go_wp2
          go_roundw
          case rel => exact ⟨k + 1, by omega, rfl, by go_num, ⟨⟨_, _, _, _, _, _, _, _, _, HP6.out⟩⟩⟩
          case measure => simp [intOf]; omega
        · obtain rfl : k = ops.length := by omega
          obtain ⟨x0, x1, x2, x3, x4⟩ := cells5 HP.out.m
          have hSl := lt_blk HP.out.m
          have hIs := is_rd wr HP.out.ca.sl HP.out.wf.l0 HP.out.wf.ok.bd (by have := HP.out.wf.a; have := HP.out.wf.g; have := HP.out.wf.l1; omega) HP.out.ca.rd
          go_wp2_with fail
          --MARK14
          refine hIs.mono ?_
          clear hIs x0 x1 x2 x3 x4 hSl
          rintro e w6 ⟨rfl, hB6⟩
          have HB6 := Aside0.mk (below_then HW.out (below_then HP.out.ca.b0 hB6))
          clear hB6
          go_wp2
          go_ret
          exact ⟨by simp, HB6.out⟩
    · exact absurd HWF.out hwf2
  · clear hX1 hR1 hB1
    have HK := Aside0.mk hk
    have HWF := Aside0.mk hwf
    clear hk hwf
    go_wp2_with fail
    refine HL.mono ?_
    clear HL x0 x1 x2 x3 x4 hXl
    rintro e w2 ⟨hB2, ⟨hk2, rfl⟩ | ⟨-, hwf2, rfl⟩ | ⟨-, -, rfl⟩⟩
    · rw [HK.out] at hk2; cases hk2
    · exact absurd hwf2 HWF.out
    · have HB2 := Aside0.mk (below_then HW.out (below_then HB1.out hB2))
      clear hB2
      go_wp2
      go_ret
      exact ⟨by simp, HB2.out⟩
theorem slabLoads.walk (w : World) (cs : Array Value) (s : Sl) (hK : kSl.K w s cs.toList) (hG : Bd s) (A : Option Addr) (c : Nat) (ops : List SOp) (hc : ops.length ≤ c) (hC : kSOp.C w A ops.length ops) (hG2 : ops.length * Try.prog.bytesOf 55 ≤ reachBytes ∧ ops.length ≤ 9223372036854775807 ∧ ∀ x ∈ ops, True) :
    Calls Try.prog 11 #[.agg cs, .slice A ops.length c] w fun e w' => e = .returned (.bool true) ∧ Below w.heap.size w w' := by
  obtain ⟨vG, vA, vC, vF, vs, hcs, hR⟩ := kSl_open hK
  obtain rfl : cs = #[.int .i64 s.limit, vG, vA, vC, vF] := Array.toList_inj.1 hcs
  have hb : Try.prog.bytesOf 55 = 40 := by kernel_rfl
  rw [hb] at hG2
  have hg := hG2.1
  unfold reachBytes at hg
  exact SlabLoads0.walk w hR hG A c ops hC hc (by omega)
theorem slabLoads.own : ownKnob Try.prog.godebug = none := by kernel_rfl
theorem slabLoads.laidOut : laidOutB Try.prog = true := by kernel_rfl
set_option maxRecDepth 100000 in
set_option maxHeartbeats 1000000 in
theorem slabLoads.lifted (os : Os) (started : os.Started) (H : Type) (enc : TypeId × Value → H)
    : ReturnsInHanded {} Try.checked os 11 .any (Rows.slabLoadsSpec.pre6 enc Try.prog Try.f11 Rows.slabLoadsRow.domain false) (Rows.slabLoadsSpec.post enc Try.prog Try.f11 false true false false) := by
  refine returnsInHanded_of_change_sized (C := Try.checked) slabLoads.own started (by kernel_rfl) Try.func11
    (ChangeSpec.witness6 (enc := enc) (C := Try.checked) false ⟨#[], #[.agg #[.int .i64 0, .slice none 0 0, .slice none 0 0, .slice none 0 0, .slice none 0 0], .slice none 0 0], []⟩ 8 (by kernel_rfl) (by kernel_rfl) (by kernel_rfl) (by kernel_rfl)) ?_
  intro W base args ds gs before hval0 hW hcnd hsz0 _
  have hsz : (DataW.weightsEach Try.prog (Try.f11.params.toList ++ Rows.slabLoadsSpec.plain.varTypes Try.prog) (ds ++ gs)).all (· ≤ reachBytes) = true := hsz0
  have hval : ∀ (j : Nat) t v, Try.f11.params[j]? = some t → args[j]? = some v → Value.okWide Try.prog W .any base t v := hval0
  have hW' := hW
  obtain ⟨p, q, hA0, hV, rfl, hfz, hnd⟩ := hW
  have hA : DataW.TrodAll enc Try.prog W 0 (fun _ => true) true Try.f11.params.toList args.toList ds p := hA0
  rw [Try.params11] at hA hval hsz
  obtain ⟨v0, vs0, d0, ds0, p0, q0, hargs, rfl, rfl, h0, r0⟩ := trodAll_cons hA
  obtain ⟨v1, vs1, d1, ds1, p1, q1, rfl, rfl, rfl, h1, r1⟩ := trodAll_cons r0
  obtain ⟨rfl, rfl, rfl⟩ := trodAll_nil r1
  obtain rfl : args = #[v0, v1] := by cases args; simp_all
  obtain ⟨rfl, rfl⟩ := trodVars_none hV
  have k0 := h0
  have lt0 : ∀ x ∈ p0, x.block < W.heap.size := by obtain ⟨m, hm⟩ := k0; exact DataW.trod_lt m _ _ _ hm
  have W0 := Op.weights_of hsz (j := 0) (t := 30) (d := d0) rfl rfl
  obtain ⟨cs0, rfl, sz0⟩ := okWide_struct Try.underlying30 (hval 0 30 v0 rfl rfl)
  obtain ⟨f0, hf0⟩ := h0
  obtain ⟨a0, hK0, hG0, hM0⟩ := opensSl H enc W _ true f0 _ (d0, p0) hf0 W0
  have k1 := h1
  have lt1 : ∀ x ∈ p1, x.block < W.heap.size := by obtain ⟨m, hm⟩ := k1; exact DataW.trod_lt m _ _ _ hm
  have W1 := Op.weights_of hsz (j := 1) (t := 35) (d := d1) rfl rfl
  obtain ⟨A1, len1, cap1, rfl⟩ := okWide_slice Try.underlying35 (hval 1 35 v1 rfl rfl)
  obtain ⟨f1, hf1⟩ := h1
  obtain ⟨a1, hK1, hG1, hM1⟩ := opensSOps H enc W _ true f1 _ (d1, p1) hf1 W1
  obtain ⟨A', c', he1, hc1, hC1⟩ := hK1
  obtain ⟨rfl, rfl, rfl⟩ : A1 = A' ∧ len1 = a1.length ∧ cap1 = c' := by simpa [Value.cells] using he1
  clear hA0 hval0 hsz0 hsz
  refine (slabLoads.walk W cs0 a0 hK0 hG0 A1 cap1 a1 hc1 hC1 hG1).mono fun e W' ⟨he, bel⟩ => ?_
  subst he
  exact ⟨_, rfl, _, _, _, [], _, [], hW', trodAll_mk1 (shut_bool Try.underlying4 _), (trodAll_cons_mk (Below.trod slabLoads.laidOut (by kernel_rfl) (of_decide_eq_true (by kernel_rfl)) k0 bel lt0) (trodAll_cons_mk (Below.trod slabLoads.laidOut (by kernel_rfl) (of_decide_eq_true (by kernel_rfl)) k1 bel lt1) trodAll_mk0)), rfl, bel.frame _, fun h => by cases h⟩
theorem slabLoads_holds : Rows.SlabLoadsSaid :=
  OpenClaim.holds_of_wide 11 Try.f11 rfl rfl rfl rfl rfl rfl rfl ⟨rfl, rfl, rfl, rfl, rfl⟩ rfl rfl rfl rfl rfl (by kernel_rfl) Try.func11 (by kernel_rfl)
    (of_decide_eq_true (by kernel_rfl)) (by unfold Func.isWrapper; first | (rw [if_pos (by decide +kernel)]; kernel_rfl) | (rw [if_neg (by decide +kernel)]; exact ⟨rfl, rfl⟩))
    (fun os started H enc _ => slabLoads.lifted os started H enc)
#print axioms slabLoads_holds

end Go.Proofs.Ytnglgjegkjfnaaa
