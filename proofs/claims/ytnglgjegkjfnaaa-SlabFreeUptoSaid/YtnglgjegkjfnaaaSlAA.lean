import Derived.Test.YtnglgjegkjfnaaaSlZ
import Derived.Deep.DrawnRows
namespace Go.Proofs.Ytnglgjegkjfnaaa
open Go.RowKit Go.ChangeShapes Go.WideShapes Go.ChangeAt Go.Proofs.YtnglgjegkjfnaaaW.PrintWords Go.Proofs.YtnglgjegkjfnaaaW.PrintMore Go.Proofs.YtnglgjegkjfnaaaW.PrintLast
/-! names: printed by gen04f.py. -/
def kSOp : Kd SOp := Kd.iso (Kd.pair (Kd.int .i64) (Kd.pair (Kd.int .i64) (Kd.pair (Kd.int .i64) (Kd.pair (Kd.int .i64) (Kd.int .i64))))) (fun o : SOp => (o.d, o.p, o.k, o.g.1, o.g.2))
theorem kSOp_open {w : World} {o : SOp} {cs : List Value} (h : kSOp.K w o cs) : cs = [.int .i64 o.d, .int .i64 o.p, .int .i64 o.k, .int .i64 o.g.1, .int .i64 o.g.2] := by
  obtain ⟨_, _, rfl, rfl, _, _, rfl, rfl, _, _, rfl, rfl, _, _, rfl, rfl, rfl⟩ := h
  rfl
theorem sop_at {w : World} {b off n : Nat} {xs : List SOp} (h : kSOp.C w (some ⟨b, off, none⟩) n xs) (i : Nat) (hi : i < n) : ∃ o, xs[i]? = some o ∧ w.cell? ⟨b, off + i * 5, none⟩ = some (.int .i64 o.d) ∧ w.cell? ⟨b, off + i * 5 + 1, none⟩ = some (.int .i64 o.p) ∧ w.cell? ⟨b, off + i * 5 + 2, none⟩ = some (.int .i64 o.k) ∧ w.cell? ⟨b, off + i * 5 + 3, none⟩ = some (.int .i64 o.g.1) ∧ w.cell? ⟨b, off + i * 5 + 4, none⟩ = some (.int .i64 o.g.2) := by
  obtain ⟨ad, e, hc⟩ := h.2.2 (by omega)
  injection e with e
  subst e
  have hl : i < xs.length := by have := h.1; omega
  obtain ⟨cs, hcl, hK, hat⟩ := hc i _ (List.getElem?_eq_getElem hl)
  obtain rfl := kSOp_open hK
  refine ⟨_, List.getElem?_eq_getElem hl, ?_, ?_, ?_, ?_, ?_⟩
  · have := hat 0 _ rfl; rw [adds] at this; exact this
  · have := hat 1 _ rfl; rw [adds, ← Nat.add_assoc] at this; exact this
  · have := hat 2 _ rfl; rw [adds, ← Nat.add_assoc] at this; exact this
  · have := hat 3 _ rfl; rw [adds, ← Nat.add_assoc] at this; exact this
  · have := hat 4 _ rfl; rw [adds, ← Nat.add_assoc] at this; exact this
/-- What names keeps from round to round. -/
def NmL (W : World) (base b : Nat) (col0 : Nat → Nat) (L P : Int) (k : Nat) (vh va : Value) (wr : World) : Prop := ∃ s had book col cc, NmW W wr base b col0 col cc s vh va had book ∧ NmI k L P s had book
def NamesP (w : World) (base b : Nat) (col0 : Nat → Nat) (L P : Int) (k : Nat) (e : Ending) (w' : World) : Prop := ∃ vh va s had book col, e = .returned (.tuple #[vh, va, .bool true]) ∧ Nx w col0 w' col ∧ IsSlab TS w' base b col s ∧ kG.R 48 w' w.heap.size (fun i => col i = 0) vh had ∧ kG.R 48 w' w.heap.size (fun i => col i = 0) va book ∧ NmI k L P s had book
theorem gid_rd {w : World} {base : Nat} {ok : Nat → Prop} {v : Value} {l : List (Int × Int)} (h : kG.R 48 w base ok v l) : ∃ A c, v = .slice A l.length c ∧ l.length ≤ c ∧ kG.C w A l.length l := Kd.R_reads h
theorem NmW.turnH {w wr w' : World} {base b : Nat} {col0 col cc : Nat → Nat} {s : Sl} {vh va v1 : Value} {had book l1 : List (Int × Int)} (h : NmW w wr base b col0 col cc s vh va had book) (hk : Keep (fun k => cc k = 1) wr w') (hr : kG.R 48 w' w.heap.size (fun k => cc k = 1 ∨ wr.heap.size ≤ k) v1 l1) : ∃ cc', NmW w w' base b col0 col cc' s v1 va l1 book := h.turn (c := 1) (.inl rfl) hk hr
theorem NmW.turnA {w wr w' : World} {base b : Nat} {col0 col cc : Nat → Nat} {s : Sl} {vh va v1 : Value} {had book l1 : List (Int × Int)} (h : NmW w wr base b col0 col cc s vh va had book) (hk : Keep (fun k => cc k = 2) wr w') (hr : kG.R 48 w' w.heap.size (fun k => cc k = 2 ∨ wr.heap.size ≤ k) v1 l1) : ∃ cc', NmW w w' base b col0 col cc' s vh v1 had l1 := h.turn (c := 2) (.inr rfl) hk hr
attribute [local go_sem high] eqG
set_option maxRecDepth 100000 in
set_option maxHeartbeats 16000000 in
theorem names_any (w0 w : World) (b : Nat) (col0 : Nat → Nat) (L P : Int) (A : Option Addr) (c : Nat) (ops : List SOp) (hB0 : Below w0.heap.size w0 w) (hS : IsSlab TS w w0.heap.size b col0 (newS L P)) (hk0 : okNew L P = true) (hC : kSOp.C w0 A ops.length ops) (_ : ops.length ≤ c) (hl : ops.length ≤ 1048576) :
    Calls Try.prog 17 #[.pointer (some ⟨b, 0, none⟩), .agg #[.int .i64 L, .int .i64 P, .slice A ops.length c]] w (NamesP w w0.heap.size b col0 L P ops.length) := by
  have HC := Aside0.mk hC
  have hW : Below w.heap.size w (w.alloc (.cells #[.int .i64 L, .int .i64 P, .slice A ops.length c] 37)) := below_al (Below.refl _ _) _
  have hX : Aside0 ((w.alloc (.cells #[.int .i64 L, .int .i64 P, .slice A ops.length c] 37)).heap[w.heap.size]? = some (.cells #[.int .i64 L, .int .i64 P, .slice A ops.length c] 37 (0, 0))) := ⟨blk_new _ _⟩
  have hX0 : col0 w.heap.size = 0 := hS.z _ (Nat.le_refl _)
  have HS := Aside0.mk (hS.below hW)
  have HW0 := Aside0.mk (below_then hB0 hW)
  have HWW := Aside0.mk hW
  have hP := okNew_iff.1 hk0
  have hXl := lt_blk hX.out
  clear hC hS hB0 hW
  go_enter Try.func17, Try.ntmps17
  go_wp2_with fail
  generalize (w.alloc (.cells #[.int .i64 L, .int .i64 P, .slice A ops.length c] 37)) = W at *
  have hw0s := HW0.out.size
  go_loopw [7, 8, 9] (fun vh va i wr => ∃ k : Nat, k ≤ ops.length ∧ i = .int .i64 k ∧ Aside0 (NmL W w0.heap.size b col0 L P k vh va wr)) (fun _ _ i _ => ops.length - (intOf i).toNat)
  case atStart => exact ⟨0, by omega, rfl, ⟨newS L P, [], [], col0, fun _ => 0, ⟨Nx.refl _ _, HS.out, Kd.R_nil _ _ _ _ _, Kd.R_nil _ _ _ _ _, fun k hk => absurd rfl hk⟩, NmI.start hk0⟩⟩
  case round =>
    clear HS
    obtain ⟨k, hk, rfl, ⟨s, had, book, col, cc, hW1, hI⟩⟩ := hrel
    have HW := Aside0.mk hW1
    have HI := Aside0.mk hI
    have HBr := Aside0.mk (below_then_keep HW0.out hw0s HW.out.nx.keep (fun i hi => by
      rcases Nat.lt_or_ge i W.heap.size with h | h
      · exact HW.out.sl.base_le i (by rw [HW.out.nx.cols i h]; exact hi)
      · omega))
    have hXr := blk_keep hX.out HW.out.nx.keep (fun f => f hX0)
    have s0 := cell_blk hXr 0; have s1 := cell_blk hXr 1; have s2 := cell_blk hXr 2
    simp at s0 s1 s2
    have hXrl := lt_blk hXr
    have HXr := Aside0.mk hXr
    have hrs := HW.out.nx.keep.size
    obtain ⟨AH, cH, rfl, hcH, hCH⟩ := gid_rd hW1.h
    obtain ⟨AB, cB, rfl, hcB, hCB⟩ := gid_rd hW1.a
    have HCH := Aside0.mk hCH
    have HCB := Aside0.mk hCB
    have hhl := hI.hl
    have hbl := hI.bn
    clear hW1 hI hXr hCH hCB
    by_cases hlt : k < ops.length
    · obtain ⟨ab, off, rfl, hab⟩ := C_form HC.out (by omega) (by decide)
      obtain ⟨⟨d, p, q, g1, g2⟩, ho, e0, e1, e2, e3, e4⟩ := sop_at HC.out k hlt
      simp only at e0 e1 e2 e3 e4
      have y0 := (HBr.out.cell (p := ⟨ab, off + k * 5, none⟩) hab).trans e0
      have y1 := (HBr.out.cell (p := ⟨ab, off + k * 5 + 1, none⟩) hab).trans e1
      have y2 := (HBr.out.cell (p := ⟨ab, off + k * 5 + 2, none⟩) hab).trans e2
      have y3 := (HBr.out.cell (p := ⟨ab, off + k * 5 + 3, none⟩) hab).trans e3
      have y4 := (HBr.out.cell (p := ⟨ab, off + k * 5 + 4, none⟩) hab).trans e4
      have hki : (0 : Int) ≤ (k : Int) := by omega
      have hkl : (k : Int) < (ops.length : Int) := by omega
      have habr := Nat.lt_of_lt_of_le hab HBr.out.size
      have hA1 : Below wr.heap.size wr (wr.alloc (.cells #[.int .i64 d, .int .i64 p, .int .i64 q, .int .i64 g1, .int .i64 g2] 55)) := below_al (Below.refl _ _) _
      have hO1 : (wr.alloc (.cells #[.int .i64 d, .int .i64 p, .int .i64 q, .int .i64 g1, .int .i64 g2] 55)).heap[wr.heap.size]? = some (.cells #[.int .i64 d, .int .i64 p, .int .i64 q, .int .i64 g1, .int .i64 g2] 55 (0, 0)) := blk_new _ _
      have HO1 := Aside0.mk hO1
      have HW1 := Aside0.mk (HW.out.below hA1)
      have HX1 := Aside0.mk (blk_below HXr.out hA1)
      have HCH1 := Aside0.mk (Kd.C_below HCH.out hA1)
      have HCB1 := Aside0.mk (Kd.C_below HCB.out hA1)
      have hOl : wr.heap.size < (wr.alloc (.cells #[.int .i64 d, .int .i64 p, .int .i64 q, .int .i64 g1, .int .i64 g2] 55)).heap.size := lt_blk hO1
      have hclP := HI.out.cl
      have hpr : procS s p = (decide (0 ≤ p) && decide (p < P)) := by rw [procS, hclP]
      have HPR := Aside0.mk hpr
      have hk31 : k < 2147483647 := by omega
      have hbase1 : w0.heap.size ≤ (wr.alloc (.cells #[.int .i64 d, .int .i64 p, .int .i64 q, .int .i64 g1, .int .i64 g2] 55)).heap.size := by have := hA1.size; omega
      have hOK := HI.out.wf.ok
      clear ho e0 e1 e2 e3 e4 hO1 hclP hpr HXr HCH HCB
      -- there
      obtain ⟨th, hth, hthp⟩ : ∃ th, Aside0 (th = procS s p) ∧ ((¬ 0 ≤ p ∧ th = false) ∨ (0 ≤ p ∧ p < P ∧ th = true) ∨ (0 ≤ p ∧ ¬ p < P ∧ th = false)) := by
        refine ⟨procS s p, ⟨rfl⟩, ?_⟩
        rw [HPR.out]
        by_cases a1 : 0 ≤ p
        · by_cases a2 : p < P
          · exact .inr (.inl ⟨a1, a2, by simp [a1, a2]⟩)
          · exact .inr (.inr ⟨a1, a2, by simp [a1, a2]⟩)
        · exact .inl ⟨a1, by simp [a1]⟩
      rcases hthp with ⟨a1, rfl⟩ | ⟨a1, a2, rfl⟩ | ⟨a1, a2, rfl⟩
      · rcases (show d = 0 ∨ d = 1 ∨ d = 2 ∨ (d ≠ 0 ∧ d ≠ 1 ∧ d ≠ 2) by omega) with rfl | rfl | rfl | ⟨hd, hd', hd''⟩
        · have hTO : takeS s p = (s, 0, 0, 1) := by rw [takeS, if_neg (by rw [← hth.out]; decide)]
          have HT := take_slab p _ hbase1 HW1.out.sl hOK
          go_wp2_with fail
          refine HT.mono ?_
          clear HT
          rintro e w2 ⟨col2, rfl, hI2, hN2⟩
          rw [hTO] at hI2 ⊢
          have hA2 : Below w2.heap.size w2 (w2.alloc (.cells #[.int .i64 0, .int .i64 0] 48)) := below_al (Below.refl _ _) _
          have HW2 := Aside0.mk ((HW1.out.slab hN2 hI2).below hA2)
          clear hI2 hN2 hTO
          go_wp2
          go_roundw
          case rel => exact ⟨k + 1, by omega, by go_num, ⟨⟨s, had, book, col2, cc, HW2.out, HI.out.mono (by omega)⟩⟩⟩
          case measure => simp [intOf]; omega
        · have HT := name_any ⟨1, p, q, (g1, g2)⟩ AH cH had (wr.alloc (.cells #[.int .i64 1, .int .i64 p, .int .i64 q, .int .i64 g1, .int .i64 g2] 55)) HCH1.out hcH
          go_wp2_with fail
          refine HT.mono ?_
          clear HT
          rintro e w2 ⟨rfl, hB2⟩
          simp only
          have hnm : nameS q (g1, g2) had = ((nameS q (g1, g2) had).1, (nameS q (g1, g2) had).2) := rfl
          generalize (nameS q (g1, g2) had).1 = x at *
          generalize (nameS q (g1, g2) had).2 = g at *
          clear hnm
          have hA2 : Below w2.heap.size w2 (w2.alloc (.cells #[.int .i64 x, .int .i64 g] 48)) := below_al (Below.refl _ _) _
          have hT : (w2.alloc (.cells #[.int .i64 x, .int .i64 g] 48)).heap[w2.heap.size]? = some (.cells #[.int .i64 x, .int .i64 g] 48 (0, 0)) := blk_new _ _
          have hB3 := below_then hB2 hA2
          have HW3 := Aside0.mk (HW1.out.below hB3)
          have HT3 := Aside0.mk hT
          have HO3 := Aside0.mk (blk_below HO1.out hB3)
          have hTl := lt_blk hT
          have hWs3 := hB3.size
          clear hT hB2 hB3
          go_wp2_with fail
          generalize w2.alloc (.cells #[.int .i64 x, .int .i64 g] 48) = W3 at *
          clear hA2
          go_loopw [16, 17] (fun at_ i wr => ∃ m : Nat, m ≤ book.length ∧ i = .int .i64 m ∧ at_ = .int .i64 (atTo book (x, g) m) ∧ Aside0 (Below W3.heap.size W3 wr)) (fun _ i _ => book.length - (intOf i).toNat)
          case atStart => exact ⟨0, by omega, rfl, rfl, ⟨Below.refl _ _⟩⟩
          case round =>
            obtain ⟨m, hm, rfl, rfl, HBq⟩ := hrel
            have HW4 := Aside0.mk (HW3.out.below HBq.out)
            have hT4 := blk_below HT3.out HBq.out
            have t0 := cell_blk hT4 0; have t1 := cell_blk hT4 1
            simp at t0 t1
            have hTl4 := lt_blk hT4
            have HT4 := Aside0.mk hT4
            have HO4 := Aside0.mk (blk_below HO3.out HBq.out)
            obtain ⟨AB', cB', he, -, hCB4⟩ := gid_rd HW4.out.a
            injection he with he1 he2 he3
            subst he1; subst he3
            clear hT4 he2
            by_cases hmt : m < book.length
            · obtain ⟨hb', ho', rfl, hhb⟩ := C_form hCB4 (by omega) (by decide)
              obtain ⟨e, he, c0, c1⟩ := gid_at hCB4 m hmt
              have hmi : (0 : Int) ≤ (m : Int) := by omega
              have hml : (m : Int) < (book.length : Int) := by omega
              have hst : atTo book (x, g) (m + 1) = if (e.1 == x && (e.2 == g)) then (m : Int) else atTo book (x, g) m := by
                rw [atTo, List.getD_eq_getElem?_getD, he]
                show (if e = (x, g) then _ else _) = _
                by_cases h : e = (x, g)
                · rw [if_pos h, if_pos (by rw [h]; simp)]
                · rw [if_neg h, if_neg (fun h2 => h (by simp only [Bool.and_eq_true, beq_iff_eq] at h2; exact Prod.ext h2.1 h2.2))]
              have HST := Aside0.mk hst
              clear hst he hCB4
              generalize atTo book (x, g) m = am at *
              cases heq : (e.1 == x && (e.2 == g)) with
              | true =>
                rw [heq] at HST
                go_wp2
                go_region
                go_wp2
                go_roundw
                case rel => exact ⟨m + 1, by omega, by go_num, by rw [HST.out]; rfl, ⟨HBq.out.drew⟩⟩
                case measure => simp [intOf]; omega
              | false =>
                rw [heq] at HST
                go_wp2
                go_region
                go_wp2
                go_roundw
                case rel => exact ⟨m + 1, by omega, by go_num, by rw [HST.out]; rfl, ⟨HBq.out.drew⟩⟩
                case measure => simp [intOf]; omega
            · obtain rfl : m = book.length := by omega
              have hsz4 := HBq.out.size
              have o1 := cell_blk HO4.out 1
              simp at o1
              have hOl4 := lt_blk HO4.out
              have hGO : giveS s p x g = (s, 1) := by rw [giveS, if_neg (by rw [← hth.out]; decide)]
              have HT := give_slab p x g _ (by omega) HW4.out.sl hOK HI.out.wf.cl
              rw [hGO] at HT
              clear hCB4
              go_wp2_with fail
              refine HT.mono ?_
              clear HT
              rintro e w5 ⟨col2, rfl, hI5, hN5⟩
              have HW5 := Aside0.mk (HW4.out.slab hN5 hI5)
              clear hI5 hN5 hGO
              go_wp2
              go_roundw
              case rel => exact ⟨k + 1, by omega, by go_num, ⟨⟨s, had, book, col2, cc, HW5.out, HI.out.mono (by omega)⟩⟩⟩
              case measure => simp [intOf]; omega
        · have hFO : (flushS s p).2 = 1 := by rw [flushS, if_neg (by rw [← hth.out]; decide)]
          have hFI := HI.out.flush p
          have HT := flush_slab p _ hbase1 HW1.out.sl hOK
          have HFI := Aside0.mk hFI
          clear hFI
          go_wp2_with fail
          refine HT.mono ?_
          clear HT
          rintro e w2 ⟨col2, rfl, hI2, hN2⟩
          rw [hFO]
          have HW2 := Aside0.mk (HW1.out.slab hN2 hI2)
          clear hI2 hN2 hFO
          go_wp2
          go_roundw
          case rel => exact ⟨k + 1, by omega, by go_num, ⟨⟨_, had, book, col2, cc, HW2.out, HFI.out.mono (by omega)⟩⟩⟩
          case measure => simp [intOf]; omega
        · go_wp2
          go_roundw
          case rel => exact ⟨k + 1, by omega, by go_num, ⟨⟨s, had, book, col, cc, HW1.out, HI.out.mono (by omega)⟩⟩⟩
          case measure => simp [intOf]; omega
      · rcases (show d = 0 ∨ d = 1 ∨ d = 2 ∨ (d ≠ 0 ∧ d ≠ 1 ∧ d ≠ 2) by omega) with rfl | rfl | rfl | ⟨hd, hd', hd''⟩
        · obtain ⟨n, rfl⟩ := Int.eq_ofNat_of_zero_le a1
          have hclP := HI.out.cl
          have hnl : n < s.caches.length := by omega
          have hprn : procS s n = true := hth.out.symm
          cases hs : (slotS s n).2 with
          | none =>
            have hTO : takeS s n = ((slotS s n).1, 0, 0, 2) := takeS_none hprn hs
            have HT := take_slab n _ hbase1 HW1.out.sl hOK
            go_wp2_with fail
            refine HT.mono ?_
            clear HT
            rintro e w2 ⟨col2, rfl, hI2, hN2⟩
            rw [hTO] at hI2 ⊢
            obtain ⟨hI3, hbL⟩ := HI.out.refused hk31 hnl hs
            have hbL2 : decide ((book.length : Int) < L) = false := by simp; omega
            have HI3 := Aside0.mk hI3
            have hX2 := blk_keep HX1.out hN2.keep (fun f => f ((HW1.out.nx.cols _ hXl).trans hX0))
            have s0 := cell_blk hX2 0
            simp at s0
            have hXl2 := lt_blk hX2
            have hA2 : Below w2.heap.size w2 (w2.alloc (.cells #[.int .i64 0, .int .i64 0] 48)) := below_al (Below.refl _ _) _
            have HW2 := Aside0.mk ((HW1.out.slab hN2 hI2).below hA2)
            clear hI2 hN2 hTO hI3 hX2 hbL
            go_wp2
            go_roundw
            case rel => exact ⟨k + 1, by omega, by go_num, ⟨⟨_, had, book, col2, cc, HW2.out, HI3.out.mono (by omega)⟩⟩⟩
            case measure => simp [intOf]; omega
          | some x =>
            have hTO : takeS s n = (givenS (slotS s n).1 x.toNat, x, (slotS s n).1.gens.getD x.toNat 0 + 1, 0) := takeS_some hprn hs
            have hTR := take_some HI.out.wf hnl hs
            have HT := take_slab n _ hbase1 HW1.out.sl hOK
            go_wp2_with fail
            refine HT.mono ?_
            clear HT
            rintro e w2 ⟨col2, rfl, hI2, hN2⟩
            rw [hTO] at hI2 ⊢
            have hfr := HI.out.fresh hTR
            have HI3 := Aside0.mk (HI.out.take hTR)
            generalize givenS (slotS s n).1 x.toNat = s3 at *
            generalize (slotS s n).1.gens.getD x.toNat 0 + 1 = g at *
            have HF := Aside0.mk hfr
            have HW2 := Aside0.mk (HW1.out.slab hN2 hI2)
            have hA2 : Below w2.heap.size w2 (w2.alloc (.cells #[.int .i64 x, .int .i64 g] 48)) := below_al (Below.refl _ _) _
            have hN := (w2.alloc (.cells #[.int .i64 x, .int .i64 g] 48)).heap.size
            have hT : (w2.alloc (.cells #[.int .i64 x, .int .i64 g] 48)).heap[w2.heap.size]? = some (.cells #[.int .i64 x, .int .i64 g] 48 (0, 0)) := blk_new _ _
            have HW3 := Aside0.mk (HW2.out.below hA2)
            have HT3 := Aside0.mk hT
            have hTl := lt_blk hT
            have hccT : cc w2.heap.size = 0 := by
              by_cases e : cc w2.heap.size = 0
              · exact e
              · have := (HW2.out.cz _ e).2.2; omega
            clear hI2 hN2 hTO hTR hfr hN hT HW2
            go_wp2_with fail
            generalize w2.alloc (.cells #[.int .i64 x, .int .i64 g] 48) = W3 at *
            clear hA2
            go_loopw [14] (fun i wr => ∃ m : Nat, m ≤ had.length ∧ i = .int .i64 m ∧ Aside0 (Below W3.heap.size W3 wr)) (fun i _ => had.length - (intOf i).toNat)
            case atStart => exact ⟨0, by omega, rfl, ⟨Below.refl _ _⟩⟩
            case round =>
              obtain ⟨m, hm, rfl, HBq⟩ := hrel
              have HW4 := Aside0.mk (HW3.out.below HBq.out)
              have hT4 := blk_below HT3.out HBq.out
              have t0 := cell_blk hT4 0; have t1 := cell_blk hT4 1
              simp at t0 t1
              have hTl4 := lt_blk hT4
              have HT4 := Aside0.mk hT4
              obtain ⟨AH', cH', he, -, hCH4⟩ := gid_rd HW4.out.h
              injection he with he1 he2 he3
              subst he1; subst he3
              clear hT4 he2
              by_cases hmt : m < had.length
              · obtain ⟨hb', ho', rfl, hhb⟩ := C_form hCH4 (by omega) (by decide)
                obtain ⟨e, he, c0, c1⟩ := gid_at hCH4 m hmt
                have hne : (e.1 == x && (e.2 == g)) = false := by
                  rw [Bool.eq_false_iff]
                  intro hx
                  simp only [Bool.and_eq_true, beq_iff_eq] at hx
                  exact HF.out.1 (by rw [← hx.1, ← hx.2]; exact List.mem_of_getElem? he)
                have hmi : (0 : Int) ≤ (m : Int) := by omega
                have hml : (m : Int) < (had.length : Int) := by omega
                clear he hCH4
                go_wp2
                go_region
                go_wp2
                go_roundw
                case rel => exact ⟨m + 1, by omega, by go_num, ⟨HBq.out.drew⟩⟩
                case measure => simp [intOf]; omega
              · obtain rfl : m = had.length := by omega
                have hgl := HW4.out.nx.keep.size
                have hhl2 : (had.length + 1) * 16 ≤ 140737488355328 := by omega
                have hbl2 : (book.length + 1) * 16 ≤ 140737488355328 := by omega
                clear hCH4
                go_wp2_with (first | ((with_reducible refine gate_builtin (b := .append) (xs := #[.tmp 84, .tmp 86]) rfl ?_); at_builtin; refine Kd.R_append kG (w0 := wr) W.heap.size rfl (.tmp 84) (.tmp 86) 39 48 (.agg #[.int .i64 0, .int .i64 0]) 16 rfl Try.underlying39 infoG rfl (by decide) (by omega) (.slice AH had.length cH) had (x, g) [.int .i64 x, .int .i64 g] (fun i => cc i = 1 ∨ wr.heap.size ≤ i) (fun _ => False) rfl ?aX ?aM (fun _ h => h.elim) ?aF ?aO ?aB ?aS ?aL ?_; (case aX => first | rfl | exact congrArg (fun n => Value.slice (some ⟨n, 0, none⟩) 1 1) (by simp)); (case aM => exact kG_mkM _ _ _ _); (case aF => exact fun _ h => .inr h); (case aO => exact (Kd.R_mono HW4.out.h (fun _ h => .inl h))); (case aB => exact Below.refl _ _); (case aS => omega); (case aL => omega); intro v5 w5 ho5 hb5 hg5 hat5; have hk5 := grown_keep hg5 (fun i hi => HW4.out.h.1 i hi); have ht5 := blk_keep HT4.out hk5 (by omega); have t0 := cell_blk ht5 0; have t1 := cell_blk ht5 1; simp at t0 t1; have hTl5 := lt_blk ht5; obtain ⟨cc5, hW5⟩ := HW4.out.turnH hk5 ho5; have HW5 := Aside0.mk hW5; have hs5 := HW5.out.nx.keep.size; clear hW5 ht5) | ((with_reducible refine gate_builtin (b := .append) (xs := #[.tmp 88, .tmp 90]) rfl ?_); at_builtin; refine Kd.R_append kG (w0 := w5) W.heap.size rfl (.tmp 88) (.tmp 90) 39 48 (.agg #[.int .i64 0, .int .i64 0]) 16 rfl Try.underlying39 infoG rfl (by decide) (by omega) (.slice AB book.length cB) book (x, g) [.int .i64 x, .int .i64 g] (fun i => cc5 i = 2 ∨ w5.heap.size ≤ i) (fun _ => False) rfl ?aX ?aM (fun _ h => h.elim) ?aF ?aO ?aB ?aS ?aL ?_; (case aX => first | rfl | exact congrArg (fun n => Value.slice (some ⟨n, 0, none⟩) 1 1) (by simp)); (case aM => exact kG_mkM _ _ _ _); (case aF => exact fun _ h => .inr h); (case aO => exact (Kd.R_mono HW5.out.a (fun _ h => .inl h))); (case aB => exact Below.refl _ _); (case aS => omega); (case aL => omega); intro v6 w6 ho6 hb6 hg6 hat6; obtain ⟨cc6, hW6⟩ := HW5.out.turnA (grown_keep hg6 (fun i hi => HW5.out.a.1 i hi)) ho6; have HW6 := Aside0.mk hW6; clear hW6))
                go_roundw
                case rel => exact ⟨k + 1, by omega, by go_num, ⟨⟨_, _, _, col2, cc6, HW6.out, HI3.out⟩⟩⟩
                case measure => simp [intOf]; omega
        · have HT := name_any ⟨1, p, q, (g1, g2)⟩ AH cH had (wr.alloc (.cells #[.int .i64 1, .int .i64 p, .int .i64 q, .int .i64 g1, .int .i64 g2] 55)) HCH1.out hcH
          go_wp2_with fail
          refine HT.mono ?_
          clear HT
          rintro e w2 ⟨rfl, hB2⟩
          simp only
          have hnm : nameS q (g1, g2) had = ((nameS q (g1, g2) had).1, (nameS q (g1, g2) had).2) := rfl
          generalize (nameS q (g1, g2) had).1 = x at *
          generalize (nameS q (g1, g2) had).2 = g at *
          clear hnm
          have hA2 : Below w2.heap.size w2 (w2.alloc (.cells #[.int .i64 x, .int .i64 g] 48)) := below_al (Below.refl _ _) _
          have hT : (w2.alloc (.cells #[.int .i64 x, .int .i64 g] 48)).heap[w2.heap.size]? = some (.cells #[.int .i64 x, .int .i64 g] 48 (0, 0)) := blk_new _ _
          have hB3 := below_then hB2 hA2
          have HW3 := Aside0.mk (HW1.out.below hB3)
          have HT3 := Aside0.mk hT
          have HO3 := Aside0.mk (blk_below HO1.out hB3)
          have hTl := lt_blk hT
          have hWs3 := hB3.size
          clear hT hB2 hB3
          go_wp2_with fail
          generalize w2.alloc (.cells #[.int .i64 x, .int .i64 g] 48) = W3 at *
          clear hA2
          go_loopw [16, 17] (fun at_ i wr => ∃ m : Nat, m ≤ book.length ∧ i = .int .i64 m ∧ at_ = .int .i64 (atTo book (x, g) m) ∧ Aside0 (Below W3.heap.size W3 wr)) (fun _ i _ => book.length - (intOf i).toNat)
          case atStart => exact ⟨0, by omega, rfl, rfl, ⟨Below.refl _ _⟩⟩
          case round =>
            obtain ⟨m, hm, rfl, rfl, HBq⟩ := hrel
            have HW4 := Aside0.mk (HW3.out.below HBq.out)
            have hT4 := blk_below HT3.out HBq.out
            have t0 := cell_blk hT4 0; have t1 := cell_blk hT4 1
            simp at t0 t1
            have hTl4 := lt_blk hT4
            have HT4 := Aside0.mk hT4
            have HO4 := Aside0.mk (blk_below HO3.out HBq.out)
            obtain ⟨AB', cB', he, -, hCB4⟩ := gid_rd HW4.out.a
            injection he with he1 he2 he3
            subst he1; subst he3
            clear hT4 he2
            by_cases hmt : m < book.length
            · obtain ⟨hb', ho', rfl, hhb⟩ := C_form hCB4 (by omega) (by decide)
              obtain ⟨e, he, c0, c1⟩ := gid_at hCB4 m hmt
              have hmi : (0 : Int) ≤ (m : Int) := by omega
              have hml : (m : Int) < (book.length : Int) := by omega
              have hst : atTo book (x, g) (m + 1) = if (e.1 == x && (e.2 == g)) then (m : Int) else atTo book (x, g) m := by
                rw [atTo, List.getD_eq_getElem?_getD, he]
                show (if e = (x, g) then _ else _) = _
                by_cases h : e = (x, g)
                · rw [if_pos h, if_pos (by rw [h]; simp)]
                · rw [if_neg h, if_neg (fun h2 => h (by simp only [Bool.and_eq_true, beq_iff_eq] at h2; exact Prod.ext h2.1 h2.2))]
              have HST := Aside0.mk hst
              clear hst he hCB4
              generalize atTo book (x, g) m = am at *
              cases heq : (e.1 == x && (e.2 == g)) with
              | true =>
                rw [heq] at HST
                go_wp2
                go_region
                go_wp2
                go_roundw
                case rel => exact ⟨m + 1, by omega, by go_num, by rw [HST.out]; rfl, ⟨HBq.out.drew⟩⟩
                case measure => simp [intOf]; omega
              | false =>
                rw [heq] at HST
                go_wp2
                go_region
                go_wp2
                go_roundw
                case rel => exact ⟨m + 1, by omega, by go_num, by rw [HST.out]; rfl, ⟨HBq.out.drew⟩⟩
                case measure => simp [intOf]; omega
            · obtain rfl : m = book.length := by omega
              have hsz4 := HBq.out.size
              have o1 := cell_blk HO4.out 1
              simp at o1
              have hOl4 := lt_blk HO4.out
              obtain ⟨n, rfl⟩ := Int.eq_ofNat_of_zero_le a1
              have hclP := HI.out.cl
              have hnl : n < s.caches.length := by omega
              have HT := give_slab n x g _ (by omega) HW4.out.sl hOK HI.out.wf.cl
              cases hal : aliveS s x g with
              | false =>
                have hGO : giveS s n x g = (s, 41) := by rw [giveS, if_pos hth.out.symm, hal]; rfl
                have hat : atTo book (x, g) book.length = -1 := by
                  rcases atTo_spec book (x, g) book.length with ⟨h1, _⟩ | ⟨j, h1, h2, h3⟩
                  · exact h1
                  · exfalso
                    have := atTo_mem.1 (show 0 ≤ atTo book (x, g) book.length by omega)
                    rw [HI.out.bk, hal] at this
                    cases this
                rw [hGO] at HT
                rw [hat]
                clear hCB4 hat
                go_wp2_with fail
                refine HT.mono ?_
                clear HT
                rintro e w5 ⟨col2, rfl, hI5, hN5⟩
                have HW5 := Aside0.mk (HW4.out.slab hN5 hI5)
                clear hI5 hN5 hGO
                go_wp2
                go_roundw
                case rel => exact ⟨k + 1, by omega, by go_num, ⟨⟨s, had, book, col2, cc, HW5.out, HI.out.mono (by omega)⟩⟩⟩
                case measure => simp [intOf]; omega
              | true =>
                obtain ⟨hGR, hG0⟩ := give_alive (p := n) HI.out.wf hnl hal
                obtain ⟨j, hj, hjl, hje⟩ : ∃ j : Nat, atTo book (x, g) book.length = j ∧ j < book.length ∧ book.getD j (0, 0) = (x, g) := by
                  rcases atTo_spec book (x, g) book.length with ⟨h1, _⟩ | h
                  · exfalso
                    have := atTo_mem.2 ((HI.out.bk (x, g)).2 hal)
                    omega
                  · exact h
                rw [hj]
                have HI5 := Aside0.mk (HI.out.give hGR hjl hje)
                clear hCB4 hj
                go_wp2_with fail
                refine HT.mono ?_
                clear HT
                rintro e w5 ⟨col2, rfl, hI5, hN5⟩
                rw [hG0]
                have HW5 := Aside0.mk (HW4.out.slab hN5 hI5)
                obtain ⟨AB5, cB5, he, hcB5, hCB5⟩ := gid_rd HW5.out.a
                injection he with he1 he2 he3
                subst he1; subst he3; clear he2
                obtain ⟨gB, oB, rfl, hgB⟩ := C_form hCB5 (by omega) (by decide)
                obtain ⟨gB', hgB'⟩ := Kd.R_head HW5.out.a
                injection hgB' with hh1 hh2 hh3
                subst hh1; subst hh2; clear hh3
                have hN1 : book.length - 1 < book.length := by omega
                obtain ⟨ez, hez, z0, z1⟩ := gid_at hCB5 (book.length - 1) hN1
                obtain ⟨ej, hejj, j0, j1⟩ := gid_at hCB5 j hjl
                obtain ⟨cj, hcjl, -, hcjc, hcjf⟩ := Kd.R_elem HW5.out.a (0, 0) (j : Int) (by omega) (by omega)
                have hf0 := hcjf 0
                have hf1 := hcjf 1
                simp only [Int.toNat_natCast, show kG.sz = 2 from rfl, Nat.add_zero] at hf0 hf1 hcjc
                simp only [Nat.zero_add] at z0 z1 j0 j1
                have hezd : book.getD (book.length - 1) (0, 0) = ez := by rw [List.getD_eq_getElem?_getD, hez]; rfl
                have hjj : (0 : Int) ≤ (j : Int) ∧ (j : Int) < (book.length : Int) := by omega
                have hw1 : wrap64 ((book.length : Int) - 1) = ((book.length - 1 : Nat) : Int) := by unfold wrap64; omega
                have hw2 : IntKind.i64.wrap ((book.length - 1 : Nat) : Int) = ((book.length - 1 : Nat) : Int) := IntWalk.i64_in _ (by omega)
                have hw3 : (0 : Int) ≤ ((book.length - 1 : Nat) : Int) ∧ ((book.length - 1 : Nat) : Int) < (book.length : Int) := by omega
                have hw4 : ((book.length - 1 : Nat) : Int) ≤ (cB : Int) := by omega
                have hSeg := Kd.R_seg HW5.out.a (j : Int) (by omega) (by omega) (c := cj) (seg := [.int .i64 ez.1, .int .i64 ez.2]) (j := 0) (x' := ez) (okp := fun _ => False) hcjl hcjc (by show 0 + 2 ≤ 2; omega) (by
                  have h0 : cj.take 0 ++ [Value.int .i64 ez.1, Value.int .i64 ez.2] ++ cj.drop (0 + [Value.int .i64 ez.1, Value.int .i64 ez.2].length) = [Value.int .i64 ez.1, Value.int .i64 ez.2] := by
                    rw [List.drop_eq_nil_of_le (by rw [hcjl]; exact Nat.le_refl _)]; simp
                  rw [h0]; exact kG_mkM _ _ _ ez) (fun _ h => h.elim)
                rw [Int.toNat_natCast] at hSeg
                have HSeg := Aside0.mk hSeg
                have HEZ := Aside0.mk hezd
                clear hI5 hN5 hG0 hCB5 hez hejj hSeg hezd hGR hje hcjc hcjf
                skip
                go_wp2
                go_roundw
                case rel =>
                  obtain ⟨hs1, hs2⟩ := HSeg.out
                  have hK : Keep (fun i => cc i = 2) w5 ((w5.setCell ⟨gB, j * 2, none⟩ (.int .i64 ez.1)).setCell ⟨gB, j * 2 + 1, none⟩ (.int .i64 ez.2)) := grown_keep (v := .slice (some ⟨gB, 0, none⟩) book.length cB) hs2 (fun i hi => HW5.out.a.1 i hi)
                  have hr := Kd.R_take hs1 (m := book.length - 1) (by rw [List.length_set]; omega)
                  obtain ⟨cc6, hW6⟩ := HW5.out.turnA hK (Kd.R_mono hr (fun _ h => .inl h))
                  exact ⟨k + 1, by omega, by go_num, ⟨⟨_, had, swapOut book j, col2, cc6, by rw [swapOut, HEZ.out]; exact hW6, HI5.out.mono (by omega)⟩⟩⟩
                case measure => simp [intOf]; omega
        · obtain ⟨n, rfl⟩ := Int.eq_ofNat_of_zero_le a1
          have hclP := HI.out.cl
          have hFO : (flushS s n).2 = 0 := (flush_wf HI.out.wf (show n < s.caches.length by omega)).2.1
          have hFI := HI.out.flush n
          have HT := flush_slab n _ hbase1 HW1.out.sl hOK
          have HFI := Aside0.mk hFI
          clear hFI
          go_wp2_with fail
          refine HT.mono ?_
          clear HT
          rintro e w2 ⟨col2, rfl, hI2, hN2⟩
          rw [hFO]
          have HW2 := Aside0.mk (HW1.out.slab hN2 hI2)
          clear hI2 hN2 hFO
          go_wp2
          go_roundw
          case rel => exact ⟨k + 1, by omega, by go_num, ⟨⟨_, had, book, col2, cc, HW2.out, HFI.out.mono (by omega)⟩⟩⟩
          case measure => simp [intOf]; omega
        · go_wp2
          go_roundw
          case rel => exact ⟨k + 1, by omega, by go_num, ⟨⟨s, had, book, col, cc, HW1.out, HI.out.mono (by omega)⟩⟩⟩
          case measure => simp [intOf]; omega
      · rcases (show d = 0 ∨ d = 1 ∨ d = 2 ∨ (d ≠ 0 ∧ d ≠ 1 ∧ d ≠ 2) by omega) with rfl | rfl | rfl | ⟨hd, hd', hd''⟩
        · have hTO : takeS s p = (s, 0, 0, 1) := by rw [takeS, if_neg (by rw [← hth.out]; decide)]
          have HT := take_slab p _ hbase1 HW1.out.sl hOK
          go_wp2_with fail
          refine HT.mono ?_
          clear HT
          rintro e w2 ⟨col2, rfl, hI2, hN2⟩
          rw [hTO] at hI2 ⊢
          have hA2 : Below w2.heap.size w2 (w2.alloc (.cells #[.int .i64 0, .int .i64 0] 48)) := below_al (Below.refl _ _) _
          have HW2 := Aside0.mk ((HW1.out.slab hN2 hI2).below hA2)
          clear hI2 hN2 hTO
          go_wp2
          go_roundw
          case rel => exact ⟨k + 1, by omega, by go_num, ⟨⟨s, had, book, col2, cc, HW2.out, HI.out.mono (by omega)⟩⟩⟩
          case measure => simp [intOf]; omega
        · have HT := name_any ⟨1, p, q, (g1, g2)⟩ AH cH had (wr.alloc (.cells #[.int .i64 1, .int .i64 p, .int .i64 q, .int .i64 g1, .int .i64 g2] 55)) HCH1.out hcH
          go_wp2_with fail
          refine HT.mono ?_
          clear HT
          rintro e w2 ⟨rfl, hB2⟩
          simp only
          have hnm : nameS q (g1, g2) had = ((nameS q (g1, g2) had).1, (nameS q (g1, g2) had).2) := rfl
          generalize (nameS q (g1, g2) had).1 = x at *
          generalize (nameS q (g1, g2) had).2 = g at *
          clear hnm
          have hA2 : Below w2.heap.size w2 (w2.alloc (.cells #[.int .i64 x, .int .i64 g] 48)) := below_al (Below.refl _ _) _
          have hT : (w2.alloc (.cells #[.int .i64 x, .int .i64 g] 48)).heap[w2.heap.size]? = some (.cells #[.int .i64 x, .int .i64 g] 48 (0, 0)) := blk_new _ _
          have hB3 := below_then hB2 hA2
          have HW3 := Aside0.mk (HW1.out.below hB3)
          have HT3 := Aside0.mk hT
          have HO3 := Aside0.mk (blk_below HO1.out hB3)
          have hTl := lt_blk hT
          have hWs3 := hB3.size
          clear hT hB2 hB3
          go_wp2_with fail
          generalize w2.alloc (.cells #[.int .i64 x, .int .i64 g] 48) = W3 at *
          clear hA2
          go_loopw [16, 17] (fun at_ i wr => ∃ m : Nat, m ≤ book.length ∧ i = .int .i64 m ∧ at_ = .int .i64 (atTo book (x, g) m) ∧ Aside0 (Below W3.heap.size W3 wr)) (fun _ i _ => book.length - (intOf i).toNat)
          case atStart => exact ⟨0, by omega, rfl, rfl, ⟨Below.refl _ _⟩⟩
          case round =>
            obtain ⟨m, hm, rfl, rfl, HBq⟩ := hrel
            have HW4 := Aside0.mk (HW3.out.below HBq.out)
            have hT4 := blk_below HT3.out HBq.out
            have t0 := cell_blk hT4 0; have t1 := cell_blk hT4 1
            simp at t0 t1
            have hTl4 := lt_blk hT4
            have HT4 := Aside0.mk hT4
            have HO4 := Aside0.mk (blk_below HO3.out HBq.out)
            obtain ⟨AB', cB', he, -, hCB4⟩ := gid_rd HW4.out.a
            injection he with he1 he2 he3
            subst he1; subst he3
            clear hT4 he2
            by_cases hmt : m < book.length
            · obtain ⟨hb', ho', rfl, hhb⟩ := C_form hCB4 (by omega) (by decide)
              obtain ⟨e, he, c0, c1⟩ := gid_at hCB4 m hmt
              have hmi : (0 : Int) ≤ (m : Int) := by omega
              have hml : (m : Int) < (book.length : Int) := by omega
              have hst : atTo book (x, g) (m + 1) = if (e.1 == x && (e.2 == g)) then (m : Int) else atTo book (x, g) m := by
                rw [atTo, List.getD_eq_getElem?_getD, he]
                show (if e = (x, g) then _ else _) = _
                by_cases h : e = (x, g)
                · rw [if_pos h, if_pos (by rw [h]; simp)]
                · rw [if_neg h, if_neg (fun h2 => h (by simp only [Bool.and_eq_true, beq_iff_eq] at h2; exact Prod.ext h2.1 h2.2))]
              have HST := Aside0.mk hst
              clear hst he hCB4
              generalize atTo book (x, g) m = am at *
              cases heq : (e.1 == x && (e.2 == g)) with
              | true =>
                rw [heq] at HST
                go_wp2
                go_region
                go_wp2
                go_roundw
                case rel => exact ⟨m + 1, by omega, by go_num, by rw [HST.out]; rfl, ⟨HBq.out.drew⟩⟩
                case measure => simp [intOf]; omega
              | false =>
                rw [heq] at HST
                go_wp2
                go_region
                go_wp2
                go_roundw
                case rel => exact ⟨m + 1, by omega, by go_num, by rw [HST.out]; rfl, ⟨HBq.out.drew⟩⟩
                case measure => simp [intOf]; omega
            · obtain rfl : m = book.length := by omega
              have hsz4 := HBq.out.size
              have o1 := cell_blk HO4.out 1
              simp at o1
              have hOl4 := lt_blk HO4.out
              have hGO : giveS s p x g = (s, 1) := by rw [giveS, if_neg (by rw [← hth.out]; decide)]
              have HT := give_slab p x g _ (by omega) HW4.out.sl hOK HI.out.wf.cl
              rw [hGO] at HT
              clear hCB4
              go_wp2_with fail
              refine HT.mono ?_
              clear HT
              rintro e w5 ⟨col2, rfl, hI5, hN5⟩
              have HW5 := Aside0.mk (HW4.out.slab hN5 hI5)
              clear hI5 hN5 hGO
              go_wp2
              go_roundw
              case rel => exact ⟨k + 1, by omega, by go_num, ⟨⟨s, had, book, col2, cc, HW5.out, HI.out.mono (by omega)⟩⟩⟩
              case measure => simp [intOf]; omega
        · have hFO : (flushS s p).2 = 1 := by rw [flushS, if_neg (by rw [← hth.out]; decide)]
          have hFI := HI.out.flush p
          have HT := flush_slab p _ hbase1 HW1.out.sl hOK
          have HFI := Aside0.mk hFI
          clear hFI
          go_wp2_with fail
          refine HT.mono ?_
          clear HT
          rintro e w2 ⟨col2, rfl, hI2, hN2⟩
          rw [hFO]
          have HW2 := Aside0.mk (HW1.out.slab hN2 hI2)
          clear hI2 hN2 hFO
          go_wp2
          go_roundw
          case rel => exact ⟨k + 1, by omega, by go_num, ⟨⟨_, had, book, col2, cc, HW2.out, HFI.out.mono (by omega)⟩⟩⟩
          case measure => simp [intOf]; omega
        · go_wp2
          go_roundw
          case rel => exact ⟨k + 1, by omega, by go_num, ⟨⟨s, had, book, col, cc, HW1.out, HI.out.mono (by omega)⟩⟩⟩
          case measure => simp [intOf]; omega
    · obtain rfl : k = ops.length := by omega
      go_wp2
      go_ret3
      have hh := HW.out
      exact ⟨_, _, s, had, book, col, rfl, (Nx.of_below HWW.out).trans hh.nx, hh.sl, Kd.R_lower (Kd.R_mono hh.h (fun i hi => (hh.cz i (by rw [hi]; decide)).1)) HWW.out.size, Kd.R_lower (Kd.R_mono hh.a (fun i hi => (hh.cz i (by rw [hi]; decide)).1)) HWW.out.size, HI.out⟩
end Go.Proofs.Ytnglgjegkjfnaaa
