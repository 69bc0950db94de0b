import Derived.Test.YtjjdojnnomokaaaRingH
set_option linter.unusedSimpArgs false
set_option linter.unusedVariables false
namespace Go.Proofs.Ytjjdojnnomokaaa
open Go.RowKit Go.Proofs.YtjjdojnnomokaaaW.PrintWords Go.Proofs.YtjjdojnnomokaaaW.PrintMore Go.Proofs.YtjjdojnnomokaaaW.PrintLast
/-! Load. -/
theorem wt_at {w : World} {b off : Nat} {n : Nat} {xs : List Wt} (h : kW.C w (some ⟨b, off, none⟩) n xs) (i : Nat) (hi : i < n) : ∃ e, xs[i]? = some e ∧ w.cell? ⟨b, off + i * 3, none⟩ = some (.int .i64 e.s) ∧ w.cell? ⟨b, off + i * 3 + 1, none⟩ = some (.int .i64 e.g) ∧ w.cell? ⟨b, off + i * 3 + 2, none⟩ = some (.int .u64 e.t) := by
  obtain ⟨ad, e, hc⟩ := h.2.2 (by omega)
  injection e with e
  subst e
  have hl : i < xs.length := by have := h.1; omega
  obtain ⟨cs, hcl, hK, hat⟩ := hc i _ (List.getElem?_eq_getElem hl)
  obtain rfl := kW_open hK
  refine ⟨_, List.getElem?_eq_getElem hl, ?_, ?_, ?_⟩
  · have := hat 0 _ rfl; rw [adds] at this; exact this
  · have := hat 1 _ rfl; rw [adds, ← Nat.add_assoc] at this; exact this
  · have := hat 2 _ rfl; rw [adds, ← Nat.add_assoc] at this; exact this
/-- Do the turns rise, of the first n? -/
def okTo (l : List Wt) : Nat → Bool
  | 0 => true
  | n + 1 => okTo l n && !(badT (l.take n) (l.getD n Wt.zero).t)
theorem okTo_false {l : List Wt} {n m : Nat} (h : okTo l n = false) (hm : n ≤ m) : okTo l m = false := by
  induction hm with
  | refl => exact h
  | step _ ih => rw [okTo, ih]; rfl
def loadE (l : List Wt) (has : Bool) (nx : Wt) : Int := if 64 < l.length then 2 else if okTo l l.length && !(has && badT l nx.t) then 0 else 20
def loadR (l : List Wt) (has : Bool) (nx : Wt) : Rg := ⟨l, has, if has then nx else Wt.zero⟩
def LoadPost (l : List Wt) (has : Bool) (nx : Wt) (w : World) (e : Ending) (w' : World) : Prop :=
  Below w.heap.size w w' ∧ ((loadE l has nx = 0 ∧ ∃ b, e = .returned (.tuple #[.pointer (some ⟨b, 0, none⟩), .int .i64 0]) ∧ w.heap.size ≤ b ∧ IsRing w' b (loadR l has nx)) ∨ (loadE l has nx ≠ 0 ∧ e = .returned (.tuple #[.pointer none, .int .i64 (loadE l has nx)])))
set_option maxHeartbeats 8000000 in
theorem load_any (A : Option Addr) (c : Nat) (l : List Wt) (has : Bool) (nx : Wt) (w : World) (hC : kW.C w A l.length l) (hc : l.length ≤ c) (hl : l.length ≤ 9223372036854775807) :
    Calls Try.prog 13 #[.agg #[.slice A l.length c, .bool has, .int .i64 nx.s, .int .i64 nx.g, .int .u64 nx.t]] w (LoadPost l has nx w) := by
  have HC := Aside0.mk hC
  have hW : Below w.heap.size w (w.alloc (.cells #[.slice A l.length c, .bool has, .int .i64 nx.s, .int .i64 nx.g, .int .u64 nx.t] 29)) := below_al (Below.refl _ _) _
  have hRR : (w.alloc (.cells #[.slice A l.length c, .bool has, .int .i64 nx.s, .int .i64 nx.g, .int .u64 nx.t] 29)).heap[w.heap.size]? = some (.cells #[.slice A l.length c, .bool has, .int .i64 nx.s, .int .i64 nx.g, .int .u64 nx.t] 29 (0, 0)) := blk_new _ _
  clear hC
  by_cases h64 : 64 < l.length
  · have hE : loadE l has nx = 2 := by rw [loadE, if_pos h64]
    have HE := Aside0.mk hE
    have hd : decide ((l.length : Int) > 64) = true := by simp; omega
    have hd2 : decide (64 < l.length) = true := by simp; omega
    clear hE
    go_enter Try.func13, Try.ntmps13
    go_wp2
    go_ret2
    refine ⟨(by repeat (first | (with_reducible exact hW) | (with_reducible refine Below.drew ?_) | (with_reducible refine below_drewN ?_ _) | (with_reducible refine below_al ?_ _) | (with_reducible refine Below.alloc ?_ (by first | exact Nat.le_refl _ | omega | (simp; done) | (simp; omega)) _) | (with_reducible refine Below.setCell ?_ (by first | (simp only []; omega) | (simp; done) | (simp; omega)) _))), .inr ⟨by rw [HE.out]; decide, by rw [HE.out]; rfl⟩⟩
  · have hd : decide ((l.length : Int) > 64) = false := by simp; omega
    have hd2 : decide (64 < l.length) = false := by simp; omega
    have hle : l.length ≤ 64 := by omega
    have HE : Aside0 (loadE l has nx = if okTo l l.length && !(has && badT l nx.t) then 0 else 20) := ⟨by rw [loadE, if_neg h64]⟩
    clear h64
    go_enter Try.func13, Try.ntmps13
    go_wp2_with fail
    refine (new_any _).mono ?_
    rintro e w1 ⟨b, rfl, hbw, hI, hB1⟩
    have hbb : w.heap.size < b := by have := lt_blk hRR; omega
    have hbx := blk_below hRR hB1
    obtain ⟨x0, x1, x2, x3, x4, -, -, -, -, -⟩ := blk5 hbx
    have hB := below_then hW hB1
    have HI := Aside0.mk hI
    have HB := Aside0.mk hB
    have HX := Aside0.mk hbx
    have hxl := lt_blk hbx
    clear hI hB hbx hB1 hbw
    go_wp2
    clear x0 x1 x2 x3 x4 hW hRR
    go_loopw [19] (fun i wr => ∃ k : Nat, k ≤ l.length ∧ i = .int .i64 k ∧ Aside0 (okTo l k = true) ∧ Aside0 (Below w.heap.size w wr) ∧ Aside0 (wr.heap[w.heap.size]? = some (.cells #[.slice A l.length c, .bool has, .int .i64 nx.s, .int .i64 nx.g, .int .u64 nx.t] 29 (0, 0))) ∧ Aside0 (IsRing wr b ⟨l.take k, false, Wt.zero⟩)) (fun i _ => l.length - (intOf i).toNat)
    case atStart => exact ⟨0, by omega, rfl, ⟨rfl⟩, HB, HX, HI⟩
    case round =>
      clear HB HX HI hxl
      obtain ⟨k, hk, rfl, HO, HB, HX, HI⟩ := hrel
      have hbl := HI.out.lt
      have hsz := HB.out.size
      by_cases hlt : k < l.length
      · obtain ⟨ab, off, rfl, hab⟩ := C_form HC.out (by omega) (by decide)
        obtain ⟨x, hx, c0, c1, c2⟩ := wt_at HC.out k hlt
        have y0 := (HB.out.cell (p := ⟨ab, off + k * 3, none⟩) hab).trans c0
        have y1 := (HB.out.cell (p := ⟨ab, off + k * 3 + 1, none⟩) hab).trans c1
        have y2 := (HB.out.cell (p := ⟨ab, off + k * 3 + 2, none⟩) hab).trans c2
        have HT := Aside0.mk (take_snoc hx)
        have HOK : Aside0 (okTo l (k + 1) = !(badT (l.take k) x.t)) := ⟨by
          rw [okTo, HO.out, Bool.true_and, show l.getD k Wt.zero = x by simp [List.getD_eq_getElem?_getD, hx]]⟩
        have HTL : Aside0 ((l.take k).length = k) := ⟨by rw [List.length_take]; omega⟩
        have habw := Nat.lt_of_lt_of_le hab hsz
        have hWx : Below wr.heap.size wr (wr.alloc (.cells #[.int .i64 x.s, .int .i64 x.g, .int .u64 x.t] 27)) := below_al (Below.refl _ _) _
        have hRx : (wr.alloc (.cells #[.int .i64 x.s, .int .i64 x.g, .int .u64 x.t] 27)).heap[wr.heap.size]? = some (.cells #[.int .i64 x.s, .int .i64 x.g, .int .u64 x.t] 27 (0, 0)) := blk_new _ _
        clear hx c0 c1 c2
        generalize l.take k = acc at *
        go_wp2_with fail
        refine (last_any b _ _ (HI.out.below hWx)).mono ?_
        rintro e w2 ⟨rfl, hB2⟩
        have hR2 := blk_below hRx hB2
        obtain ⟨z0, z1, z2, -, -, -⟩ := blk3 hR2
        have hI2 := (HI.out.below hWx).below hB2
        have hBw2 := below_then hWx hB2
        have HI2 := Aside0.mk hI2
        have HB2 := Aside0.mk (below_then HB.out hBw2)
        have HX2 := Aside0.mk (blk_below HX.out hBw2)
        have hsz2 := HB2.out.size
        have hxl2 := lt_blk HX2.out
        clear hI2 hB2 hBw2 hWx hRx y0 y1 y2 HI HB HX
        simp only []
        have hbd : badT acc x.t = ((lastP acc).2 && decide (x.t ≤ (lastP acc).1)) := rfl
        have HBD := Aside0.mk hbd
        clear hbd
        generalize (lastP acc).1 = lt at *
        generalize (lastP acc).2 = ls at *
        by_cases hA : ls = true ∧ x.t ≤ lt
        · obtain ⟨rfl, hA⟩ := hA
          have d1 : decide (x.t ≤ lt) = true := by simpa using hA
          have hne : okTo l l.length = false := okTo_false (n := k + 1) (by rw [HOK.out, HBD.out, d1]; rfl) (by omega)
          have HE2 : Aside0 (loadE l has nx = 20) := ⟨by rw [HE.out, hne]; rfl⟩
          clear hne hA
          go_wp2
          go_ret2
          exact ⟨(by repeat (first | (with_reducible exact HB2.out) | (with_reducible refine Below.drew ?_) | (with_reducible refine below_drewN ?_ _) | (with_reducible refine below_al ?_ _) | (with_reducible refine Below.alloc ?_ (by first | exact Nat.le_refl _ | omega | (simp; done) | (simp; omega)) _) | (with_reducible refine Below.setCell ?_ (by first | (simp only []; omega) | (simp; done) | (simp; omega)) _))), .inr ⟨by rw [HE2.out]; decide, by rw [HE2.out]; rfl⟩⟩
        · have hls : (ls = false) ∨ (ls = true ∧ decide (x.t ≤ lt) = false) := by
            cases ls with
            | false => exact .inl rfl
            | true => exact .inr ⟨rfl, by simpa using hA⟩
          have HOK2 : Aside0 (okTo l (k + 1) = true) := ⟨by
            rw [HOK.out, HBD.out]
            rcases hls with rfl | ⟨rfl, h⟩
            · rfl
            · rw [h]; rfl⟩
          clear hA
          have hpl : Aside0 (pushL acc x = acc ++ [x]) := ⟨by rw [pushL, if_pos (by rw [HTL.out]; omega)]⟩
          rcases hls with rfl | ⟨rfl, d1⟩
          all_goals
            go_wp2_with fail
            refine (push_any b ⟨acc, false, Wt.zero⟩ x _ HI2.out).mono ?_
            rintro e w3 ⟨v, rfl, -, hI3, hK3⟩
            have HI3 : Aside0 (IsRing w3 b ⟨l.take (k + 1), false, Wt.zero⟩) := ⟨by rw [HT.out, ← hpl.out]; exact hI3⟩
            have HB3 := Aside0.mk (below_then_keep HB2.out hsz2 hK3 (fun i hi => by subst hi; omega))
            have HX3 := Aside0.mk (blk_keep HX2.out hK3 (show ¬ w.heap.size = b by omega))
            clear hI3 hK3
            go_wp2
            go_roundw
            case rel => exact ⟨k + 1, by omega, by go_num, HOK2, HB3, HX3, HI3⟩
            case measure => simp [intOf]; omega
      · obtain rfl : k = l.length := by omega
        have hi := HI.out
        rw [List.take_length] at hi
        have HI := Aside0.mk hi
        obtain ⟨x0, x1, x2, x3, x4, -, -, -, -, -⟩ := blk5 HX.out
        clear hi
        cases has with
        | false =>
          have HE2 : Aside0 (loadE l false nx = 0) := ⟨by rw [HE.out, HO.out]; rfl⟩
          go_wp2
          go_ret2
          exact ⟨HB.out, .inl ⟨HE2.out, b, rfl, by omega, HI.out⟩⟩
        | true =>
          go_wp2_with fail
          refine (last_any b _ _ HI.out).mono ?_
          rintro e w2 ⟨rfl, hB2⟩
          have HI2 := Aside0.mk (HI.out.below hB2)
          have HB2 := Aside0.mk (below_then HB.out hB2)
          have HX2 := Aside0.mk (blk_below HX.out hB2)
          have hsz2 := HB2.out.size
          have hxl2 := lt_blk HX2.out
          obtain ⟨y0, y1, y2, y3, y4, -, -, -, -, -⟩ := blk5 HX2.out
          have hbl2 := HI2.out.lt
          clear hB2 x0 x1 x2 x3 x4 HI HB HX
          simp only []
          have hbd : badT l nx.t = ((lastP l).2 && decide (nx.t ≤ (lastP l).1)) := rfl
          have HBD := Aside0.mk hbd
          clear hbd
          generalize (lastP l).1 = lt at *
          generalize (lastP l).2 = ls at *
          by_cases hA : ls = true ∧ nx.t ≤ lt
          · obtain ⟨rfl, hA⟩ := hA
            have d1 : decide (nx.t ≤ lt) = true := by simpa using hA
            have HE2 : Aside0 (loadE l true nx = 20) := ⟨by rw [HE.out, HO.out, HBD.out, d1]; rfl⟩
            clear hA
            go_wp2
            go_ret2
            exact ⟨HB2.out, .inr ⟨by rw [HE2.out]; decide, by rw [HE2.out]; rfl⟩⟩
          · have hls : (ls = false) ∨ (ls = true ∧ decide (nx.t ≤ lt) = false) := by
              cases ls with
              | false => exact .inl rfl
              | true => exact .inr ⟨rfl, by simpa using hA⟩
            have HE2 : Aside0 (loadE l true nx = 0) := ⟨by
              rw [HE.out, HO.out, HBD.out]
              rcases hls with rfl | ⟨rfl, h⟩
              · rfl
              · rw [h]; rfl⟩
            clear hA
            obtain ⟨f, cs, hF⟩ := id HI2.out
            obtain ⟨-, -, j2, j3, j4, j5⟩ := hF.cells
            have f2 := hF.frozen 194
            have f3 := hF.frozen 195
            have f4 := hF.frozen 196
            have f5 := hF.frozen 197
            have HB3 := Aside0.mk hF.blk
            have HC3 := Aside0.mk (hF.cs.nextT nx)
            clear hF
            rcases hls with rfl | ⟨rfl, d1⟩
            all_goals
              go_wp2
              go_region
              go_wp2
              go_ret2
              exact ⟨(by repeat (first | (with_reducible exact HB2.out) | (with_reducible refine Below.drew ?_) | (with_reducible refine below_drewN ?_ _) | (with_reducible refine below_al ?_ _) | (with_reducible refine Below.alloc ?_ (by first | exact Nat.le_refl _ | omega | (simp; done) | (simp; omega)) _) | (with_reducible refine Below.setCell ?_ (by first | (simp only []; omega) | (simp; done) | (simp; omega)) _))), .inl ⟨HE2.out, b, rfl, by omega, ⟨f, _, ⟨by repeat (first | (with_reducible exact HB3.out) | (with_reducible refine blk_set ?_) | (with_reducible refine blk_set_ne ?_ (by first | assumption | (with_reducible rfl) | (simp; done) | (simp; omega) | omega)) | (with_reducible refine blk_drewN ?_ _) | (with_reducible refine blk_drew ?_) | (with_reducible refine blk_alloc ?_)), HC3.out⟩⟩⟩⟩
end Go.Proofs.Ytjjdojnnomokaaa
