import Derived.Test.YtjjdojnnomokaaaRing
set_option linter.unusedSimpArgs false
set_option linter.unusedVariables false
namespace Go.Proofs.Ytjjdojnnomokaaa
open Go.RowKit Go.Proofs.YtjjdojnnomokaaaW.PrintWords
/-! at, last, pop, push, New, Len. -/
set_option maxHeartbeats 1000000 in
theorem at_any (b : Nat) (r : Rg) (i : Nat) (x : Wt) (w : World) (hR : IsRing w b r) (hx : r.l[i]? = some x) :
    Calls Try.prog 39 #[.pointer (some ⟨b, 0, none⟩), .int .i64 i] w fun e w' => e = .returned (.agg #[.int .i64 x.s, .int .i64 x.g, .int .u64 x.t]) ∧ Below w.heap.size w w' := by
  obtain ⟨f, cs, h⟩ := hR
  have hil : i < 64 := Nat.lt_of_lt_of_le (List.getElem?_eq_some_iff.1 hx).1 h.cs.len
  have hf := h.cs.flt
  have hW : Below w.heap.size w (w.alloc (.cells #[.int .i64 0, .int .i64 0, .int .u64 0] 27)) := below_al (Below.refl _ _) _
  have hRR : (w.alloc (.cells #[.int .i64 0, .int .i64 0, .int .u64 0] 27)).heap[w.heap.size]? = some (.cells #[.int .i64 0, .int .i64 0, .int .u64 0] 27 (0, 0)) := blk_new _ _
  obtain ⟨k0, -, -, -, -, -⟩ := (h.below hW).cells
  obtain ⟨p0, p1, p2⟩ := (h.below hW).place hx
  have e1 : IntKind.i64.wrap ((f : Int) + (i : Int)) = (f : Int) + (i : Int) := IntWalk.i64_in _ (by omega)
  have e2 := pl_tmod f i
  have e3 := pl_lt f i
  have e4 : ((pl f i : Nat) : Int) < 64 := by omega
  generalize pl f i = q at *
  have hbl := lt_blk h.blk
  clear hx h
  go_enter Try.func39, Try.ntmps39
  go_wp2_with fail
  obtain ⟨r0, r1, r2, g0, g1, g2⟩ := blk3 hRR
  have hRW := lt_blk hRR
  generalize w.alloc (.cells #[.int .i64 0, .int .i64 0, .int .u64 0] 27) = W at *
  go_still_tail 12, (by kernel_rfl)
  go_wp2
  refine bodyPost_ret (v := .agg #[.int .i64 x.s, .int .i64 x.g, .int .u64 x.t]) (by simp [results, Try.results39, go_sem, r0, r1, r2]) rfl ⟨rfl, (by repeat (first | (with_reducible exact hW) | (with_reducible refine Below.drew ?_) | (with_reducible refine below_drewN ?_ _) | (with_reducible refine below_al ?_ _) | (with_reducible refine Below.alloc ?_ (by first | exact Nat.le_refl _ | omega | (simp; done) | (simp; omega)) _) | (with_reducible refine Below.setCell ?_ (by first | (simp only []; omega) | (simp; done) | (simp; omega)) _)))⟩
theorem field_t : ∀ (a b c : Int) (w : World), (Instr.field 27 (.agg #[.int .i64 a, .int .i64 b, .int .u64 c]) 1).run Try.prog w = .ok (.int .u64 c) w := fun _ _ _ _ => by kernel_rfl
/-- The greatest turn of the places; false: there is none. -/
def lastP (l : List Wt) : Int × Bool := match l.getLast? with
  | some x => (x.t, true)
  | none => (0, false)
set_option maxHeartbeats 1000000 in
theorem last_any (b : Nat) (r : Rg) (w : World) (hR : IsRing w b r) :
    Calls Try.prog 36 #[.pointer (some ⟨b, 0, none⟩)] w fun e w' => e = .returned (.tuple #[.int .u64 (lastP r.l).1, .bool (lastP r.l).2]) ∧ Below w.heap.size w w' := by
  have hR0 := Aside0.mk hR
  have hlen := hR.len
  obtain ⟨f, cs, h⟩ := hR
  obtain ⟨-, k1, -, -, -, -⟩ := h.cells
  clear h
  cases hl : r.l.getLast? with
  | none =>
    have hlp : lastP r.l = (0, false) := by rw [lastP, hl]
    rw [hlp]
    have hn : r.l = [] := List.getLast?_eq_none_iff.1 hl
    rw [hn] at k1
    clear hl hlp hn hlen hR0
    go_enter Try.func36, Try.ntmps36
    go_wp2
    go_ret2
    exact ⟨rfl, (by repeat (first | (with_reducible exact Below.refl _ _) | (with_reducible refine Below.drew ?_) | (with_reducible refine below_drewN ?_ _) | (with_reducible refine below_al ?_ _) | (with_reducible refine Below.alloc ?_ (by first | exact Nat.le_refl _ | omega | (simp; done) | (simp; omega)) _) | (with_reducible refine Below.setCell ?_ (by first | (simp only []; omega) | (simp; done) | (simp; omega)) _)))⟩
  | some x =>
    have hlp : lastP r.l = (x.t, true) := by rw [lastP, hl]
    rw [hlp]
    obtain ⟨n, hn⟩ : ∃ n, r.l.length = n + 1 := ⟨r.l.length - 1, by
      have : r.l ≠ [] := fun e => by rw [e] at hl; cases hl
      have := List.length_pos_iff.2 this
      omega⟩
    have hx : r.l[n]? = some x := by rw [List.getLast?_eq_getElem?, hn] at hl; exact hl
    rw [hn] at k1 hlen
    have HX := Aside0.mk hx
    clear hl hlp hn hx
    have h0 : (((n + 1 : Nat) : Int) == 0) = false := by simp; omega
    have hfd := field_t
    go_enter Try.func36, Try.ntmps36
    go_wp2_with fail
    refine (at_any b r n x w hR0.out HX.out).mono ?_
    rintro e w1 ⟨rfl, hB⟩
    go_wp2
    go_ret2
    exact ⟨rfl, hB⟩
set_option maxHeartbeats 2000000 in
theorem pop_any (b : Nat) (r : Rg) (x : Wt) (l : List Wt) (w : World) (hR : IsRing w b r) (hl : r.l = x :: l) :
    Calls Try.prog 38 #[.pointer (some ⟨b, 0, none⟩)] w fun e w' => e = .returned (.agg #[.int .i64 x.s, .int .i64 x.g, .int .u64 x.t]) ∧ IsRing w' b { r with l := l } ∧ Keep (fun k => k = b) w w' := by
  obtain ⟨f, cs, h⟩ := hR
  have hf := h.cs.flt
  have hlen := h.cs.len
  rw [hl] at hlen
  simp at hlen
  have hW : Below w.heap.size w (w.alloc (.cells #[.int .i64 0, .int .i64 0, .int .u64 0] 27)) := below_al (Below.refl _ _) _
  have hRR : (w.alloc (.cells #[.int .i64 0, .int .i64 0, .int .u64 0] 27)).heap[w.heap.size]? = some (.cells #[.int .i64 0, .int .i64 0, .int .u64 0] 27 (0, 0)) := blk_new _ _
  have hF := h.below hW
  obtain ⟨k0, k1, -, -, -, -⟩ := hF.cells
  obtain ⟨p0, p1, p2⟩ := hF.place (i := 0) (x := x) (by rw [hl]; rfl)
  rw [pl_zero hf] at p0 p1 p2
  rw [hl] at k1
  have f0 := hF.frozen 192
  have f1 := hF.frozen 193
  have hP := Aside0.mk (hF.cs.popped hl)
  have hB := Aside0.mk hF.blk
  have e1 : IntKind.i64.wrap ((f : Int) + 1) = (f : Int) + 1 := IntWalk.i64_in _ (by omega)
  have e2 : ((f : Int) + 1).tmod 64 = (pl f 1 : Int) := pl_tmod f 1
  have e4 : (f : Int) < 64 := by omega
  generalize pl f 1 = q at *
  have hbl := lt_blk h.blk
  clear hl h hF
  go_enter Try.func38, Try.ntmps38
  go_wp2_with fail
  obtain ⟨r0, r1, r2, g0, g1, g2⟩ := blk3 hRR
  have hRW := lt_blk hRR
  have hbW := lt_blk hB.out
  generalize w.alloc (.cells #[.int .i64 0, .int .i64 0, .int .u64 0] 27) = W at *
  go_region
  go_wp2
  refine bodyPost_ret (v := (.agg #[.int .i64 x.s, .int .i64 x.g, .int .u64 x.t])) (by simp [results, Try.results38, go_sem, r0, r1, r2, hRW]) rfl ⟨rfl, ⟨q, _, ⟨?_, hP.out⟩⟩, (by repeat (first | (with_reducible exact Keep.of_below hW) | (with_reducible refine Keep.drewN ?_ _) | (with_reducible refine Keep.drew ?_) | (with_reducible refine Keep.setCell ?_ _ _ (by first | (right; with_reducible rfl) | (left; simp; done) | (left; simp; omega) | (right; simp; done) | (right; assumption))) | (with_reducible refine Keep.alloc ?_ _)))⟩
  · repeat (first | (with_reducible exact hB.out) | (with_reducible refine blk_set ?_) | (with_reducible refine blk_set_ne ?_ (by first | assumption | (with_reducible rfl) | (simp; done) | (simp; omega) | omega)) | (with_reducible refine blk_drewN ?_ _) | (with_reducible refine blk_drew ?_) | (with_reducible refine blk_alloc ?_))
end Go.Proofs.Ytjjdojnnomokaaa
