import Derived.Test.YtjjdojnnomokaaaRPlayed
import Derived.Test.YtjjdojnnomokaaaPRingLoadsx1
namespace Go.Proofs.Ytjjdojnnomokaaa
open Go.RowKit Go.Proofs.YtjjdojnnomokaaaW.PrintWords Go.Proofs.YtjjdojnnomokaaaW.PrintMore Go.Proofs.YtjjdojnnomokaaaW.PrintLast
/-! counted, rises, boolInt. -/
attribute [local go_sem high] PRingLoads.eqA27
def wq (x y : Wt) : Bool := (x.s == y.s && (x.g == y.g)) && (x.t == y.t)
theorem wq_beq (x y : Wt) : wq x y = (x == y) := by
  obtain ⟨a, b, c⟩ := x
  obtain ⟨a', b', c'⟩ := y
  rw [Bool.eq_iff_iff]
  simp [wq, and_assoc]
def cnt (l : List Wt) (y : Wt) : Nat := l.countP (fun x => wq x y)
theorem cnt_perm {l m : List Wt} (h : l.Perm m) (y : Wt) : cnt l y = cnt m y := h.countP_eq _
theorem cnt_step {l : List Wt} {i : Nat} {x : Wt} (h : l[i]? = some x) (y : Wt) : cnt (l.take (i + 1)) y = cnt (l.take i) y + if wq x y then 1 else 0 := by
  rw [List.take_add_one, h]
  simp [cnt, List.countP_cons]
theorem cnt_le (l : List Wt) (y : Wt) : cnt l y ≤ l.length := List.countP_le_length
set_option maxRecDepth 100000 in
set_option maxHeartbeats 4000000 in
theorem counted_any (A : Option Addr) (c : Nat) (l : List Wt) (y : Wt) (w : World) (hC : kW.C w A l.length l) (hc : l.length ≤ c) (hl : l.length ≤ 4611686018427387) :
    Calls Try.prog 26 #[.slice A l.length c, (.agg #[.int .i64 y.s, .int .i64 y.g, .int .u64 y.t])] w fun e w' => e = .returned (.int .i64 (cnt l y)) ∧ Below w.heap.size w w' := by
  have HC := Aside0.mk hC
  clear hC
  have hB : Below w.heap.size w (w.alloc (.cells #[.int .i64 y.s, .int .i64 y.g, .int .u64 y.t] 27)) := below_al (Below.refl _ _) _
  have hY : (w.alloc (.cells #[.int .i64 y.s, .int .i64 y.g, .int .u64 y.t] 27)).heap[w.heap.size]? = some (.cells #[.int .i64 y.s, .int .i64 y.g, .int .u64 y.t] 27 (0, 0)) := blk_new _ _
  obtain ⟨y0, y1, y2, -, -, -⟩ := blk3 hY
  have hYl := lt_blk hY
  go_enter Try.func26, Try.ntmps26
  go_wp2
  generalize w.alloc (.cells #[.int .i64 y.s, .int .i64 y.g, .int .u64 y.t] 27) = W at *
  go_loopw [5, 6] (fun v i wr => ∃ (k : Nat), k ≤ l.length ∧ i = .int .i64 k ∧ v = .int .i64 (cnt (l.take k) y) ∧ Aside0 (Below w.heap.size w wr) ∧ Aside0 (wr.heap[w.heap.size]? = some (.cells #[.int .i64 y.s, .int .i64 y.g, .int .u64 y.t] 27 (0, 0)))) (fun _ i _ => l.length - (intOf i).toNat)
  case atStart => exact ⟨0, by omega, rfl, by simp [cnt], ⟨hB⟩, ⟨hY⟩⟩
  case round =>
    obtain ⟨k, hk, rfl, rfl, HB, HY⟩ := hrel
    clear hB hY y0 y1 y2 hYl
    obtain ⟨y0, y1, y2, -, -, -⟩ := blk3 HY.out
    have hYl := lt_blk HY.out
    have hcl := cnt_le (l.take k) y
    rw [List.length_take] at hcl
    by_cases hlt : k < l.length
    · obtain ⟨ab, off, rfl, hab⟩ := C_form HC.out (by omega) (by decide)
      obtain ⟨x, hx, c0, c1, c2⟩ := wt_at HC.out k hlt
      have z0 := (HB.out.cell (p := ⟨ab, off + k * 3, none⟩) hab).trans c0
      have z1 := (HB.out.cell (p := ⟨ab, off + k * 3 + 1, none⟩) hab).trans c1
      have z2 := (HB.out.cell (p := ⟨ab, off + k * 3 + 2, none⟩) hab).trans c2
      have hst := cnt_step hx y
      have HST := Aside0.mk hst
      obtain ⟨n2, hn2⟩ : ∃ n2, n2 = cnt (l.take (k + 1)) y := ⟨_, rfl⟩
      rw [← hn2] at hst
      have HN := Aside0.mk hn2
      clear hn2 HST
      have habw := Nat.lt_of_lt_of_le hab HB.out.size
      unfold wq at hst
      clear hx c0 c1 c2
      generalize cnt (l.take k) y = n at *
      by_cases hq : ((x.s == y.s && (x.g == y.g)) && (x.t == y.t)) = true
      · rw [if_pos hq] at hst
        go_wp2
        go_region
        go_wp2
        go_roundw
        case rel => exact ⟨k + 1, by omega, by go_num, by rw [← HN.out, hst]; go_num, ⟨(by repeat (first | (with_reducible exact HB.out) | (with_reducible refine Below.drew ?_) | (with_reducible refine below_drewN ?_ _) | (with_reducible refine below_al ?_ _) | (with_reducible refine Below.alloc ?_ (by first | exact Nat.le_refl _ | omega | (simp; done) | (simp; omega)) _) | (with_reducible refine Below.setCell ?_ (by first | (simp only []; omega) | (simp; done) | (simp; omega)) _)))⟩, ⟨(by repeat (first | (with_reducible exact HY.out) | (with_reducible refine blk_set_ne ?_ (by first | assumption | (with_reducible rfl) | (simp; done) | (simp; omega) | omega)) | (with_reducible refine blk_drewN ?_ _) | (with_reducible refine blk_drew ?_) | (with_reducible refine blk_alloc ?_)))⟩⟩
        case measure => simp [intOf]; omega
      · rw [if_neg hq] at hst
        have hq' : ((x.s == y.s && (x.g == y.g)) && (x.t == y.t)) = false := by simpa using hq
        go_wp2
        go_region
        go_wp2
        go_roundw
        case rel => exact ⟨k + 1, by omega, by go_num, by rw [← HN.out, hst]; rfl, ⟨(by repeat (first | (with_reducible exact HB.out) | (with_reducible refine Below.drew ?_) | (with_reducible refine below_drewN ?_ _) | (with_reducible refine below_al ?_ _) | (with_reducible refine Below.alloc ?_ (by first | exact Nat.le_refl _ | omega | (simp; done) | (simp; omega)) _) | (with_reducible refine Below.setCell ?_ (by first | (simp only []; omega) | (simp; done) | (simp; omega)) _)))⟩, ⟨(by repeat (first | (with_reducible exact HY.out) | (with_reducible refine blk_set_ne ?_ (by first | assumption | (with_reducible rfl) | (simp; done) | (simp; omega) | omega)) | (with_reducible refine blk_drewN ?_ _) | (with_reducible refine blk_drew ?_) | (with_reducible refine blk_alloc ?_)))⟩⟩
        case measure => simp [intOf]; omega
    · obtain rfl : k = l.length := by omega
      rw [List.take_length] at *
      go_wp2
      go_ret
      exact ⟨rfl, HB.out⟩
set_option maxRecDepth 100000 in
set_option maxHeartbeats 4000000 in
theorem rises_ok (A : Option Addr) (c : Nat) (l : List Wt) (w : World) (hC : kW.C w A l.length l) (hc : l.length ≤ c) (hl : l.length ≤ 4611686018427387) (hr : Rise l) :
    Calls Try.prog 30 #[.slice A l.length c] w fun e w' => e = .returned (.bool true) ∧ Below w.heap.size w w' := by
  have HC := Aside0.mk hC
  have HR := Aside0.mk hr
  clear hC hr
  go_enter Try.func30, Try.ntmps30
  go_wp2
  go_loopw [3] (fun i wr => ∃ (k : Nat), k ≤ l.length + 1 ∧ 1 ≤ k ∧ i = .int .i64 k ∧ Aside0 (Below w.heap.size w wr)) (fun i _ => l.length + 1 - (intOf i).toNat)
  case atStart => exact ⟨1, by omega, by omega, rfl, ⟨Below.refl _ _⟩⟩
  case round =>
    obtain ⟨k, hk, hk1, rfl, HB⟩ := hrel
    by_cases hlt : k < l.length
    · obtain ⟨ab, off, rfl, hab⟩ := C_form HC.out (by omega) (by decide)
      obtain ⟨m, rfl⟩ : ∃ m, k = m + 1 := ⟨k - 1, by omega⟩
      obtain ⟨x, hx, c0, c1, c2⟩ := wt_at HC.out (m + 1) hlt
      obtain ⟨z, hz, d0, d1, d2⟩ := wt_at HC.out m (by omega)
      have hlt2 : z.t < x.t := by
        obtain ⟨h1, e1⟩ := List.getElem?_eq_some_iff.1 hz
        obtain ⟨h2, e2⟩ := List.getElem?_eq_some_iff.1 hx
        have := (List.pairwise_iff_getElem.1 HR.out) m (m + 1) h1 h2 (by omega)
        rw [e1, e2] at this
        exact this
      have z2 := (HB.out.cell (p := ⟨ab, off + (m + 1) * 3 + 2, none⟩) hab).trans c2
      have y2 := (HB.out.cell (p := ⟨ab, off + m * 3 + 2, none⟩) hab).trans d2
      have habw := Nat.lt_of_lt_of_le hab HB.out.size
      have hm : ((m + 1 : Nat) : Int) - 1 = (m : Int) := by omega
      clear hx hz c0 c1 d0 d1 c2 d2
      go_wp2
      go_region
      go_wp2
      go_roundw
      case rel => exact ⟨m + 1 + 1, by omega, by omega, by go_num, ⟨(by repeat (first | (with_reducible exact HB.out) | (with_reducible refine Below.drew ?_) | (with_reducible refine below_drewN ?_ _) | (with_reducible refine below_al ?_ _) | (with_reducible refine Below.alloc ?_ (by first | exact Nat.le_refl _ | omega | (simp; done) | (simp; omega)) _) | (with_reducible refine Below.setCell ?_ (by first | (simp only []; omega) | (simp; done) | (simp; omega)) _)))⟩⟩
      case measure => simp [intOf]; omega
    · go_wp2
      go_ret
      exact ⟨rfl, HB.out⟩
theorem boolInt_any (b : Bool) (w : World) : Calls Try.prog 31 #[.bool b] w fun e w' => e = .returned (.int .i64 (if b then 1 else 0)) ∧ w = w' := by
  cases b with
  | true =>
    go_enter Try.func31, Try.ntmps31
    go_wp2
    go_ret
    exact ⟨rfl, rfl⟩
  | false =>
    go_enter Try.func31, Try.ntmps31
    go_wp2
    go_ret
    exact ⟨rfl, rfl⟩
end Go.Proofs.Ytjjdojnnomokaaa
