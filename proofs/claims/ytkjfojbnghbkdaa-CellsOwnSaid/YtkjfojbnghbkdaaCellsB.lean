import Derived.Test.YtkjfojbnghbkdaaCells
import Derived.Test.YtkjfojbnghbkdaaPCellsOwnx0
namespace Go.Proofs.Ytkjfojbnghbkdaa
open Go.RowKit Go.Proofs.YtkjfojbnghbkdaaW.PrintWords

/-- What an access is: cell, kind, before, after, wrote. -/
structure Acc where
  c : Int
  k : Int
  b : Int
  a : Int
  w : Bool
deriving DecidableEq
def Acc.val (x : Acc) : Value := .agg #[.int .i64 x.c, .int .i64 x.k, .int .i64 x.b, .int .i64 x.a, .bool x.w]
def Acc.zero : Acc := ⟨0, 0, 0, 0, false⟩
/-- One access by its kind: the values behind it, what is told, the error. -/
def stp (xs : List Int) (k i old v : Int) : List Int × Acc × Int :=
  if 0 ≤ i ∧ i < xs.length then
    let x := xs.getD i.toNat 0
    if k = 1 then (xs, ⟨i, 1, x, x, false⟩, 0)
    else if k = 2 then (xs.set i.toNat v, ⟨i, 2, x, v, true⟩, 0)
    else if k = 3 then (if x = old then (xs.set i.toNat v, ⟨i, 3, x, v, true⟩, 0) else (xs, ⟨i, 3, x, x, false⟩, 0))
    else (xs.set i.toNat (wrap64 (x + v)), ⟨i, 4, x, wrap64 (x + v), true⟩, 0)
  else (xs, Acc.zero, 100)
theorem stp_out {xs : List Int} {k i old v : Int} (h : ¬ (0 ≤ i ∧ i < xs.length)) : stp xs k i old v = (xs, Acc.zero, 100) := by
  unfold stp; rw [if_neg h]

theorem below_of_keep {F : Nat → Prop} {w w1 : World} (h : Keep F w w1) : Keep F w w1 := h


/-- The world from which an access is made: some new blocks, the last one the result's. -/
theorem IsCells.new {w w1 : World} {b vb : Nat} {xs : List Int} (h : IsCells w b vb xs) (k : Below w.heap.size w w1) : IsCells w1 b vb xs :=
  h.keep (Keep.of_below k : Keep (fun _ => False) w w1) (by simp) (by simp)

/-- What a method's result cell, block r, holds when an access is stored there. -/
theorem res_cells {w w1 : World} {r : Nat} {F : Nat → Prop} {cs : Array Value} {t : Nat} (h : w.heap[r]? = some (.cells cs t (0, 0))) (k : Keep F w w1) (hF : ¬ F r) :
    (∀ i, w1.cell? ⟨r, i, none⟩ = cs[i]?) ∧ (∀ i, w1.frozen? ⟨r, i, none⟩ = false) ∧ r < w1.heap.size :=
  ⟨fun i => cell_blk (blk_keep h k hF) i, fun i => frozen_blk (blk_keep h k hF) i, lt_blk (blk_keep h k hF)⟩

def zc : Array Value := #[.int .i64 0, .int .i64 0, .int .i64 0, .int .i64 0, .bool false]

set_option maxHeartbeats 1000000 in
theorem load_any (b vb : Nat) (xs : List Int) (i : Int) (w : World) (hI : IsCells w b vb xs) :
    Calls Try.prog 22 #[.pointer (some ⟨b, 0, none⟩), .int .i64 i] w fun e w' =>
      e = .returned (.tuple #[(stp xs 1 i 0 0).2.1.val, .int .i64 (stp xs 1 i 0 0).2.2]) ∧ IsCells w' b vb (stp xs 1 i 0 0).1 ∧ Keep (fun k => k = vb) w w' := by
  have hb := lt_blk hI.blk
  have hvb := lt_blk hI.vals
  have HW : Below w.heap.size w (w.alloc (.cells zc 28)) := (by repeat (first | (with_reducible exact Below.refl _ _) | (with_reducible refine Below.drew ?_) | (with_reducible refine below_drewN ?_ _) | (with_reducible refine below_al ?_ _) | (with_reducible refine Below.alloc ?_ (by first | exact Nat.le_refl _ | omega | (simp; done) | (simp; omega)) _) | (with_reducible refine Below.setCell ?_ (by first | (simp only []; omega) | (simp; done) | (simp; omega)) _)))
  have HIW := hI.new HW
  have HR : (w.alloc (.cells zc 28)).heap[w.heap.size]? = some (.cells zc 28 (0, 0)) := by simpa using blk_new w (.cells zc 28)
  by_cases hi : 0 ≤ i ∧ i < xs.length
  · obtain ⟨n, rfl⟩ := Int.eq_ofNat_of_zero_le hi.1
    obtain ⟨x, hx⟩ : ∃ x, xs[n]? = some x := ⟨_, List.getElem?_eq_getElem (by omega)⟩
    have hs : stp xs 1 n 0 0 = (xs, ⟨n, 1, x, x, false⟩, 0) := by simp [stp, hi, hx]
    rw [hs]
    have Hx := Lib.hid hx
    have Hi := Lib.hid hi
    clear hx hs hi
    go_enter Try.func22, Try.ntmps22
    go_wp2_with fail
    refine (access_not b vb xs n x Hx.out 1 false 33 isEnter33 #[] 0 (w.alloc (.cells zc 28)) HIW (fun W hW => cl_load x W)).mono ?_
    rintro e w1 ⟨rfl, hB1⟩
    have hK1 : Keep (fun k => k = vb) _ w1 := Keep.of_below hB1
    have hK : Keep (fun k => k = vb) w w1 := (Keep.of_below (by repeat (first | (with_reducible exact Below.refl _ _) | (with_reducible refine Below.drew ?_) | (with_reducible refine below_drewN ?_ _) | (with_reducible refine below_al ?_ _) | (with_reducible refine Below.alloc ?_ (by first | exact Nat.le_refl _ | omega | (simp; done) | (simp; omega)) _) | (with_reducible refine Below.setCell ?_ (by first | (simp only []; omega) | (simp; done) | (simp; omega)) _)))).trans' hK1 (fun _ _ h => h)
    have hI1 := HIW.new hB1
    obtain ⟨hcell, hfr, hlt⟩ := res_cells HR hK1 (by omega)
    have h0 := hcell 0
    have h1 := hcell 1
    have h2 := hcell 2
    have h3 := hcell 3
    have h4 := hcell 4
    simp [zc] at h0 h1 h2 h3 h4
    clear hcell
    go_wp2
    refine bodyPost_ret (v := .tuple #[.agg #[.int .i64 n, .int .i64 1, .int .i64 x, .int .i64 x, .bool false], .int .i64 0]) (by simp [results, Try.results22, go_sem, h0, h1, h2, h3, h4]) rfl ⟨rfl, ⟨(by repeat (first | (with_reducible exact hI1.blk) | (with_reducible refine blk_set_ne ?_ (by first | assumption | (with_reducible rfl) | (simp; done) | (simp; omega) | omega)) | (with_reducible refine blk_drewN ?_ _) | (with_reducible refine blk_drew ?_) | (with_reducible refine blk_alloc ?_))), (by repeat (first | (with_reducible exact hI1.vals) | (with_reducible refine blk_set_ne ?_ (by first | assumption | (with_reducible rfl) | (simp; done) | (simp; omega) | omega)) | (with_reducible refine blk_drewN ?_ _) | (with_reducible refine blk_drew ?_) | (with_reducible refine blk_alloc ?_))), hI1.len, hI1.ne⟩, (by repeat (first | (with_reducible exact hK) | (with_reducible refine Keep.drewN ?_ _) | (with_reducible refine Keep.drew ?_) | (with_reducible refine Keep.setCell ?_ _ _ (by first | (right; with_reducible rfl) | (left; simp; done) | (left; simp; omega) | (right; simp; done) | (right; assumption))) | (with_reducible refine Keep.alloc ?_ _)))⟩
  · rw [stp_out hi]
    have hi' : i < 0 ∨ (xs.length : Int) ≤ i := by omega
    have Hi := Lib.hid hi'
    clear hi hi'
    go_enter Try.func22, Try.ntmps22
    go_wp2_with fail
    refine (access_cell b vb xs i Hi.out 1 false _ (w.alloc (.cells zc 28)) HIW).mono ?_
    rintro e w1 ⟨rfl, hB1⟩
    have hK1 : Keep (fun k => k = vb) _ w1 := Keep.of_below hB1
    have hK : Keep (fun k => k = vb) w w1 := (Keep.of_below (by repeat (first | (with_reducible exact Below.refl _ _) | (with_reducible refine Below.drew ?_) | (with_reducible refine below_drewN ?_ _) | (with_reducible refine below_al ?_ _) | (with_reducible refine Below.alloc ?_ (by first | exact Nat.le_refl _ | omega | (simp; done) | (simp; omega)) _) | (with_reducible refine Below.setCell ?_ (by first | (simp only []; omega) | (simp; done) | (simp; omega)) _)))).trans' hK1 (fun _ _ h => h)
    have hI1 := HIW.new hB1
    obtain ⟨hcell, hfr, hlt⟩ := res_cells HR hK1 (by omega)
    have h0 := hcell 0
    have h1 := hcell 1
    have h2 := hcell 2
    have h3 := hcell 3
    have h4 := hcell 4
    simp [zc] at h0 h1 h2 h3 h4
    clear hcell
    go_wp2
    refine bodyPost_ret (v := .tuple #[.agg #[.int .i64 0, .int .i64 0, .int .i64 0, .int .i64 0, .bool false], .int .i64 100]) (by simp [results, Try.results22, go_sem, h0, h1, h2, h3, h4]) rfl ⟨rfl, ⟨(by repeat (first | (with_reducible exact hI1.blk) | (with_reducible refine blk_set_ne ?_ (by first | assumption | (with_reducible rfl) | (simp; done) | (simp; omega) | omega)) | (with_reducible refine blk_drewN ?_ _) | (with_reducible refine blk_drew ?_) | (with_reducible refine blk_alloc ?_))), (by repeat (first | (with_reducible exact hI1.vals) | (with_reducible refine blk_set_ne ?_ (by first | assumption | (with_reducible rfl) | (simp; done) | (simp; omega) | omega)) | (with_reducible refine blk_drewN ?_ _) | (with_reducible refine blk_drew ?_) | (with_reducible refine blk_alloc ?_))), hI1.len, hI1.ne⟩, (by repeat (first | (with_reducible exact hK) | (with_reducible refine Keep.drewN ?_ _) | (with_reducible refine Keep.drew ?_) | (with_reducible refine Keep.setCell ?_ _ _ (by first | (right; with_reducible rfl) | (left; simp; done) | (left; simp; omega) | (right; simp; done) | (right; assumption))) | (with_reducible refine Keep.alloc ?_ _)))⟩

set_option maxHeartbeats 1000000 in
theorem store_any (b vb : Nat) (xs : List Int) (i : Int) (v : Int) (w : World) (hI : IsCells w b vb xs) :
    Calls Try.prog 13 #[.pointer (some ⟨b, 0, none⟩), .int .i64 i, .int .i64 v] w fun e w' =>
      e = .returned (.tuple #[(stp xs 2 i 0 v).2.1.val, .int .i64 (stp xs 2 i 0 v).2.2]) ∧ IsCells w' b vb (stp xs 2 i 0 v).1 ∧ Keep (fun k => k = vb) w w' := by
  have hb := lt_blk hI.blk
  have hvb := lt_blk hI.vals
  have HW : Below w.heap.size w ((w.alloc (.cells #[.int .i64 v] 2)).alloc (.cells zc 28)) := (by repeat (first | (with_reducible exact Below.refl _ _) | (with_reducible refine Below.drew ?_) | (with_reducible refine below_drewN ?_ _) | (with_reducible refine below_al ?_ _) | (with_reducible refine Below.alloc ?_ (by first | exact Nat.le_refl _ | omega | (simp; done) | (simp; omega)) _) | (with_reducible refine Below.setCell ?_ (by first | (simp only []; omega) | (simp; done) | (simp; omega)) _)))
  have HIW := hI.new HW
  have HR : ((w.alloc (.cells #[.int .i64 v] 2)).alloc (.cells zc 28)).heap[w.heap.size + 1]? = some (.cells zc 28 (0, 0)) := by simpa using blk_new (w.alloc (.cells #[.int .i64 v] 2)) (.cells zc 28)
  have HC0 : ((w.alloc (.cells #[.int .i64 v] 2)).alloc (.cells zc 28)).heap[w.heap.size]? = some (.cells #[.int .i64 v] 2 (0, 0)) := blk_alloc (blk_new _ _)
  by_cases hi : 0 ≤ i ∧ i < xs.length
  · obtain ⟨n, rfl⟩ := Int.eq_ofNat_of_zero_le hi.1
    obtain ⟨x, hx⟩ : ∃ x, xs[n]? = some x := ⟨_, List.getElem?_eq_getElem (by omega)⟩
    have hs : stp xs 2 n 0 v = (xs.set n v, ⟨n, 2, x, v, true⟩, 0) := by simp [stp, hi, hx]
    rw [hs]
    have Hx := Lib.hid hx
    have Hi := Lib.hid hi
    clear hx hs hi
    go_enter Try.func13, Try.ntmps13
    go_wp2_with fail
    refine (access_put b vb xs n x Hx.out 2 true 30 isEnter30 #[.pointer (some ⟨w.heap.size, 0, none⟩)] v ((w.alloc (.cells #[.int .i64 v] 2)).alloc (.cells zc 28)) HIW (fun W hW => cl_store x v W _ ((hW.cell (p := ⟨w.heap.size, 0, none⟩) (lt_blk HC0)).trans (cell_blk HC0 0)))).mono ?_
    rintro e w1 ⟨rfl, hI1, hK1⟩
    have hK : Keep (fun k => k = vb) w w1 := (Keep.of_below (by repeat (first | (with_reducible exact Below.refl _ _) | (with_reducible refine Below.drew ?_) | (with_reducible refine below_drewN ?_ _) | (with_reducible refine below_al ?_ _) | (with_reducible refine Below.alloc ?_ (by first | exact Nat.le_refl _ | omega | (simp; done) | (simp; omega)) _) | (with_reducible refine Below.setCell ?_ (by first | (simp only []; omega) | (simp; done) | (simp; omega)) _)))).trans' hK1 (fun _ _ h => h)
    obtain ⟨hcell, hfr, hlt⟩ := res_cells HR hK1 (by omega)
    have h0 := hcell 0
    have h1 := hcell 1
    have h2 := hcell 2
    have h3 := hcell 3
    have h4 := hcell 4
    simp [zc] at h0 h1 h2 h3 h4
    clear hcell
    go_wp2
    refine bodyPost_ret (v := .tuple #[.agg #[.int .i64 n, .int .i64 2, .int .i64 x, .int .i64 v, .bool true], .int .i64 0]) (by simp [results, Try.results13, go_sem, h0, h1, h2, h3, h4]) rfl ⟨rfl, ⟨(by repeat (first | (with_reducible exact hI1.blk) | (with_reducible refine blk_set_ne ?_ (by first | assumption | (with_reducible rfl) | (simp; done) | (simp; omega) | omega)) | (with_reducible refine blk_drewN ?_ _) | (with_reducible refine blk_drew ?_) | (with_reducible refine blk_alloc ?_))), (by repeat (first | (with_reducible exact hI1.vals) | (with_reducible refine blk_set_ne ?_ (by first | assumption | (with_reducible rfl) | (simp; done) | (simp; omega) | omega)) | (with_reducible refine blk_drewN ?_ _) | (with_reducible refine blk_drew ?_) | (with_reducible refine blk_alloc ?_))), hI1.len, hI1.ne⟩, (by repeat (first | (with_reducible exact hK) | (with_reducible refine Keep.drewN ?_ _) | (with_reducible refine Keep.drew ?_) | (with_reducible refine Keep.setCell ?_ _ _ (by first | (right; with_reducible rfl) | (left; simp; done) | (left; simp; omega) | (right; simp; done) | (right; assumption))) | (with_reducible refine Keep.alloc ?_ _)))⟩
  · rw [stp_out hi]
    have hi' : i < 0 ∨ (xs.length : Int) ≤ i := by omega
    have Hi := Lib.hid hi'
    clear hi hi'
    go_enter Try.func13, Try.ntmps13
    go_wp2_with fail
    refine (access_cell b vb xs i Hi.out 2 true _ ((w.alloc (.cells #[.int .i64 v] 2)).alloc (.cells zc 28)) HIW).mono ?_
    rintro e w1 ⟨rfl, hB1⟩
    have hK1 : Keep (fun k => k = vb) _ w1 := Keep.of_below hB1
    have hK : Keep (fun k => k = vb) w w1 := (Keep.of_below (by repeat (first | (with_reducible exact Below.refl _ _) | (with_reducible refine Below.drew ?_) | (with_reducible refine below_drewN ?_ _) | (with_reducible refine below_al ?_ _) | (with_reducible refine Below.alloc ?_ (by first | exact Nat.le_refl _ | omega | (simp; done) | (simp; omega)) _) | (with_reducible refine Below.setCell ?_ (by first | (simp only []; omega) | (simp; done) | (simp; omega)) _)))).trans' hK1 (fun _ _ h => h)
    have hI1 := HIW.new hB1
    obtain ⟨hcell, hfr, hlt⟩ := res_cells HR hK1 (by omega)
    have h0 := hcell 0
    have h1 := hcell 1
    have h2 := hcell 2
    have h3 := hcell 3
    have h4 := hcell 4
    simp [zc] at h0 h1 h2 h3 h4
    clear hcell
    go_wp2
    refine bodyPost_ret (v := .tuple #[.agg #[.int .i64 0, .int .i64 0, .int .i64 0, .int .i64 0, .bool false], .int .i64 100]) (by simp [results, Try.results13, go_sem, h0, h1, h2, h3, h4]) rfl ⟨rfl, ⟨(by repeat (first | (with_reducible exact hI1.blk) | (with_reducible refine blk_set_ne ?_ (by first | assumption | (with_reducible rfl) | (simp; done) | (simp; omega) | omega)) | (with_reducible refine blk_drewN ?_ _) | (with_reducible refine blk_drew ?_) | (with_reducible refine blk_alloc ?_))), (by repeat (first | (with_reducible exact hI1.vals) | (with_reducible refine blk_set_ne ?_ (by first | assumption | (with_reducible rfl) | (simp; done) | (simp; omega) | omega)) | (with_reducible refine blk_drewN ?_ _) | (with_reducible refine blk_drew ?_) | (with_reducible refine blk_alloc ?_))), hI1.len, hI1.ne⟩, (by repeat (first | (with_reducible exact hK) | (with_reducible refine Keep.drewN ?_ _) | (with_reducible refine Keep.drew ?_) | (with_reducible refine Keep.setCell ?_ _ _ (by first | (right; with_reducible rfl) | (left; simp; done) | (left; simp; omega) | (right; simp; done) | (right; assumption))) | (with_reducible refine Keep.alloc ?_ _)))⟩

set_option maxHeartbeats 1000000 in
theorem swap_any (b vb : Nat) (xs : List Int) (i : Int) (old v : Int) (w : World) (hI : IsCells w b vb xs) :
    Calls Try.prog 14 #[.pointer (some ⟨b, 0, none⟩), .int .i64 i, .int .i64 old, .int .i64 v] w fun e w' =>
      e = .returned (.tuple #[(stp xs 3 i old v).2.1.val, .int .i64 (stp xs 3 i old v).2.2]) ∧ IsCells w' b vb (stp xs 3 i old v).1 ∧ Keep (fun k => k = vb) w w' := by
  have hb := lt_blk hI.blk
  have hvb := lt_blk hI.vals
  have HW : Below w.heap.size w (((w.alloc (.cells #[.int .i64 old] 2)).alloc (.cells #[.int .i64 v] 2)).alloc (.cells zc 28)) := (by repeat (first | (with_reducible exact Below.refl _ _) | (with_reducible refine Below.drew ?_) | (with_reducible refine below_drewN ?_ _) | (with_reducible refine below_al ?_ _) | (with_reducible refine Below.alloc ?_ (by first | exact Nat.le_refl _ | omega | (simp; done) | (simp; omega)) _) | (with_reducible refine Below.setCell ?_ (by first | (simp only []; omega) | (simp; done) | (simp; omega)) _)))
  have HIW := hI.new HW
  have HR : (((w.alloc (.cells #[.int .i64 old] 2)).alloc (.cells #[.int .i64 v] 2)).alloc (.cells zc 28)).heap[w.heap.size + 2]? = some (.cells zc 28 (0, 0)) := by simpa using blk_new ((w.alloc (.cells #[.int .i64 old] 2)).alloc (.cells #[.int .i64 v] 2)) (.cells zc 28)
  have HC0 : (((w.alloc (.cells #[.int .i64 old] 2)).alloc (.cells #[.int .i64 v] 2)).alloc (.cells zc 28)).heap[w.heap.size]? = some (.cells #[.int .i64 old] 2 (0, 0)) := blk_alloc (blk_alloc (blk_new _ _))
  have HC1 : (((w.alloc (.cells #[.int .i64 old] 2)).alloc (.cells #[.int .i64 v] 2)).alloc (.cells zc 28)).heap[w.heap.size + 1]? = some (.cells #[.int .i64 v] 2 (0, 0)) := blk_alloc (blk_new1 _ _ _)
  by_cases hi : 0 ≤ i ∧ i < xs.length
  · obtain ⟨n, rfl⟩ := Int.eq_ofNat_of_zero_le hi.1
    obtain ⟨x, hx⟩ : ∃ x, xs[n]? = some x := ⟨_, List.getElem?_eq_getElem (by omega)⟩
    by_cases ho : x = old
    · have hs : stp xs 3 n old v = (xs.set n v, ⟨n, 3, x, v, true⟩, 0) := by simp [stp, hi, hx, ho]
      rw [hs]
      have HO : (x == old) = true := by simpa using ho
      have HO' := Lib.hid HO
      clear HO ho
      have Hx := Lib.hid hx
      have Hi := Lib.hid hi
      clear hx hs hi
      go_enter Try.func14, Try.ntmps14
      go_wp2_with fail
      refine (access_put b vb xs n x Hx.out 3 true 31 isEnter31 #[.pointer (some ⟨w.heap.size + 1, 0, none⟩), .pointer (some ⟨w.heap.size, 0, none⟩)] v (((w.alloc (.cells #[.int .i64 old] 2)).alloc (.cells #[.int .i64 v] 2)).alloc (.cells zc 28)) HIW (fun W hW => by have := cl_swap x v old W _ _ ((hW.cell (p := ⟨w.heap.size + 1, 0, none⟩) (lt_blk HC1)).trans (cell_blk HC1 0)) ((hW.cell (p := ⟨w.heap.size, 0, none⟩) (lt_blk HC0)).trans (cell_blk HC0 0)); rw [HO'.out] at this; exact this)).mono ?_
      rintro e w1 ⟨rfl, hI1, hK1⟩
      have hK : Keep (fun k => k = vb) w w1 := (Keep.of_below (by repeat (first | (with_reducible exact Below.refl _ _) | (with_reducible refine Below.drew ?_) | (with_reducible refine below_drewN ?_ _) | (with_reducible refine below_al ?_ _) | (with_reducible refine Below.alloc ?_ (by first | exact Nat.le_refl _ | omega | (simp; done) | (simp; omega)) _) | (with_reducible refine Below.setCell ?_ (by first | (simp only []; omega) | (simp; done) | (simp; omega)) _)))).trans' hK1 (fun _ _ h => h)
      obtain ⟨hcell, hfr, hlt⟩ := res_cells HR hK1 (by omega)
      have h0 := hcell 0
      have h1 := hcell 1
      have h2 := hcell 2
      have h3 := hcell 3
      have h4 := hcell 4
      simp [zc] at h0 h1 h2 h3 h4
      clear hcell
      go_wp2
      refine bodyPost_ret (v := .tuple #[.agg #[.int .i64 n, .int .i64 3, .int .i64 x, .int .i64 v, .bool true], .int .i64 0]) (by simp [results, Try.results14, go_sem, h0, h1, h2, h3, h4]) rfl ⟨rfl, ⟨(by repeat (first | (with_reducible exact hI1.blk) | (with_reducible refine blk_set_ne ?_ (by first | assumption | (with_reducible rfl) | (simp; done) | (simp; omega) | omega)) | (with_reducible refine blk_drewN ?_ _) | (with_reducible refine blk_drew ?_) | (with_reducible refine blk_alloc ?_))), (by repeat (first | (with_reducible exact hI1.vals) | (with_reducible refine blk_set_ne ?_ (by first | assumption | (with_reducible rfl) | (simp; done) | (simp; omega) | omega)) | (with_reducible refine blk_drewN ?_ _) | (with_reducible refine blk_drew ?_) | (with_reducible refine blk_alloc ?_))), hI1.len, hI1.ne⟩, (by repeat (first | (with_reducible exact hK) | (with_reducible refine Keep.drewN ?_ _) | (with_reducible refine Keep.drew ?_) | (with_reducible refine Keep.setCell ?_ _ _ (by first | (right; with_reducible rfl) | (left; simp; done) | (left; simp; omega) | (right; simp; done) | (right; assumption))) | (with_reducible refine Keep.alloc ?_ _)))⟩
    · have hs : stp xs 3 n old v = (xs, ⟨n, 3, x, x, false⟩, 0) := by simp [stp, hi, hx, ho]
      rw [hs]
      have HO : (x == old) = false := by simpa using ho
      have HO' := Lib.hid HO
      clear HO ho
      have Hx := Lib.hid hx
      have Hi := Lib.hid hi
      clear hx hs hi
      go_enter Try.func14, Try.ntmps14
      go_wp2_with fail
      refine (access_not b vb xs n x Hx.out 3 true 31 isEnter31 #[.pointer (some ⟨w.heap.size + 1, 0, none⟩), .pointer (some ⟨w.heap.size, 0, none⟩)] v (((w.alloc (.cells #[.int .i64 old] 2)).alloc (.cells #[.int .i64 v] 2)).alloc (.cells zc 28)) HIW (fun W hW => by have := cl_swap x v old W _ _ ((hW.cell (p := ⟨w.heap.size + 1, 0, none⟩) (lt_blk HC1)).trans (cell_blk HC1 0)) ((hW.cell (p := ⟨w.heap.size, 0, none⟩) (lt_blk HC0)).trans (cell_blk HC0 0)); rw [HO'.out] at this; exact this)).mono ?_
      rintro e w1 ⟨rfl, hB1⟩
      have hK1 : Keep (fun k => k = vb) _ w1 := Keep.of_below hB1
      have hK : Keep (fun k => k = vb) w w1 := (Keep.of_below (by repeat (first | (with_reducible exact Below.refl _ _) | (with_reducible refine Below.drew ?_) | (with_reducible refine below_drewN ?_ _) | (with_reducible refine below_al ?_ _) | (with_reducible refine Below.alloc ?_ (by first | exact Nat.le_refl _ | omega | (simp; done) | (simp; omega)) _) | (with_reducible refine Below.setCell ?_ (by first | (simp only []; omega) | (simp; done) | (simp; omega)) _)))).trans' hK1 (fun _ _ h => h)
      have hI1 := HIW.new hB1
      obtain ⟨hcell, hfr, hlt⟩ := res_cells HR hK1 (by omega)
      have h0 := hcell 0
      have h1 := hcell 1
      have h2 := hcell 2
      have h3 := hcell 3
      have h4 := hcell 4
      simp [zc] at h0 h1 h2 h3 h4
      clear hcell
      go_wp2
      refine bodyPost_ret (v := .tuple #[.agg #[.int .i64 n, .int .i64 3, .int .i64 x, .int .i64 x, .bool false], .int .i64 0]) (by simp [results, Try.results14, go_sem, h0, h1, h2, h3, h4]) rfl ⟨rfl, ⟨(by repeat (first | (with_reducible exact hI1.blk) | (with_reducible refine blk_set_ne ?_ (by first | assumption | (with_reducible rfl) | (simp; done) | (simp; omega) | omega)) | (with_reducible refine blk_drewN ?_ _) | (with_reducible refine blk_drew ?_) | (with_reducible refine blk_alloc ?_))), (by repeat (first | (with_reducible exact hI1.vals) | (with_reducible refine blk_set_ne ?_ (by first | assumption | (with_reducible rfl) | (simp; done) | (simp; omega) | omega)) | (with_reducible refine blk_drewN ?_ _) | (with_reducible refine blk_drew ?_) | (with_reducible refine blk_alloc ?_))), hI1.len, hI1.ne⟩, (by repeat (first | (with_reducible exact hK) | (with_reducible refine Keep.drewN ?_ _) | (with_reducible refine Keep.drew ?_) | (with_reducible refine Keep.setCell ?_ _ _ (by first | (right; with_reducible rfl) | (left; simp; done) | (left; simp; omega) | (right; simp; done) | (right; assumption))) | (with_reducible refine Keep.alloc ?_ _)))⟩
  · rw [stp_out hi]
    have hi' : i < 0 ∨ (xs.length : Int) ≤ i := by omega
    have Hi := Lib.hid hi'
    clear hi hi'
    go_enter Try.func14, Try.ntmps14
    go_wp2_with fail
    refine (access_cell b vb xs i Hi.out 3 true _ (((w.alloc (.cells #[.int .i64 old] 2)).alloc (.cells #[.int .i64 v] 2)).alloc (.cells zc 28)) HIW).mono ?_
    rintro e w1 ⟨rfl, hB1⟩
    have hK1 : Keep (fun k => k = vb) _ w1 := Keep.of_below hB1
    have hK : Keep (fun k => k = vb) w w1 := (Keep.of_below (by repeat (first | (with_reducible exact Below.refl _ _) | (with_reducible refine Below.drew ?_) | (with_reducible refine below_drewN ?_ _) | (with_reducible refine below_al ?_ _) | (with_reducible refine Below.alloc ?_ (by first | exact Nat.le_refl _ | omega | (simp; done) | (simp; omega)) _) | (with_reducible refine Below.setCell ?_ (by first | (simp only []; omega) | (simp; done) | (simp; omega)) _)))).trans' hK1 (fun _ _ h => h)
    have hI1 := HIW.new hB1
    obtain ⟨hcell, hfr, hlt⟩ := res_cells HR hK1 (by omega)
    have h0 := hcell 0
    have h1 := hcell 1
    have h2 := hcell 2
    have h3 := hcell 3
    have h4 := hcell 4
    simp [zc] at h0 h1 h2 h3 h4
    clear hcell
    go_wp2
    refine bodyPost_ret (v := .tuple #[.agg #[.int .i64 0, .int .i64 0, .int .i64 0, .int .i64 0, .bool false], .int .i64 100]) (by simp [results, Try.results14, go_sem, h0, h1, h2, h3, h4]) rfl ⟨rfl, ⟨(by repeat (first | (with_reducible exact hI1.blk) | (with_reducible refine blk_set_ne ?_ (by first | assumption | (with_reducible rfl) | (simp; done) | (simp; omega) | omega)) | (with_reducible refine blk_drewN ?_ _) | (with_reducible refine blk_drew ?_) | (with_reducible refine blk_alloc ?_))), (by repeat (first | (with_reducible exact hI1.vals) | (with_reducible refine blk_set_ne ?_ (by first | assumption | (with_reducible rfl) | (simp; done) | (simp; omega) | omega)) | (with_reducible refine blk_drewN ?_ _) | (with_reducible refine blk_drew ?_) | (with_reducible refine blk_alloc ?_))), hI1.len, hI1.ne⟩, (by repeat (first | (with_reducible exact hK) | (with_reducible refine Keep.drewN ?_ _) | (with_reducible refine Keep.drew ?_) | (with_reducible refine Keep.setCell ?_ _ _ (by first | (right; with_reducible rfl) | (left; simp; done) | (left; simp; omega) | (right; simp; done) | (right; assumption))) | (with_reducible refine Keep.alloc ?_ _)))⟩

set_option maxHeartbeats 1000000 in
theorem add_any (b vb : Nat) (xs : List Int) (i : Int) (v : Int) (w : World) (hI : IsCells w b vb xs) :
    Calls Try.prog 23 #[.pointer (some ⟨b, 0, none⟩), .int .i64 i, .int .i64 v] w fun e w' =>
      e = .returned (.tuple #[(stp xs 4 i 0 v).2.1.val, .int .i64 (stp xs 4 i 0 v).2.2]) ∧ IsCells w' b vb (stp xs 4 i 0 v).1 ∧ Keep (fun k => k = vb) w w' := by
  have hb := lt_blk hI.blk
  have hvb := lt_blk hI.vals
  have HW : Below w.heap.size w ((w.alloc (.cells #[.int .i64 v] 2)).alloc (.cells zc 28)) := (by repeat (first | (with_reducible exact Below.refl _ _) | (with_reducible refine Below.drew ?_) | (with_reducible refine below_drewN ?_ _) | (with_reducible refine below_al ?_ _) | (with_reducible refine Below.alloc ?_ (by first | exact Nat.le_refl _ | omega | (simp; done) | (simp; omega)) _) | (with_reducible refine Below.setCell ?_ (by first | (simp only []; omega) | (simp; done) | (simp; omega)) _)))
  have HIW := hI.new HW
  have HR : ((w.alloc (.cells #[.int .i64 v] 2)).alloc (.cells zc 28)).heap[w.heap.size + 1]? = some (.cells zc 28 (0, 0)) := by simpa using blk_new (w.alloc (.cells #[.int .i64 v] 2)) (.cells zc 28)
  have HC0 : ((w.alloc (.cells #[.int .i64 v] 2)).alloc (.cells zc 28)).heap[w.heap.size]? = some (.cells #[.int .i64 v] 2 (0, 0)) := blk_alloc (blk_new _ _)
  by_cases hi : 0 ≤ i ∧ i < xs.length
  · obtain ⟨n, rfl⟩ := Int.eq_ofNat_of_zero_le hi.1
    obtain ⟨x, hx⟩ : ∃ x, xs[n]? = some x := ⟨_, List.getElem?_eq_getElem (by omega)⟩
    have hs : stp xs 4 n 0 v = (xs.set n (wrap64 (x + v)), ⟨n, 4, x, wrap64 (x + v), true⟩, 0) := by simp [stp, hi, hx]
    rw [hs]
    have Hx := Lib.hid hx
    have Hi := Lib.hid hi
    clear hx hs hi
    go_enter Try.func23, Try.ntmps23
    go_wp2_with fail
    refine (access_put b vb xs n x Hx.out 4 true 34 isEnter34 #[.pointer (some ⟨w.heap.size, 0, none⟩)] (wrap64 (x + v)) ((w.alloc (.cells #[.int .i64 v] 2)).alloc (.cells zc 28)) HIW (fun W hW => cl_add x v W _ ((hW.cell (p := ⟨w.heap.size, 0, none⟩) (lt_blk HC0)).trans (cell_blk HC0 0)))).mono ?_
    rintro e w1 ⟨rfl, hI1, hK1⟩
    have hK : Keep (fun k => k = vb) w w1 := (Keep.of_below (by repeat (first | (with_reducible exact Below.refl _ _) | (with_reducible refine Below.drew ?_) | (with_reducible refine below_drewN ?_ _) | (with_reducible refine below_al ?_ _) | (with_reducible refine Below.alloc ?_ (by first | exact Nat.le_refl _ | omega | (simp; done) | (simp; omega)) _) | (with_reducible refine Below.setCell ?_ (by first | (simp only []; omega) | (simp; done) | (simp; omega)) _)))).trans' hK1 (fun _ _ h => h)
    obtain ⟨hcell, hfr, hlt⟩ := res_cells HR hK1 (by omega)
    have h0 := hcell 0
    have h1 := hcell 1
    have h2 := hcell 2
    have h3 := hcell 3
    have h4 := hcell 4
    simp [zc] at h0 h1 h2 h3 h4
    clear hcell
    go_wp2
    refine bodyPost_ret (v := .tuple #[.agg #[.int .i64 n, .int .i64 4, .int .i64 x, .int .i64 (wrap64 (x + v)), .bool true], .int .i64 0]) (by simp [results, Try.results23, go_sem, h0, h1, h2, h3, h4]) rfl ⟨rfl, ⟨(by repeat (first | (with_reducible exact hI1.blk) | (with_reducible refine blk_set_ne ?_ (by first | assumption | (with_reducible rfl) | (simp; done) | (simp; omega) | omega)) | (with_reducible refine blk_drewN ?_ _) | (with_reducible refine blk_drew ?_) | (with_reducible refine blk_alloc ?_))), (by repeat (first | (with_reducible exact hI1.vals) | (with_reducible refine blk_set_ne ?_ (by first | assumption | (with_reducible rfl) | (simp; done) | (simp; omega) | omega)) | (with_reducible refine blk_drewN ?_ _) | (with_reducible refine blk_drew ?_) | (with_reducible refine blk_alloc ?_))), hI1.len, hI1.ne⟩, (by repeat (first | (with_reducible exact hK) | (with_reducible refine Keep.drewN ?_ _) | (with_reducible refine Keep.drew ?_) | (with_reducible refine Keep.setCell ?_ _ _ (by first | (right; with_reducible rfl) | (left; simp; done) | (left; simp; omega) | (right; simp; done) | (right; assumption))) | (with_reducible refine Keep.alloc ?_ _)))⟩
  · rw [stp_out hi]
    have hi' : i < 0 ∨ (xs.length : Int) ≤ i := by omega
    have Hi := Lib.hid hi'
    clear hi hi'
    go_enter Try.func23, Try.ntmps23
    go_wp2_with fail
    refine (access_cell b vb xs i Hi.out 4 true _ ((w.alloc (.cells #[.int .i64 v] 2)).alloc (.cells zc 28)) HIW).mono ?_
    rintro e w1 ⟨rfl, hB1⟩
    have hK1 : Keep (fun k => k = vb) _ w1 := Keep.of_below hB1
    have hK : Keep (fun k => k = vb) w w1 := (Keep.of_below (by repeat (first | (with_reducible exact Below.refl _ _) | (with_reducible refine Below.drew ?_) | (with_reducible refine below_drewN ?_ _) | (with_reducible refine below_al ?_ _) | (with_reducible refine Below.alloc ?_ (by first | exact Nat.le_refl _ | omega | (simp; done) | (simp; omega)) _) | (with_reducible refine Below.setCell ?_ (by first | (simp only []; omega) | (simp; done) | (simp; omega)) _)))).trans' hK1 (fun _ _ h => h)
    have hI1 := HIW.new hB1
    obtain ⟨hcell, hfr, hlt⟩ := res_cells HR hK1 (by omega)
    have h0 := hcell 0
    have h1 := hcell 1
    have h2 := hcell 2
    have h3 := hcell 3
    have h4 := hcell 4
    simp [zc] at h0 h1 h2 h3 h4
    clear hcell
    go_wp2
    refine bodyPost_ret (v := .tuple #[.agg #[.int .i64 0, .int .i64 0, .int .i64 0, .int .i64 0, .bool false], .int .i64 100]) (by simp [results, Try.results23, go_sem, h0, h1, h2, h3, h4]) rfl ⟨rfl, ⟨(by repeat (first | (with_reducible exact hI1.blk) | (with_reducible refine blk_set_ne ?_ (by first | assumption | (with_reducible rfl) | (simp; done) | (simp; omega) | omega)) | (with_reducible refine blk_drewN ?_ _) | (with_reducible refine blk_drew ?_) | (with_reducible refine blk_alloc ?_))), (by repeat (first | (with_reducible exact hI1.vals) | (with_reducible refine blk_set_ne ?_ (by first | assumption | (with_reducible rfl) | (simp; done) | (simp; omega) | omega)) | (with_reducible refine blk_drewN ?_ _) | (with_reducible refine blk_drew ?_) | (with_reducible refine blk_alloc ?_))), hI1.len, hI1.ne⟩, (by repeat (first | (with_reducible exact hK) | (with_reducible refine Keep.drewN ?_ _) | (with_reducible refine Keep.drew ?_) | (with_reducible refine Keep.setCell ?_ _ _ (by first | (right; with_reducible rfl) | (left; simp; done) | (left; simp; omega) | (right; simp; done) | (right; assumption))) | (with_reducible refine Keep.alloc ?_ _)))⟩
end Go.Proofs.Ytkjfojbnghbkdaa
