import Derived.Test.YtkjfojbnghbkdaaLib
namespace Go.Proofs.Ytkjfojbnghbkdaa
open Go.RowKit
theorem Try.info2 : (Try.prog.info? 2).map (fun i => (i.zero, i.size, i.bytes)) = some (some (.int .i64 0), 1, 8) := by kernel_rfl

def ints (xs : List Int) : Array Value := (xs.map (Value.int .i64)).toArray
theorem ints_size (xs : List Int) : (ints xs).size = xs.length := by simp [ints]
theorem ints_get (xs : List Int) (i : Nat) (h : i < xs.length) : (ints xs)[i]? = some (.int .i64 (xs.getD i 0)) := by
  simp [ints, List.getElem?_eq_getElem h, List.getD_eq_getElem?_getD]
theorem ints_set (xs : List Int) (i : Nat) (v : Int) : (ints xs).setIfInBounds i (.int .i64 v) = ints (xs.set i v) := by
  simp [ints, List.map_set]
theorem ints_made (n : Nat) : madeCells #[.int .i64 0] n = ints (List.replicate n 0) := by
  apply Array.ext
  · simp [madeCells, ints]
  · intro i h1 h2
    simp [madeCells, ints, Nat.mod_one]

/-- Cells at block b, their values in block vb. -/
structure IsCells (w : World) (b vb : Nat) (xs : List Int) : Prop where
  blk : w.heap[b]? = some (.cells #[.bool true, .slice (some ⟨vb, 0, none⟩) xs.length xs.length] 47 (0, 0))
  vals : w.heap[vb]? = some (.cells (ints xs) 2 (0, 0))
  len : xs.length ≤ 256
  ne : b ≠ vb

theorem IsCells.keep {w w' : World} {b vb : Nat} {xs : List Int} {F : Nat → Prop} (h : IsCells w b vb xs) (k : Keep F w w') (h1 : ¬ F b) (h2 : ¬ F vb) : IsCells w' b vb xs :=
  ⟨blk_keep h.blk k h1, blk_keep h.vals k h2, h.len, h.ne⟩

set_option maxHeartbeats 400000 in
theorem new_ok (n : Nat) (h : n ≤ 256) (w : World) :
    Calls Try.prog 12 #[.int .i64 n] w fun e w' => e = .returned (.tuple #[.pointer (some ⟨w.heap.size + 1, 0, none⟩), .int .i64 0]) ∧ IsCells w' (w.heap.size + 1) w.heap.size (List.replicate n 0) ∧ Below w.heap.size w w' := by
  have hmk := run_make_row' (P := Try.prog) 22 2 (.int .i64 0) 8 Try.underlying22 Try.info2 rfl .i64 .i64 n (by omega) (by omega)
  go_enter Try.func12, Try.ntmps12
  go_wp2
  go_ret2
  refine ⟨rfl, ⟨?_, ?_, ?_, ?_⟩, (((Below.refl _ _).alloc (Nat.le_refl _) _).alloc (by simp) _)⟩
  · have := blk_new (w.alloc (.cells (madeCells #[.int .i64 0] n) 2)) (.cells #[.bool true, .slice (some ⟨w.heap.size, 0, none⟩) n n] 47)
    simpa using this
  · rw [← ints_made]; exact blk_alloc (blk_new _ _)
  · simpa using h
  · omega

set_option maxHeartbeats 400000 in
theorem new_bad (n : Int) (h : n < 0 ∨ 256 < n) (w : World) :
    Calls Try.prog 12 #[.int .i64 n] w fun e w' => e = .returned (.tuple #[.pointer none, .int .i64 1]) ∧ w = w' := by
  rcases h with h | h
  · go_enter Try.func12, Try.ntmps12
    go_wp2
    go_ret2
    exact ⟨rfl, rfl⟩
  · have h' : ¬ n < 0 := by omega
    go_enter Try.func12, Try.ntmps12
    go_wp2
    go_ret2
    exact ⟨rfl, rfl⟩


def isEnter (f : FuncId) : Prop := ∀ args w, (callFunc f args).run Try.prog w = .ok (.enter f args) w


theorem isEnter30 : isEnter 30 := fun _ _ => by kernel_rfl
theorem isEnter31 : isEnter 31 := fun _ _ => by kernel_rfl
theorem isEnter33 : isEnter 33 := fun _ _ => by kernel_rfl
theorem isEnter34 : isEnter 34 := fun _ _ => by kernel_rfl

set_option maxHeartbeats 1000000 in
theorem access_put (b vb : Nat) (xs : List Int) (i : Nat) (x : Int) (hx : xs[i]? = some x) (kind : Int) (wrote : Bool) (f : FuncId) (hf : isEnter f) (caps : Array Value) (v : Int) (w : World) (hI : IsCells w b vb xs)
    (hcl : ∀ W, Below w.heap.size w W → Calls Try.prog f (#[.int .i64 x] ++ caps) W fun e w' => e = .returned (.tuple #[.int .i64 v, .bool true]) ∧ ∃ n, w' = W.drewN n) :
    Calls Try.prog 29 #[.pointer (some ⟨b, 0, none⟩), .int .i64 i, .int .i64 kind, .bool wrote, .func (.func f) #[] caps] w fun e w' =>
      e = .returned (.tuple #[.agg #[.int .i64 i, .int .i64 kind, .int .i64 x, .int .i64 v, .bool wrote], .int .i64 0]) ∧ IsCells w' b vb (xs.set i v) ∧ Keep (fun k => k = vb) w w' := by
  have hl := hI.len
  have hb := lt_blk hI.blk
  have hvb := lt_blk hI.vals
  have hne := hI.ne
  have hi : i < xs.length := (List.getElem?_eq_some_iff.1 hx).1
  have c0 := cell_blk hI.blk 0
  have c1 := cell_blk hI.blk 1
  simp at c0 c1
  have cv : w.cell? ⟨vb, i, none⟩ = some (.int .i64 x) := (cell_blk hI.vals i).trans (by simp [ints, hx])
  have fv := frozen_blk hI.vals i
  have Hx := Lib.hid hx
  clear hx
  go_enter Try.func29, Try.ntmps29
  go_wp2
  go_region
  unfold isEnter at hf
  go_wp2_with fail
  refine (hcl _ (((Below.refl _ _).alloc (Nat.le_refl _) _).alloc (by simp) _).drew).mono ?_
  rintro e w1 ⟨rfl, n, rfl⟩
  go_wp2
  refine bodyPost_ret (v := .tuple #[.agg #[.int .i64 i, .int .i64 kind, .int .i64 x, .int .i64 v, .bool wrote], .int .i64 0]) (by simp [results, Try.results29, go_sem]) rfl ⟨rfl, ⟨?_, ?_, ?_, hne⟩, (by repeat (first | (with_reducible exact Keep.refl _ _) | (with_reducible refine Keep.drewN ?_ _) | (with_reducible refine Keep.drew ?_) | (with_reducible refine Keep.setCell ?_ _ _ (by first | (right; with_reducible rfl) | (left; simp; done) | (left; simp; omega) | (right; simp; done) | (right; assumption))) | (with_reducible refine Keep.alloc ?_ _)))⟩
  · rw [List.length_set]
    exact (by repeat (first | (with_reducible exact hI.blk) | (with_reducible refine blk_set_ne ?_ (by first | assumption | (with_reducible rfl) | (simp; done) | (simp; omega) | omega)) | (with_reducible refine blk_drewN ?_ _) | (with_reducible refine blk_drew ?_) | (with_reducible refine blk_alloc ?_)))
  · rw [← ints_set]
    repeat (first | (with_reducible exact hI.vals) | (with_reducible refine blk_set ?_) | (with_reducible refine blk_set_ne ?_ (by first | assumption | (with_reducible rfl) | (simp; done) | (simp; omega) | omega)) | (with_reducible refine blk_drewN ?_ _) | (with_reducible refine blk_drew ?_) | (with_reducible refine blk_alloc ?_))
  · simpa using hl

set_option maxHeartbeats 1000000 in
theorem access_not (b vb : Nat) (xs : List Int) (i : Nat) (x : Int) (hx : xs[i]? = some x) (kind : Int) (wrote : Bool) (f : FuncId) (hf : isEnter f) (caps : Array Value) (v : Int) (w : World) (hI : IsCells w b vb xs)
    (hcl : ∀ W, Below w.heap.size w W → Calls Try.prog f (#[.int .i64 x] ++ caps) W fun e w' => e = .returned (.tuple #[.int .i64 v, .bool false]) ∧ ∃ n, w' = W.drewN n) :
    Calls Try.prog 29 #[.pointer (some ⟨b, 0, none⟩), .int .i64 i, .int .i64 kind, .bool wrote, .func (.func f) #[] caps] w fun e w' =>
      e = .returned (.tuple #[.agg #[.int .i64 i, .int .i64 kind, .int .i64 x, .int .i64 x, .bool false], .int .i64 0]) ∧ Below w.heap.size w w' := by
  have hl := hI.len
  have hb := lt_blk hI.blk
  have hvb := lt_blk hI.vals
  have hne := hI.ne
  have hi : i < xs.length := (List.getElem?_eq_some_iff.1 hx).1
  have c0 := cell_blk hI.blk 0
  have c1 := cell_blk hI.blk 1
  simp at c0 c1
  have cv : w.cell? ⟨vb, i, none⟩ = some (.int .i64 x) := (cell_blk hI.vals i).trans (by simp [ints, hx])
  have fv := frozen_blk hI.vals i
  have Hx := Lib.hid hx
  clear hx
  go_enter Try.func29, Try.ntmps29
  go_wp2
  go_region
  unfold isEnter at hf
  go_wp2_with fail
  refine (hcl _ (((Below.refl _ _).alloc (Nat.le_refl _) _).alloc (by simp) _).drew).mono ?_
  rintro e w1 ⟨rfl, n, rfl⟩
  go_wp2
  refine bodyPost_ret (v := .tuple #[.agg #[.int .i64 i, .int .i64 kind, .int .i64 x, .int .i64 x, .bool false], .int .i64 0]) (by simp [results, Try.results29, go_sem]) rfl ⟨rfl, (by repeat (first | (with_reducible exact Below.refl _ _) | (with_reducible refine Below.drew ?_) | (with_reducible refine below_drewN ?_ _) | (with_reducible refine below_al ?_ _) | (with_reducible refine Below.alloc ?_ (by first | exact Nat.le_refl _ | omega | (simp; done) | (simp; omega)) _) | (with_reducible refine Below.setCell ?_ (by first | (simp only []; omega) | (simp; done) | (simp; omega)) _)))⟩

set_option maxHeartbeats 1000000 in
theorem access_cell (b vb : Nat) (xs : List Int) (i : Int) (hi : i < 0 ∨ (xs.length : Int) ≤ i) (kind : Int) (wrote : Bool) (cl : Value) (w : World) (hI : IsCells w b vb xs) :
    Calls Try.prog 29 #[.pointer (some ⟨b, 0, none⟩), .int .i64 i, .int .i64 kind, .bool wrote, cl] w fun e w' =>
      e = .returned (.tuple #[.agg #[.int .i64 0, .int .i64 0, .int .i64 0, .int .i64 0, .bool false], .int .i64 100]) ∧ Below w.heap.size w w' := by
  have hl := hI.len
  have hb := lt_blk hI.blk
  have c0 := cell_blk hI.blk 0
  have c1 := cell_blk hI.blk 1
  simp at c0 c1
  by_cases h0 : i < 0
  · have hd : decide (i < 0) = true := by simpa using h0
    clear hi
    go_enter Try.func29, Try.ntmps29
    go_wp2
    refine bodyPost_ret (v := .tuple #[.agg #[.int .i64 0, .int .i64 0, .int .i64 0, .int .i64 0, .bool false], .int .i64 100]) (by simp [results, Try.results29, go_sem]) rfl ⟨rfl, (by repeat (first | (with_reducible exact Below.refl _ _) | (with_reducible refine Below.drew ?_) | (with_reducible refine below_drewN ?_ _) | (with_reducible refine below_al ?_ _) | (with_reducible refine Below.alloc ?_ (by first | exact Nat.le_refl _ | omega | (simp; done) | (simp; omega)) _) | (with_reducible refine Below.setCell ?_ (by first | (simp only []; omega) | (simp; done) | (simp; omega)) _)))⟩
  · have h1 : (xs.length : Int) ≤ i := by omega
    clear hi
    go_enter Try.func29, Try.ntmps29
    go_wp2
    refine bodyPost_ret (v := .tuple #[.agg #[.int .i64 0, .int .i64 0, .int .i64 0, .int .i64 0, .bool false], .int .i64 100]) (by simp [results, Try.results29, go_sem]) rfl ⟨rfl, (by repeat (first | (with_reducible exact Below.refl _ _) | (with_reducible refine Below.drew ?_) | (with_reducible refine below_drewN ?_ _) | (with_reducible refine below_al ?_ _) | (with_reducible refine Below.alloc ?_ (by first | exact Nat.le_refl _ | omega | (simp; done) | (simp; omega)) _) | (with_reducible refine Below.setCell ?_ (by first | (simp only []; omega) | (simp; done) | (simp; omega)) _)))⟩

/-- Nobody's: nil, or a Cells that New did not make. -/
def Nobody (w : World) (p : Value) : Prop := p = .pointer none ∨ ∃ b, p = .pointer (some ⟨b, 0, none⟩) ∧ w.heap[b]? = some (.cells #[.bool false, .slice none 0 0] 47 (0, 0))
theorem Nobody.below {w w' : World} {p : Value} (h : Nobody w p) (k : Below w.heap.size w w') : Nobody w' p := by
  rcases h with h | ⟨b, h, hb⟩
  · exact .inl h
  · exact .inr ⟨b, h, (k.block b (lt_blk hb)).trans hb⟩

set_option maxHeartbeats 1000000 in
theorem access_nobody (p : Value) (i : Int) (kind : Int) (wrote : Bool) (cl : Value) (w : World) (hI : Nobody w p) :
    Calls Try.prog 29 #[p, .int .i64 i, .int .i64 kind, .bool wrote, cl] w fun e w' =>
      e = .returned (.tuple #[.agg #[.int .i64 0, .int .i64 0, .int .i64 0, .int .i64 0, .bool false], .int .i64 1]) ∧ Below w.heap.size w w' := by
  rcases hI with rfl | ⟨b, rfl, hb⟩
  · go_enter Try.func29, Try.ntmps29
    go_wp2
    refine bodyPost_ret (v := .tuple #[.agg #[.int .i64 0, .int .i64 0, .int .i64 0, .int .i64 0, .bool false], .int .i64 1]) (by simp [results, Try.results29, go_sem]) rfl ⟨rfl, (by repeat (first | (with_reducible exact Below.refl _ _) | (with_reducible refine Below.drew ?_) | (with_reducible refine below_drewN ?_ _) | (with_reducible refine below_al ?_ _) | (with_reducible refine Below.alloc ?_ (by first | exact Nat.le_refl _ | omega | (simp; done) | (simp; omega)) _) | (with_reducible refine Below.setCell ?_ (by first | (simp only []; omega) | (simp; done) | (simp; omega)) _)))⟩
  · have c0 := cell_blk hb 0
    have hlt := lt_blk hb
    simp at c0
    go_enter Try.func29, Try.ntmps29
    go_wp2
    refine bodyPost_ret (v := .tuple #[.agg #[.int .i64 0, .int .i64 0, .int .i64 0, .int .i64 0, .bool false], .int .i64 1]) (by simp [results, Try.results29, go_sem]) rfl ⟨rfl, (by repeat (first | (with_reducible exact Below.refl _ _) | (with_reducible refine Below.drew ?_) | (with_reducible refine below_drewN ?_ _) | (with_reducible refine below_al ?_ _) | (with_reducible refine Below.alloc ?_ (by first | exact Nat.le_refl _ | omega | (simp; done) | (simp; omega)) _) | (with_reducible refine Below.setCell ?_ (by first | (simp only []; omega) | (simp; done) | (simp; omega)) _)))⟩

theorem cl_load (was : Int) (w : World) : Calls Try.prog 33 #[.int .i64 was] w fun e w' => e = .returned (.tuple #[.int .i64 0, .bool false]) ∧ ∃ n, w' = w.drewN n := by
  go_enter Try.func33, Try.ntmps33
  go_wp2
  go_ret2
  exact ⟨rfl, 0, rfl⟩
theorem cl_store (was v : Int) (w : World) (b : Nat) (h : w.cell? ⟨b, 0, none⟩ = some (.int .i64 v)) : Calls Try.prog 30 #[.int .i64 was, .pointer (some ⟨b, 0, none⟩)] w fun e w' => e = .returned (.tuple #[.int .i64 v, .bool true]) ∧ ∃ n, w' = w.drewN n := by
  go_enter Try.func30, Try.ntmps30
  go_wp2
  go_ret2
  exact ⟨rfl, 0, rfl⟩
theorem cl_swap (was v old : Int) (w : World) (b1 b2 : Nat) (h1 : w.cell? ⟨b1, 0, none⟩ = some (.int .i64 v)) (h2 : w.cell? ⟨b2, 0, none⟩ = some (.int .i64 old)) :
    Calls Try.prog 31 #[.int .i64 was, .pointer (some ⟨b1, 0, none⟩), .pointer (some ⟨b2, 0, none⟩)] w fun e w' => e = .returned (.tuple #[.int .i64 v, .bool (was == old)]) ∧ ∃ n, w' = w.drewN n := by
  go_enter Try.func31, Try.ntmps31
  go_wp2
  go_quiet (fail)
  go_wp2
  go_ret2
  exact ⟨rfl, _, rfl⟩
theorem cl_add (was v : Int) (w : World) (b : Nat) (h : w.cell? ⟨b, 0, none⟩ = some (.int .i64 v)) : Calls Try.prog 34 #[.int .i64 was, .pointer (some ⟨b, 0, none⟩)] w fun e w' => e = .returned (.tuple #[.int .i64 (wrap64 (was + v)), .bool true]) ∧ ∃ n, w' = w.drewN n := by
  go_enter Try.func34, Try.ntmps34
  go_wp2
  go_ret2
  exact ⟨rfl, 0, rfl⟩
end Go.Proofs.Ytkjfojbnghbkdaa
