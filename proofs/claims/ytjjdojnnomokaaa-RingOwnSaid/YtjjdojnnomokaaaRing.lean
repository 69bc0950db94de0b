import Derived.Test.YtjjdojnnomokaaaLib2
import Derived.RegionTactic
import Derived.BigRegion
import Derived.StillTailTactics
import Derived.IntWalk
set_option linter.unusedSimpArgs false
set_option linter.unusedVariables false
namespace Go.Proofs.Ytjjdojnnomokaaa
open Go.RowKit Go.Proofs.YtjjdojnnomokaaaW.PrintWords
/-! The ring: what its block holds. -/
structure Wt where
  s : Int
  g : Int
  t : Int
deriving DecidableEq
def Wt.zero : Wt := ⟨0, 0, 0⟩
abbrev Wt.cells (x : Wt) : Array Value := #[.int .i64 x.s, .int .i64 x.g, .int .u64 x.t]
/-- A ring: its places, the oldest one first; the next one. -/
structure Rg where
  l : List Wt
  has : Bool
  nx : Wt
def Rg.new : Rg := ⟨[], false, Wt.zero⟩
/-- Place i of a ring that begins at f. -/
def pl (f i : Nat) : Nat := (f + i) % 64
theorem pl_lt (f i : Nat) : pl f i < 64 := Nat.mod_lt _ (by decide)
theorem pl_inj {f i j : Nat} (hi : i < 64) (hj : j < 64) (h : i ≠ j) : pl f i ≠ pl f j := by unfold pl; omega
theorem pl_zero {f : Nat} (hf : f < 64) : pl f 0 = f := by unfold pl; omega
theorem pl_next (f i : Nat) : pl (pl f 1) i = pl f (i + 1) := by unfold pl; omega
theorem pl_tmod (f i : Nat) : ((f : Int) + (i : Int)).tmod 64 = (pl f i : Int) := by
  unfold pl
  rw [Int.tmod_eq_emod_of_nonneg (by omega)]
  omega
/-- The cells of a ring whose oldest place is f. -/
structure RingCs (cs : Array Value) (f : Nat) (r : Rg) : Prop where
  size : cs.size = 198
  flt : f < 64
  len : r.l.length ≤ 64
  c0 : cs[192]? = some (.int .i64 f)
  c1 : cs[193]? = some (.int .i64 r.l.length)
  c2 : cs[194]? = some (.bool r.has)
  c3 : cs[195]? = some (.int .i64 r.nx.s)
  c4 : cs[196]? = some (.int .i64 r.nx.g)
  c5 : cs[197]? = some (.int .u64 r.nx.t)
  at_ : ∀ i x, r.l[i]? = some x → ∀ d v, x.cells[d]? = some v → cs[pl f i * 3 + d]? = some v
theorem gs_ne {cs : Array Value} {i j : Nat} {v : Value} (h : i ≠ j) : (cs.setIfInBounds i v)[j]? = cs[j]? := by
  rw [Array.getElem?_setIfInBounds, if_neg h]
theorem gs_eq {cs : Array Value} {i : Nat} {v : Value} (h : i < cs.size) : (cs.setIfInBounds i v)[i]? = some v := by
  rw [Array.getElem?_setIfInBounds, if_pos rfl, if_pos h]
theorem gs_size {cs : Array Value} {i : Nat} {v : Value} : (cs.setIfInBounds i v).size = cs.size := Array.size_setIfInBounds
def put3 (cs : Array Value) (q : Nat) (x : Wt) : Array Value := ((cs.setIfInBounds q (.int .i64 x.s)).setIfInBounds (q + 1) (.int .i64 x.g)).setIfInBounds (q + 2) (.int .u64 x.t)
theorem put3_size (cs : Array Value) (q : Nat) (x : Wt) : (put3 cs q x).size = cs.size := by unfold put3; rw [gs_size, gs_size, gs_size]
theorem put3_ne {cs : Array Value} {q j : Nat} {x : Wt} (h : j < q ∨ q + 2 < j) : (put3 cs q x)[j]? = cs[j]? := by
  unfold put3
  rw [gs_ne (by omega), gs_ne (by omega), gs_ne (by omega)]
theorem put3_0 {cs : Array Value} {q : Nat} {x : Wt} (h : q + 2 < cs.size) : (put3 cs q x)[q]? = some (.int .i64 x.s) := by
  unfold put3
  rw [gs_ne (by omega), gs_ne (by omega), gs_eq (by omega)]
theorem put3_1 {cs : Array Value} {q : Nat} {x : Wt} (h : q + 2 < cs.size) : (put3 cs q x)[q + 1]? = some (.int .i64 x.g) := by
  unfold put3
  rw [gs_ne (by omega), gs_eq (by rw [gs_size]; omega)]
theorem put3_2 {cs : Array Value} {q : Nat} {x : Wt} (h : q + 2 < cs.size) : (put3 cs q x)[q + 2]? = some (.int .u64 x.t) := by
  unfold put3
  rw [gs_eq (by rw [gs_size, gs_size]; omega)]
theorem put3_at {cs : Array Value} {q : Nat} {x : Wt} (h : q + 2 < cs.size) {d : Nat} {v : Value} (hd : x.cells[d]? = some v) : (put3 cs q x)[q + d]? = some v := by
  match d with
  | 0 => rw [← hd]; exact put3_0 h
  | 1 => rw [← hd]; exact put3_1 h
  | 2 => rw [← hd]; exact put3_2 h
  | d + 3 => simp [Wt.cells] at hd
theorem cells_lt {x : Wt} {d : Nat} {v : Value} (hd : x.cells[d]? = some v) : d < 3 := by
  have := (Array.getElem?_eq_some_iff.1 hd).1
  simpa [Wt.cells] using this
/-- One more behind the places. -/
theorem RingCs.pushed {cs : Array Value} {f : Nat} {r : Rg} (h : RingCs cs f r) (x : Wt) (hl : r.l.length < 64) :
    RingCs ((put3 cs (pl f r.l.length * 3) x).setIfInBounds 193 (.int .i64 ((r.l.length : Int) + 1))) f { r with l := r.l ++ [x] } := by
  have hq := pl_lt f r.l.length
  have hs := h.size
  refine ⟨by rw [gs_size, put3_size, hs], h.flt, by simp; omega, ?_, ?_, ?_, ?_, ?_, ?_, ?_⟩
  · rw [gs_ne (by omega), put3_ne (by omega)]; exact h.c0
  · rw [gs_eq (by rw [put3_size]; omega)]; simp
  · rw [gs_ne (by omega), put3_ne (by omega)]; exact h.c2
  · rw [gs_ne (by omega), put3_ne (by omega)]; exact h.c3
  · rw [gs_ne (by omega), put3_ne (by omega)]; exact h.c4
  · rw [gs_ne (by omega), put3_ne (by omega)]; exact h.c5
  · intro i y hi d v hd
    have hd3 := cells_lt hd
    have hi2 := (List.getElem?_eq_some_iff.1 hi).1
    simp at hi2
    have hqi := pl_lt f i
    rw [gs_ne (by omega)]
    by_cases he : i = r.l.length
    · subst he
      rw [List.getElem?_append_right (Nat.le_refl _), Nat.sub_self] at hi
      obtain rfl : x = y := by simpa using hi
      exact put3_at (by omega) hd
    · rw [List.getElem?_append_left (by omega)] at hi
      have hne := pl_inj (f := f) (show i < 64 by omega) (show r.l.length < 64 by omega) he
      rw [put3_ne (by omega)]
      exact h.at_ i y hi d v hd
/-- The oldest place out. -/
theorem RingCs.popped {cs : Array Value} {f : Nat} {r : Rg} {x : Wt} {l : List Wt} (h : RingCs cs f r) (hl : r.l = x :: l) :
    RingCs ((cs.setIfInBounds 192 (.int .i64 (pl f 1 : Nat))).setIfInBounds 193 (.int .i64 (l.length : Int))) (pl f 1) { r with l := l } := by
  have hs := h.size
  have hll := h.len
  rw [hl] at hll
  simp at hll
  refine ⟨by rw [gs_size, gs_size, hs], pl_lt _ _, by show l.length ≤ 64; omega, ?_, ?_, ?_, ?_, ?_, ?_, ?_⟩
  · rw [gs_ne (by omega), gs_eq (by omega)]
  · rw [gs_eq (by rw [gs_size]; omega)]
  · rw [gs_ne (by omega), gs_ne (by omega)]; exact h.c2
  · rw [gs_ne (by omega), gs_ne (by omega)]; exact h.c3
  · rw [gs_ne (by omega), gs_ne (by omega)]; exact h.c4
  · rw [gs_ne (by omega), gs_ne (by omega)]; exact h.c5
  · intro i y hi d v hd
    have hd3 := cells_lt hd
    have hq := pl_lt f (i + 1)
    rw [pl_next, gs_ne (by omega), gs_ne (by omega)]
    exact h.at_ (i + 1) y (by rw [hl]; simpa using hi) d v hd
/-- Another one runs next. -/
theorem RingCs.nexted {cs : Array Value} {f : Nat} {r : Rg} (h : RingCs cs f r) (b : Bool) (x : Wt) : RingCs (put3 (cs.setIfInBounds 194 (.bool b)) 195 x) f { r with has := b, nx := x } := by
  have hs := h.size
  refine ⟨by rw [put3_size, gs_size, hs], h.flt, h.len, ?_, ?_, ?_, ?_, ?_, ?_, ?_⟩
  · rw [put3_ne (by omega), gs_ne (by omega)]; exact h.c0
  · rw [put3_ne (by omega), gs_ne (by omega)]; exact h.c1
  · rw [put3_ne (by omega), gs_eq (by omega)]
  · exact put3_0 (by rw [gs_size]; omega)
  · exact put3_1 (q := 195) (by rw [gs_size]; omega)
  · exact put3_2 (q := 195) (by rw [gs_size]; omega)
  · intro i y hi d v hd
    have hd3 := cells_lt hd
    have hq := pl_lt f i
    rw [put3_ne (by omega), gs_ne (by omega)]
    exact h.at_ i y hi d v hd
/-- Block b holds the ring r. -/
structure RingF (w : World) (b f : Nat) (r : Rg) (cs : Array Value) : Prop where
  blk : w.heap[b]? = some (.cells cs 71 (0, 0))
  cs : RingCs cs f r
def IsRing (w : World) (b : Nat) (r : Rg) : Prop := ∃ f cs, RingF w b f r cs
theorem RingF.below {w w' : World} {b f : Nat} {r : Rg} {cs : Array Value} (h : RingF w b f r cs) (hB : Below w.heap.size w w') : RingF w' b f r cs := ⟨(hB.block b (lt_blk h.blk)).trans h.blk, h.cs⟩
theorem IsRing.lt {w : World} {b : Nat} {r : Rg} (h : IsRing w b r) : b < w.heap.size := by obtain ⟨f, cs, h⟩ := h; exact lt_blk h.blk
theorem IsRing.len {w : World} {b : Nat} {r : Rg} (h : IsRing w b r) : r.l.length ≤ 64 := by obtain ⟨f, cs, h⟩ := h; exact h.cs.len
theorem IsRing.below {w w' : World} {b : Nat} {r : Rg} (h : IsRing w b r) (hB : Below w.heap.size w w') : IsRing w' b r := by obtain ⟨f, cs, h⟩ := h; exact ⟨f, cs, h.below hB⟩
theorem IsRing.keep {w w' : World} {b : Nat} {r : Rg} {F : Nat → Prop} (h : IsRing w b r) (hB : Keep F w w') (hF : ¬ F b) : IsRing w' b r := by obtain ⟨f, cs, h⟩ := h; exact ⟨f, cs, ⟨(hB.block b (lt_blk h.blk) hF).trans h.blk, h.cs⟩⟩
/-- What the walk asks of a ring's block: its cells, in a world. -/
theorem RingF.cells {w : World} {b f : Nat} {r : Rg} {cs : Array Value} (h : RingF w b f r cs) :
    w.cell? ⟨b, 192, none⟩ = some (.int .i64 f) ∧ w.cell? ⟨b, 193, none⟩ = some (.int .i64 r.l.length) ∧ w.cell? ⟨b, 194, none⟩ = some (.bool r.has) ∧ w.cell? ⟨b, 195, none⟩ = some (.int .i64 r.nx.s) ∧ w.cell? ⟨b, 196, none⟩ = some (.int .i64 r.nx.g) ∧ w.cell? ⟨b, 197, none⟩ = some (.int .u64 r.nx.t) :=
  ⟨by rw [cell_blk h.blk, h.cs.c0], by rw [cell_blk h.blk, h.cs.c1], by rw [cell_blk h.blk, h.cs.c2], by rw [cell_blk h.blk, h.cs.c3], by rw [cell_blk h.blk, h.cs.c4], by rw [cell_blk h.blk, h.cs.c5]⟩
theorem RingF.place {w : World} {b f : Nat} {r : Rg} {cs : Array Value} (h : RingF w b f r cs) {i : Nat} {x : Wt} (hi : r.l[i]? = some x) :
    w.cell? ⟨b, pl f i * 3, none⟩ = some (.int .i64 x.s) ∧ w.cell? ⟨b, pl f i * 3 + 1, none⟩ = some (.int .i64 x.g) ∧ w.cell? ⟨b, pl f i * 3 + 2, none⟩ = some (.int .u64 x.t) :=
  ⟨(cell_blk h.blk _).trans (h.cs.at_ i x hi 0 _ rfl), (cell_blk h.blk _).trans (h.cs.at_ i x hi 1 _ rfl), (cell_blk h.blk _).trans (h.cs.at_ i x hi 2 _ rfl)⟩
theorem RingF.any {w : World} {b f : Nat} {r : Rg} {cs : Array Value} (h : RingF w b f r cs) {i : Nat} (hi : i < 198) : ∃ v, w.cell? ⟨b, i, none⟩ = some v := by
  have hs := h.cs.size
  exact ⟨_, (cell_blk h.blk i).trans (Array.getElem?_eq_getElem (by omega))⟩
theorem RingF.frozen {w : World} {b f : Nat} {r : Rg} {cs : Array Value} (h : RingF w b f r cs) (i : Nat) : w.frozen? ⟨b, i, none⟩ = false := frozen_blk h.blk i
theorem blk3 {W : World} {R t : Nat} {a0 a1 a2 : Value} (h : W.heap[R]? = some (.cells #[a0, a1, a2] t (0, 0))) : W.cell? ⟨R, 0, none⟩ = some a0 ∧ W.cell? ⟨R, 1, none⟩ = some a1 ∧ W.cell? ⟨R, 2, none⟩ = some a2 ∧ W.frozen? ⟨R, 0, none⟩ = false ∧ W.frozen? ⟨R, 1, none⟩ = false ∧ W.frozen? ⟨R, 2, none⟩ = false :=
  ⟨cell_blk h 0, cell_blk h 1, cell_blk h 2, frozen_blk h 0, frozen_blk h 1, frozen_blk h 2⟩
end Go.Proofs.Ytjjdojnnomokaaa
