import Derived.Test.YtefkdicejhjfoaaPolE
namespace Go.Proofs.Ytefkdicejhjfoaa
open Go.RowKit Go.Proofs.YtefkdicejhjfoaaW.PrintWords Go.Proofs.YtefkdicejhjfoaaW.PrintLast Go.Proofs.YtefkdicejhjfoaaW.PrintMore Go.Proofs.Ytefkdicejhjfoaa.PPolicyPaths
/-! A row of Bools that the law makes and writes; passes over the edges. -/
theorem info_4 : (Try.prog.info? 4).map (fun i => (i.zero, i.size, i.bytes)) = some (some (.bool false), 1, 1) := by kernel_rfl
def BoolRow (w : World) (g n : Nat) (S : Nat → Bool) : Prop := ∃ cs : Array Value, w.heap[g]? = some (.cells cs 4 (0, 0)) ∧ cs.size = n ∧ ∀ i, i < n → cs[i]? = some (.bool (S i))
theorem BoolRow.cell {w : World} {g n : Nat} {S : Nat → Bool} (h : BoolRow w g n S) {i : Nat} (hi : i < n) : w.cell? ⟨g, i, none⟩ = some (.bool (S i)) := by
  obtain ⟨cs, hb, _, hc⟩ := h
  rw [cell_blk hb, hc i hi]
theorem BoolRow.frozen {w : World} {g n : Nat} {S : Nat → Bool} (h : BoolRow w g n S) (i : Nat) : w.frozen? ⟨g, i, none⟩ = false := by
  obtain ⟨cs, hb, _, _⟩ := h
  exact frozen_blk hb i
theorem BoolRow.lt {w : World} {g n : Nat} {S : Nat → Bool} (h : BoolRow w g n S) : g < w.heap.size := by
  obtain ⟨cs, hb, _, _⟩ := h
  exact lt_blk hb
theorem BoolRow.set {w : World} {g n : Nat} {S : Nat → Bool} (h : BoolRow w g n S) {i : Nat} (hi : i < n) (b : Bool) : BoolRow (w.setCell ⟨g, i, none⟩ (.bool b)) g n (fun j => if j = i then b else S j) := by
  obtain ⟨cs, hb, hs, hc⟩ := h
  refine ⟨_, blk_set hb, by simp [hs], fun j hj => ?_⟩
  rw [Array.getElem?_setIfInBounds]
  by_cases he : i = j
  · subst he
    rw [if_pos rfl, if_pos (by omega)]
    simp
  · rw [if_neg he, hc j hj]
    simp only []
    rw [if_neg (fun h => he h.symm)]
theorem BoolRow.drewN {w : World} {g n : Nat} {S : Nat → Bool} (h : BoolRow w g n S) (m : Nat) : BoolRow (w.drewN m) g n S := h
theorem BoolRow.below {w w' : World} {g n : Nat} {S : Nat → Bool} (h : BoolRow w g n S) (hB : Below w.heap.size w w') : BoolRow w' g n S := by
  obtain ⟨cs, hb, hs, hc⟩ := h
  exact ⟨cs, blk_below hb hB, hs, hc⟩
theorem BoolRow.made (w : World) (n : Nat) : BoolRow (w.alloc (.cells (madeCells #[.bool false] n) 4)) w.heap.size n (fun _ => false) := by
  refine ⟨_, blk_new _ _, by simp [size_madeCells], fun i hi => ?_⟩
  simp [madeCells, Nat.mod_one, hi]
theorem BoolRow.congr {w : World} {g n : Nat} {S T : Nat → Bool} (h : BoolRow w g n S) (he : ∀ i, i < n → S i = T i) : BoolRow w g n T := by
  obtain ⟨cs, hb, hs, hc⟩ := h
  exact ⟨cs, hb, hs, fun i hi => by rw [hc i hi, he i hi]⟩
theorem upd_if (S : Nat → Bool) (y : Nat) : (fun j => if j = y then true else S j) = upd S y := by
  funext j
  unfold upd
  rfl
/-- What the law's loops keep: old memory, the graph's box, the row. -/
structure LR (w wr : World) (g n : Nat) (B : Option Addr) (es : List S35) (d : Nat) (S : Nat → Bool) : Prop where
  below : Below w.heap.size w wr
  graph : wr.heap[w.heap.size]? = some (.cells #[.int .i64 n, .slice B es.length d] 24 (0, 0))
  row : BoolRow wr g n S
  lt : w.heap.size < g
theorem LR.set {w wr : World} {g n : Nat} {B : Option Addr} {es : List S35} {d : Nat} {S : Nat → Bool} (h : LR w wr g n B es d S) {i : Nat} (hi : i < n) (b : Bool) : LR w (wr.setCell ⟨g, i, none⟩ (.bool b)) g n B es d (fun j => if j = i then b else S j) :=
  ⟨h.below.setCell (by have := h.lt; simp only []; omega) _, blk_set_ne h.graph (by have := h.lt; simp only []; omega), h.row.set hi b, h.lt⟩
theorem LR.drewN {w wr : World} {g n : Nat} {B : Option Addr} {es : List S35} {d : Nat} {S : Nat → Bool} (h : LR w wr g n B es d S) (m : Nat) : LR w (wr.drewN m) g n B es d S :=
  ⟨below_drewN h.below m, h.graph, h.row.drewN m, h.lt⟩
theorem LR.then {w wr w2 : World} {g n : Nat} {B : Option Addr} {es : List S35} {d : Nat} {S : Nat → Bool} (h : LR w wr g n B es d S) (hB : Below wr.heap.size wr w2) : LR w w2 g n B es d S :=
  ⟨below_then h.below hB, blk_below h.graph hB, h.row.below hB, h.lt⟩
theorem LR.congr {w wr : World} {g n : Nat} {B : Option Addr} {es : List S35} {d : Nat} {S T : Nat → Bool} (h : LR w wr g n B es d S) (he : ∀ i, i < n → S i = T i) : LR w wr g n B es d T :=
  ⟨h.below, h.graph, h.row.congr he, h.lt⟩
theorem LR.x0 {w wr : World} {g n : Nat} {B : Option Addr} {es : List S35} {d : Nat} {S : Nat → Bool} (h : LR w wr g n B es d S) : wr.cell? ⟨w.heap.size, 0, none⟩ = some (.int .i64 n) := cell_blk h.graph 0
theorem LR.x1 {w wr : World} {g n : Nat} {B : Option Addr} {es : List S35} {d : Nat} {S : Nat → Bool} (h : LR w wr g n B es d S) : wr.cell? ⟨w.heap.size, 1, none⟩ = some (.slice B es.length d) := cell_blk h.graph 1
theorem bools_at {w : World} {b off : Nat} {n : Nat} {xs : List Bool} (h : Kd.bool.C w (some ⟨b, off, none⟩) n xs) (i : Nat) (hi : i < n) : w.cell? ⟨b, off + i, none⟩ = some (.bool (rdOf false xs i)) := by
  obtain ⟨ad, e, hc⟩ := h.2.2 (by omega)
  injection e with e
  subst e
  have hl : i < xs.length := by have := h.1; omega
  obtain ⟨cs, hcl, hK, hat⟩ := hc i _ (List.getElem?_eq_getElem hl)
  have hK : cs = [.bool xs[i]] := hK
  subst hK
  have := hat 0 _ rfl
  rw [adds] at this
  rw [show rdOf false xs (i : Int) = xs[i] by simp [rdOf, List.getD_eq_getElem?_getD, hl]]
  have h1 : i * Kd.bool.sz + 0 = i := by show i * 1 + 0 = i; omega
  rw [h1] at this
  exact this
theorem edge_at {w : World} {b off : Nat} {n : Nat} {xs : List S35} (h : k35.C w (some ⟨b, off, none⟩) n xs) (i : Nat) (hi : i < n) : ∃ e, xs[i]? = some e ∧ w.cell? ⟨b, off + i * 2, none⟩ = some (.int .i64 e.f0) ∧ w.cell? ⟨b, off + i * 2 + 1, none⟩ = some (.int .i64 e.f1) := by
  obtain ⟨ad, e, hc⟩ := h.2.2 (by omega)
  injection e with e
  subst e
  have hl : i < xs.length := by have := h.1; omega
  obtain ⟨cs, hcl, hK, hat⟩ := hc i _ (List.getElem?_eq_getElem hl)
  obtain ⟨_, _, rfl, rfl, rfl⟩ := hK
  refine ⟨_, List.getElem?_eq_getElem hl, ?_, ?_⟩
  · have := hat 0 _ rfl; rw [adds] at this; exact this
  · have := hat 1 _ rfl; rw [adds, ← Nat.add_assoc] at this; exact this
/-- One edge of a pass. -/
theorem pass_drop {es : List S35} {j : Nat} {e : S35} (h : es[j]? = some e) (S : Nat → Bool) : pass S (toE (es.drop j)) = pass (if S e.f0.toNat then upd S e.f1.toNat else S) (toE (es.drop (j + 1))) := by
  rw [drop_at h]
  rfl
/-- What a path leads to is in the closed row. -/
theorem least_in {n a : Nat} {es : List S35} {S : Nat → Bool} (hf : Fits n es) (ha : a < n) (hs : S a = true) {d : Nat} (h : rchB es a d = true) : passes S (toE es) n d = true := by
  have h1 := rchB_iff.1 h
  rw [Int.toNat_natCast, Int.toNat_natCast] at h1
  exact rch_of_closed (passes_le _ _ _ _ hs) (passes_closed (fun e he => (fits_lt hf e he).2) ha hs) h1
theorem aboveP_err' (D : Int) (es : List S35) (of : Int) : (aboveP D es of).2 = lookedP D es [of] := by
  unfold aboveP
  split
  · rename_i h; exact h.symm
  · rfl
theorem above_chk {D : Int} {es : List S35} {of : Int} (h : (chk D es).2 ≠ 0) : (aboveP D es of).2 = (chk D es).2 := by
  rw [aboveP_err', lookedP, if_neg h]
end Go.Proofs.Ytefkdicejhjfoaa
