import Derived.Test.YtnglgjegkjfnaaaSlabA
import Derived.Test.YtnglgjegkjfnaaaWLast
import Derived.Test.YtnglgjegkjfnaaaWQPut
set_option linter.unusedSimpArgs false
set_option linter.unusedVariables false
namespace Go.Proofs.Ytnglgjegkjfnaaa
open Go.RowKit Go.Proofs.YtnglgjegkjfnaaaW.PrintWords Go.Proofs.YtnglgjegkjfnaaaW.PrintMore
/-! Rows of one-cell values of one's own, each in a block of its own; the slab over them. -/
def ints (xs : List Int) : List Value := xs.map (Value.int .i64)
def bools (xs : List Bool) : List Value := xs.map Value.bool
theorem ints_len (xs : List Int) : (ints xs).length = xs.length := by simp [ints]
theorem bools_len (xs : List Bool) : (bools xs).length = xs.length := by simp [bools]
theorem ints_get {xs : List Int} {i : Nat} {x : Int} (h : xs[i]? = some x) : (ints xs)[i]? = some (.int .i64 x) := by simp [ints, h]
theorem bools_get {xs : List Bool} {i : Nat} {x : Bool} (h : xs[i]? = some x) : (bools xs)[i]? = some (.bool x) := by simp [bools, h]
theorem ints_one {xs : List Int} : ∀ u ∈ ints xs, u.oneCell' = true := by
  intro u hu
  obtain ⟨x, _, rfl⟩ := List.mem_map.1 hu
  rfl
theorem ints_append (xs ys : List Int) : ints (xs ++ ys) = ints xs ++ ints ys := by simp [ints]
theorem bools_append (xs ys : List Bool) : bools (xs ++ ys) = bools xs ++ bools ys := by simp [bools]
theorem ints_take (xs : List Int) (m : Nat) : ints (xs.take m) = (ints xs).take m := by simp [ints, List.map_take]
theorem ints_drop (xs : List Int) (m : Nat) : ints (xs.drop m) = (ints xs).drop m := by simp [ints, List.map_drop]
theorem ints_set (xs : List Int) (i : Nat) (x : Int) : ints (xs.set i x) = (ints xs).set i (.int .i64 x) := by simp [ints, List.map_set]
theorem bools_set (xs : List Bool) (i : Nat) (x : Bool) : bools (xs.set i x) = (bools xs).set i (.bool x) := by simp [bools, List.map_set]
/-- A row of one's own (type e): its block, if it has one, is ok. -/
structure Row (w : World) (base : Nat) (ok : Nat → Prop) (e : TypeId) (v : Value) (vals : List Value) : Prop where
  own : ∀ k, v.ownBlock = some k → ok k
  row : QRow w base e 1 v vals.length vals
  one : ∀ u ∈ vals, u.oneCell' = true
namespace Row
variable {w w1 W : World} {base : Nat} {ok ok' : Nat → Prop} {e : TypeId} {v : Value} {vals : List Value} {F : Nat → Prop}
theorem mono (h : Row w base ok e v vals) (hok : ∀ k, k < w.heap.size → ok k → ok' k) : Row w base ok' e v vals :=
  ⟨fun k hk => hok k (lt_blk (q_typed h.row k hk).2.choose_spec) (h.own k hk), h.row, h.one⟩
theorem lt (h : Row w base ok e v vals) (k : Nat) (hk : v.ownBlock = some k) : k < w.heap.size := lt_blk (q_typed h.row k hk).2.choose_spec
theorem base_le (h : Row w base ok e v vals) (k : Nat) (hk : v.ownBlock = some k) : base ≤ k := (q_typed h.row k hk).1
theorem step (h : Row w base ok e v vals) (hm : ∀ k, ok k → k < w.heap.size → w1.heap[k]? = w.heap[k]?) : Row w1 base ok e v vals :=
  ⟨h.own, q_move h.row (fun k hk => hm k (h.own k hk) (h.lt k hk)), h.one⟩
theorem below (h : Row w base ok e v vals) (hB : Below w.heap.size w w1) : Row w1 base ok e v vals := h.step fun k _ hk => hB.block k hk
theorem keep (h : Row w base ok e v vals) (k : Keep F w w1) (hF : ∀ i, F i → ¬ ok i) : Row w1 base ok e v vals := h.step fun i hi hl => k.block i hl (fun f => hF i f hi)
theorem lower {base' : Nat} (h : Row w base ok e v vals) (hb : base' ≤ base) : Row w base' ok e v vals := ⟨h.own, q_lower h.row hb, h.one⟩
theorem nil (w : World) (base : Nat) (ok : Nat → Prop) (e : TypeId) : Row w base ok e (.slice none 0 0) [] :=
  ⟨fun k hk => by simp [Value.ownBlock] at hk, ⟨rfl, .inl ⟨rfl, none, rfl, fun a ha => by cases ha⟩⟩, fun u hu => by cases hu⟩
theorem slice (h : Row w base ok e v vals) : ∃ A c, v = .slice A vals.length c ∧ vals.length ≤ c := q_slice h.row
theorem lens {A : Option Addr} {n c : Nat} (h : Row w base ok e (.slice A n c) vals) : n = vals.length ∧ n ≤ c := by
  obtain ⟨A', c', he, hl⟩ := h.slice
  injection he with h1 h2 h3
  subst h2; subst h3
  exact ⟨rfl, hl⟩
/-- A row that holds something: where it lies. -/
theorem form (h : Row w base ok e v vals) (hn : 0 < vals.length) : ∃ g o c, v = .slice (some ⟨g, o, none⟩) vals.length c ∧ g < w.heap.size ∧ ok g ∧ ∀ i, (∀ u, vals[i]? = some u → w.cell? ⟨g, o + i, none⟩ = some u) ∧ w.frozen? ⟨g, o + i, none⟩ = false := by
  rcases h.row.2 with ⟨h0, _⟩ | ⟨g, off, cap, cur, rfl, hg, hh, hnc, hm, hcs, ht⟩
  · omega
  · refine ⟨g, off * 1, cap, rfl, lt_blk hh, h.own g (by simp [Value.ownBlock]), fun i => ⟨fun u hu => ?_, frozen_blk hh _⟩⟩
    have hi := (List.getElem?_eq_some_iff.1 hu).1
    rw [cell_blk hh, ← hu]
    conv => rhs; rw [← ht]
    rw [List.getElem?_take, if_pos (by omega), List.getElem?_drop, Array.getElem?_toList]
theorem take {A : Option Addr} {n c m : Nat} (h : Row w base ok e (.slice A n c) vals) (hm : m ≤ vals.length) : Row w base ok e (.slice A m c) (vals.take m) := by
  obtain ⟨rfl, _⟩ := h.lens
  refine ⟨fun k hk => h.own k (by cases A <;> exact hk), ?_, fun u hu => h.one u (List.mem_of_mem_take hu)⟩
  have := q_take h.row hm
  rw [Nat.mul_one] at this
  rw [List.length_take, Nat.min_eq_left hm]
  exact this
theorem drop {A : Option Addr} {n c k : Nat} (h : Row w base ok e (.slice A n c) vals) (hk : k ≤ vals.length) : Row w base ok e (.slice (if c = k then A else A.map (·.add (k * 1))) (n - k) (c - k)) (vals.drop k) := by
  obtain ⟨rfl, _⟩ := h.lens
  refine ⟨fun j hj => h.own j ?_, ?_, fun u hu => h.one u (List.mem_of_mem_drop hu)⟩
  · rw [← hj]
    split
    · cases A <;> simp [Value.ownBlock]
    · cases A with
      | none => rfl
      | some a => simp [Value.ownBlock]; unfold Addr.add; split <;> rfl
  · have := q_drop h.row hk
    rw [Nat.mul_one] at this
    rw [List.length_drop]
    simpa using this
theorem set {g o n c i : Nat} {u : Value} (h : Row w base ok e (.slice (some ⟨g, o, none⟩) n c) vals) (hi : i < vals.length) (hu : u.oneCell' = true) : Row (w.setCell ⟨g, o + i, none⟩ u) base ok e (.slice (some ⟨g, o, none⟩) n c) (vals.set i u) := by
  refine ⟨h.own, ⟨by simp, ?_⟩, fun x hx => ?_⟩
  · rcases h.row.2 with ⟨h0, _⟩ | ⟨g', off, cap, cur, he, hg, hh, hnc, hm, hcs, ht⟩
    · omega
    · injection he with ha hn hc
      injection ha with ha
      injection ha with h1 h2
      subst h1; subst hc; subst hn
      rw [Nat.mul_one] at h2
      subst h2
      refine .inr ⟨g, o, c, cur.setIfInBounds (o + i) u, by simp, hg, blk_set hh, by simpa using hnc, hm, by simpa using hcs, ?_⟩
      rw [Nat.mul_one] at ht ⊢
      rw [Nat.mul_one] at ht
      have hl : vals.length = (vals.set i u).length := by simp
      apply List.ext_getElem?
      intro j
      rw [Array.toList_setIfInBounds, Nat.mul_one, List.length_set, List.getElem?_take, List.getElem?_drop]
      have hj : vals[j]? = if j < vals.length then cur.toList[o + j]? else none := by
        conv => lhs; rw [← ht]
        rw [List.getElem?_take, List.getElem?_drop]
      by_cases hjl : j < vals.length
      · rw [if_pos hjl]
        by_cases hji : i = j
        · subst hji
          rw [List.getElem?_set_self hi, List.getElem?_set_self (by rw [Array.length_toList]; omega)]
        · rw [List.getElem?_set_ne hji, List.getElem?_set_ne (by omega), hj, if_pos hjl]
      · rw [if_neg hjl, List.getElem?_eq_none (by simp; omega)]
  · rcases List.mem_or_eq_of_mem_set hx with hx | rfl
    · exact h.one x hx
    · exact hu
/-- What is read of a row. -/
theorem readsI {A : Option Addr} {n c : Nat} {xs : List Int} (h : Row w base ok e (.slice A n c) (ints xs)) : n = xs.length ∧ n ≤ c ∧ (Kd.int .i64).C w A xs.length xs := by
  obtain ⟨h1, h2⟩ := h.lens
  rw [ints_len] at h1
  subst h1
  refine ⟨rfl, h2, rfl, ?_, fun hp => ?_⟩
  · have := q_max h.row
    rw [ints_len] at this
    exact this
  · obtain ⟨g, o, c', he, hg, _, hat⟩ := h.form (by rw [ints_len]; exact hp)
    injection he with ha hb hc
    subst ha
    refine ⟨_, rfl, fun j p hj => ⟨[.int .i64 p], rfl, rfl, fun i u hi => ?_⟩⟩
    match i with
    | 0 =>
      obtain rfl : Value.int .i64 p = u := by simpa using hi
      rw [adds]
      show w.cell? ⟨g, o + (j * 1 + 0), none⟩ = _
      rw [Nat.mul_one]
      exact (hat j).1 _ (ints_get hj)
    | i + 1 => simp at hi
end Row
/-- append onto a row of one's own. -/
theorem row_append {P : Program} {W : World} {base : Nat} {ok : Nat → Prop} {t e : TypeId} {z v : Value} {bytes : Nat} {vals : List Value} (ht : P.underlying t = some (.slice e)) (hinfo : (P.info? e).map (fun i => (i.zero, i.size, i.bytes)) = some (some z, 1, bytes)) (hz : z.cells.size = 1) (hb0 : 0 < bytes)
    (h : Row W base ok e v vals) (A : Option Addr) (m c : Nat) (news : List Value) (hm : news.length = m) (hA : 0 < m → ∃ ad, A = some ad ∧ ∀ j u, news[j]? = some u → W.cell? (ad.add j) = some u) (h1 : ∀ u ∈ news, u.oneCell' = true)
    (hl : (vals.length + m) * bytes ≤ 140737488355328) (hbase : base ≤ W.heap.size) :
    ∃ v1 w1, (∀ ty, (Builtin.append_ #[t, t] ty #[v, .slice A m c]).run P W = .ok v1 w1) ∧ Row w1 base (fun k => ok k ∨ W.heap.size ≤ k) e v1 (vals ++ news) ∧ W.grownBy w1 v.ownBlock := by
  obtain ⟨i0, hi, hzz⟩ := Option.map_eq_some_iff.1 hinfo
  simp only [Prod.mk.injEq] at hzz
  obtain ⟨hz0, hz1, hz2⟩ := hzz
  rcases Nat.eq_zero_or_pos m with h0 | h0
  · subst h0
    obtain rfl : news = [] := List.eq_nil_of_length_eq_zero hm
    refine ⟨v, W, fun ty => ?_, by rw [List.append_nil]; exact h.mono (fun _ _ h => .inl h), World.grownBy.refl W _⟩
    rcases h.row.2 with ⟨hn, A', rfl, _⟩ | ⟨g, off, cap, cur, rfl, _, _, hnc, _⟩
    · cases A <;> cases A' <;> simp [Builtin.append_, run_underlying ht, sizeOf, typeInfo, hi, Builtin.lenOf, Builtin.firstCells, storeCells, loadCells, loadCellsFrom]
    · cases A <;> simp [Builtin.append_, run_underlying ht, sizeOf, typeInfo, hi, Builtin.lenOf, Builtin.firstCells, hnc, storeCells, loadCells, loadCellsFrom]
  · obtain ⟨ad, rfl, hcell⟩ := hA h0
    have hlen : vals.length + m ≤ 140737488355328 := Nat.le_trans (Nat.le_mul_of_pos_right _ hb0) hl
    have key := fun ty => q_append (P := P) W base t ty e i0 z 1 bytes ht hi hz0 hz1 hz2 hz (by omega) v vals.length vals h.row ad m c news (by rw [hm, Nat.mul_one]) hcell h1 h0 (by simp only [maxLen]; omega) hl hbase
    obtain ⟨v1, w1, hr, hq, hg, hat⟩ := key 0
    refine ⟨v1, w1, fun ty => ?_, ⟨fun k hk => ?_, by rw [List.length_append, hm]; exact hq, fun u hu => ?_⟩, hg⟩
    · rw [← hr]; rfl
    · rcases hat with hat | ⟨b, hb, hle⟩
      · exact .inl (h.own k (hat ▸ hk))
      · rw [hb] at hk
        injection hk with hk
        exact .inr (by omega)
    · rcases List.mem_append.1 hu with hu | hu
      · exact h.one u hu
      · exact h1 u hu
end Go.Proofs.Ytnglgjegkjfnaaa
set_option linter.unusedSimpArgs false
set_option linter.unusedVariables false
namespace Go.Proofs.Ytnglgjegkjfnaaa
open Go.RowKit Go.Proofs.YtnglgjegkjfnaaaW.PrintWords Go.Proofs.YtnglgjegkjfnaaaW.PrintMore
/-! The slab over its rows; a colour for each block: 0 nobody's, 1 the slab's own, 2 gens, 3 alive, 4 caches, 5 free, 6 + i the i-th cache. -/
structure Sl where
  limit : Int
  gens : List Int
  alive : List Bool
  caches : List (List Int)
  free : List Int
structure SlV (w : World) (base : Nat) (col : Nat → Nat) (s : Sl) (vG vA vC vF : Value) (vs : List Value) : Prop where
  g : Row w base (fun k => col k = 2) 3 vG (ints s.gens)
  a : Row w base (fun k => col k = 3) 4 vA (bools s.alive)
  c : Row w base (fun k => col k = 4) 26 vC vs
  f : Row w base (fun k => col k = 5) 3 vF (ints s.free)
  l : vs.length = s.caches.length
  v : ∀ i x, s.caches[i]? = some x → ∃ v, vs[i]? = some v ∧ Row w base (fun k => col k = 6 + i) 3 v (ints x)
  z : ∀ k, w.heap.size ≤ k → col k = 0
  b : ∀ k, col k ≠ 0 → base ≤ k
/-- The colours behind a step: of what is new; of what was there as before. -/
structure Nx (w : World) (col : Nat → Nat) (w' : World) (col' : Nat → Nat) : Prop where
  keep : Keep (fun k => col k ≠ 0) w w'
  cols : ∀ k, k < w.heap.size → col' k = col k
theorem Nx.trans {w w1 w2 : World} {c c1 c2 : Nat → Nat} (h : Nx w c w1 c1) (k : Nx w1 c1 w2 c2) : Nx w c w2 c2 :=
  ⟨h.keep.trans' k.keep (fun i hi hf => by rw [h.cols i hi] at hf; exact hf), fun i hi => (k.cols i (Nat.lt_of_lt_of_le hi h.keep.size)).trans (h.cols i hi)⟩
theorem Nx.of_below {w w1 : World} {c : Nat → Nat} (h : Below w.heap.size w w1) : Nx w c w1 c := ⟨Keep.of_below h, fun _ _ => rfl⟩
theorem Nx.refl (w : World) (c : Nat → Nat) : Nx w c w c := ⟨Keep.refl _ _, fun _ _ => rfl⟩
def paint (col : Nat → Nat) (c a z : Nat) (k : Nat) : Nat := if a ≤ k ∧ k < z then c else col k
theorem paint_old {col : Nat → Nat} {c a z k : Nat} (h : k < a) : paint col c a z k = col k := by unfold paint; rw [if_neg (by omega)]
theorem paint_far {col : Nat → Nat} {c a z k : Nat} (h : z ≤ k) : paint col c a z k = col k := by unfold paint; rw [if_neg (by omega)]
theorem paint_new {col : Nat → Nat} {c a z k : Nat} (h : a ≤ k) (h2 : k < z) : paint col c a z k = c := by unfold paint; rw [if_pos ⟨h, h2⟩]
theorem grown_keep {w w1 : World} {v : Value} {ok : Nat → Prop} (hg : w.grownBy w1 v.ownBlock) (h : ∀ k, v.ownBlock = some k → ok k) : Keep ok w w1 :=
  ⟨hg.os, hg.tape, hg.output, hg.size, fun k hk hn => hg.block k hk (fun e => hn (h k e.symm))⟩
section
variable {w w1 w' : World} {base : Nat} {col : Nat → Nat} {s : Sl} {vG vA vC vF v : Value} {vs vals : List Value} {e : TypeId} {c : Nat}
/-- A row that stayed, in the colours behind. -/
theorem row_old (h : Row w base (fun k => col k = c) e v vals) {F : Nat → Prop} (hk : Keep F w w1) (hF : ∀ k, F k → col k ≠ c) {col' : Nat → Nat} (hc : ∀ k, k < w.heap.size → col' k = col k) : Row w1 base (fun k => col' k = c) e v vals := by
  have h1 : Row w base (fun k => col k = c ∧ k < w.heap.size) e v vals := h.mono fun k hl hc => ⟨hc, hl⟩
  exact (h1.keep hk (fun k hf ho => hF k hf ho.1)).mono fun k _ ho => (hc k ho.2).trans ho.1
/-- A row that grew. -/
theorem row_grown (h : Row w1 base (fun k => col k = c ∨ w.heap.size ≤ k) e v vals) (hz : ∀ k, w.heap.size ≤ k → col k = 0) (h0 : c ≠ 0) : Row w1 base (fun k => paint col c w.heap.size w1.heap.size k = c) e v vals :=
  h.mono fun k hl ho => by
    rcases Nat.lt_or_ge k w.heap.size with hk | hk
    · rw [paint_old hk]
      rcases ho with ho | ho
      · exact ho
      · omega
    · exact paint_new hk hl
theorem SlV.keep (h : SlV w base col s vG vA vC vF vs) {F : Nat → Prop} (hk : Keep F w w') (hF : ∀ k, F k → col k ≤ 1) : SlV w' base col s vG vA vC vF vs :=
  ⟨h.g.keep hk (fun k f o => by have := hF k f; omega), h.a.keep hk (fun k f o => by have := hF k f; omega), h.c.keep hk (fun k f o => by have := hF k f; omega), h.f.keep hk (fun k f o => by have := hF k f; omega), h.l,
   fun i x hx => by obtain ⟨v, hv, hr⟩ := h.v i x hx; exact ⟨v, hv, hr.keep hk (fun k f o => by have := hF k f; omega)⟩, fun k hl => h.z k (Nat.le_trans hk.size hl), h.b⟩
theorem SlV.below (h : SlV w base col s vG vA vC vF vs) (hB : Below w.heap.size w w') : SlV w' base col s vG vA vC vF vs := h.keep (F := fun _ => False) (Keep.of_below hB) (fun _ f => f.elim)
end
/-- Block b (type T) holds the slab s. -/
structure SlB (T : TypeId) (w : World) (base b : Nat) (col : Nat → Nat) (s : Sl) (vG vA vC vF : Value) (vs : List Value) : Prop where
  r : SlV w base col s vG vA vC vF vs
  blk : w.heap[b]? = some (.cells #[.int .i64 s.limit, vG, vA, vC, vF] T (0, 0))
  one : col b = 1
def IsSlab (T : TypeId) (w : World) (base b : Nat) (col : Nat → Nat) (s : Sl) : Prop := ∃ vG vA vC vF vs, SlB T w base b col s vG vA vC vF vs
section
variable {T : TypeId} {w w1 w2 w' : World} {base b : Nat} {col : Nat → Nat} {s : Sl} {vG vA vC vF v1 : Value} {vs vals : List Value} {e : TypeId} {c : Nat}
theorem SlB.below (h : SlB T w base b col s vG vA vC vF vs) (hB : Below w.heap.size w w') : SlB T w' base b col s vG vA vC vF vs := ⟨h.r.below hB, blk_below h.blk hB, h.one⟩
theorem SlB.keep (h : SlB T w base b col s vG vA vC vF vs) {F : Nat → Prop} (hk : Keep F w w') (hF : ∀ k, F k → col k = 0) : SlB T w' base b col s vG vA vC vF vs :=
  ⟨h.r.keep hk (fun k f => by rw [hF k f]; omega), blk_keep h.blk hk (fun f => by have := hF b f; have := h.one; omega), h.one⟩
theorem IsSlab.below (h : IsSlab T w base b col s) (hB : Below w.heap.size w w') : IsSlab T w' base b col s := by
  obtain ⟨vG, vA, vC, vF, vs, h⟩ := h
  exact ⟨vG, vA, vC, vF, vs, h.below hB⟩
theorem IsSlab.keep (h : IsSlab T w base b col s) {F : Nat → Prop} (hk : Keep F w w') (hF : ∀ k, F k → col k = 0) : IsSlab T w' base b col s := by
  obtain ⟨vG, vA, vC, vF, vs, h⟩ := h
  exact ⟨vG, vA, vC, vF, vs, h.keep hk hF⟩
theorem IsSlab.lt (h : IsSlab T w base b col s) : b < w.heap.size := by
  obtain ⟨vG, vA, vC, vF, vs, h⟩ := h
  exact lt_blk h.blk
theorem IsSlab.base_le (h : IsSlab T w base b col s) : ∀ k, col k ≠ 0 → base ≤ k := by
  obtain ⟨vG, vA, vC, vF, vs, h⟩ := h
  exact h.r.b
theorem IsSlab.z (h : IsSlab T w base b col s) : ∀ k, w.heap.size ≤ k → col k = 0 := by
  obtain ⟨vG, vA, vC, vF, vs, h⟩ := h
  exact h.r.z
theorem IsSlab.one (h : IsSlab T w base b col s) : col b = 1 := by
  obtain ⟨vG, vA, vC, vF, vs, h⟩ := h
  exact h.one
/-- A store into cell p of the caches: the p-th cache is ys then. -/
theorem SlB.cache (h : SlB T w base b col s vG vA vC vF vs) (hb : base ≤ w.heap.size) {p g o n cc : Nat} {ys : List Int} (hC : vC = .slice (some ⟨g, o, none⟩) n cc) (hp : p < s.caches.length) (hk : Keep (fun k => col k = 6 + p) w w1)
    (hr : Row w1 base (fun k => col k = 6 + p ∨ w.heap.size ≤ k) 3 v1 (ints ys)) :
    ∃ col', SlB T (w1.setCell ⟨g, o + p, none⟩ v1) base b col' { s with caches := s.caches.set p ys } vG vA vC vF (vs.set p v1) ∧ Nx w col (w1.setCell ⟨g, o + p, none⟩ v1) col' := by
  have hcols : ∀ k, k < w.heap.size → paint col (6 + p) w.heap.size w1.heap.size k = col k := fun k hk => paint_old hk
  have hlv : p < vs.length := by rw [h.r.l]; exact hp
  have hg4 : col g = 4 := h.r.c.own g (by rw [hC]; simp [Value.ownBlock])
  have hgl : g < w.heap.size := h.r.c.lt g (by rw [hC]; simp [Value.ownBlock])
  have hK : Keep (fun k => col k = 6 + p ∨ k = g) w (w1.setCell ⟨g, o + p, none⟩ v1) := (hk.mono (fun _ _ h => Or.inl h)).setCell _ _ (.inr (.inr rfl))
  have hS : Keep (fun k => k = g) w1 (w1.setCell ⟨g, o + p, none⟩ v1) := (Keep.refl _ _).setCell _ _ (.inr rfl)
  have hv1 : v1.oneCell' = true := by obtain ⟨A, c', he, _⟩ := hr.slice; rw [he]; rfl
  have hcol : ∀ {k}, k = g → paint col (6 + p) w.heap.size w1.heap.size k = 4 := fun e => by subst e; rw [hcols _ hgl]; exact hg4
  refine ⟨paint col (6 + p) w.heap.size w1.heap.size, ⟨⟨?_, ?_, ?_, ?_, ?_, ?_, ?_, ?_⟩, ?_, ?_⟩, ⟨hK.mono ?_, hcols⟩⟩
  · exact row_old h.r.g hK (fun k f => by rcases f with f | rfl <;> omega) hcols
  · exact row_old h.r.a hK (fun k f => by rcases f with f | rfl <;> omega) hcols
  · have h4 := row_old h.r.c hk (fun k f => by omega) hcols
    rw [hC] at h4 ⊢
    exact h4.set hlv hv1
  · exact row_old h.r.f hK (fun k f => by rcases f with f | rfl <;> omega) hcols
  · rw [List.length_set, List.length_set]; exact h.r.l
  · intro i x hx
    by_cases hip : i = p
    · subst hip
      rw [List.getElem?_set_self hp] at hx
      injection hx with hx
      subst hx
      exact ⟨v1, List.getElem?_set_self hlv, (row_grown hr h.r.z (by omega)).keep hS (fun k f ho => by rw [hcol f] at ho; omega)⟩
    · rw [List.getElem?_set_ne (Ne.symm hip)] at hx
      obtain ⟨v, hv, hro⟩ := h.r.v i x hx
      exact ⟨v, by rw [List.getElem?_set_ne (Ne.symm hip)]; exact hv, row_old hro hK (fun k f => by rcases f with f | rfl <;> omega) hcols⟩
  · intro k hk'
    have hsz := hK.size
    have : (w1.setCell ⟨g, o + p, none⟩ v1).heap.size = w1.heap.size := by simp [World.setCell]
    rw [this] at hk'
    rw [paint_far hk']
    exact h.r.z k (by have := hk.size; omega)
  · intro k hk'
    by_cases hn : w.heap.size ≤ k ∧ k < w1.heap.size
    · omega
    · unfold paint at hk'
      rw [if_neg hn] at hk'
      exact h.r.b k hk'
  · exact blk_keep h.blk hK (fun f => by have := h.one; rcases f with f | rfl <;> omega)
  · rw [hcols b (lt_blk h.blk)]; exact h.one
  · intro i _ f
    rcases f with f | rfl
    · omega
    · omega
/-- The slab's own block is written: any of its rows may be others then. c: the new rows' colours. -/
theorem SlB.fields (h : SlB T w base b col s vG vA vC vF vs) (hb : base ≤ w.heap.size) {vG' vA' vF' : Value} {gens' : List Int} {alive' : List Bool} {free' : List Int} {new : Nat → Nat} (hk : Keep (fun k => col k = 1 ∨ col k = 2 ∨ col k = 3 ∨ col k = 5) w w')
    (hblk : w'.heap[b]? = some (.cells #[.int .i64 s.limit, vG', vA', vC, vF'] T (0, 0)))
    (hG : Row w' base (fun k => col k = 2 ∨ w.heap.size ≤ k ∧ new k = 2) 3 vG' (ints gens')) (hA : Row w' base (fun k => col k = 3 ∨ w.heap.size ≤ k ∧ new k = 3) 4 vA' (bools alive')) (hF : Row w' base (fun k => col k = 5 ∨ w.heap.size ≤ k ∧ new k = 5) 3 vF' (ints free')) :
    ∃ col', SlB T w' base b col' { s with gens := gens', alive := alive', free := free' } vG' vA' vC vF' vs ∧ Nx w col w' col' := by
  let col' : Nat → Nat := fun k => if w.heap.size ≤ k ∧ k < w'.heap.size then new k else col k
  have hcols : ∀ k, k < w.heap.size → col' k = col k := fun k hk => if_neg (by omega)
  have hnew : ∀ {e v vals c}, c ≠ 0 → Row w' base (fun k => col k = c ∨ w.heap.size ≤ k ∧ new k = c) e v vals → Row w' base (fun k => col' k = c) e v vals := fun {e v vals c} h0 hr => hr.mono fun k hl ho => by
    rcases Nat.lt_or_ge k w.heap.size with hk | hk
    · rw [hcols k hk]
      rcases ho with ho | ho
      · exact ho
      · omega
    · show (if w.heap.size ≤ k ∧ k < w'.heap.size then new k else col k) = c
      rw [if_pos ⟨hk, hl⟩]
      rcases ho with ho | ho
      · rw [h.r.z k hk] at ho; omega
      · exact ho.2
  refine ⟨col', ⟨⟨hnew (by omega) hG, hnew (by omega) hA, ?_, hnew (by omega) hF, h.r.l, ?_, ?_, ?_⟩, hblk, ?_⟩, ⟨hk.mono ?_, hcols⟩⟩
  · exact row_old h.r.c hk (fun k f => by omega) hcols
  · intro i x hx
    obtain ⟨v, hv, hro⟩ := h.r.v i x hx
    exact ⟨v, hv, row_old hro hk (fun k f => by omega) hcols⟩
  · intro k hk'
    show (if w.heap.size ≤ k ∧ k < w'.heap.size then new k else col k) = 0
    rw [if_neg (by omega)]
    exact h.r.z k (by have := hk.size; omega)
  · intro k hk'
    by_cases hn : w.heap.size ≤ k ∧ k < w'.heap.size
    · omega
    · have : col' k = col k := if_neg hn
      rw [this] at hk'
      exact h.r.b k hk'
  · rw [hcols b (lt_blk h.blk)]; exact h.one
  · intro i _ f
    omega
end
end Go.Proofs.Ytnglgjegkjfnaaa
