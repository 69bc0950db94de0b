import Derived.Test.YtnglgjegkjfnaaaSlabA
import Derived.Test.YtnglgjegkjfnaaaWLast
import Derived.Test.YtnglgjegkjfnaaaWQPut
set_option linter.unusedSimpArgs false
set_option linter.unusedVariables false
namespace Go.Proofs.Ytnglgjegkjfnaaa
open Go.RowKit Go.Proofs.YtnglgjegkjfnaaaW.PrintWords Go.Proofs.YtnglgjegkjfnaaaW.PrintMore
/-! Rows of one-cell values of one's own, each in a block of its own; the slab over them. -/
def ints (xs : List Int) : List Value := xs.map (Value.int .i64)
def bools (xs : List Bool) : List Value := xs.map Value.bool
theorem ints_len (xs : List Int) : (ints xs).length = xs.length := by simp [ints]
theorem bools_len (xs : List Bool) : (bools xs).length = xs.length := by simp [bools]
theorem ints_get {xs : List Int} {i : Nat} {x : Int} (h : xs[i]? = some x) : (ints xs)[i]? = some (.int .i64 x) := by simp [ints, h]
theorem bools_get {xs : List Bool} {i : Nat} {x : Bool} (h : xs[i]? = some x) : (bools xs)[i]? = some (.bool x) := by simp [bools, h]
theorem ints_one {xs : List Int} : ∀ u ∈ ints xs, u.oneCell' = true := by
  intro u hu
  obtain ⟨x, _, rfl⟩ := List.mem_map.1 hu
  rfl
theorem bools_one {xs : List Bool} : ∀ u ∈ bools xs, u.oneCell' = true := by
  intro u hu
  obtain ⟨x, _, rfl⟩ := List.mem_map.1 hu
  rfl
theorem ints_append (xs ys : List Int) : ints (xs ++ ys) = ints xs ++ ints ys := by simp [ints]
theorem bools_append (xs ys : List Bool) : bools (xs ++ ys) = bools xs ++ bools ys := by simp [bools]
theorem ints_take (xs : List Int) (m : Nat) : ints (xs.take m) = (ints xs).take m := by simp [ints, List.map_take]
theorem ints_drop (xs : List Int) (m : Nat) : ints (xs.drop m) = (ints xs).drop m := by simp [ints, List.map_drop]
theorem ints_set (xs : List Int) (i : Nat) (x : Int) : ints (xs.set i x) = (ints xs).set i (.int .i64 x) := by simp [ints, List.map_set]
theorem bools_set (xs : List Bool) (i : Nat) (x : Bool) : bools (xs.set i x) = (bools xs).set i (.bool x) := by simp [bools, List.map_set]
/-- A row of one's own (type e): its block, if it has one, is ok. -/
structure Row (w : World) (base : Nat) (ok : Nat → Prop) (e : TypeId) (v : Value) (vals : List Value) : Prop where
  own : ∀ k, v.ownBlock = some k → ok k
  row : QRow w base e 1 v vals.length vals
  one : ∀ u ∈ vals, u.oneCell' = true
namespace Row
variable {w w1 W : World} {base : Nat} {ok ok' : Nat → Prop} {e : TypeId} {v : Value} {vals : List Value} {F : Nat → Prop}
theorem mono (h : Row w base ok e v vals) (hok : ∀ k, k < w.heap.size → ok k → ok' k) : Row w base ok' e v vals :=
  ⟨fun k hk => hok k (lt_blk (q_typed h.row k hk).2.choose_spec) (h.own k hk), h.row, h.one⟩
theorem lt (h : Row w base ok e v vals) (k : Nat) (hk : v.ownBlock = some k) : k < w.heap.size := lt_blk (q_typed h.row k hk).2.choose_spec
theorem base_le (h : Row w base ok e v vals) (k : Nat) (hk : v.ownBlock = some k) : base ≤ k := (q_typed h.row k hk).1
theorem step (h : Row w base ok e v vals) (hm : ∀ k, ok k → k < w.heap.size → w1.heap[k]? = w.heap[k]?) : Row w1 base ok e v vals :=
  ⟨h.own, q_move h.row (fun k hk => hm k (h.own k hk) (h.lt k hk)), h.one⟩
theorem below (h : Row w base ok e v vals) (hB : Below w.heap.size w w1) : Row w1 base ok e v vals := h.step fun k _ hk => hB.block k hk
theorem keep (h : Row w base ok e v vals) (k : Keep F w w1) (hF : ∀ i, F i → ¬ ok i) : Row w1 base ok e v vals := h.step fun i hi hl => k.block i hl (fun f => hF i f hi)
theorem lower {base' : Nat} (h : Row w base ok e v vals) (hb : base' ≤ base) : Row w base' ok e v vals := ⟨h.own, q_lower h.row hb, h.one⟩
theorem nil (w : World) (base : Nat) (ok : Nat → Prop) (e : TypeId) : Row w base ok e (.slice none 0 0) [] :=
  ⟨fun k hk => by simp [Value.ownBlock] at hk, ⟨rfl, .inl ⟨rfl, none, rfl, fun a ha => by cases ha⟩⟩, fun u hu => by cases hu⟩
theorem slice (h : Row w base ok e v vals) : ∃ A c, v = .slice A vals.length c ∧ vals.length ≤ c := q_slice h.row
theorem lens {A : Option Addr} {n c : Nat} (h : Row w base ok e (.slice A n c) vals) : n = vals.length ∧ n ≤ c := by
  obtain ⟨A', c', he, hl⟩ := h.slice
  injection he with h1 h2 h3
  subst h2; subst h3
  exact ⟨rfl, hl⟩
/-- A row that holds something: where it lies. -/
theorem form (h : Row w base ok e v vals) (hn : 0 < vals.length) : ∃ g o c, v = .slice (some ⟨g, o, none⟩) vals.length c ∧ g < w.heap.size ∧ ok g ∧ ∀ i, (∀ u, vals[i]? = some u → w.cell? ⟨g, o + i, none⟩ = some u) ∧ w.frozen? ⟨g, o + i, none⟩ = false := by
  rcases h.row.2 with ⟨h0, _⟩ | ⟨g, off, cap, cur, rfl, hg, hh, hnc, hm, hcs, ht⟩
  · omega
  · refine ⟨g, off * 1, cap, rfl, lt_blk hh, h.own g (by simp [Value.ownBlock]), fun i => ⟨fun u hu => ?_, frozen_blk hh _⟩⟩
    have hi := (List.getElem?_eq_some_iff.1 hu).1
    rw [cell_blk hh, ← hu]
    conv => rhs; rw [← ht]
    rw [List.getElem?_take, if_pos (by omega), List.getElem?_drop, Array.getElem?_toList]
theorem take {A : Option Addr} {n c m : Nat} (h : Row w base ok e (.slice A n c) vals) (hm : m ≤ vals.length) : Row w base ok e (.slice A m c) (vals.take m) := by
  obtain ⟨rfl, _⟩ := h.lens
  refine ⟨fun k hk => h.own k (by cases A <;> exact hk), ?_, fun u hu => h.one u (List.mem_of_mem_take hu)⟩
  have := q_take h.row hm
  rw [Nat.mul_one] at this
  rw [List.length_take, Nat.min_eq_left hm]
  exact this
theorem drop {A : Option Addr} {n c k : Nat} (h : Row w base ok e (.slice A n c) vals) (hk : k ≤ vals.length) : Row w base ok e (.slice (if c = k then A else A.map (·.add (k * 1))) (n - k) (c - k)) (vals.drop k) := by
  obtain ⟨rfl, _⟩ := h.lens
  refine ⟨fun j hj => h.own j ?_, ?_, fun u hu => h.one u (List.mem_of_mem_drop hu)⟩
  · rw [← hj]
    split
    · cases A <;> simp [Value.ownBlock]
    · cases A with
      | none => rfl
      | some a => simp [Value.ownBlock]; unfold Addr.add; split <;> rfl
  · have := q_drop h.row hk
    rw [Nat.mul_one] at this
    rw [List.length_drop]
    simpa using this
theorem set {g o n c i : Nat} {u : Value} (h : Row w base ok e (.slice (some ⟨g, o, none⟩) n c) vals) (hi : i < vals.length) (hu : u.oneCell' = true) : Row (w.setCell ⟨g, o + i, none⟩ u) base ok e (.slice (some ⟨g, o, none⟩) n c) (vals.set i u) := by
  refine ⟨h.own, ⟨by simp, ?_⟩, fun x hx => ?_⟩
  · rcases h.row.2 with ⟨h0, _⟩ | ⟨g', off, cap, cur, he, hg, hh, hnc, hm, hcs, ht⟩
    · omega
    · injection he with ha hn hc
      injection ha with ha
      injection ha with h1 h2
      subst h1; subst hc; subst hn
      rw [Nat.mul_one] at h2
      subst h2
      refine .inr ⟨g, o, c, cur.setIfInBounds (o + i) u, by simp, hg, blk_set hh, by simpa using hnc, hm, by simpa using hcs, ?_⟩
      rw [Nat.mul_one] at ht ⊢
      rw [Nat.mul_one] at ht
      have hl : vals.length = (vals.set i u).length := by simp
      apply List.ext_getElem?
      intro j
      rw [Array.toList_setIfInBounds, Nat.mul_one, List.length_set, List.getElem?_take, List.getElem?_drop]
      have hj : vals[j]? = if j < vals.length then cur.toList[o + j]? else none := by
        conv => lhs; rw [← ht]
        rw [List.getElem?_take, List.getElem?_drop]
      by_cases hjl : j < vals.length
      · rw [if_pos hjl]
        by_cases hji : i = j
        · subst hji
          rw [List.getElem?_set_self hi, List.getElem?_set_self (by rw [Array.length_toList]; omega)]
        · rw [List.getElem?_set_ne hji, List.getElem?_set_ne (by omega), hj, if_pos hjl]
      · rw [if_neg hjl, List.getElem?_eq_none (by simp; omega)]
  · rcases List.mem_or_eq_of_mem_set hx with hx | rfl
    · exact h.one x hx
    · exact hu
/-- What is read of a row. -/
theorem readsI {A : Option Addr} {n c : Nat} {xs : List Int} (h : Row w base ok e (.slice A n c) (ints xs)) : n = xs.length ∧ n ≤ c ∧ (Kd.int .i64).C w A xs.length xs := by
  obtain ⟨h1, h2⟩ := h.lens
  rw [ints_len] at h1
  subst h1
  refine ⟨rfl, h2, rfl, ?_, fun hp => ?_⟩
  · have := q_max h.row
    rw [ints_len] at this
    exact this
  · obtain ⟨g, o, c', he, hg, _, hat⟩ := h.form (by rw [ints_len]; exact hp)
    injection he with ha hb hc
    subst ha
    refine ⟨_, rfl, fun j p hj => ⟨[.int .i64 p], rfl, rfl, fun i u hi => ?_⟩⟩
    match i with
    | 0 =>
      obtain rfl : Value.int .i64 p = u := by simpa using hi
      rw [adds]
      show w.cell? ⟨g, o + (j * 1 + 0), none⟩ = _
      rw [Nat.mul_one]
      exact (hat j).1 _ (ints_get hj)
    | i + 1 => simp at hi
end Row
/-- append onto a row of one's own. -/
theorem row_append {P : Program} {W : World} {base : Nat} {ok : Nat → Prop} {t e : TypeId} {z v : Value} {bytes : Nat} {vals : List Value} (ht : P.underlying t = some (.slice e)) (hinfo : (P.info? e).map (fun i => (i.zero, i.size, i.bytes)) = some (some z, 1, bytes)) (hz : z.cells.size = 1) (hb0 : 0 < bytes)
    (h : Row W base ok e v vals) (A : Option Addr) (m c : Nat) (news : List Value) (hm : news.length = m) (hA : 0 < m → ∃ ad, A = some ad ∧ ∀ j u, news[j]? = some u → W.cell? (ad.add j) = some u) (h1 : ∀ u ∈ news, u.oneCell' = true)
    (hl : (vals.length + m) * bytes ≤ 140737488355328) (hbase : base ≤ W.heap.size) :
    ∃ v1 w1, (∀ ty, (Builtin.append_ #[t, t] ty #[v, .slice A m c]).run P W = .ok v1 w1) ∧ Row w1 base (fun k => ok k ∨ W.heap.size ≤ k) e v1 (vals ++ news) ∧ W.grownBy w1 v.ownBlock := by
  obtain ⟨i0, hi, hzz⟩ := Option.map_eq_some_iff.1 hinfo
  simp only [Prod.mk.injEq] at hzz
  obtain ⟨hz0, hz1, hz2⟩ := hzz
  rcases Nat.eq_zero_or_pos m with h0 | h0
  · subst h0
    obtain rfl : news = [] := List.eq_nil_of_length_eq_zero hm
    refine ⟨v, W, fun ty => ?_, by rw [List.append_nil]; exact h.mono (fun _ _ h => .inl h), World.grownBy.refl W _⟩
    rcases h.row.2 with ⟨hn, A', rfl, _⟩ | ⟨g, off, cap, cur, rfl, _, _, hnc, _⟩
    · cases A <;> cases A' <;> simp [Builtin.append_, run_underlying ht, sizeOf, typeInfo, hi, Builtin.lenOf, Builtin.firstCells, storeCells, loadCells, loadCellsFrom]
    · cases A <;> simp [Builtin.append_, run_underlying ht, sizeOf, typeInfo, hi, Builtin.lenOf, Builtin.firstCells, hnc, storeCells, loadCells, loadCellsFrom]
  · obtain ⟨ad, rfl, hcell⟩ := hA h0
    have hlen : vals.length + m ≤ 140737488355328 := Nat.le_trans (Nat.le_mul_of_pos_right _ hb0) hl
    have key := fun ty => q_append (P := P) W base t ty e i0 z 1 bytes ht hi hz0 hz1 hz2 hz (by omega) v vals.length vals h.row ad m c news (by rw [hm, Nat.mul_one]) hcell h1 h0 (by simp only [maxLen]; omega) hl hbase
    obtain ⟨v1, w1, hr, hq, hg, hat⟩ := key 0
    refine ⟨v1, w1, fun ty => ?_, ⟨fun k hk => ?_, by rw [List.length_append, hm]; exact hq, fun u hu => ?_⟩, hg⟩
    · rw [← hr]; rfl
    · rcases hat with hat | ⟨b, hb, hle⟩
      · exact .inl (h.own k (hat ▸ hk))
      · rw [hb] at hk
        injection hk with hk
        exact .inr (by omega)
    · rcases List.mem_append.1 hu with hu | hu
      · exact h.one u hu
      · exact h1 u hu
end Go.Proofs.Ytnglgjegkjfnaaa
set_option linter.unusedSimpArgs false
set_option linter.unusedVariables false
namespace Go.Proofs.Ytnglgjegkjfnaaa
open Go.RowKit Go.Proofs.YtnglgjegkjfnaaaW.PrintWords Go.Proofs.YtnglgjegkjfnaaaW.PrintMore
/-! The slab over its rows; a colour for each block: 0 nobody's, 1 the slab's own, 2 gens, 3 alive, 4 caches, 5 free, 6 + i the i-th cache. -/
structure Sl where
  limit : Int
  gens : List Int
  alive : List Bool
  caches : List (List Int)
  free : List Int
structure SlV (w : World) (base : Nat) (col : Nat → Nat) (s : Sl) (vG vA vC vF : Value) (vs : List Value) : Prop where
  g : Row w base (fun k => col k = 2) 3 vG (ints s.gens)
  a : Row w base (fun k => col k = 3) 4 vA (bools s.alive)
  c : Row w base (fun k => col k = 4) 26 vC vs
  f : Row w base (fun k => col k = 5) 3 vF (ints s.free)
  l : vs.length = s.caches.length
  v : ∀ i x, s.caches[i]? = some x → ∃ v, vs[i]? = some v ∧ Row w base (fun k => col k = 6 + i) 3 v (ints x)
  z : ∀ k, w.heap.size ≤ k → col k = 0
  b : ∀ k, col k ≠ 0 → base ≤ k
/-- The colours behind a step: of what is new; of what was there as before. -/
structure Nx (w : World) (col : Nat → Nat) (w' : World) (col' : Nat → Nat) : Prop where
  keep : Keep (fun k => col k ≠ 0) w w'
  cols : ∀ k, k < w.heap.size → col' k = col k
theorem Nx.trans {w w1 w2 : World} {c c1 c2 : Nat → Nat} (h : Nx w c w1 c1) (k : Nx w1 c1 w2 c2) : Nx w c w2 c2 :=
  ⟨h.keep.trans' k.keep (fun i hi hf => by rw [h.cols i hi] at hf; exact hf), fun i hi => (k.cols i (Nat.lt_of_lt_of_le hi h.keep.size)).trans (h.cols i hi)⟩
theorem Nx.of_below {w w1 : World} {c : Nat → Nat} (h : Below w.heap.size w w1) : Nx w c w1 c := ⟨Keep.of_below h, fun _ _ => rfl⟩
theorem Nx.refl (w : World) (c : Nat → Nat) : Nx w c w c := ⟨Keep.refl _ _, fun _ _ => rfl⟩
def paint (col : Nat → Nat) (c a z : Nat) (k : Nat) : Nat := if a ≤ k ∧ k < z then c else col k
theorem paint_old {col : Nat → Nat} {c a z k : Nat} (h : k < a) : paint col c a z k = col k := by unfold paint; rw [if_neg (by omega)]
theorem paint_far {col : Nat → Nat} {c a z k : Nat} (h : z ≤ k) : paint col c a z k = col k := by unfold paint; rw [if_neg (by omega)]
theorem paint_new {col : Nat → Nat} {c a z k : Nat} (h : a ≤ k) (h2 : k < z) : paint col c a z k = c := by unfold paint; rw [if_pos ⟨h, h2⟩]
theorem grown_keep {w w1 : World} {v : Value} {ok : Nat → Prop} (hg : w.grownBy w1 v.ownBlock) (h : ∀ k, v.ownBlock = some k → ok k) : Keep ok w w1 :=
  ⟨hg.os, hg.tape, hg.output, hg.size, fun k hk hn => hg.block k hk (fun e => hn (h k e.symm))⟩
section
variable {w w1 w' : World} {base : Nat} {col : Nat → Nat} {s : Sl} {vG vA vC vF v : Value} {vs vals : List Value} {e : TypeId} {c : Nat}
/-- A row that stayed, in the colours behind. -/
theorem row_old (h : Row w base (fun k => col k = c) e v vals) {F : Nat → Prop} (hk : Keep F w w1) (hF : ∀ k, F k → col k ≠ c) {col' : Nat → Nat} (hc : ∀ k, k < w.heap.size → col' k = col k) : Row w1 base (fun k => col' k = c) e v vals := by
  have h1 : Row w base (fun k => col k = c ∧ k < w.heap.size) e v vals := h.mono fun k hl hc => ⟨hc, hl⟩
  exact (h1.keep hk (fun k hf ho => hF k hf ho.1)).mono fun k _ ho => (hc k ho.2).trans ho.1
/-- A row that grew. -/
theorem row_grown (h : Row w1 base (fun k => col k = c ∨ w.heap.size ≤ k) e v vals) (hz : ∀ k, w.heap.size ≤ k → col k = 0) (h0 : c ≠ 0) : Row w1 base (fun k => paint col c w.heap.size w1.heap.size k = c) e v vals :=
  h.mono fun k hl ho => by
    rcases Nat.lt_or_ge k w.heap.size with hk | hk
    · rw [paint_old hk]
      rcases ho with ho | ho
      · exact ho
      · omega
    · exact paint_new hk hl
theorem SlV.keep (h : SlV w base col s vG vA vC vF vs) {F : Nat → Prop} (hk : Keep F w w') (hF : ∀ k, F k → col k ≤ 1) : SlV w' base col s vG vA vC vF vs :=
  ⟨h.g.keep hk (fun k f o => by have := hF k f; omega), h.a.keep hk (fun k f o => by have := hF k f; omega), h.c.keep hk (fun k f o => by have := hF k f; omega), h.f.keep hk (fun k f o => by have := hF k f; omega), h.l,
   fun i x hx => by obtain ⟨v, hv, hr⟩ := h.v i x hx; exact ⟨v, hv, hr.keep hk (fun k f o => by have := hF k f; omega)⟩, fun k hl => h.z k (Nat.le_trans hk.size hl), h.b⟩
theorem SlV.below (h : SlV w base col s vG vA vC vF vs) (hB : Below w.heap.size w w') : SlV w' base col s vG vA vC vF vs := h.keep (F := fun _ => False) (Keep.of_below hB) (fun _ f => f.elim)
end
/-- Block b (type T) holds the slab s. -/
structure SlB (T : TypeId) (w : World) (base b : Nat) (col : Nat → Nat) (s : Sl) (vG vA vC vF : Value) (vs : List Value) : Prop where
  r : SlV w base col s vG vA vC vF vs
  blk : w.heap[b]? = some (.cells #[.int .i64 s.limit, vG, vA, vC, vF] T (0, 0))
  one : col b = 1
def IsSlab (T : TypeId) (w : World) (base b : Nat) (col : Nat → Nat) (s : Sl) : Prop := ∃ vG vA vC vF vs, SlB T w base b col s vG vA vC vF vs
section
variable {T : TypeId} {w w1 w2 w' : World} {base b : Nat} {col : Nat → Nat} {s : Sl} {vG vA vC vF v1 : Value} {vs vals : List Value} {e : TypeId} {c : Nat}
theorem SlB.below (h : SlB T w base b col s vG vA vC vF vs) (hB : Below w.heap.size w w') : SlB T w' base b col s vG vA vC vF vs := ⟨h.r.below hB, blk_below h.blk hB, h.one⟩
theorem SlB.keep (h : SlB T w base b col s vG vA vC vF vs) {F : Nat → Prop} (hk : Keep F w w') (hF : ∀ k, F k → col k = 0) : SlB T w' base b col s vG vA vC vF vs :=
  ⟨h.r.keep hk (fun k f => by rw [hF k f]; omega), blk_keep h.blk hk (fun f => by have := hF b f; have := h.one; omega), h.one⟩
theorem IsSlab.below (h : IsSlab T w base b col s) (hB : Below w.heap.size w w') : IsSlab T w' base b col s := by
  obtain ⟨vG, vA, vC, vF, vs, h⟩ := h
  exact ⟨vG, vA, vC, vF, vs, h.below hB⟩
theorem IsSlab.keep (h : IsSlab T w base b col s) {F : Nat → Prop} (hk : Keep F w w') (hF : ∀ k, F k → col k = 0) : IsSlab T w' base b col s := by
  obtain ⟨vG, vA, vC, vF, vs, h⟩ := h
  exact ⟨vG, vA, vC, vF, vs, h.keep hk hF⟩
theorem IsSlab.base_le (h : IsSlab T w base b col s) : ∀ k, col k ≠ 0 → base ≤ k := by
  obtain ⟨vG, vA, vC, vF, vs, h⟩ := h
  exact h.r.b
theorem IsSlab.z (h : IsSlab T w base b col s) : ∀ k, w.heap.size ≤ k → col k = 0 := by
  obtain ⟨vG, vA, vC, vF, vs, h⟩ := h
  exact h.r.z
/-- A store into cell p of the caches: the p-th cache is ys then. -/
theorem SlB.cache (h : SlB T w base b col s vG vA vC vF vs) (hb : base ≤ w.heap.size) {p g o n cc : Nat} {ys : List Int} (hC : vC = .slice (some ⟨g, o, none⟩) n cc) (hp : p < s.caches.length) (hk : Keep (fun k => col k = 6 + p) w w1)
    (hr : Row w1 base (fun k => col k = 6 + p ∨ w.heap.size ≤ k) 3 v1 (ints ys)) :
    ∃ col', SlB T (w1.setCell ⟨g, o + p, none⟩ v1) base b col' { s with caches := s.caches.set p ys } vG vA vC vF (vs.set p v1) ∧ Nx w col (w1.setCell ⟨g, o + p, none⟩ v1) col' := by
  have hcols : ∀ k, k < w.heap.size → paint col (6 + p) w.heap.size w1.heap.size k = col k := fun k hk => paint_old hk
  have hlv : p < vs.length := by rw [h.r.l]; exact hp
  have hg4 : col g = 4 := h.r.c.own g (by rw [hC]; simp [Value.ownBlock])
  have hgl : g < w.heap.size := h.r.c.lt g (by rw [hC]; simp [Value.ownBlock])
  have hK : Keep (fun k => col k = 6 + p ∨ k = g) w (w1.setCell ⟨g, o + p, none⟩ v1) := (hk.mono (fun _ _ h => Or.inl h)).setCell _ _ (.inr (.inr rfl))
  have hS : Keep (fun k => k = g) w1 (w1.setCell ⟨g, o + p, none⟩ v1) := (Keep.refl _ _).setCell _ _ (.inr rfl)
  have hv1 : v1.oneCell' = true := by obtain ⟨A, c', he, _⟩ := hr.slice; rw [he]; rfl
  have hcol : ∀ {k}, k = g → paint col (6 + p) w.heap.size w1.heap.size k = 4 := fun e => by subst e; rw [hcols _ hgl]; exact hg4
  refine ⟨paint col (6 + p) w.heap.size w1.heap.size, ⟨⟨?_, ?_, ?_, ?_, ?_, ?_, ?_, ?_⟩, ?_, ?_⟩, ⟨hK.mono ?_, hcols⟩⟩
  · exact row_old h.r.g hK (fun k f => by rcases f with f | rfl <;> omega) hcols
  · exact row_old h.r.a hK (fun k f => by rcases f with f | rfl <;> omega) hcols
  · have h4 := row_old h.r.c hk (fun k f => by omega) hcols
    rw [hC] at h4 ⊢
    exact h4.set hlv hv1
  · exact row_old h.r.f hK (fun k f => by rcases f with f | rfl <;> omega) hcols
  · rw [List.length_set, List.length_set]; exact h.r.l
  · intro i x hx
    by_cases hip : i = p
    · subst hip
      rw [List.getElem?_set_self hp] at hx
      injection hx with hx
      subst hx
      exact ⟨v1, List.getElem?_set_self hlv, (row_grown hr h.r.z (by omega)).keep hS (fun k f ho => by rw [hcol f] at ho; omega)⟩
    · rw [List.getElem?_set_ne (Ne.symm hip)] at hx
      obtain ⟨v, hv, hro⟩ := h.r.v i x hx
      exact ⟨v, by rw [List.getElem?_set_ne (Ne.symm hip)]; exact hv, row_old hro hK (fun k f => by rcases f with f | rfl <;> omega) hcols⟩
  · intro k hk'
    have hsz := hK.size
    have : (w1.setCell ⟨g, o + p, none⟩ v1).heap.size = w1.heap.size := by simp [World.setCell]
    rw [this] at hk'
    rw [paint_far hk']
    exact h.r.z k (by have := hk.size; omega)
  · intro k hk'
    by_cases hn : w.heap.size ≤ k ∧ k < w1.heap.size
    · omega
    · unfold paint at hk'
      rw [if_neg hn] at hk'
      exact h.r.b k hk'
  · exact blk_keep h.blk hK (fun f => by have := h.one; rcases f with f | rfl <;> omega)
  · rw [hcols b (lt_blk h.blk)]; exact h.one
  · intro i _ f
    rcases f with f | rfl
    · omega
    · omega
/-- The slab's own block is written: any of its rows may be others then. c: the new rows' colours. -/
theorem SlB.fields (h : SlB T w base b col s vG vA vC vF vs) (hb : base ≤ w.heap.size) {vG' vA' vF' : Value} {gens' : List Int} {alive' : List Bool} {free' : List Int} {new : Nat → Nat} (hk : Keep (fun k => col k = 1 ∨ col k = 2 ∨ col k = 3 ∨ col k = 5) w w')
    (hblk : w'.heap[b]? = some (.cells #[.int .i64 s.limit, vG', vA', vC, vF'] T (0, 0)))
    (hG : Row w' base (fun k => col k = 2 ∨ w.heap.size ≤ k ∧ new k = 2) 3 vG' (ints gens')) (hA : Row w' base (fun k => col k = 3 ∨ w.heap.size ≤ k ∧ new k = 3) 4 vA' (bools alive')) (hF : Row w' base (fun k => col k = 5 ∨ w.heap.size ≤ k ∧ new k = 5) 3 vF' (ints free')) :
    ∃ col', SlB T w' base b col' { s with gens := gens', alive := alive', free := free' } vG' vA' vC vF' vs ∧ Nx w col w' col' := by
  let col' : Nat → Nat := fun k => if w.heap.size ≤ k ∧ k < w'.heap.size then new k else col k
  have hcols : ∀ k, k < w.heap.size → col' k = col k := fun k hk => if_neg (by omega)
  have hnew : ∀ {e v vals c}, c ≠ 0 → Row w' base (fun k => col k = c ∨ w.heap.size ≤ k ∧ new k = c) e v vals → Row w' base (fun k => col' k = c) e v vals := fun {e v vals c} h0 hr => hr.mono fun k hl ho => by
    rcases Nat.lt_or_ge k w.heap.size with hk | hk
    · rw [hcols k hk]
      rcases ho with ho | ho
      · exact ho
      · omega
    · show (if w.heap.size ≤ k ∧ k < w'.heap.size then new k else col k) = c
      rw [if_pos ⟨hk, hl⟩]
      rcases ho with ho | ho
      · rw [h.r.z k hk] at ho; omega
      · exact ho.2
  refine ⟨col', ⟨⟨hnew (by omega) hG, hnew (by omega) hA, ?_, hnew (by omega) hF, h.r.l, ?_, ?_, ?_⟩, hblk, ?_⟩, ⟨hk.mono ?_, hcols⟩⟩
  · exact row_old h.r.c hk (fun k f => by omega) hcols
  · intro i x hx
    obtain ⟨v, hv, hro⟩ := h.r.v i x hx
    exact ⟨v, hv, row_old hro hk (fun k f => by omega) hcols⟩
  · intro k hk'
    show (if w.heap.size ≤ k ∧ k < w'.heap.size then new k else col k) = 0
    rw [if_neg (by omega)]
    exact h.r.z k (by have := hk.size; omega)
  · intro k hk'
    by_cases hn : w.heap.size ≤ k ∧ k < w'.heap.size
    · omega
    · have : col' k = col k := if_neg hn
      rw [this] at hk'
      exact h.r.b k hk'
  · rw [hcols b (lt_blk h.blk)]; exact h.one
  · intro i _ f
    omega
end
end Go.Proofs.Ytnglgjegkjfnaaa
set_option linter.unusedSimpArgs false
set_option linter.unusedVariables false
namespace Go.Proofs.Ytnglgjegkjfnaaa
open Go.RowKit Go.Proofs.YtnglgjegkjfnaaaW.PrintWords Go.Proofs.YtnglgjegkjfnaaaW.PrintMore
/-! is, proc, Live, Alive, New. -/
abbrev TS : Nat := 57
def newS (limit procs : Int) : Sl := ⟨limit, [], [], List.replicate procs.toNat [], []⟩
def okNew (limit procs : Int) : Bool := decide (1 ≤ limit) && (decide (limit ≤ 4096) && (decide (1 ≤ procs) && decide (procs ≤ 64)))
theorem okNew_iff {limit procs : Int} : okNew limit procs = true ↔ 1 ≤ limit ∧ limit ≤ 4096 ∧ 1 ≤ procs ∧ procs ≤ 64 := by
  simp [okNew, and_assoc]
def procS (s : Sl) (p : Int) : Bool := decide (0 ≤ p) && decide (p < s.caches.length)
def aliveS (s : Sl) (x g : Int) : Bool := decide (0 ≤ x) && (decide (x < s.gens.length) && (s.alive.getD x.toNat false && decide (s.gens.getD x.toNat 0 = g)))
def liveS (s : Sl) : Nat := s.alive.countP id
theorem SlB.cells {T : TypeId} {w : World} {base b : Nat} {col : Nat → Nat} {s : Sl} {vG vA vC vF : Value} {vs : List Value} (h : SlB T w base b col s vG vA vC vF vs) :
    w.cell? ⟨b, 0, none⟩ = some (.int .i64 s.limit) ∧ w.cell? ⟨b, 1, none⟩ = some vG ∧ w.cell? ⟨b, 2, none⟩ = some vA ∧ w.cell? ⟨b, 3, none⟩ = some vC ∧ w.cell? ⟨b, 4, none⟩ = some vF :=
  ⟨cell_blk h.blk 0, cell_blk h.blk 1, cell_blk h.blk 2, cell_blk h.blk 3, cell_blk h.blk 4⟩
theorem is_slab {b : Nat} {s : Sl} {base : Nat} {col : Nat → Nat} (w : World) (h : IsSlab TS w base b col s) (hl : 0 < s.limit) : Calls Try.prog 34 #[.pointer (some ⟨b, 0, none⟩)] w fun e w' => e = .returned (.bool true) ∧ w = w' := by
  obtain ⟨vG, vA, vC, vF, vs, h⟩ := h
  obtain ⟨c0, -⟩ := h.cells
  have hn := sneq_ptr b
  have hlt := lt_blk h.blk
  have hd : decide (s.limit > 0) = true := by simp; omega
  clear h
  go_enter Try.func34, Try.ntmps34
  go_wp2
  go_ret
  exact ⟨rfl, rfl⟩
theorem proc_slab {b : Nat} {s : Sl} {base : Nat} {col : Nat → Nat} (p : Int) (w : World) (h : IsSlab TS w base b col s) (hl : 0 < s.limit) : Calls Try.prog 37 #[.pointer (some ⟨b, 0, none⟩), .int .i64 p] w fun e w' => e = .returned (.bool (procS s p)) ∧ w = w' := by
  have H := Aside0.mk h
  obtain ⟨vG, vA, vC, vF, vs, h⟩ := h
  obtain ⟨-, -, -, c3, -⟩ := h.cells
  obtain ⟨A, cc, rfl, hc⟩ := h.r.c.slice
  rw [h.r.l] at c3 hc
  have hlt := lt_blk h.blk
  clear h
  by_cases h0 : 0 ≤ p
  · have hd : decide (p ≥ 0) = true := by simp; omega
    have hP : procS s p = decide (p < s.caches.length) := by simp [procS, h0]
    rw [hP]
    clear hP
    go_enter Try.func37, Try.ntmps37
    go_wp2_with fail
    refine (is_slab w H.out hl).mono ?_
    rintro e w1 ⟨rfl, rfl⟩
    go_wp2
    go_ret
    exact ⟨by simp, rfl⟩
  · have hd : decide (p ≥ 0) = false := by simp; omega
    have hP : procS s p = false := by simp [procS, h0]
    rw [hP]
    clear hP
    go_enter Try.func37, Try.ntmps37
    go_wp2_with fail
    refine (is_slab w H.out hl).mono ?_
    rintro e w1 ⟨rfl, rfl⟩
    go_wp2
    go_ret
    exact ⟨rfl, rfl⟩
theorem infoSl : (Try.prog.info? 26).map (fun i => (i.zero, i.size, i.bytes)) = some (some (.slice none 0 0), 1, 24) := by kernel_rfl
theorem infoIn : (Try.prog.info? 3).map (fun i => (i.zero, i.size, i.bytes)) = some (some (.int .i64 0), 1, 8) := by kernel_rfl
theorem infoBo : (Try.prog.info? 4).map (fun i => (i.zero, i.size, i.bytes)) = some (some (.bool false), 1, 1) := by kernel_rfl
/-- A new row of n equal values. -/
theorem row_made (w : World) (n : Nat) (z : Value) (e : TypeId) (hz : z.oneCell' = true) (hn : n ≤ 9223372036854775807) : Row (w.alloc (.cells (madeCells #[z] n) e)) w.heap.size (fun k => k = w.heap.size) e (.slice (some ⟨w.heap.size, 0, none⟩) n n) (List.replicate n z) := by
  refine ⟨fun k hk => by simpa [Value.ownBlock] using hk.symm, ⟨by simp, .inr ⟨w.heap.size, 0, n, madeCells #[z] n, ?_, Nat.le_refl _, blk_new _ _, by simp, by simp only [maxLen]; omega, by simp [size_madeCells], ?_⟩⟩, fun u hu => ?_⟩
  · rw [List.length_replicate]
  · apply List.ext_getElem
    · simp [size_madeCells]
    · intro i h1 h2
      simp [madeCells, Nat.mod_one]
  · rw [List.eq_of_mem_replicate hu]; exact hz
def NewPost (limit procs : Int) (w : World) (e : Ending) (w' : World) : Prop := Below w.heap.size w w' ∧ ((okNew limit procs = true ∧ ∃ b col, e = .returned (.tuple #[.pointer (some ⟨b, 0, none⟩), .int .i64 0]) ∧ IsSlab TS w' w.heap.size b col (newS limit procs) ∧ ∀ k, k < w.heap.size → col k = 0) ∨ (okNew limit procs = false ∧ e = .returned (.tuple #[.pointer none, .int .i64 1])))
set_option maxHeartbeats 1000000 in
theorem snew_any (limit procs : Int) (w : World) : Calls Try.prog 13 #[.int .i64 limit, .int .i64 procs] w (NewPost limit procs w) := by
  cases hk : okNew limit procs with
  | false =>
    have HK := Aside0.mk hk
    have hb : limit < 1 ∨ (1 ≤ limit ∧ 4096 < limit) ∨ (1 ≤ limit ∧ limit ≤ 4096 ∧ procs < 1) ∨ (1 ≤ limit ∧ limit ≤ 4096 ∧ 1 ≤ procs ∧ 64 < procs) := by
      have : ¬ (1 ≤ limit ∧ limit ≤ 4096 ∧ 1 ≤ procs ∧ procs ≤ 64) := fun h => by rw [okNew_iff.2 h] at hk; cases hk
      omega
    clear hk
    rcases hb with h | ⟨h0, h⟩ | ⟨h0, h1, h⟩ | ⟨h0, h1, h2, h⟩
    · go_enter Try.func13, Try.ntmps13
      go_wp2
      go_ret2
      exact ⟨(by repeat (first | (with_reducible exact Below.refl _ _) | (with_reducible refine Below.drew ?_) | (with_reducible refine below_drewN ?_ _) | (with_reducible refine below_al ?_ _) | (with_reducible refine Below.alloc ?_ (by first | exact Nat.le_refl _ | omega | (simp; done) | (simp; omega)) _) | (with_reducible refine Below.setCell ?_ (by first | (simp only []; omega) | (simp; done) | (simp; omega)) _))), .inr ⟨HK.out, rfl⟩⟩
    · have h0' : ¬ limit < 1 := by omega
      go_enter Try.func13, Try.ntmps13
      go_wp2
      go_ret2
      exact ⟨(by repeat (first | (with_reducible exact Below.refl _ _) | (with_reducible refine Below.drew ?_) | (with_reducible refine below_drewN ?_ _) | (with_reducible refine below_al ?_ _) | (with_reducible refine Below.alloc ?_ (by first | exact Nat.le_refl _ | omega | (simp; done) | (simp; omega)) _) | (with_reducible refine Below.setCell ?_ (by first | (simp only []; omega) | (simp; done) | (simp; omega)) _))), .inr ⟨HK.out, rfl⟩⟩
    · have h0' : ¬ limit < 1 := by omega
      have h1' : ¬ 4096 < limit := by omega
      go_enter Try.func13, Try.ntmps13
      go_wp2
      go_ret2
      exact ⟨(by repeat (first | (with_reducible exact Below.refl _ _) | (with_reducible refine Below.drew ?_) | (with_reducible refine below_drewN ?_ _) | (with_reducible refine below_al ?_ _) | (with_reducible refine Below.alloc ?_ (by first | exact Nat.le_refl _ | omega | (simp; done) | (simp; omega)) _) | (with_reducible refine Below.setCell ?_ (by first | (simp only []; omega) | (simp; done) | (simp; omega)) _))), .inr ⟨HK.out, rfl⟩⟩
    · have h0' : ¬ limit < 1 := by omega
      have h1' : ¬ 4096 < limit := by omega
      have h2' : ¬ procs < 1 := by omega
      go_enter Try.func13, Try.ntmps13
      go_wp2
      go_ret2
      exact ⟨(by repeat (first | (with_reducible exact Below.refl _ _) | (with_reducible refine Below.drew ?_) | (with_reducible refine below_drewN ?_ _) | (with_reducible refine below_al ?_ _) | (with_reducible refine Below.alloc ?_ (by first | exact Nat.le_refl _ | omega | (simp; done) | (simp; omega)) _) | (with_reducible refine Below.setCell ?_ (by first | (simp only []; omega) | (simp; done) | (simp; omega)) _))), .inr ⟨HK.out, rfl⟩⟩
  | true =>
    have HK := Aside0.mk hk
    obtain ⟨h0, h1, h2, h3⟩ := okNew_iff.1 hk
    clear hk
    obtain ⟨n, rfl⟩ := Int.eq_ofNat_of_zero_le (show 0 ≤ procs by omega)
    have h0' : ¬ limit < 1 := by omega
    have h1' : ¬ 4096 < limit := by omega
    have h2' : ¬ (n : Int) < 1 := by omega
    have h3' : ¬ 64 < (n : Int) := by omega
    have hmk := run_make_row' (P := Try.prog) 28 26 (.slice none 0 0) 24 Try.underlying28 infoSl rfl .i64 .i64 n (by omega) (by omega)
    have hR := row_made w n (.slice none 0 0) 26 rfl (by omega)
    go_enter Try.func13, Try.ntmps13
    go_wp2
    go_ret2
    have hB : Below w.heap.size w ((w.alloc (.cells (madeCells #[.slice none 0 0] n) 26)).alloc (.cells #[.int .i64 limit, .slice none 0 0, .slice none 0 0, .slice (some ⟨w.heap.size, 0, none⟩) n n, .slice none 0 0] TS)) := (by repeat (first | (with_reducible exact Below.refl _ _) | (with_reducible refine Below.drew ?_) | (with_reducible refine below_drewN ?_ _) | (with_reducible refine below_al ?_ _) | (with_reducible refine Below.alloc ?_ (by first | exact Nat.le_refl _ | omega | (simp; done) | (simp; omega)) _) | (with_reducible refine Below.setCell ?_ (by first | (simp only []; omega) | (simp; done) | (simp; omega)) _)))
    have hA : Below (w.alloc (.cells (madeCells #[.slice none 0 0] n) 26)).heap.size (w.alloc (.cells (madeCells #[.slice none 0 0] n) 26)) ((w.alloc (.cells (madeCells #[.slice none 0 0] n) 26)).alloc (.cells #[.int .i64 limit, .slice none 0 0, .slice none 0 0, .slice (some ⟨w.heap.size, 0, none⟩) n n, .slice none 0 0] TS)) := below_al (Below.refl _ _) _
    refine ⟨hB, .inl ⟨HK.out, w.heap.size + 1, fun k => if k = w.heap.size then 4 else if k = w.heap.size + 1 then 1 else 0, rfl, ⟨.slice none 0 0, .slice none 0 0, .slice (some ⟨w.heap.size, 0, none⟩) n n, .slice none 0 0, List.replicate n (.slice none 0 0), ⟨⟨?_, ?_, ?_, ?_, ?_, ?_, ?_, ?_⟩, ?_, ?_⟩⟩, fun k hk => ?_⟩⟩
    · exact Row.nil _ _ _ _
    · exact Row.nil _ _ _ _
    · exact (hR.below hA).mono fun k _ hk => by simp [hk]
    · exact Row.nil _ _ _ _
    · simp [newS]
    · intro i x hx
      have hx' : i < n ∧ x = [] := by
        have := List.getElem?_eq_some_iff.1 hx
        obtain ⟨h1, h2⟩ := this
        simp [newS] at h1 h2
        exact ⟨h1, h2⟩
      obtain ⟨hi, rfl⟩ := hx'
      exact ⟨.slice none 0 0, by simp [hi], Row.nil _ _ _ _⟩
    · intro k hk
      simp at hk
      have h1 : k ≠ w.heap.size := by omega
      have h2 : k ≠ w.heap.size + 1 := by omega
      simp [h1, h2]
    · intro k hk
      by_cases h1 : k = w.heap.size
      · omega
      · by_cases h2 : k = w.heap.size + 1
        · omega
        · simp [h1, h2] at hk
    · exact blk_new1 _ _ _
    · simp
    · have h1 : k ≠ w.heap.size := by omega
      have h2 : k ≠ w.heap.size + 1 := by omega
      simp [h1, h2]
set_option maxHeartbeats 1000000 in
theorem live_slab {b : Nat} {s : Sl} {base : Nat} {col : Nat → Nat} (w : World) (h : IsSlab TS w base b col s) (hl : 0 < s.limit) (hb : s.alive.length ≤ 1000000) : Calls Try.prog 21 #[.pointer (some ⟨b, 0, none⟩)] w fun e w' => e = .returned (.int .i64 (liveS s)) ∧ Below w.heap.size w w' := by
  have H := Aside0.mk h
  obtain ⟨vG, vA, vC, vF, vs, h⟩ := h
  obtain ⟨-, -, c2, -, -⟩ := h.cells
  obtain ⟨A, cc, hA, hc⟩ := h.r.a.slice
  subst hA
  rw [bools_len] at c2 hc
  have HB := Aside0.mk h
  have hlt := lt_blk h.blk
  clear h
  go_enter Try.func21, Try.ntmps21
  go_wp2_with fail
  refine (is_slab _ (H.out.below (by repeat (first | (with_reducible exact Below.refl _ _) | (with_reducible refine Below.drew ?_) | (with_reducible refine below_drewN ?_ _) | (with_reducible refine below_al ?_ _) | (with_reducible refine Below.alloc ?_ (by first | exact Nat.le_refl _ | omega | (simp; done) | (simp; omega)) _) | (with_reducible refine Below.setCell ?_ (by first | (simp only []; omega) | (simp; done) | (simp; omega)) _)))) hl).mono ?_
  rintro e w1 ⟨rfl, rfl⟩
  go_wp2
  go_loopw [3, 14] (fun n i wr => ∃ k : Nat, k ≤ s.alive.length ∧ i = .int .i64 k ∧ n = .int .i64 ((s.alive.take k).countP id : Nat) ∧ Aside0 (Below w.heap.size w wr)) (fun _ i _ => s.alive.length - (intOf i).toNat)
  case atStart => exact ⟨0, by omega, rfl, rfl, ⟨(by repeat (first | (with_reducible exact Below.refl _ _) | (with_reducible refine Below.drew ?_) | (with_reducible refine below_drewN ?_ _) | (with_reducible refine below_al ?_ _) | (with_reducible refine Below.alloc ?_ (by first | exact Nat.le_refl _ | omega | (simp; done) | (simp; omega)) _) | (with_reducible refine Below.setCell ?_ (by first | (simp only []; omega) | (simp; done) | (simp; omega)) _)))⟩⟩
  case round =>
    obtain ⟨k, hk, rfl, rfl, HW⟩ := hrel
    have hcn : (s.alive.take k).countP id ≤ 1000000 := Nat.le_trans List.countP_le_length (by rw [List.length_take]; omega)
    have hn := Aside0.mk (rfl : (s.alive.take k).countP id = (s.alive.take k).countP id)
    by_cases hlt2 : k < s.alive.length
    · obtain ⟨g, o, c', he, hg, -, hat⟩ := (HB.out.r.a.below HW.out).form (by rw [bools_len]; omega)
      injection he with he1 he2 he3
      subst he1
      have hx : s.alive[k]? = some s.alive[k] := List.getElem?_eq_getElem hlt2
      have hcell := (hat k).1 _ (bools_get hx)
      have hT : Aside0 ((s.alive.take (k + 1)).countP id = (s.alive.take k).countP id + (if s.alive[k] then 1 else 0)) := ⟨by
        rw [List.take_succ_eq_append_getElem hlt2, List.countP_append]
        cases s.alive[k] <;> rfl⟩
      clear hat hx hn
      generalize (s.alive.take k).countP id = m at *
      cases hy : s.alive[k] with
      | true =>
        rw [hy] at hcell hT
        clear hy
        go_wp2
        go_roundw
        case rel => exact ⟨k + 1, by omega, by go_num, by rw [hT.out]; go_num, HW⟩
        case measure => simp [intOf]; omega
      | false =>
        rw [hy] at hcell hT
        clear hy
        go_wp2
        go_roundw
        case rel => exact ⟨k + 1, by omega, by go_num, by rw [hT.out]; rfl, HW⟩
        case measure => simp [intOf]; omega
    · obtain rfl : k = s.alive.length := by omega
      clear hn
      rw [List.take_length] at *
      go_wp2
      go_ret
      exact ⟨rfl, HW.out⟩
end Go.Proofs.Ytnglgjegkjfnaaa
set_option linter.unusedSimpArgs false
set_option linter.unusedVariables false
namespace Go.Proofs.Ytnglgjegkjfnaaa
open Go.RowKit Go.Proofs.YtnglgjegkjfnaaaW.PrintWords Go.Proofs.YtnglgjegkjfnaaaW.PrintMore
/-! Alive. -/
set_option maxHeartbeats 2000000 in
theorem alive_slab {b : Nat} {s : Sl} {base : Nat} {col : Nat → Nat} (x g : Int) (w : World) (h : IsSlab TS w base b col s) (hl : 0 < s.limit) (ha : s.alive.length = s.gens.length) : Calls Try.prog 22 #[.pointer (some ⟨b, 0, none⟩), .agg #[.int .i64 x, .int .i64 g]] w fun e w' => e = .returned (.bool (aliveS s x g)) ∧ Below w.heap.size w w' := by
  have hB : Below w.heap.size w (w.alloc (.cells #[.int .i64 x, .int .i64 g] 48)) := below_al (Below.refl _ _) _
  have hX : (w.alloc (.cells #[.int .i64 x, .int .i64 g] 48)).heap[w.heap.size]? = some (.cells #[.int .i64 x, .int .i64 g] 48 (0, 0)) := blk_new _ _
  have H : ∀ n, Calls Try.prog 34 #[.pointer (some ⟨b, 0, none⟩)] ((w.alloc (.cells #[.int .i64 x, .int .i64 g] 48)).drewN n) fun e w' => e = .returned (.bool true) ∧ w' = (w.alloc (.cells #[.int .i64 x, .int .i64 g] 48)).drewN n := fun n => (is_slab _ (h.below (by repeat (first | (with_reducible exact Below.refl _ _) | (with_reducible refine Below.drew ?_) | (with_reducible refine below_drewN ?_ _) | (with_reducible refine below_al ?_ _) | (with_reducible refine Below.alloc ?_ (by first | exact Nat.le_refl _ | omega | (simp; done) | (simp; omega)) _) | (with_reducible refine Below.setCell ?_ (by first | (simp only []; omega) | (simp; done) | (simp; omega)) _)))) hl).mono fun _ _ ⟨a, b⟩ => ⟨a, b.symm⟩
  have H := Aside0.mk H
  obtain ⟨vG, vA, vC, vF, vs, h⟩ := h
  have h := h.below hB
  obtain ⟨-, c1, c2, -, -⟩ := h.cells
  obtain ⟨AG, cG, hG, hcG⟩ := h.r.g.slice
  obtain ⟨AA, cA, hA, hcA⟩ := h.r.a.slice
  subst hG; subst hA
  rw [ints_len] at c1 hcG
  rw [bools_len] at c2 hcA
  have hlt := lt_blk h.blk
  have HB := Aside0.mk h
  have hwl := lt_blk hX
  clear h
  by_cases h0 : 0 ≤ x
  · obtain ⟨i, rfl⟩ := Int.eq_ofNat_of_zero_le h0
    have hd0 : decide ((i : Int) ≥ 0) = true := by simp
    by_cases h1 : i < s.gens.length
    · obtain ⟨gg, og, cg', he, -, -, hatg⟩ := HB.out.r.g.form (by rw [ints_len]; omega)
      injection he with e1 e2 e3
      subst e1
      obtain ⟨ga, oa, ca', he, -, -, hata⟩ := HB.out.r.a.form (by rw [bools_len]; omega)
      injection he with e4 e5 e6
      subst e4
      have hyg := (hatg i).1 _ (ints_get (List.getElem?_eq_getElem h1))
      have hya := (hata i).1 _ (bools_get (List.getElem?_eq_getElem (show i < s.alive.length by omega)))
      have hE : aliveS s i g = (s.alive[i] && decide (s.gens[i] = g)) := by
        simp [aliveS, h1, List.getD_eq_getElem?_getD, List.getElem?_eq_getElem, show i < s.alive.length by omega]
      rw [hE]
      rw [ha] at c2
      rw [ha] at hcA
      have hd1 : decide ((i : Int) < (s.gens.length : Int)) = true := by simp; omega
      clear hatg hata hE HB hX
      generalize s.gens[i] = y at *
      cases hal : s.alive[i] with
      | true =>
        rw [hal] at hya
        clear hal
        go_enter Try.func22, Try.ntmps22
        go_wp2_with fail
        go_quiet ((go_at_call 34; exact Calls.quiet_of_same (H.out _)))
        go_wp2
        go_ret
        exact ⟨rfl, (by repeat (first | (with_reducible exact hB) | (with_reducible refine Below.drew ?_) | (with_reducible refine below_drewN ?_ _) | (with_reducible refine below_al ?_ _) | (with_reducible refine Below.alloc ?_ (by first | exact Nat.le_refl _ | omega | (simp; done) | (simp; omega)) _) | (with_reducible refine Below.setCell ?_ (by first | (simp only []; omega) | (simp; done) | (simp; omega)) _)))⟩
      | false =>
        rw [hal] at hya
        clear hal
        go_enter Try.func22, Try.ntmps22
        go_wp2_with fail
        go_quiet ((go_at_call 34; exact Calls.quiet_of_same (H.out _)))
        go_wp2
        go_ret
        exact ⟨rfl, (by repeat (first | (with_reducible exact hB) | (with_reducible refine Below.drew ?_) | (with_reducible refine below_drewN ?_ _) | (with_reducible refine below_al ?_ _) | (with_reducible refine Below.alloc ?_ (by first | exact Nat.le_refl _ | omega | (simp; done) | (simp; omega)) _) | (with_reducible refine Below.setCell ?_ (by first | (simp only []; omega) | (simp; done) | (simp; omega)) _)))⟩
    · have hE : aliveS s i g = false := by simp [aliveS, h1]
      rw [hE]
      have hd1 : decide ((i : Int) < (s.gens.length : Int)) = false := by simp; omega
      clear hE HB hX
      go_enter Try.func22, Try.ntmps22
      go_wp2_with fail
      go_quiet ((go_at_call 34; exact Calls.quiet_of_same (H.out _)))
      go_wp2
      go_ret
      exact ⟨rfl, (by repeat (first | (with_reducible exact hB) | (with_reducible refine Below.drew ?_) | (with_reducible refine below_drewN ?_ _) | (with_reducible refine below_al ?_ _) | (with_reducible refine Below.alloc ?_ (by first | exact Nat.le_refl _ | omega | (simp; done) | (simp; omega)) _) | (with_reducible refine Below.setCell ?_ (by first | (simp only []; omega) | (simp; done) | (simp; omega)) _)))⟩
  · have hE : aliveS s x g = false := by simp [aliveS, h0]
    rw [hE]
    have hd0 : decide (x ≥ 0) = false := by simp; omega
    clear hE HB hX
    go_enter Try.func22, Try.ntmps22
    go_wp2_with fail
    go_quiet ((go_at_call 34; exact Calls.quiet_of_same (H.out _)))
    go_wp2
    go_ret
    exact ⟨rfl, (by repeat (first | (with_reducible exact hB) | (with_reducible refine Below.drew ?_) | (with_reducible refine below_drewN ?_ _) | (with_reducible refine below_al ?_ _) | (with_reducible refine Below.alloc ?_ (by first | exact Nat.le_refl _ | omega | (simp; done) | (simp; omega)) _) | (with_reducible refine Below.setCell ?_ (by first | (simp only []; omega) | (simp; done) | (simp; omega)) _)))⟩
end Go.Proofs.Ytnglgjegkjfnaaa
set_option linter.unusedSimpArgs false
set_option linter.unusedVariables false
namespace Go.Proofs.Ytnglgjegkjfnaaa
open Go.RowKit Go.Proofs.YtnglgjegkjfnaaaW.PrintWords Go.Proofs.YtnglgjegkjfnaaaW.PrintMore
/-! slices.Clone at the slab's rows; append, its run known. -/
/-- v reads as the values vals. -/
def Rdv (w : World) (v : Value) (vals : List Value) : Prop := ∃ A n c, v = .slice A n c ∧ vals.length = n ∧ n ≤ c ∧ n ≤ 9223372036854775807 ∧ (0 < n → ∃ ad, A = some ad ∧ ∀ j u, vals[j]? = some u → w.cell? (ad.add j) = some u) ∧ ∀ u ∈ vals, u.oneCell' = true
theorem Rdv.below {w w' : World} {v : Value} {vals : List Value} (h : Rdv w v vals) (hB : Below w.heap.size w w') : Rdv w' v vals := by
  obtain ⟨A, n, c, rfl, hl, hc, hx, hcell, h1⟩ := h
  exact ⟨A, n, c, rfl, hl, hc, hx, fun h0 => by
    obtain ⟨ad, he, hat⟩ := hcell h0
    exact ⟨ad, he, fun j u hj => pw_cell_below hB (hat j u hj)⟩, h1⟩
theorem Row.reads {w : World} {base : Nat} {ok : Nat → Prop} {e : TypeId} {v : Value} {vals : List Value} (h : Row w base ok e v vals) : Rdv w v vals := by
  obtain ⟨A, c, rfl, hc⟩ := h.slice
  refine ⟨A, vals.length, c, rfl, rfl, hc, q_max h.row, fun h0 => ?_, h.one⟩
  obtain ⟨g, o, c', he, _, _, hat⟩ := h.form h0
  injection he with e1 _ _
  subst e1
  exact ⟨_, rfl, fun j u hj => by rw [adds]; exact (hat j).1 u hj⟩
theorem Row.empty (w : World) (e : TypeId) : Row (w.alloc (.cells #[] e)) w.heap.size (fun k => k = w.heap.size) e (.slice (some ⟨w.heap.size, 0, none⟩) 0 0) [] :=
  ⟨fun k hk => by simpa [Value.ownBlock] using hk.symm, ⟨rfl, .inl ⟨rfl, _, rfl, fun a ha => by injection ha with ha; subst ha; exact ⟨Nat.le_refl _, _, blk_new _ _⟩⟩⟩, fun u hu => by cases hu⟩
theorem appL_ {P : Program} {ops : Array Oper} {rest : List Oper} {o : Oper} {a : Act} {Q : Exit → Act → World → Prop} {W w1 : World} (hgd : o.guard = none) (s x : Operand) (t : TypeId) (ho : o.op = .call { callee := .builtin .append, args := #[s, x], argTypes := #[t, t] }) {v u v1 : Value} (hs : a.eval s = v) (hx : a.eval x = u)
    (hr : ∀ ty, (Builtin.append_ #[t, t] ty #[v, u]).run P W = .ok v1 w1) (h : wpList P ops Q rest (a.put o.dst v1) w1) : wpList P ops Q (o :: rest) a W := by
  refine wpList_plain hgd fun K hK => ?_
  unfold Oper.wp execOp
  simp only [ho, resolve, invoke, builtin, Sem.run_bind, Sem.run_pure, Result.andThen_ok, List.map_toArray, List.map_cons, List.map_nil, hs, hx, hr]
  exact hK _ _ h
theorem app_ {P : Program} {ops : Array Oper} {o : Oper} {a : Act} {Q : Exit → Act → World → Prop} {K : Act → World → Prop} {N : Option Tmp} {W w1 : World} (s x : Operand) (t : TypeId) (hw : Region.wanted o (yielded ops a.tmps) = true) (hN : o.dst = N) (ho : o.op = .call { callee := .builtin .append, args := #[s, x], argTypes := #[t, t] }) {v u v1 : Value} (hs : a.eval s = v) (hx : a.eval x = u)
    (hr : ∀ ty, (Builtin.append_ #[t, t] ty #[v, u]).run P W = .ok v1 w1) (h : K (a.put N v1) w1) : if Region.wanted o (yielded ops a.tmps) = true then Oper.wp P o a W K Q else K (a.put N undef) W := by
  rw [if_pos hw]
  subst hN
  unfold Oper.wp execOp
  simp only [ho, resolve, invoke, builtin, Sem.run_bind, Sem.run_pure, Result.andThen_ok, List.map_toArray, List.map_cons, List.map_nil, hs, hx, hr]
  exact h

set_option maxHeartbeats 1000000 in
theorem cloneI (v : Value) (vals : List Value) (w : World) (h : Rdv w v vals) (hm : vals.length * 8 ≤ 140737488355328) :
    Calls Try.prog 35 #[v] w fun e w' => ∃ v', e = .returned v' ∧ Row w' w.heap.size (fun _ => True) 3 v' vals ∧ Below w.heap.size w w' := by
  obtain ⟨A0, n, c, rfl, hl, hc, hx, hcell, h1⟩ := h
  have qnil : ∀ (w : World) (a : Option Addr) (n c n' c' : Nat), (binOp .eql 26 (.slice a n c) (.slice none n' c')).run Try.prog w = .ok (.bool a.isNone) w := fun w a n c n' c' => Lib.run_eql_slice_nil w _ _ a n c n' c' Try.underlying26
  cases A0 with
  | none =>
    obtain rfl : vals = [] := by
      rcases Nat.eq_zero_or_pos n with h0 | h0
      · subst h0; exact List.eq_nil_of_length_eq_zero hl
      · obtain ⟨ad, he, _⟩ := hcell h0
        cases he
    go_enter Try.func35, Try.ntmps35
    go_wp2
    go_ret
    exact ⟨_, rfl, Row.nil _ _ _ _, Below.refl _ _⟩
  | some ad =>
    have hB : Below w.heap.size w (w.alloc (.cells #[] 3)) := below_al (Below.refl _ _) _
    have hcw : 0 < n → ∃ ad', some ad = some ad' ∧ ∀ j u, vals[j]? = some u → (w.alloc (.cells #[] 3)).cell? (ad'.add j) = some u := fun h0 => by
      obtain ⟨ad', he, hat⟩ := hcell h0
      exact ⟨ad', he, fun j u hj => pw_cell_below hB (hat j u hj)⟩
    obtain ⟨v1, w1, hr, hrow, hg⟩ := row_append (P := Try.prog) (t := 26) Try.underlying26 infoIn rfl (by omega) (Row.empty w 3) (some ad) n c vals hl hcw h1 (by rw [← hl]; simpa using hm) (by simp)
    have HR := Aside0.mk hrow
    have hb1 : Below w.heap.size (w.alloc (.cells #[] 3)) w1 := (Below.refl w.heap.size (w.alloc (.cells #[] 3))).grown hg (by simp) (fun k hk => by simp [Value.ownBlock] at hk; omega)
    have HB := Aside0.mk (hB.trans hb1)
    clear hrow hg hcell hcw hb1 hB
    go_enter Try.func35, Try.ntmps35
    go_wp2_with (first | ((with_reducible refine gate_builtin (b := .append) (xs := #[.tmp 5, .tmp 6]) rfl ?_); at_builtin; refine appL_ rfl (.tmp 5) (.tmp 6) 26 rfl rfl rfl hr ?_))
    go_ret
    exact ⟨v1, rfl, HR.out.mono (fun _ _ _ => trivial), HB.out⟩

set_option maxHeartbeats 1000000 in
theorem cloneB (v : Value) (vals : List Value) (w : World) (h : Rdv w v vals) (hm : vals.length * 1 ≤ 140737488355328) :
    Calls Try.prog 36 #[v] w fun e w' => ∃ v', e = .returned v' ∧ Row w' w.heap.size (fun _ => True) 4 v' vals ∧ Below w.heap.size w w' := by
  obtain ⟨A0, n, c, rfl, hl, hc, hx, hcell, h1⟩ := h
  have qnil : ∀ (w : World) (a : Option Addr) (n c n' c' : Nat), (binOp .eql 27 (.slice a n c) (.slice none n' c')).run Try.prog w = .ok (.bool a.isNone) w := fun w a n c n' c' => Lib.run_eql_slice_nil w _ _ a n c n' c' Try.underlying27
  cases A0 with
  | none =>
    obtain rfl : vals = [] := by
      rcases Nat.eq_zero_or_pos n with h0 | h0
      · subst h0; exact List.eq_nil_of_length_eq_zero hl
      · obtain ⟨ad, he, _⟩ := hcell h0
        cases he
    go_enter Try.func36, Try.ntmps36
    go_wp2
    go_ret
    exact ⟨_, rfl, Row.nil _ _ _ _, Below.refl _ _⟩
  | some ad =>
    have hB : Below w.heap.size w (w.alloc (.cells #[] 4)) := below_al (Below.refl _ _) _
    have hcw : 0 < n → ∃ ad', some ad = some ad' ∧ ∀ j u, vals[j]? = some u → (w.alloc (.cells #[] 4)).cell? (ad'.add j) = some u := fun h0 => by
      obtain ⟨ad', he, hat⟩ := hcell h0
      exact ⟨ad', he, fun j u hj => pw_cell_below hB (hat j u hj)⟩
    obtain ⟨v1, w1, hr, hrow, hg⟩ := row_append (P := Try.prog) (t := 27) Try.underlying27 infoBo rfl (by omega) (Row.empty w 4) (some ad) n c vals hl hcw h1 (by rw [← hl]; simpa using hm) (by simp)
    have HR := Aside0.mk hrow
    have hb1 : Below w.heap.size (w.alloc (.cells #[] 4)) w1 := (Below.refl w.heap.size (w.alloc (.cells #[] 4))).grown hg (by simp) (fun k hk => by simp [Value.ownBlock] at hk; omega)
    have HB := Aside0.mk (hB.trans hb1)
    clear hrow hg hcell hcw hb1 hB
    go_enter Try.func36, Try.ntmps36
    go_wp2_with (first | ((with_reducible refine gate_builtin (b := .append) (xs := #[.tmp 5, .tmp 6]) rfl ?_); at_builtin; refine appL_ rfl (.tmp 5) (.tmp 6) 27 rfl rfl rfl hr ?_))
    go_ret
    exact ⟨v1, rfl, HR.out.mono (fun _ _ _ => trivial), HB.out⟩

end Go.Proofs.Ytnglgjegkjfnaaa
set_option linter.unusedSimpArgs false
set_option linter.unusedVariables false
namespace Go.Proofs.Ytnglgjegkjfnaaa
open Go.RowKit Go.Proofs.YtnglgjegkjfnaaaW.PrintWords Go.Proofs.YtnglgjegkjfnaaaW.PrintMore
/-! A slab that is begun, and one more cache. -/
abbrev TT : Nat := 30
/-- What may be copied. -/
structure Bd (s : Sl) : Prop where
  g : s.gens.length * 8 ≤ 140737488355328
  a : s.alive.length * 1 ≤ 140737488355328
  f : s.free.length * 8 ≤ 140737488355328
  c : s.caches.length * 24 ≤ 140737488355328
  e : ∀ x ∈ s.caches, x.length * 8 ≤ 140737488355328
section
variable {T : TypeId} {w w1 wc w' : World} {base b : Nat} {col : Nat → Nat} {s : Sl} {vG vA vC vF v1 vx vC' : Value} {vs vals : List Value} {e : TypeId} {c : Nat}
theorem row_type {w : World} {base : Nat} {ok : Nat → Prop} {e e' : TypeId} {v v' : Value} {vals vals' : List Value} {ok' : Nat → Prop} (h : Row w base ok e v vals) (h' : Row w base ok' e' v' vals') (hne : e ≠ e') {k : Nat} (hk : v.ownBlock = some k) (hk' : v'.ownBlock = some k) : False := by
  obtain ⟨_, cs, hc⟩ := q_typed h.row k hk
  obtain ⟨_, cs', hc'⟩ := q_typed h'.row k hk'
  rw [hc] at hc'
  injection hc' with hc'
  injection hc' with _ hc'
  exact hne hc'
theorem row_type_blk {w : World} {base : Nat} {ok : Nat → Prop} {e t : TypeId} {v : Value} {vals : List Value} {cs : Array Value} (h : Row w base ok e v vals) {k : Nat} (hk : v.ownBlock = some k) (hb : w.heap[k]? = some (.cells cs t (0, 0))) (hne : e ≠ t) : False := by
  obtain ⟨_, cs', hc'⟩ := q_typed h.row k hk
  rw [hb] at hc'
  injection hc' with hc'
  injection hc' with _ hc'
  exact hne hc'.symm
theorem slab_begun {limit : Int} {gens free : List Int} {alive : List Bool} {ok1 ok2 ok3 : Nat → Prop} (hT : 3 ≠ T ∧ 4 ≠ T) (hG : Row w base ok1 3 vG (ints gens)) (hA : Row w base ok2 4 vA (bools alive)) (hF : Row w base ok3 3 vF (ints free)) (hne : ∀ k, vG.ownBlock = some k → vF.ownBlock = some k → False)
    (hb : w.heap[b]? = some (.cells #[.int .i64 limit, vG, vA, .slice none 0 0, vF] T (0, 0))) (hbb : base ≤ b) : ∃ col, SlB T w base b col ⟨limit, gens, alive, [], free⟩ vG vA (.slice none 0 0) vF [] ∧ ∀ k, k < base → col k = 0 := by
  let col : Nat → Nat := fun k => if vG.ownBlock = some k then 2 else if vA.ownBlock = some k then 3 else if vF.ownBlock = some k then 5 else if k = b then 1 else 0
  refine ⟨col, ⟨⟨⟨fun k hk => ?_, hG.row, hG.one⟩, ⟨fun k hk => ?_, hA.row, hA.one⟩, Row.nil _ _ _ _, ⟨fun k hk => ?_, hF.row, hF.one⟩, rfl, fun i x hx => by simp at hx, fun k hk => ?_, fun k hk => ?_⟩, hb, ?_⟩, fun k hk => ?_⟩
  · show (if vG.ownBlock = some k then 2 else _) = 2
    rw [if_pos hk]
  · show (if vG.ownBlock = some k then 2 else if vA.ownBlock = some k then 3 else _) = 3
    rw [if_neg (fun h => row_type hG hA (by decide) h hk), if_pos hk]
  · show (if vG.ownBlock = some k then 2 else if vA.ownBlock = some k then 3 else if vF.ownBlock = some k then 5 else _) = 5
    rw [if_neg (fun h => hne k h hk), if_neg (fun h => row_type hF hA (by decide) hk h), if_pos hk]
  · show (if vG.ownBlock = some k then 2 else if vA.ownBlock = some k then 3 else if vF.ownBlock = some k then 5 else if k = b then 1 else 0) = 0
    rw [if_neg (fun h => by have := hG.lt k h; omega), if_neg (fun h => by have := hA.lt k h; omega), if_neg (fun h => by have := hF.lt k h; omega), if_neg (by have := lt_blk hb; omega)]
  · by_cases h1 : vG.ownBlock = some k
    · exact hG.base_le k h1
    · by_cases h2 : vA.ownBlock = some k
      · exact hA.base_le k h2
      · by_cases h3 : vF.ownBlock = some k
        · exact hF.base_le k h3
        · by_cases h4 : k = b
          · omega
          · have : col k = 0 := by
              show (if vG.ownBlock = some k then 2 else if vA.ownBlock = some k then 3 else if vF.ownBlock = some k then 5 else if k = b then 1 else 0) = 0
              rw [if_neg h1, if_neg h2, if_neg h3, if_neg h4]
            exact absurd this hk
  · show (if vG.ownBlock = some b then 2 else if vA.ownBlock = some b then 3 else if vF.ownBlock = some b then 5 else if b = b then 1 else 0) = 1
    rw [if_neg (fun h => row_type_blk hG h hb hT.1), if_neg (fun h => row_type_blk hA h hb hT.2), if_neg (fun h => row_type_blk hF h hb hT.1), if_pos rfl]
  · show (if vG.ownBlock = some k then 2 else if vA.ownBlock = some k then 3 else if vF.ownBlock = some k then 5 else if k = b then 1 else 0) = 0
    rw [if_neg (fun h => by have := hG.base_le k h; omega), if_neg (fun h => by have := hA.base_le k h; omega), if_neg (fun h => by have := hF.base_le k h; omega), if_neg (by omega)]
theorem SlB.push (h : SlB T w base b col s vG vA vC vF vs) (hb : base ≤ w.heap.size) {x : List Int} (hB : Below w.heap.size w wc) (hx : Row wc w.heap.size (fun _ => True) 3 vx (ints x)) (hk : Keep (fun k => col k = 4) wc w1) (hr : Row w1 base (fun k => col k = 4 ∨ wc.heap.size ≤ k) 26 vC' (vs ++ [vx])) :
    ∃ col', SlB T (w1.setCell ⟨b, 3, none⟩ vC') base b col' { s with caches := s.caches ++ [x] } vG vA vC' vF (vs ++ [vx]) ∧ Nx w col (w1.setCell ⟨b, 3, none⟩ vC') col' := by
  let col' : Nat → Nat := fun k => if w.heap.size ≤ k ∧ k < w1.heap.size then (if k < wc.heap.size then 6 + s.caches.length else 4) else col k
  have hcols : ∀ k, k < w.heap.size → col' k = col k := fun k hk => if_neg (by omega)
  have hs1 := hB.size
  have hs2 := hk.size
  have h1 := h.one
  have hbl := lt_blk h.blk
  have hz := h.r.z
  have hS : Keep (fun k => k = b) w1 (w1.setCell ⟨b, 3, none⟩ vC') := (Keep.refl _ _).setCell _ _ (.inr rfl)
  have hK1 : Keep (fun k => col k = 4) w w1 := (Keep.of_below hB).trans hk
  have hK : Keep (fun k => col k = 4 ∨ k = b) w (w1.setCell ⟨b, 3, none⟩ vC') := (hK1.mono (fun _ _ h => Or.inl h)).setCell _ _ (.inr (.inr rfl))
  have hsz : (w1.setCell ⟨b, 3, none⟩ vC').heap.size = w1.heap.size := by simp [World.setCell]
  refine ⟨col', ⟨⟨?_, ?_, ?_, ?_, ?_, ?_, ?_, ?_⟩, ?_, ?_⟩, ⟨hK.mono ?_, hcols⟩⟩
  · exact row_old h.r.g hK (fun k f => by rcases f with f | rfl <;> omega) hcols
  · exact row_old h.r.a hK (fun k f => by rcases f with f | rfl <;> omega) hcols
  · have h4 : Row w1 base (fun k => col' k = 4) 26 vC' (vs ++ [vx]) := hr.mono fun k hl ho => by
      rcases Nat.lt_or_ge k w.heap.size with hk' | hk'
      · rw [hcols k hk']
        rcases ho with ho | ho
        · exact ho
        · omega
      · show (if w.heap.size ≤ k ∧ k < w1.heap.size then (if k < wc.heap.size then 6 + s.caches.length else 4) else col k) = 4
        rw [if_pos ⟨hk', hl⟩]
        rcases ho with ho | ho
        · rw [hz k hk'] at ho; omega
        · rw [if_neg (by omega)]
    exact h4.keep hS (fun k f ho => by subst f; rw [hcols _ hbl, h1] at ho; omega)
  · exact row_old h.r.f hK (fun k f => by rcases f with f | rfl <;> omega) hcols
  · simp [h.r.l]
  · intro i y hy
    by_cases hi : i < s.caches.length
    · rw [List.getElem?_append_left hi] at hy
      obtain ⟨v, hv, hro⟩ := h.r.v i y hy
      exact ⟨v, by rw [List.getElem?_append_left (by rw [h.r.l]; exact hi)]; exact hv, row_old hro hK (fun k f => by rcases f with f | rfl <;> omega) hcols⟩
    · have hil := (List.getElem?_eq_some_iff.1 hy).1
      simp at hil
      obtain rfl : i = s.caches.length := by omega
      rw [List.getElem?_append_right (Nat.le_refl _), Nat.sub_self] at hy
      obtain rfl : x = y := by simpa using hy
      refine ⟨vx, by rw [← h.r.l, List.getElem?_append_right (Nat.le_refl _), Nat.sub_self]; rfl, ?_⟩
      have h6 : Row wc base (fun k => w.heap.size ≤ k ∧ k < wc.heap.size) 3 vx (ints x) := ⟨fun k hk' => ⟨hx.base_le k hk', hx.lt k hk'⟩, (hx.lower hb).row, hx.one⟩
      have h7 := (h6.keep hk (fun k f ho => by rw [hz k ho.1] at f; omega)).keep hS (fun k f ho => by omega)
      exact h7.mono fun k hl ho => by
        show (if w.heap.size ≤ k ∧ k < w1.heap.size then (if k < wc.heap.size then 6 + s.caches.length else 4) else col k) = _
        rw [if_pos ⟨ho.1, by omega⟩, if_pos ho.2]
  · intro k hk'
    show (if w.heap.size ≤ k ∧ k < w1.heap.size then (if k < wc.heap.size then 6 + s.caches.length else 4) else col k) = 0
    rw [if_neg (by omega)]
    exact hz k (by omega)
  · intro k hk'
    by_cases hn : w.heap.size ≤ k ∧ k < w1.heap.size
    · omega
    · have : col' k = col k := if_neg hn
      rw [this] at hk'
      exact h.r.b k hk'
  · have := blk_set (i := 3) (u := vC') (blk_keep h.blk hK1 (by show ¬ col b = 4; omega))
    simpa using this
  · rw [hcols b hbl]; exact h1
  · intro i _ f
    rcases f with f | rfl
    · omega
    · omega
theorem row_keepT {ok : Nat → Prop} {t g : Nat} {cs : Array Value} (h : Row w base ok e v1 vals) (hb : w.heap[g]? = some (.cells cs t (0, 0))) (ht : e ≠ t) (k : Keep (fun i => i = g) w w1) : Row w1 base ok e v1 vals :=
  ⟨h.own, q_move h.row (fun i hi => k.block i (h.lt i hi) (fun hig => by subst hig; exact row_type_blk h hi hb ht)), h.one⟩
theorem SlV.lower {base' : Nat} (h : SlV w base col s vG vA vC vF vs) (hb : base' ≤ base) : SlV w base' col s vG vA vC vF vs :=
  ⟨h.g.lower hb, h.a.lower hb, h.c.lower hb, h.f.lower hb, h.l, fun i x hx => by obtain ⟨v, hv, hr⟩ := h.v i x hx; exact ⟨v, hv, hr.lower hb⟩, h.z, fun k hk => Nat.le_trans hb (h.b k hk)⟩
theorem blk_set5 {w : World} {b t : Nat} {a0 a1 a2 a3 a4 u0 u1 u2 u3 u4 : Value} (h : w.heap[b]? = some (.cells #[a0, a1, a2, a3, a4] t (0, 0))) : (((((w.setCell ⟨b, 0, none⟩ u0).setCell ⟨b, 1, none⟩ u1).setCell ⟨b, 2, none⟩ u2).setCell ⟨b, 3, none⟩ u3).setCell ⟨b, 4, none⟩ u4).heap[b]? = some (.cells #[u0, u1, u2, u3, u4] t (0, 0)) := by
  have h1 := (blk_set (i := 4) (u := u4) (blk_set (i := 3) (u := u3) (blk_set (i := 2) (u := u2) (blk_set (i := 1) (u := u1) (blk_set (i := 0) (u := u0) h)))))
  simpa using h1
theorem cells5 {w : World} {b t : Nat} {a0 a1 a2 a3 a4 : Value} (h : w.heap[b]? = some (.cells #[a0, a1, a2, a3, a4] t (0, 0))) : w.cell? ⟨b, 0, none⟩ = some a0 ∧ w.cell? ⟨b, 1, none⟩ = some a1 ∧ w.cell? ⟨b, 2, none⟩ = some a2 ∧ w.cell? ⟨b, 3, none⟩ = some a3 ∧ w.cell? ⟨b, 4, none⟩ = some a4 :=
  ⟨cell_blk h 0, cell_blk h 1, cell_blk h 2, cell_blk h 3, cell_blk h 4⟩
theorem froz5 {w : World} {b t : Nat} {cs : Array Value} (h : w.heap[b]? = some (.cells cs t (0, 0))) : w.frozen? ⟨b, 0, none⟩ = false ∧ w.frozen? ⟨b, 1, none⟩ = false ∧ w.frozen? ⟨b, 2, none⟩ = false ∧ w.frozen? ⟨b, 3, none⟩ = false ∧ w.frozen? ⟨b, 4, none⟩ = false :=
  ⟨frozen_blk h 0, frozen_blk h 1, frozen_blk h 2, frozen_blk h 3, frozen_blk h 4⟩
theorem set5_keep (w : World) (b : Nat) (u0 u1 u2 u3 u4 : Value) : Keep (fun k => k = b) w (((((w.setCell ⟨b, 0, none⟩ u0).setCell ⟨b, 1, none⟩ u1).setCell ⟨b, 2, none⟩ u2).setCell ⟨b, 3, none⟩ u3).setCell ⟨b, 4, none⟩ u4) :=
  (by repeat (first | (with_reducible exact Keep.refl _ _) | (with_reducible refine Keep.drewN ?_ _) | (with_reducible refine Keep.drew ?_) | (with_reducible refine Keep.setCell ?_ _ _ (by first | (right; with_reducible rfl) | (left; simp; done) | (left; simp; omega) | (right; simp; done) | (right; assumption))) | (with_reducible refine Keep.alloc ?_ _)))
theorem take_snocI {l : List (List Int)} {k : Nat} {x : List Int} (h : l[k]? = some x) : l.take (k + 1) = l.take k ++ [x] := by
  rw [List.take_add_one, h]; rfl
end
end Go.Proofs.Ytnglgjegkjfnaaa
