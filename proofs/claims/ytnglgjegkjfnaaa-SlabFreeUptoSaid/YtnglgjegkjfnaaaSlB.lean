import Derived.Test.YtnglgjegkjfnaaaSlabA
import Derived.Test.YtnglgjegkjfnaaaWLast
import Derived.Test.YtnglgjegkjfnaaaWQPut
namespace Go.Proofs.Ytnglgjegkjfnaaa
open Go.RowKit Go.Proofs.YtnglgjegkjfnaaaW.PrintWords Go.Proofs.YtnglgjegkjfnaaaW.PrintMore
/-! Rows of one-cell values of one's own, each in a block of its own; the slab over them. -/
def ints (xs : List Int) : List Value := xs.map (Value.int .i64)
def bools (xs : List Bool) : List Value := xs.map Value.bool
theorem ints_len (xs : List Int) : (ints xs).length = xs.length := by simp [ints]
theorem bools_len (xs : List Bool) : (bools xs).length = xs.length := by simp [bools]
theorem ints_get {xs : List Int} {i : Nat} {x : Int} (h : xs[i]? = some x) : (ints xs)[i]? = some (.int .i64 x) := by simp [ints, h]
theorem bools_get {xs : List Bool} {i : Nat} {x : Bool} (h : xs[i]? = some x) : (bools xs)[i]? = some (.bool x) := by simp [bools, h]
theorem ints_one {xs : List Int} : ∀ u ∈ ints xs, u.oneCell' = true := by
  intro u hu
  obtain ⟨x, _, rfl⟩ := List.mem_map.1 hu
  rfl
theorem bools_one {xs : List Bool} : ∀ u ∈ bools xs, u.oneCell' = true := by
  intro u hu
  obtain ⟨x, _, rfl⟩ := List.mem_map.1 hu
  rfl
theorem ints_append (xs ys : List Int) : ints (xs ++ ys) = ints xs ++ ints ys := by simp [ints]
theorem bools_append (xs ys : List Bool) : bools (xs ++ ys) = bools xs ++ bools ys := by simp [bools]
theorem ints_take (xs : List Int) (m : Nat) : ints (xs.take m) = (ints xs).take m := by simp [ints, List.map_take]
theorem ints_drop (xs : List Int) (m : Nat) : ints (xs.drop m) = (ints xs).drop m := by simp [ints, List.map_drop]
theorem ints_set (xs : List Int) (i : Nat) (x : Int) : ints (xs.set i x) = (ints xs).set i (.int .i64 x) := by simp [ints, List.map_set]
theorem bools_set (xs : List Bool) (i : Nat) (x : Bool) : bools (xs.set i x) = (bools xs).set i (.bool x) := by simp [bools, List.map_set]
/-- A row of one's own (type e): its block, if it has one, is ok. -/
structure Row (w : World) (base : Nat) (ok : Nat → Prop) (e : TypeId) (v : Value) (vals : List Value) : Prop where
  own : ∀ k, v.ownBlock = some k → ok k
  row : QRow w base e 1 v vals.length vals
  one : ∀ u ∈ vals, u.oneCell' = true
namespace Row
variable {w w1 W : World} {base : Nat} {ok ok' : Nat → Prop} {e : TypeId} {v : Value} {vals : List Value} {F : Nat → Prop}
theorem mono (h : Row w base ok e v vals) (hok : ∀ k, k < w.heap.size → ok k → ok' k) : Row w base ok' e v vals :=
  ⟨fun k hk => hok k (lt_blk (q_typed h.row k hk).2.choose_spec) (h.own k hk), h.row, h.one⟩
theorem lt (h : Row w base ok e v vals) (k : Nat) (hk : v.ownBlock = some k) : k < w.heap.size := lt_blk (q_typed h.row k hk).2.choose_spec
theorem base_le (h : Row w base ok e v vals) (k : Nat) (hk : v.ownBlock = some k) : base ≤ k := (q_typed h.row k hk).1
theorem step (h : Row w base ok e v vals) (hm : ∀ k, ok k → k < w.heap.size → w1.heap[k]? = w.heap[k]?) : Row w1 base ok e v vals :=
  ⟨h.own, q_move h.row (fun k hk => hm k (h.own k hk) (h.lt k hk)), h.one⟩
theorem below (h : Row w base ok e v vals) (hB : Below w.heap.size w w1) : Row w1 base ok e v vals := h.step fun k _ hk => hB.block k hk
theorem keep (h : Row w base ok e v vals) (k : Keep F w w1) (hF : ∀ i, F i → ¬ ok i) : Row w1 base ok e v vals := h.step fun i hi hl => k.block i hl (fun f => hF i f hi)
theorem lower {base' : Nat} (h : Row w base ok e v vals) (hb : base' ≤ base) : Row w base' ok e v vals := ⟨h.own, q_lower h.row hb, h.one⟩
theorem nil (w : World) (base : Nat) (ok : Nat → Prop) (e : TypeId) : Row w base ok e (.slice none 0 0) [] :=
  ⟨fun k hk => by simp [Value.ownBlock] at hk, ⟨rfl, .inl ⟨rfl, none, rfl, fun a ha => by cases ha⟩⟩, fun u hu => by cases hu⟩
theorem slice (h : Row w base ok e v vals) : ∃ A c, v = .slice A vals.length c ∧ vals.length ≤ c := q_slice h.row
theorem lens {A : Option Addr} {n c : Nat} (h : Row w base ok e (.slice A n c) vals) : n = vals.length ∧ n ≤ c := by
  obtain ⟨A', c', he, hl⟩ := h.slice
  injection he with h1 h2 h3
  subst h2; subst h3
  exact ⟨rfl, hl⟩
/-- A row that holds something: where it lies. -/
theorem form (h : Row w base ok e v vals) (hn : 0 < vals.length) : ∃ g o c, v = .slice (some ⟨g, o, none⟩) vals.length c ∧ g < w.heap.size ∧ ok g ∧ ∀ i, (∀ u, vals[i]? = some u → w.cell? ⟨g, o + i, none⟩ = some u) ∧ w.frozen? ⟨g, o + i, none⟩ = false := by
  rcases h.row.2 with ⟨h0, _⟩ | ⟨g, off, cap, cur, rfl, hg, hh, hnc, hm, hcs, ht⟩
  · omega
  · refine ⟨g, off * 1, cap, rfl, lt_blk hh, h.own g (by simp [Value.ownBlock]), fun i => ⟨fun u hu => ?_, frozen_blk hh _⟩⟩
    have hi := (List.getElem?_eq_some_iff.1 hu).1
    rw [cell_blk hh, ← hu]
    conv => rhs; rw [← ht]
    rw [List.getElem?_take, if_pos (by omega), List.getElem?_drop, Array.getElem?_toList]
theorem take {A : Option Addr} {n c m : Nat} (h : Row w base ok e (.slice A n c) vals) (hm : m ≤ vals.length) : Row w base ok e (.slice A m c) (vals.take m) := by
  obtain ⟨rfl, _⟩ := h.lens
  refine ⟨fun k hk => h.own k (by cases A <;> exact hk), ?_, fun u hu => h.one u (List.mem_of_mem_take hu)⟩
  have := q_take h.row hm
  rw [Nat.mul_one] at this
  rw [List.length_take, Nat.min_eq_left hm]
  exact this
theorem drop {A : Option Addr} {n c k : Nat} (h : Row w base ok e (.slice A n c) vals) (hk : k ≤ vals.length) : Row w base ok e (.slice (if c = k then A else A.map (·.add (k * 1))) (n - k) (c - k)) (vals.drop k) := by
  obtain ⟨rfl, _⟩ := h.lens
  refine ⟨fun j hj => h.own j ?_, ?_, fun u hu => h.one u (List.mem_of_mem_drop hu)⟩
  · rw [← hj]
    split
    · cases A <;> simp [Value.ownBlock]
    · cases A with
      | none => rfl
      | some a => simp [Value.ownBlock]; unfold Addr.add; split <;> rfl
  · have := q_drop h.row hk
    rw [Nat.mul_one] at this
    rw [List.length_drop]
    simpa using this
theorem set {g o n c i : Nat} {u : Value} (h : Row w base ok e (.slice (some ⟨g, o, none⟩) n c) vals) (hi : i < vals.length) (hu : u.oneCell' = true) : Row (w.setCell ⟨g, o + i, none⟩ u) base ok e (.slice (some ⟨g, o, none⟩) n c) (vals.set i u) := by
  refine ⟨h.own, ⟨by simp, ?_⟩, fun x hx => ?_⟩
  · rcases h.row.2 with ⟨h0, _⟩ | ⟨g', off, cap, cur, he, hg, hh, hnc, hm, hcs, ht⟩
    · omega
    · injection he with ha hn hc
      injection ha with ha
      injection ha with h1 h2
      subst h1; subst hc; subst hn
      rw [Nat.mul_one] at h2
      subst h2
      refine .inr ⟨g, o, c, cur.setIfInBounds (o + i) u, by simp, hg, blk_set hh, by simpa using hnc, hm, by simpa using hcs, ?_⟩
      rw [Nat.mul_one] at ht ⊢
      rw [Nat.mul_one] at ht
      have hl : vals.length = (vals.set i u).length := by simp
      apply List.ext_getElem?
      intro j
      rw [Array.toList_setIfInBounds, Nat.mul_one, List.length_set, List.getElem?_take, List.getElem?_drop]
      have hj : vals[j]? = if j < vals.length then cur.toList[o + j]? else none := by
        conv => lhs; rw [← ht]
        rw [List.getElem?_take, List.getElem?_drop]
      by_cases hjl : j < vals.length
      · rw [if_pos hjl]
        by_cases hji : i = j
        · subst hji
          rw [List.getElem?_set_self hi, List.getElem?_set_self (by rw [Array.length_toList]; omega)]
        · rw [List.getElem?_set_ne hji, List.getElem?_set_ne (by omega), hj, if_pos hjl]
      · rw [if_neg hjl, List.getElem?_eq_none (by simp; omega)]
  · rcases List.mem_or_eq_of_mem_set hx with hx | rfl
    · exact h.one x hx
    · exact hu
/-- What is read of a row. -/
theorem readsI {A : Option Addr} {n c : Nat} {xs : List Int} (h : Row w base ok e (.slice A n c) (ints xs)) : n = xs.length ∧ n ≤ c ∧ (Kd.int .i64).C w A xs.length xs := by
  obtain ⟨h1, h2⟩ := h.lens
  rw [ints_len] at h1
  subst h1
  refine ⟨rfl, h2, rfl, ?_, fun hp => ?_⟩
  · have := q_max h.row
    rw [ints_len] at this
    exact this
  · obtain ⟨g, o, c', he, hg, _, hat⟩ := h.form (by rw [ints_len]; exact hp)
    injection he with ha hb hc
    subst ha
    refine ⟨_, rfl, fun j p hj => ⟨[.int .i64 p], rfl, rfl, fun i u hi => ?_⟩⟩
    match i with
    | 0 =>
      obtain rfl : Value.int .i64 p = u := by simpa using hi
      rw [adds]
      show w.cell? ⟨g, o + (j * 1 + 0), none⟩ = _
      rw [Nat.mul_one]
      exact (hat j).1 _ (ints_get hj)
    | i + 1 => simp at hi
end Row
/-- append onto a row of one's own. -/
theorem row_append {P : Program} {W : World} {base : Nat} {ok : Nat → Prop} {t e : TypeId} {z v : Value} {bytes : Nat} {vals : List Value} (ht : P.underlying t = some (.slice e)) (hinfo : (P.info? e).map (fun i => (i.zero, i.size, i.bytes)) = some (some z, 1, bytes)) (hz : z.cells.size = 1) (hb0 : 0 < bytes)
    (h : Row W base ok e v vals) (A : Option Addr) (m c : Nat) (news : List Value) (hm : news.length = m) (hA : 0 < m → ∃ ad, A = some ad ∧ ∀ j u, news[j]? = some u → W.cell? (ad.add j) = some u) (h1 : ∀ u ∈ news, u.oneCell' = true)
    (hl : (vals.length + m) * bytes ≤ 140737488355328) (hbase : base ≤ W.heap.size) :
    ∃ v1 w1, (∀ ty, (Builtin.append_ #[t, t] ty #[v, .slice A m c]).run P W = .ok v1 w1) ∧ Row w1 base (fun k => ok k ∨ W.heap.size ≤ k) e v1 (vals ++ news) ∧ W.grownBy w1 v.ownBlock := by
  obtain ⟨i0, hi, hzz⟩ := Option.map_eq_some_iff.1 hinfo
  simp only [Prod.mk.injEq] at hzz
  obtain ⟨hz0, hz1, hz2⟩ := hzz
  rcases Nat.eq_zero_or_pos m with h0 | h0
  · subst h0
    obtain rfl : news = [] := List.eq_nil_of_length_eq_zero hm
    refine ⟨v, W, fun ty => ?_, by rw [List.append_nil]; exact h.mono (fun _ _ h => .inl h), World.grownBy.refl W _⟩
    rcases h.row.2 with ⟨hn, A', rfl, _⟩ | ⟨g, off, cap, cur, rfl, _, _, hnc, _⟩
    · cases A <;> cases A' <;> simp [Builtin.append_, run_underlying ht, sizeOf, typeInfo, hi, Builtin.lenOf, Builtin.firstCells, storeCells, loadCells, loadCellsFrom]
    · cases A <;> simp [Builtin.append_, run_underlying ht, sizeOf, typeInfo, hi, Builtin.lenOf, Builtin.firstCells, hnc, storeCells, loadCells, loadCellsFrom]
  · obtain ⟨ad, rfl, hcell⟩ := hA h0
    have hlen : vals.length + m ≤ 140737488355328 := Nat.le_trans (Nat.le_mul_of_pos_right _ hb0) hl
    have key := fun ty => q_append (P := P) W base t ty e i0 z 1 bytes ht hi hz0 hz1 hz2 hz (by omega) v vals.length vals h.row ad m c news (by rw [hm, Nat.mul_one]) hcell h1 h0 (by simp only [maxLen]; omega) hl hbase
    obtain ⟨v1, w1, hr, hq, hg, hat⟩ := key 0
    refine ⟨v1, w1, fun ty => ?_, ⟨fun k hk => ?_, by rw [List.length_append, hm]; exact hq, fun u hu => ?_⟩, hg⟩
    · rw [← hr]; rfl
    · rcases hat with hat | ⟨b, hb, hle⟩
      · exact .inl (h.own k (hat ▸ hk))
      · rw [hb] at hk
        injection hk with hk
        exact .inr (by omega)
    · rcases List.mem_append.1 hu with hu | hu
      · exact h.one u hu
      · exact h1 u hu
end Go.Proofs.Ytnglgjegkjfnaaa
