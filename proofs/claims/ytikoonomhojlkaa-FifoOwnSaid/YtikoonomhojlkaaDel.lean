import Derived.Test.YtikoonomhojlkaaLib2
import Derived.Deep.RegionLaw
import Derived.Laws.IdiomCopy
import Derived.Lib.SliceRun
set_option linter.unusedSimpArgs false
set_option linter.unusedVariables false
namespace Go.Proofs.Ytikoonomhojlkaa
open Go.RowKit Go.Proofs.YtikoonomhojlkaaW.PrintWords
/-! Rows of flat elements, laid open; cells written in a run; what slices.Delete leaves. -/
structure Flat {α : Type} (d : Kd α) (enc : α → List Value) : Prop where
  iff : ∀ {w : World} {base : Nat} {ok : Nat → Prop} {x : α} {cs : List Value}, d.M w base ok x cs ↔ cs = enc x
  len : ∀ x, (enc x).length = d.sz
section
variable {α : Type} {d : Kd α} {enc : α → List Value} {w W : World} {base e : Nat} {ok : Nat → Prop} {v : Value} {xs : List α}
theorem reps_flat {R : α → List Value → Prop} (hR : ∀ x cs, R x cs ↔ cs = enc x) {sz : Nat} (hl : ∀ x, (enc x).length = sz) : ∀ {xs : List α} {cs : List Value}, Reps R sz xs cs ↔ cs = xs.flatMap enc
  | [], cs => by
    constructor
    · intro h
      have := h.1
      simp at this
      simpa using this
    · rintro rfl
      exact Reps.none _ _
  | x :: xs, cs => by
    have ih := fun cs => reps_flat hR hl (xs := xs) (cs := cs)
    constructor
    · intro h
      have h0 := (hR _ _).1 (h.2 0 x rfl)
      rw [Nat.zero_mul, List.drop_zero] at h0
      have h1 : Reps R sz xs (cs.drop sz) := ⟨by rw [List.length_drop, h.1, List.length_cons, Nat.add_mul]; omega, fun j p hj => by
        have := h.2 (j + 1) p (by simpa using hj)
        rw [List.drop_drop]
        rwa [Nat.add_mul, Nat.one_mul, Nat.add_comm (j * sz) sz] at this⟩
      rw [List.flatMap_cons, ← (ih _).1 h1, ← h0, List.take_append_drop]
    · rintro rfl
      have h1 := (ih _).2 rfl
      refine ⟨by rw [List.flatMap_cons, List.length_append, h1.1, hl, List.length_cons, Nat.add_mul]; omega, fun j p hj => ?_⟩
      cases j with
      | zero =>
        obtain rfl : x = p := by simpa using hj
        rw [hR, Nat.zero_mul, List.drop_zero, List.flatMap_cons, List.take_append_of_le_length (by rw [hl]; exact Nat.le_refl _), List.take_of_length_le (by rw [hl]; exact Nat.le_refl _)]
      | succ j =>
        have := h1.2 j p (by simpa using hj)
        rw [List.flatMap_cons, Nat.add_mul, Nat.one_mul, Nat.add_comm (j * sz) sz, ← List.drop_drop, List.drop_append_of_le_length (by rw [hl]; exact Nat.le_refl _), List.drop_of_length_le (l := enc x) (by rw [hl]; exact Nat.le_refl _), List.nil_append]
        exact this
theorem flat_R (hF : Flat d enc) : d.R e w base ok v xs ↔ (∀ k, v.ownBlock = some k → ok k) ∧ w.ownsRow base e d.sz v xs.length (xs.flatMap enc) := by
  have key := fun (R : α → List Value → Prop) (hR : ∀ x cs, R x cs ↔ cs = enc x) (cs : List Value) => reps_flat hR hF.len (xs := xs) (cs := cs)
  constructor
  · rintro ⟨h1, inner, ho, hr⟩
    refine ⟨h1, ?_⟩
    rw [← (key _ (fun x cs => hF.iff) _).1 hr]
    exact ho
  · rintro ⟨h1, ho⟩
    exact ⟨h1, _, ho, (key _ (fun x cs => hF.iff) _).2 rfl⟩
theorem flatMap_take {sz : Nat} (hl : ∀ x, (enc x).length = sz) : ∀ (xs : List α) (i : Nat), (xs.take i).flatMap enc = (xs.flatMap enc).take (i * sz)
  | [], i => by simp
  | x :: xs, 0 => by simp
  | x :: xs, i + 1 => by
    rw [List.take_succ_cons, List.flatMap_cons, List.flatMap_cons, flatMap_take hl xs i, List.take_append, List.take_of_length_le (l := enc x) (by rw [hl, Nat.add_mul]; omega), hl, Nat.add_mul, Nat.one_mul, Nat.add_sub_cancel]
theorem flatMap_drop {sz : Nat} (hl : ∀ x, (enc x).length = sz) : ∀ (xs : List α) (i : Nat), (xs.drop i).flatMap enc = (xs.flatMap enc).drop (i * sz)
  | [], i => by simp
  | x :: xs, 0 => by simp
  | x :: xs, i + 1 => by
    rw [List.drop_succ_cons, List.flatMap_cons, flatMap_drop hl xs i, List.drop_append, List.drop_of_length_le (l := enc x) (by rw [hl, Nat.add_mul]; omega), hl, Nat.add_mul, Nat.one_mul, Nat.add_sub_cancel, List.nil_append]
end
/-! A run of cells. -/
def setArr (cs : Array Value) : Nat → List Value → Array Value
  | _, [] => cs
  | o, v :: r => setArr (cs.setIfInBounds o v) (o + 1) r
theorem size_setArr : ∀ (vs : List Value) (cs : Array Value) (o : Nat), (setArr cs o vs).size = cs.size
  | [], _, _ => rfl
  | v :: r, cs, o => by rw [setArr, size_setArr r]; simp
theorem get_setArr : ∀ (vs : List Value) (cs : Array Value) (o k : Nat), o + vs.length ≤ cs.size → (setArr cs o vs)[k]? = if o ≤ k ∧ k < o + vs.length then vs[k - o]? else cs[k]?
  | [], cs, o, k, _ => by
    have : ¬ (o ≤ k ∧ k < o + ([] : List Value).length) := fun h => by have := h.2; simp at this; omega
    rw [if_neg this]; rfl
  | v :: r, cs, o, k, h => by
    rw [List.length_cons] at h
    rw [setArr, get_setArr r _ _ _ (by simp; omega), List.length_cons]
    by_cases h1 : o + 1 ≤ k ∧ k < o + 1 + r.length
    · rw [if_pos h1, if_pos (by omega), show k - o = (k - (o + 1)) + 1 by omega, List.getElem?_cons_succ]
    · rw [if_neg h1]
      by_cases h2 : k = o
      · subst h2
        rw [if_pos (by omega), Nat.sub_self]
        simp [show k < cs.size by omega]
      · rw [if_neg (by omega), Array.getElem?_setIfInBounds_ne (fun e => h2 e.symm)]
theorem blk_setCells {b : Nat} {e : TypeId} {fr : Nat × Nat} : ∀ (vs : List Value) {w : World} {cs : Array Value} (o : Nat), w.heap[b]? = some (.cells cs e fr) → (w.setCells b o vs).heap[b]? = some (.cells (setArr cs o vs) e fr)
  | [], _, _, _, h => h
  | _ :: r, _, _, o, h => by rw [World.setCells, setArr]; exact blk_setCells r _ (blk_set h)
theorem keep_setCells {F : Nat → Prop} {w w1 : World} {b : Nat} : ∀ (vs : List Value) {W : World} (o : Nat), Keep F w1 W → (w1.heap.size ≤ b ∨ F b) → Keep F w1 (W.setCells b o vs)
  | [], _, _, h, _ => h
  | _ :: r, _, o, h, hb => by rw [World.setCells]; exact keep_setCells (w := w) r _ (h.setCell _ _ hb) hb
theorem run_clear_cells {P : Program} (w : World) (t e ty : TypeId) (z : Value) (ht : P.underlying t = some (.slice e)) (hv : ∀ w, (zeroValue e).run P w = .ok z w) (zs : List Value) (b o n c : Nat) (hn : 0 < n) (hzs : (Builtin.zeroCells z.cells n).toList = zs)
    (h1 : ∀ u ∈ zs, u.oneCell' = true) (hc : ∀ j, j < zs.length → (w.cell? ⟨b, o + j, none⟩).isSome = true) (hf : ∀ j, j < zs.length → w.frozen? ⟨b, o + j, none⟩ = false) :
    (Builtin.clear_ #[t] ty #[.slice (some ⟨b, o, none⟩) n c]).run P w = .ok (.tuple #[]) (w.setCells b o zs) := by
  have hst := run_storeCells_cells (P := P) b o zs 0 w (by simpa using hc) (by simpa using hf) h1
  simp only [Nat.add_zero] at hst
  obtain ⟨m, rfl⟩ : ∃ m, n = m + 1 := ⟨n - 1, by omega⟩
  simp [Builtin.clear_, run_underlying ht, hv, hzs, hst]
theorem zero_one (z : Array Value) (h0 : 0 < z.size) (h1 : ∀ u ∈ z.toList, u.oneCell' = true) (n : Nat) : ∀ u ∈ (Builtin.zeroCells z n).toList, u.oneCell' = true := by
  intro u hu
  simp [Builtin.zeroCells] at hu
  obtain ⟨q, hq, rfl⟩ := hu
  have hm : q % z.size < z.size := Nat.mod_lt _ h0
  apply h1
  rw [getElem!_pos z _ hm, Array.mem_toList_iff]
  exact Array.getElem_mem hm
/-- The world behind a deletion; its row. -/
def delW (w : World) (g sz i j n : Nat) (inner zs : List Value) : World := (w.drew.setCells g (i * sz) (inner.drop (j * sz))).setCells g ((i + (n - j)) * sz) zs
theorem del_own {w : World} {base e sz g n cap i j : Nat} {inner zs : List Value} (h : w.ownsRow base e sz (.slice (some ⟨g, 0, none⟩) n cap) n inner) (hij : i < j) (hj : j ≤ n) (hz : zs.length = (j - i) * sz) :
    (delW w g sz i j n inner zs).ownsRow base e sz (.slice (some ⟨g, 0, none⟩) (n - (j - i)) cap) (n - (j - i)) (inner.take (i * sz) ++ inner.drop (j * sz)) := by
  obtain ⟨hl, h2⟩ := h
  rcases h2 with ⟨he, _⟩ | ⟨g', cap', cur, he, hg, hh, hc, hm, hs, ht⟩
  · cases he
  · injection he with e1 e2 e3
    injection e1 with e1
    injection e1 with e1
    subst e1; subst e3
    have hnm : (n - (j - i)) * sz + (j - i) * sz = n * sz := by rw [← Nat.add_mul]; congr 1; omega
    have hij2 : i * sz + (n - j) * sz = (n - (j - i)) * sz := by rw [← Nat.add_mul]; congr 1; omega
    have hjn : j * sz + (n - j) * sz = n * sz := by rw [← Nat.add_mul]; congr 1; omega
    have hnc : n * sz ≤ cap * sz := Nat.mul_le_mul_right _ hc
    have hiN : i * sz ≤ n * sz := Nat.mul_le_mul_right _ (by omega)
    have hdl : (inner.drop (j * sz)).length = (n - j) * sz := by rw [List.length_drop, hl]; omega
    have hin : (i + (n - j)) * sz = (n - (j - i)) * sz := by congr 1; omega
    refine ⟨by rw [List.length_append, List.length_take, hdl, hl]; omega, .inr ⟨g, cap, _, rfl, hg, blk_setCells zs _ (blk_setCells (inner.drop (j * sz)) (i * sz) (blk_drew hh)), by omega, hm, by rw [size_setArr, size_setArr]; exact hs, ?_⟩⟩
    apply List.ext_getElem?
    intro k
    rw [List.getElem?_take]
    by_cases hk : k < (n - (j - i)) * sz
    · rw [if_pos hk, Array.getElem?_toList, get_setArr _ _ _ _ (by rw [size_setArr, hs]; omega), if_neg (by omega), get_setArr _ _ _ _ (by omega)]
      by_cases hki : k < i * sz
      · rw [if_neg (by omega), List.getElem?_append_left (by rw [List.length_take]; omega), List.getElem?_take, if_pos hki, ← ht, List.getElem?_take, if_pos (by omega), Array.getElem?_toList]
      · rw [if_pos (by omega), List.getElem?_append_right (by rw [List.length_take]; omega), List.length_take, Nat.min_eq_left (by omega)]
    · rw [if_neg hk, List.getElem?_eq_none (by rw [List.length_append, List.length_take, hdl]; omega)]
theorem del_keep (w : World) (g sz i j n : Nat) (inner zs : List Value) : Keep (fun k => k = g) w (delW w g sz i j n inner zs) :=
  keep_setCells (w := w) zs _ (keep_setCells (w := w) _ _ (Keep.refl _ _).drew (.inr rfl)) (.inr rfl)
/-- What a row that holds something shows. -/
theorem own_at {w : World} {base e sz n : Nat} {v : Value} {inner : List Value} (h : w.ownsRow base e sz v n inner) (hn : 0 < n) : ∃ g cap, v = .slice (some ⟨g, 0, none⟩) n cap ∧ base ≤ g ∧ g < w.heap.size ∧ n ≤ cap ∧ cap ≤ 9223372036854775807 ∧ inner.length = n * sz ∧
    (∀ k u, inner[k]? = some u → w.cell? ⟨g, k, none⟩ = some u) ∧ (∀ k, k < cap * sz → (w.cell? ⟨g, k, none⟩).isSome = true) ∧ ∀ k, w.frozen? ⟨g, k, none⟩ = false := by
  obtain ⟨hl, h2⟩ := h
  rcases h2 with ⟨_, h0⟩ | ⟨g, cap, cur, rfl, hg, hh, hc, hm, hs, ht⟩
  · omega
  · refine ⟨g, cap, rfl, hg, lt_blk hh, hc, by simp only [maxLen] at hm; omega, hl, fun k u hu => ?_, fun k hk => ?_, fun k => frozen_blk hh k⟩
    · have hk : k < n * sz := by rw [← hl]; exact (List.getElem?_eq_some_iff.1 hu).1
      rw [cell_blk hh, ← hu, ← ht, List.getElem?_take, if_pos hk, Array.getElem?_toList]
    · rw [cell_blk hh, Array.getElem?_eq_getElem (by omega)]
      rfl
end Go.Proofs.Ytikoonomhojlkaa
