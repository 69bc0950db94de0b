import Derived.Test.YtikoonomhojlkaaDel
import Derived.Test.YtikoonomhojlkaaWMore
import Derived.Test.YtikoonomhojlkaaWLast
import Derived.Shelf.Spec.SlicesInsert
import Derived.Lib.AppendZerosOnto
import Derived.Laws.NewBlocks
import Derived.Lib.Overlaps
import Derived.Laws.Externs
set_option linter.unusedSimpArgs false
set_option linter.unusedVariables false
namespace Go.Proofs.Ytikoonomhojlkaa
open Go.RowKit Go.Lib Go.Proofs.YtikoonomhojlkaaW.PrintWords Go.Proofs.YtikoonomhojlkaaW.PrintMore Go.Proofs.YtikoonomhojlkaaW.PrintLast
/-! What slices.Insert leaves, at elements of several cells. -/
theorem run_copy_sz {P : Program} (w : World) (dT sT ty elem : TypeId) (sz m b o dLen dCap : Nat) (a : Addr) (sLen sCap : Nat) (cs : List Value)
    (hu : P.underlying dT = some (.slice elem)) (hs : (P.info? elem).map (·.size) = some sz) (hm : m = Nat.min sLen dLen) (hn : cs.length = m * sz)
    (hsrc : ∀ j v, cs[j]? = some v → w.cell? (a.add j) = some v) (hc : ∀ j, j < cs.length → (w.cell? ⟨b, o + j, none⟩).isSome = true) (hf : ∀ j, j < cs.length → w.frozen? ⟨b, o + j, none⟩ = false) (h1 : ∀ v ∈ cs, v.oneCell' = true) :
    (Builtin.copy_ #[dT, sT] ty #[.slice (some ⟨b, o, none⟩) dLen dCap, .slice (some a) sLen sCap]).run P w = .ok (goInt m) (w.setCells b o cs) := by
  have hl := run_loadCells_list (P := P) w a cs hsrc
  have hst := run_storeCells_cells (P := P) b o cs 0 w (by simpa using hc) (by simpa using hf) h1
  cases hq : P.info? elem with
  | none => simp [hq] at hs
  | some i =>
    have hi : i.size = sz := by simpa [hq] using hs
    simp [Builtin.copy_, run_underlying hu, Builtin.lenOf, Builtin.firstCells, sizeOf, typeInfo, hq, hi, ← hm, ← hn, hl, hst]
/-- In place. -/
def insW (w : World) (g sz i : Nat) (inner vs : List Value) : World := (w.drew.setCells g ((i + 1) * sz) (inner.drop (i * sz))).setCells g (i * sz) vs
theorem ins_list {sz n i : Nat} {inner vs : List Value} {cs : Array Value} {cap : Nat} (hi : i ≤ n) (hroom : n + 1 ≤ cap) (hil : inner.length = n * sz) (hvl : vs.length = sz) (hs : cs.size = cap * sz) (ht : ∀ k u, k < i * sz → inner[k]? = some u → cs[k]? = some u) :
    (setArr (setArr cs ((i + 1) * sz) (inner.drop (i * sz))) (i * sz) vs).toList.take ((n + 1) * sz) = inner.take (i * sz) ++ vs ++ inner.drop (i * sz) := by
  have h1 : (i + 1) * sz = i * sz + sz := by rw [Nat.add_mul, Nat.one_mul]
  have h2 : (n + 1) * sz = n * sz + sz := by rw [Nat.add_mul, Nat.one_mul]
  have h3 : i * sz ≤ n * sz := Nat.mul_le_mul_right _ hi
  have h4 : (n + 1) * sz ≤ cap * sz := Nat.mul_le_mul_right _ hroom
  have hdl : (inner.drop (i * sz)).length = n * sz - i * sz := by rw [List.length_drop, hil]
  apply List.ext_getElem?
  intro k
  rw [List.getElem?_take]
  by_cases hk : k < (n + 1) * sz
  · rw [if_pos hk, Array.getElem?_toList, get_setArr _ _ _ _ (by rw [size_setArr, hs]; omega)]
    by_cases hv : i * sz ≤ k ∧ k < i * sz + vs.length
    · rw [if_pos hv, List.append_assoc, List.getElem?_append_right (by rw [List.length_take]; omega), List.length_take, Nat.min_eq_left (by omega), List.getElem?_append_left (by omega)]
    · rw [if_neg hv, get_setArr _ _ _ _ (by rw [hs, hdl]; omega)]
      by_cases hd : (i + 1) * sz ≤ k ∧ k < (i + 1) * sz + (inner.drop (i * sz)).length
      · rw [if_pos hd, List.getElem?_append_right (by rw [List.length_append, List.length_take]; omega), List.length_append, List.length_take, Nat.min_eq_left (by omega)]
        congr 1
        omega
      · rw [if_neg hd]
        have hki : k < i * sz := by omega
        rw [List.append_assoc, List.getElem?_append_left (by rw [List.length_take]; omega), List.getElem?_take, if_pos hki]
        have hkl : k < inner.length := by omega
        rw [List.getElem?_eq_getElem hkl]
        exact ht k _ hki (List.getElem?_eq_getElem hkl)
  · rw [if_neg hk, List.getElem?_eq_none (by rw [List.length_append, List.length_append, List.length_take, hdl]; omega)]
theorem ins_own {w : World} {base e sz g n cap i : Nat} {inner vs : List Value} (h : w.ownsRow base e sz (.slice (some ⟨g, 0, none⟩) n cap) n inner) (hi : i ≤ n) (hroom : n + 1 ≤ cap) (hvl : vs.length = sz) :
    (insW w g sz i inner vs).ownsRow base e sz (.slice (some ⟨g, 0, none⟩) (n + 1) cap) (n + 1) (inner.take (i * sz) ++ vs ++ inner.drop (i * sz)) := by
  obtain ⟨hl, h2⟩ := h
  rcases h2 with ⟨he, _⟩ | ⟨g', cap', cur, he, hg, hh, hc, hm, hs, ht⟩
  · cases he
  · injection he with e1 e2 e3
    injection e1 with e1
    injection e1 with e1
    subst e1; subst e3
    have h3 : i * sz ≤ n * sz := Nat.mul_le_mul_right _ hi
    refine ⟨by rw [List.length_append, List.length_append, List.length_take, List.length_drop, hl, hvl, Nat.add_mul]; omega, .inr ⟨g, cap, _, rfl, hg, blk_setCells vs _ (blk_setCells (inner.drop (i * sz)) ((i + 1) * sz) (blk_drew hh)), hroom, hm, by rw [size_setArr, size_setArr]; exact hs, ?_⟩⟩
    refine ins_list hi hroom hl hvl hs (fun k u hk hu => ?_)
    rw [← ht, List.getElem?_take, if_pos (by omega), Array.getElem?_toList] at hu
    exact hu
theorem ins_keep (w : World) (g sz i : Nat) (inner vs : List Value) : Keep (fun k => k = g) w (insW w g sz i inner vs) :=
  keep_setCells (w := w) vs _ (keep_setCells (w := w) _ _ (Keep.refl _ _).drew (.inr rfl)) (.inr rfl)
/-- A new row. -/
def groW (w : World) (sz i : Nat) (inner vs : List Value) (ROW : Array Value) (e : TypeId) : World := (((w.alloc (.cells ROW e)).drew.setCells w.heap.size (i * sz) vs).drew).setCells w.heap.size ((i + 1) * sz) (inner.drop (i * sz))
theorem gro_own {w : World} {base e sz n i G : Nat} {inner vs : List Value} {ROW : Array Value} (hb : base ≤ w.heap.size) (hil : inner.length = n * sz) (hi : i ≤ n) (hvl : vs.length = sz) (hG : n + 1 ≤ G) (hGm : G ≤ maxLen) (hs : ROW.size = G * sz) (hR : ∀ k u, k < i * sz → inner[k]? = some u → ROW[k]? = some u) :
    (groW w sz i inner vs ROW e).ownsRow base e sz (.slice (some ⟨w.heap.size, 0, none⟩) (n + 1) G) (n + 1) (inner.take (i * sz) ++ vs ++ inner.drop (i * sz)) := by
  have h1 : (i + 1) * sz = i * sz + sz := by rw [Nat.add_mul, Nat.one_mul]
  have h2 : (n + 1) * sz = n * sz + sz := by rw [Nat.add_mul, Nat.one_mul]
  have h3 : i * sz ≤ n * sz := Nat.mul_le_mul_right _ hi
  have h4 : (n + 1) * sz ≤ G * sz := Nat.mul_le_mul_right _ hG
  have hdl : (inner.drop (i * sz)).length = n * sz - i * sz := by rw [List.length_drop, hil]
  refine ⟨by rw [List.length_append, List.length_append, List.length_take, hdl, hil, hvl]; omega, .inr ⟨w.heap.size, G, _, rfl, hb, blk_setCells (inner.drop (i * sz)) _ (blk_drew (blk_setCells vs _ (blk_drew (blk_new _ _)))), hG, hGm, by rw [size_setArr, size_setArr]; exact hs, ?_⟩⟩
  apply List.ext_getElem?
  intro k
  rw [List.getElem?_take]
  by_cases hk : k < (n + 1) * sz
  · rw [if_pos hk, Array.getElem?_toList, get_setArr _ _ _ _ (by rw [size_setArr, hs, hdl]; omega)]
    by_cases hd : (i + 1) * sz ≤ k ∧ k < (i + 1) * sz + (inner.drop (i * sz)).length
    · rw [if_pos hd, List.getElem?_append_right (by rw [List.length_append, List.length_take]; omega), List.length_append, List.length_take, Nat.min_eq_left (by omega)]
      congr 1
      omega
    · rw [if_neg hd, get_setArr _ _ _ _ (by rw [hs]; omega)]
      by_cases hv : i * sz ≤ k ∧ k < i * sz + vs.length
      · rw [if_pos hv, List.append_assoc, List.getElem?_append_right (by rw [List.length_take]; omega), List.length_take, Nat.min_eq_left (by omega), List.getElem?_append_left (by omega)]
      · rw [if_neg hv]
        have hki : k < i * sz := by omega
        rw [List.append_assoc, List.getElem?_append_left (by rw [List.length_take]; omega), List.getElem?_take, if_pos hki]
        have hkl : k < inner.length := by omega
        rw [List.getElem?_eq_getElem hkl]
        exact hR k _ hki (List.getElem?_eq_getElem hkl)
  · rw [if_neg hk, List.getElem?_eq_none (by rw [List.length_append, List.length_append, List.length_take, hdl]; omega)]
theorem gro_keep (w : World) (sz i : Nat) (inner vs : List Value) (ROW : Array Value) (e : TypeId) : Below w.heap.size w (groW w sz i inner vs ROW e) :=
  by
  have h0 : Keep (fun k => k = w.heap.size) w (w.alloc (.cells ROW e)).drew := ((Keep.refl _ w).alloc _).drew
  have h1 : Keep (fun k => k = w.heap.size) w ((w.alloc (.cells ROW e)).drew.setCells w.heap.size (i * sz) vs).drew := (keep_setCells (w := w) vs (i * sz) h0 (.inl (Nat.le_refl _))).drew
  have h2 : Keep (fun k => k = w.heap.size) w (groW w sz i inner vs ROW e) := keep_setCells (w := w) (inner.drop (i * sz)) ((i + 1) * sz) h1 (.inl (Nat.le_refl _))
  exact h2.below (fun i hi e => by omega)
end Go.Proofs.Ytikoonomhojlkaa
