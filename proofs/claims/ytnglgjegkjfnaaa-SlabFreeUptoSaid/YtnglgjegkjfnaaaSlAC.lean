import Derived.Test.YtnglgjegkjfnaaaSlBB
namespace Go.Proofs.Ytnglgjegkjfnaaa
open Go.RowKit Go.ChangeShapes Go.WideShapes Go.ChangeAt Go.Proofs.YtnglgjegkjfnaaaW.PrintWords Go.Proofs.YtnglgjegkjfnaaaW.PrintMore Go.Proofs.YtnglgjegkjfnaaaW.PrintLast
/-! A script, read. -/
def kScr : Kd (Int × Int × List SOp) := Kd.pair (Kd.int .i64) (Kd.pair (Kd.int .i64) (Kd.slice 55 kSOp))
theorem kScr_open {w : World} {x : Int × Int × List SOp} {cs : List Value} (h : kScr.K w x cs) : ∃ A c, cs = [.int .i64 x.1, .int .i64 x.2.1, .slice A x.2.2.length c] ∧ x.2.2.length ≤ c ∧ kSOp.C w A x.2.2.length x.2.2 := by
  obtain ⟨_, _, rfl, rfl, _, _, rfl, rfl, A, c, rfl, hc, hC⟩ := h
  exact ⟨A, c, rfl, hc, hC⟩
theorem opensSOp : Op.Opens Try.prog kSOp 55 (fun _ => True) (fun _ => 1) :=
  Op.opens_mono (Op.opens_struct Try.underlying55 (by kernel_rfl) (Op.opens_isoF (Op.opensF_cons rfl (by kernel_rfl) (by decide) (Op.opens_int Try.underlying3) (Op.opensF_cons rfl (by kernel_rfl) (by decide) (Op.opens_int Try.underlying3) (Op.opensF_cons rfl (by kernel_rfl) (by decide) (Op.opens_int Try.underlying3)
    (Op.opensF_last rfl (by kernel_rfl) (Op.opens_struct Try.underlying48 (by kernel_rfl) (Op.opensF_cons rfl (by kernel_rfl) (by decide) (Op.opens_int Try.underlying3) (Op.opensF_last rfl (by kernel_rfl) (Op.opens_int Try.underlying3))))))))
      (fun o : SOp => (o.d, o.p, o.k, o.g.1, o.g.2)) (fun x => ⟨x.1, x.2.1, x.2.2.1, x.2.2.2.1, x.2.2.2.2⟩) (fun _ => rfl))) (fun _ _ => trivial) (fun _ => by simp)
theorem sum_one {α : Type} (xs : List α) : xs.length ≤ (xs.map (fun _ => 1)).sum + 1 := by
  induction xs with
  | nil => exact Nat.zero_le _
  | cons x xs ih => rw [List.map_cons, List.sum_cons, List.length_cons]; omega
theorem opensScr : Op.Opens Try.prog kScr 37 (fun _ => True) (fun s => s.2.2.length) :=
  Op.opens_mono (Op.opens_struct Try.underlying37 (by kernel_rfl) (Op.opensF_cons rfl (by kernel_rfl) (by decide) (Op.opens_int Try.underlying3) (Op.opensF_cons rfl (by kernel_rfl) (by decide) (Op.opens_int Try.underlying3) (Op.opensF_last rfl (by kernel_rfl) (Op.opens_slice Try.underlying35 (by kernel_rfl) opensSOp)))))
    (fun _ _ => trivial) (fun s => by have := sum_one s.2.2; omega)
/-- Is one of the first m of the book g? -/
def anyTo (book : List (Int × Int)) (g : Int × Int) : Nat → Bool
  | 0 => false
  | m + 1 => anyTo book g m || (book.getD m (0, 0) == g)
theorem anyTo_iff (book : List (Int × Int)) (g : Int × Int) : ∀ m, m ≤ book.length → (anyTo book g m = true ↔ ∃ j, j < m ∧ book[j]? = some g)
  | 0, _ => by simp [anyTo]
  | m + 1, h => by
    rw [anyTo, Bool.or_eq_true, anyTo_iff book g m (by omega), beq_iff_eq]
    have hm : book[m]? = some book[m] := List.getElem?_eq_getElem (by omega)
    have hd : book.getD m (0, 0) = book[m] := by rw [List.getD_eq_getElem?_getD, hm]; rfl
    rw [hd]
    constructor
    · rintro (⟨j, hj, he⟩ | he)
      · exact ⟨j, by omega, he⟩
      · exact ⟨m, by omega, by rw [hm, he]⟩
    · rintro ⟨j, hj, he⟩
      by_cases e : j = m
      · subst e
        rw [hm] at he
        injection he with he
        exact .inr he
      · exact .inl ⟨j, by omega, he⟩
theorem anyTo_mem (book : List (Int × Int)) (g : Int × Int) : anyTo book g book.length = true ↔ g ∈ book := by
  rw [anyTo_iff book g _ (Nat.le_refl _)]
  constructor
  · rintro ⟨j, _, he⟩; exact List.mem_of_getElem? he
  · intro h
    obtain ⟨j, hj, rfl⟩ := List.getElem_of_mem h
    exact ⟨j, hj, List.getElem?_eq_getElem hj⟩
/-- The slab and the book behind names, for the laws. -/
structure After (w wr : World) (base b : Nat) (col : Nat → Nat) (L P : Int) (k : Nat) (s : Sl) (vh va : Value) (had book : List (Int × Int)) : Prop where
  below : Below w.heap.size w wr
  sl : IsSlab TS wr base b col s
  h : kG.R 48 wr base (fun i => col i = 0) vh had
  a : kG.R 48 wr base (fun i => col i = 0) va book
  i : NmI k L P s had book
  cb : ∀ i, col i ≠ 0 → w.heap.size ≤ i
  bs : base ≤ wr.heap.size
theorem After.then {w wr w' : World} {base b k : Nat} {col : Nat → Nat} {L P : Int} {s : Sl} {vh va : Value} {had book : List (Int × Int)} (h : After w wr base b col L P k s vh va had book) (hB : Below wr.heap.size wr w') : After w w' base b col L P k s vh va had book :=
  ⟨below_then h.below hB, h.sl.below hB, Kd.R_below h.h hB, Kd.R_below h.a hB, h.i, h.cb, by have := h.bs; have := hB.size; omega⟩
theorem after_names {w0 w w' : World} {b : Nat} {col0 : Nat → Nat} {L P : Int} {k : Nat} {e : Ending} (hB : Below w0.heap.size w0 w) (hz : ∀ i, w.heap.size ≤ i → col0 i = 0) (hc : ∀ i, i < w0.heap.size → col0 i = 0) (h : NamesP w w0.heap.size b col0 L P k e w') : ∃ vh va s had book col, e = .returned (.tuple #[vh, va, .bool true]) ∧ After w0 w' w0.heap.size b col L P k s vh va had book := by
  obtain ⟨vh, va, s, had, book, col, he, hN, hS, hh, ha, hI⟩ := h
  have hs := hB.size
  refine ⟨vh, va, s, had, book, col, he, ⟨below_then_keep hB hs hN.keep (fun i hi => ?_), hS, Kd.R_lower hh hs, Kd.R_lower ha hs, hI, hS.base_le, by have := hN.keep.size; omega⟩⟩
  rcases Nat.lt_or_ge i w0.heap.size with h | h
  · exact absurd (hc i h) hi
  · exact h
end Go.Proofs.Ytnglgjegkjfnaaa
