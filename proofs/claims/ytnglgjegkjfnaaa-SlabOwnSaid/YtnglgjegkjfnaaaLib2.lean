import Derived.Test.YtnglgjegkjfnaaaLib
import Derived.Test.YtnglgjegkjfnaaaWWords
set_option linter.unusedSimpArgs false
set_option linter.unusedVariables false
namespace Go.Proofs.Ytnglgjegkjfnaaa
open Go.RowKit Go.Proofs.YtnglgjegkjfnaaaW.PrintWords
theorem adds (b off j : Nat) : (⟨b, off, none⟩ : Addr).add j = ⟨b, off + j, none⟩ := by
  unfold Addr.add
  split
  · subst_vars; rfl
  · rfl
/-- A row that is read and holds something lies at a plain address. -/
theorem C_form {α : Type} {d : Kd α} {w : World} {A : Option Addr} {n : Nat} {xs : List α} (h : d.C w A n xs) (hn : 0 < n) (hs : 0 < d.sz) : ∃ b off, A = some ⟨b, off, none⟩ ∧ b < w.heap.size := by
  obtain ⟨ad, rfl, hc⟩ := h.2.2 hn
  have hl : 0 < xs.length := by have := h.1; omega
  obtain ⟨c, hcl, _, hat⟩ := hc 0 _ (List.getElem?_eq_getElem hl)
  have hcell := hat 0 _ (List.getElem?_eq_getElem (by omega))
  have h0 : ad.add (0 * d.sz + 0) = ad := by simp [Addr.add]
  rw [h0] at hcell
  have hb := World.block_lt_of_cell? w _ hcell
  obtain ⟨b, off, sp⟩ := ad
  cases sp with
  | none => exact ⟨b, off, rfl, hb⟩
  | some s =>
    simp only [World.cell?] at hcell
    split at hcell <;> simp at hcell
end Go.Proofs.Ytnglgjegkjfnaaa
