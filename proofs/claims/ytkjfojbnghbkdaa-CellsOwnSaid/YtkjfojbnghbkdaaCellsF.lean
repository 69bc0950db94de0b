import Derived.Test.YtkjfojbnghbkdaaCellsE
import Derived.Test.YtkjfojbnghbkdaaOpen
namespace Go.Proofs.Ytkjfojbnghbkdaa
open Go.RowKit Go.ChangeShapes Go.WideShapes Go.ChangeAt Go.Proofs.YtkjfojbnghbkdaaW.PrintWords
def kOp : Kd COp := Kd.iso (Kd.pair (Kd.int .i64) (Kd.pair (Kd.int .i64) (Kd.pair (Kd.int .i64) (Kd.int .i64)))) (fun x => (x.k, x.c, x.o, x.v))
theorem kOp_open {w : World} {x : COp} {cs : List Value} (h : kOp.K w x cs) : cs = x.cells.toList := by
  obtain ⟨_, _, rfl, rfl, ⟨_, _, rfl, rfl, ⟨_, _, rfl, rfl, rfl⟩⟩⟩ := h
  rfl
theorem opensOp : Op.Opens Try.prog kOp 45 (fun _ => True) (fun _ => 5) :=
  Op.opens_mono (Op.opens_struct Try.underlying45 (by kernel_rfl) (Op.opens_isoF (Op.opensF_cons rfl (by kernel_rfl) (by decide) (Op.opens_int Try.underlying3) (Op.opensF_cons rfl (by kernel_rfl) (by decide) (Op.opens_int Try.underlying3) (Op.opensF_cons rfl (by kernel_rfl) (by decide) (Op.opens_int Try.underlying2) (Op.opensF_last rfl (by kernel_rfl) (Op.opens_int Try.underlying2))))) _ (fun t : Int × Int × Int × Int => (⟨t.1, t.2.1, t.2.2.1, t.2.2.2⟩ : COp)) (fun _ => rfl))) (fun _ _ => trivial) (fun _ => by simp)


theorem kOp_sz : kOp.sz = 4 := rfl
/-- An element of a row of calls, cell by cell. -/
theorem ops_at {w : World} {b off : Nat} {n : Nat} {xs : List COp} (h : kOp.C w (some ⟨b, off, none⟩) n xs) (i : Nat) (hi : i < n) : ∃ o, xs[i]? = some o ∧
    w.cell? ⟨b, off + i * 4, none⟩ = some (.int .i64 o.k) ∧ w.cell? ⟨b, off + i * 4 + 1, none⟩ = some (.int .i64 o.c) ∧ w.cell? ⟨b, off + i * 4 + 2, none⟩ = some (.int .i64 o.o) ∧ w.cell? ⟨b, off + i * 4 + 3, none⟩ = some (.int .i64 o.v) := by
  obtain ⟨ad, e, hc⟩ := h.2.2 (by omega)
  injection e with e
  subst e
  have hl : i < xs.length := by have := h.1; omega
  obtain ⟨cs, hcl, hK, hat⟩ := hc i _ (List.getElem?_eq_getElem hl)
  obtain rfl := kOp_open hK
  refine ⟨_, List.getElem?_eq_getElem hl, ?_, ?_, ?_, ?_⟩
  · have := hat 0 _ rfl; rw [adds, kOp_sz] at this; exact this
  · have := hat 1 _ rfl; rw [adds, kOp_sz, ← Nat.add_assoc] at this; exact this
  · have := hat 2 _ rfl; rw [adds, kOp_sz, ← Nat.add_assoc] at this; exact this
  · have := hat 3 _ rfl; rw [adds, kOp_sz, ← Nat.add_assoc] at this; exact this
/-- The number of cells that fit tells. -/
def fitN (n : Int) : Nat := if n < 0 ∨ 256 < n then 3 else n.toNat
theorem fitN_le (n : Int) : fitN n ≤ 256 := by unfold fitN; split <;> omega
theorem fit_ok (n : Int) (w : World) : Calls Try.prog 24 #[.int .i64 n] w fun e w' => e = .returned (.int .i64 (fitN n)) ∧ Below w.heap.size w w' := by
  have h : PCellsOwn.rotalaw10_fit.f n = some ((fitN n : Nat) : Int) := by
    unfold PCellsOwn.rotalaw10_fit.f fitN
    split
    · rw [if_pos (by omega)]; rfl
    · split
      · rw [if_pos (by omega)]; rfl
      · rw [if_neg (by omega)]; congr 1; omega
  exact (PCellsOwn.rotalaw10_fit.calls n _ w h).mono fun e w' ⟨he, hd⟩ => ⟨he, by first | exact hd.below | (subst hd; exact Below.refl _ _) | exact hd⟩
end Go.Proofs.Ytkjfojbnghbkdaa
