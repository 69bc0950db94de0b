import Derived.Test.YtefkdicejhjfoaaAbD
namespace Go.Proofs.Ytefkdicejhjfoaa
open Go.RowKit Go.Proofs.YtefkdicejhjfoaaW.PrintWords Go.Proofs.YtefkdicejhjfoaaW.PrintLast Go.Proofs.YtefkdicejhjfoaaW.PrintMore
/-! same (22). -/
theorem wrap_up {i : Int} (h0 : 0 ≤ i) (h : i < 9223372036854775807) : wrap64 (i + 1) = i + 1 := by unfold wrap64; omega
theorem same_loop (l : List Int) (hl : l.length ≤ 4611686018427387904) (d : Nat) : ∀ (k : Nat) (i : Int), 0 ≤ i → i + d = l.length → d < k → PPolicyAbove.rotalaw17_same.l0 k l l i = some true := by
  induction d with
  | zero =>
    intro k i h0 h1 hk
    obtain ⟨k, rfl⟩ : ∃ m, k = m + 1 := ⟨k - 1, by omega⟩
    simp only [PPolicyAbove.rotalaw17_same.l0]
    rw [if_neg (by omega)]
  | succ d ih =>
    intro k i h0 h1 hk
    obtain ⟨k, rfl⟩ : ∃ m, k = m + 1 := ⟨k - 1, by omega⟩
    simp only [PPolicyAbove.rotalaw17_same.l0]
    rw [if_pos (by omega), if_pos h0, if_pos (by omega), if_pos trivial, wrap_up h0 (by omega)]
    exact ih k (i + 1) (by omega) (by omega) (by omega)
theorem same_f (l : List Int) (hl : l.length ≤ 4611686018427387904) : PPolicyAbove.rotalaw17_same.f (l.length + 1) l l = some true := by
  unfold PPolicyAbove.rotalaw17_same.f
  rw [if_pos rfl]
  exact same_loop l hl l.length _ 0 (by omega) (by omega) (by omega)
theorem same_ok (w : World) (v1 v2 : Value) (l : List Int) {b1 b2 : Nat} {o1 o2 : Nat → Prop} (h1 : Kd.R (Kd.int .i64) 3 w b1 o1 v1 l) (h2 : Kd.R (Kd.int .i64) 3 w b2 o2 v2 l) (hl : l.length ≤ 4611686018427387904) :
    Calls Try.prog 22 #[v1, v2] w fun e w' => e = .returned (.bool true) ∧ Below w.heap.size w w' := by
  obtain ⟨A1, c1, rfl, hc1, r1⟩ := Kd.R_reads h1
  obtain ⟨A2, c2, rfl, hc2, r2⟩ := Kd.R_reads h2
  exact (PPolicyAbove.rotalaw17_same.calls (l.length + 1) A1 c1 l A2 c2 l true w r1 hc1 r2 hc2 (same_f l hl)).mono fun e w' ⟨he, hd⟩ => ⟨he, by first | exact hd | exact hd.below⟩

end Go.Proofs.Ytefkdicejhjfoaa
