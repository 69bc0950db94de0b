import Derived.Test.YtikoonomhojlkaaFqL
import Derived.Test.YtikoonomhojlkaaOpen
set_option linter.unusedSimpArgs false
set_option linter.unusedVariables false
namespace Go.Proofs.Ytikoonomhojlkaa
open Go.RowKit Go.ChangeShapes Go.WideShapes Go.ChangeAt Go.Proofs.YtikoonomhojlkaaW.PrintWords Go.Proofs.YtikoonomhojlkaaW.PrintMore Go.Proofs.YtikoonomhojlkaaW.PrintLast
/-! Those that wait, as data. -/
theorem opensG : Op.Opens Try.prog PFifoLoads.k29 29 (fun _ => True) (fun _ => 1) :=
  Op.opens_mono (Op.opens_struct Try.underlying29 (by kernel_rfl) (Op.opens_isoF (Op.opensF_cons rfl (by kernel_rfl) (by decide) (Op.opens_int Try.underlying3) (Op.opensF_last rfl (by kernel_rfl) (Op.opens_int Try.underlying3))) _ (fun t : Int × Int => (⟨t.1, t.2⟩ : PFifoLoads.S29)) (fun _ => rfl))) (fun _ _ => trivial) (fun _ => by simp)
theorem opensW : Op.Opens Try.prog kW 32 (fun _ => True) (fun _ => 1) :=
  Op.opens_mono (Op.opens_struct Try.underlying32 (by kernel_rfl) (Op.opens_isoF (Op.opensF_cons rfl (by kernel_rfl) (by decide) opensG (Op.opensF_last rfl (by kernel_rfl) (Op.opens_int Try.underlying30))) _ (fun t : PFifoLoads.S29 × Int => (⟨t.1, t.2⟩ : Wt)) (fun _ => rfl))) (fun _ _ => trivial) (fun _ => by simp)
def eqW (y z : Wt) : Bool := decide (z.f0.f0 = y.f0.f0) && (decide (z.f0.f1 = y.f0.f1) && decide (z.f1 = y.f1))
theorem ite_eqW (y z : Wt) (w : World) : (if z.f0.f0 = y.f0.f0 then (if z.f0.f1 = y.f0.f1 then (if z.f1 = y.f1 then Result.ok (Next.value (Value.bool true)) w else Result.ok (Next.value (Value.bool false)) w) else Result.ok (Next.value (Value.bool false)) w) else Result.ok (Next.value (Value.bool false)) w : Result Next) = Result.ok (Next.value (Value.bool (eqW y z))) w := by
  unfold eqW
  by_cases h1 : z.f0.f0 = y.f0.f0 <;> by_cases h2 : z.f0.f1 = y.f0.f1 <;> by_cases h3 : z.f1 = y.f1 <;> simp [h1, h2, h3]
theorem eqW_self (y : Wt) : eqW y y = true := by simp [eqW]
theorem eqW_any {l : List Wt} {y : Wt} (h : y ∈ l) : l.any (eqW y) = true := List.any_eq_true.2 ⟨y, h, eqW_self y⟩
theorem take_any_succ {l : List Wt} {k : Nat} {z : Wt} (p : Wt → Bool) (h : l[k]? = some z) : (l.take (k + 1)).any p = ((l.take k).any p || p z) := by
  rw [List.take_add_one, h, List.any_append]
  simp
end Go.Proofs.Ytikoonomhojlkaa
