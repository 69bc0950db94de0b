import Derived.Test.YtefkdicejhjfoaaPolB
import Derived.Test.YtefkdicejhjfoaaOpen
import Derived.Deep.RegionHeld3
namespace Go.Proofs.Ytefkdicejhjfoaa
open Go.RowKit Go.Proofs.YtefkdicejhjfoaaW.PrintWords Go.Proofs.YtefkdicejhjfoaaW.PrintLast Go.Proofs.YtefkdicejhjfoaaW.PrintMore Go.Proofs.Ytefkdicejhjfoaa.PPolicyPaths
/-! What the laws call, as they call it. -/
theorem edges_any (B : Option Addr) (d : Nat) (es : List S35) (w : World) (hE : Kd.C k35 w B es.length es) (hd : es.length ≤ d) (hl : es.length < 8796093022208) :
    Calls Try.prog 11 #[.slice B es.length d] w fun e w' => ∃ A c, e = .returned (.slice A es.length c) ∧ es.length ≤ c ∧ Kd.C k35 w' A es.length es ∧ Below w.heap.size w w' :=
  (rotalaw17_edges.calls (es.length + 1) B d es es w hE hd (edges_f hl (Nat.le_refl _))).mono fun e w' ⟨v, he, hv, hB⟩ => by
    obtain ⟨A, c, rfl, hc, hC⟩ := Kd.R_reads hv
    exact ⟨A, c, he, hc, hC, hB⟩
theorem check_any (D : Int) (B : Option Addr) (d : Nat) (es : List S35) (w : World) (hE : Kd.C k35 w B es.length es) (hd : es.length ≤ d) (hl : es.length < 8796093022208) :
    Calls Try.prog 10 #[.int .i64 D, .slice B es.length d] w fun e w' => e = .returned (.tuple #[.int .i64 (chk D es).1, .int .i64 (chk D es).2]) ∧ Below w.heap.size w w' :=
  (policy_Check.calls (es.length + 2) D B d es (chk D es).1 (chk D es).2 w hE hd (check_f (by omega) (Nat.le_refl _))).mono fun e w' ⟨he, hB⟩ => ⟨he, by first | exact hB | exact hB.below⟩
theorem rcheck_any (D : Int) (B : Option Addr) (d : Nat) (es : List S35) (w : World) (hE : Kd.C k35 w B es.length es) (hd : es.length ≤ d) (hl : es.length < 8796093022208) :
    Calls Try.prog 12 #[.int .i64 D, .slice B es.length d] w fun e w' => e = .returned (.tuple #[.int .i64 (chk D es).1, .int .i64 (chk D es).2]) ∧ Below w.heap.size w w' :=
  (rotaref17_Check.calls (es.length + 2) D B d es (chk D es).1 (chk D es).2 w hE hd (rcheck_f (by omega) (Nat.le_refl _))).mono fun e w' ⟨he, hB⟩ => ⟨he, by first | exact hB | exact hB.below⟩
/-- The graph that a law is given. -/
def kG : Kd (Int × List S35) := Kd.pair (Kd.int .i64) (Kd.slice 35 k35)
theorem opensEdge : Op.Opens Try.prog k35 35 (fun _ => True) (fun _ => 3) :=
  Op.opens_mono (Op.opens_struct Try.underlying35 (by kernel_rfl) (Op.opens_isoF (Op.opensF_cons rfl (by kernel_rfl) (by decide) (Op.opens_int Try.underlying3) (Op.opensF_last rfl (by kernel_rfl) (Op.opens_int Try.underlying3))) _ (fun t : Int × Int => (⟨t.1, t.2⟩ : S35)) (fun _ => rfl))) (fun _ _ => trivial) (fun _ => by simp)
theorem opensG : Op.Opens Try.prog kG 24 (fun g => g.2.length * 16 ≤ reachBytes) (fun g => g.2.length) :=
  Op.opens_mono (Op.opens_struct Try.underlying24 (by kernel_rfl) (Op.opensF_cons rfl (by kernel_rfl) (by decide) (Op.opens_int Try.underlying3) (Op.opensF_last rfl (by kernel_rfl) (Op.opens_slice Try.underlying22 (by kernel_rfl) opensEdge))))
    (fun g h => by have := h.2.1; rw [show Try.prog.bytesOf 35 = 16 from by kernel_rfl] at this; exact this)
    (fun g => by
      have : ∀ xs : List S35, xs.length ≤ (xs.map (fun _ => 3)).sum := fun xs => by
        induction xs with
        | nil => exact Nat.zero_le _
        | cons x xs ih => rw [List.map_cons, List.sum_cons, List.length_cons]; omega
      have := this g.2
      omega)
theorem kG_open {w : World} {g : Int × List S35} {cs : List Value} (h : kG.K w g cs) : ∃ B d, cs = [.int .i64 g.1, .slice B g.2.length d] ∧ g.2.length ≤ d ∧ Kd.C k35 w B g.2.length g.2 := by
  obtain ⟨_, _, rfl, rfl, ⟨B, d, rfl, hd, hC⟩⟩ := h
  exact ⟨B, d, rfl, hd, hC⟩
end Go.Proofs.Ytefkdicejhjfoaa
