import Derived.Test.YtikoonomhojlkaaFqD
import Derived.Deep.DrawnRows
import Derived.RegionTactic
import Derived.BigRegion
import Derived.IntWalk
set_option linter.unusedSimpArgs false
set_option linter.unusedVariables false
namespace Go.Proofs.Ytikoonomhojlkaa
open Go.RowKit Go.Proofs.YtikoonomhojlkaaW.PrintWords Go.Proofs.YtikoonomhojlkaaW.PrintMore Go.Proofs.YtikoonomhojlkaaW.PrintLast
/-! A queue; where a turn, where a goroutine stands. -/
abbrev TQ : Nat := 59
structure QB (w : World) (base : Nat) (ok : Nat → Prop) (b : Nat) (l : List Wt) (v : Value) : Prop where
  z : ∀ k, ok k → base ≤ k ∧ k < w.heap.size
  hb : ok b
  blk : w.heap[b]? = some (.cells #[v] TQ (0, 0))
  r : Kd.R kW TW w base ok v l
def turnAt (l : List Wt) (i : Nat) : Int := match l[i]? with
  | some y => y.f1
  | none => 0
theorem turn_at {l : List Wt} {i : Nat} {y : Wt} (h : l[i]? = some y) : turnAt l i = y.f1 := by unfold turnAt; rw [h]
set_option maxHeartbeats 2000000 in
theorem place1_any (W : World) (n0 n1 b : Nat) (A : Option Addr) (c : Nat) (l : List Wt) (t : Int) (i : Nat) (hi : i < l.length) (hl : l.length ≤ 4096) (h0 : W.cell? ⟨n0, 0, none⟩ = some (.pointer (some ⟨b, 0, none⟩))) (h1 : W.cell? ⟨n1, 0, none⟩ = some (.int .u64 t)) (hb : W.cell? ⟨b, 0, none⟩ = some (.slice A l.length c)) (hC : kW.C W A l.length l) :
    Calls Try.prog 35 #[.int .i64 i, .pointer (some ⟨n0, 0, none⟩), .pointer (some ⟨n1, 0, none⟩)] W fun e w' => e = .returned (.bool (decide (t ≤ turnAt l i))) ∧ Below W.heap.size W w' := by
  obtain ⟨ab, off, rfl, hab⟩ := C_form hC (by omega) (by decide)
  obtain ⟨y, hy, e0, e1, e2⟩ := waits_at hC i hi
  rw [turn_at hy]
  have hki : (0 : Int) ≤ (i : Int) := by omega
  have hkl : (i : Int) < (l.length : Int) := by omega
  have HB : Aside0 (Below W.heap.size W W.drew) := ⟨(Below.refl _ _).drew⟩
  clear hC hy
  go_enter Try.func35, Try.ntmps35
  go_wp2_with fail
  go_region
  go_wp2
  go_ret
  exact ⟨rfl, HB.out⟩
set_option maxHeartbeats 2000000 in
theorem search_any (cb : Array Value) (n0 n1 n : Nat) (hcb : cb = #[.pointer (some ⟨n0, 0, none⟩), .pointer (some ⟨n1, 0, none⟩)]) (p : Nat → Bool) (w : World) (hn : n ≤ 4096) (hf : ∀ (W : World) (i : Nat), Below w.heap.size w W → i < n → Calls Try.prog 35 #[.int .i64 i, .pointer (some ⟨n0, 0, none⟩), .pointer (some ⟨n1, 0, none⟩)] W fun e w' => e = .returned (.bool (p i)) ∧ Below W.heap.size W w')
    (hmono : ∀ a b, a ≤ b → b < n → p a = true → p b = true) :
    Calls Try.prog 34 #[.int .i64 n, .func (.func 35) #[] cb] w fun e w' => ∃ r : Nat, e = .returned (.int .i64 r) ∧ r ≤ n ∧ (∀ t, t < r → p t = false) ∧ (∀ t, r ≤ t → t < n → p t = true) ∧ Below w.heap.size w w' := by
  subst hcb
  have HF := Aside0.mk hf
  have HM := Aside0.mk hmono
  have H0 : Aside0 ((∀ t, t < 0 → p t = false) ∧ (∀ t, n ≤ t → t < n → p t = true)) := ⟨⟨fun t ht => by omega, fun t h1 h2 => by omega⟩⟩
  clear hf hmono
  go_enter Try.func34, Try.ntmps34
  go_wp2_with fail
  go_loopw [5, 6] (fun s5 s6 wr => ∃ lo hi : Nat, s5 = .int .i64 lo ∧ s6 = .int .i64 hi ∧ lo ≤ hi ∧ hi ≤ n ∧ Aside0 (Below w.heap.size w wr) ∧ Aside0 ((∀ t, t < lo → p t = false) ∧ (∀ t, hi ≤ t → t < n → p t = true))) (fun s5 s6 _ => (intOf s6).toNat - (intOf s5).toNat)
  case atStart => exact ⟨0, n, rfl, rfl, by omega, by omega, ⟨Below.refl _ _⟩, H0⟩
  case round =>
    obtain ⟨lo, hi, rfl, rfl, hlh, hin, HB, I⟩ := hrel
    by_cases hlt : lo < hi
    · have hc := HF.out wr ((lo + hi) / 2) HB.out (by omega)
      rw [show (((lo + hi) / 2 : Nat) : Int) = ((lo : Int) + (hi : Int)) / 2 by omega] at hc
      cases hp : p ((lo + hi) / 2) <;> rw [hp] at hc
      · have I2 : Aside0 ((∀ t, t < (lo + hi) / 2 + 1 → p t = false) ∧ (∀ t, hi ≤ t → t < n → p t = true)) := ⟨⟨fun t ht => (by
            cases h : p t with
            | false => rfl
            | true => have := HM.out t ((lo + hi) / 2) (by omega) (by omega) h; rw [hp] at this; cases this), I.out.2⟩⟩
        clear hp
        go_wp2_with fail
        refine hc.mono ?_
        clear hc
        rintro e w1 ⟨rfl, hB1⟩
        have HB1 := Aside0.mk (below_then HB.out hB1)
        clear hB1
        go_wp2
        go_roundw
        case rel => exact ⟨(lo + hi) / 2 + 1, hi, by rw [show ((lo : Int) + (hi : Int)) / 2 + 1 = (((lo + hi) / 2 + 1 : Nat) : Int) by omega], rfl, by omega, hin, HB1, I2⟩
        case measure => simp [intOf]; omega
      · have I2 : Aside0 ((∀ t, t < lo → p t = false) ∧ (∀ t, (lo + hi) / 2 ≤ t → t < n → p t = true)) := ⟨⟨I.out.1, fun t ht htn => HM.out ((lo + hi) / 2) t ht htn hp⟩⟩
        clear hp
        go_wp2_with fail
        refine hc.mono ?_
        clear hc
        rintro e w1 ⟨rfl, hB1⟩
        have HB1 := Aside0.mk (below_then HB.out hB1)
        clear hB1
        go_wp2
        go_roundw
        case rel => exact ⟨lo, (lo + hi) / 2, rfl, by rw [show ((lo : Int) + (hi : Int)) / 2 = (((lo + hi) / 2 : Nat) : Int) by omega], by omega, by omega, HB1, I2⟩
        case measure => simp [intOf]; omega
    · obtain rfl : hi = lo := by omega
      go_wp2
      go_ret
      exact ⟨hi, rfl, hin, I.out.1, I.out.2, HB.out⟩
end Go.Proofs.Ytikoonomhojlkaa
