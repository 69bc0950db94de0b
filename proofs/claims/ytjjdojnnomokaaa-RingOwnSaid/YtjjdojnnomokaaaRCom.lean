import Derived.Test.YtjjdojnnomokaaaRRef
set_option linter.unusedSimpArgs false
set_option linter.unusedVariables false
namespace Go.Proofs.Ytjjdojnnomokaaa
open Go.RowKit Go.ChangeShapes Go.WideShapes Go.ChangeAt Go.Proofs.YtjjdojnnomokaaaW.PrintWords Go.Proofs.YtjjdojnnomokaaaW.PrintMore Go.Proofs.YtjjdojnnomokaaaW.PrintLast
/-! What the ring's laws share. -/
theorem opensW : Op.Opens Try.prog kW 27 (fun _ => True) (fun _ => 1) :=
  Op.opens_mono (Op.opens_struct Try.underlying27 (by kernel_rfl) (Op.opens_isoF (Op.opensF_cons rfl (by kernel_rfl) (by decide) (Op.opens_struct Try.underlying24 (by kernel_rfl) (Op.opensF_cons rfl (by kernel_rfl) (by decide) (Op.opens_int Try.underlying3) (Op.opensF_last rfl (by kernel_rfl) (Op.opens_int Try.underlying3)))) (Op.opensF_last rfl (by kernel_rfl) (Op.opens_int Try.underlying25))) _ (fun t : (Int × Int) × Int => (⟨t.1.1, t.1.2, t.2⟩ : Wt)) (fun _ => rfl))) (fun _ _ => trivial) (fun _ => by simp)
/-- A ring's state, as data. -/
def kS : Kd (List Wt × Bool × Wt) := Kd.pair (Kd.slice 27 kW) (Kd.pair Kd.bool kW)
theorem opensS : Op.Opens Try.prog kS 29 (fun s => s.1.length * 24 ≤ reachBytes) (fun s => s.1.length) :=
  Op.opens_mono (Op.opens_struct Try.underlying29 (by kernel_rfl) (Op.opensF_cons rfl (by kernel_rfl) (by decide) (Op.opens_slice Try.underlying22 (by kernel_rfl) opensW) (Op.opensF_cons rfl (by kernel_rfl) (by decide) (Op.opens_bool Try.underlying4) (Op.opensF_last rfl (by kernel_rfl) opensW))))
    (fun s h => by have := h.1.1; rw [show Try.prog.bytesOf 27 = 24 from by kernel_rfl] at this; exact this)
    (fun s => by
      have : ∀ xs : List Wt, xs.length ≤ (xs.map (fun _ => 1)).sum := fun xs => by
        induction xs with
        | nil => exact Nat.zero_le _
        | cons x xs ih => rw [List.map_cons, List.sum_cons, List.length_cons]; omega
      have := this s.1
      omega)
theorem kS_open {w : World} {s : List Wt × Bool × Wt} {cs : List Value} (h : kS.K w s cs) : ∃ A c, cs = [.slice A s.1.length c, .bool s.2.1, .int .i64 s.2.2.s, .int .i64 s.2.2.g, .int .u64 s.2.2.t] ∧ s.1.length ≤ c ∧ kW.C w A s.1.length s.1 := by
  obtain ⟨_, _, rfl, ⟨A, c, rfl, hc, hC⟩, ⟨_, _, rfl, rfl, h3⟩⟩ := h
  obtain rfl := kW_open h3
  exact ⟨A, c, rfl, hc, hC⟩
theorem loadE_zero {l : List Wt} {has : Bool} {nx : Wt} (h : loadE l has nx = 0) : l.length ≤ 64 ∧ okTo l l.length = true ∧ (has && badT l nx.t) = false := by
  rw [loadE] at h
  split at h
  · cases h
  · rename_i h64
    split at h
    · rename_i hb
      rw [Bool.and_eq_true] at hb
      exact ⟨by omega, hb.1, by have h2 := hb.2; revert h2; cases (has && badT l nx.t) <;> simp⟩
    · cases h
theorem loadE_mk {l : List Wt} {has : Bool} {nx : Wt} (h64 : l.length ≤ 64) (ho : okTo l l.length = true) (hb : (has && badT l nx.t) = false) : loadE l has nx = 0 := by
  rw [loadE, if_neg (by omega), ho, hb]; rfl
/-- What Load has let in: a ring of the document. -/
structure Good (l : List Wt) (has : Bool) (nx : Wt) : Prop where
  len : l.length ≤ 64
  ok : okTo l l.length = true
  next : (has && badT l nx.t) = false
  none : has = false → nx = Wt.zero
theorem good_load {l : List Wt} {has : Bool} {nx : Wt} (h : loadE l has nx = 0) : Good l has (if has then nx else Wt.zero) := by
  obtain ⟨h1, h2, h3⟩ := loadE_zero h
  exact ⟨h1, h2, by cases has <;> simp_all, fun hh => by rw [hh]; rfl⟩
theorem Good.e {l : List Wt} {has : Bool} {nx : Wt} (h : Good l has nx) : loadE l has nx = 0 := loadE_mk h.len h.ok h.next
theorem Good.r {l : List Wt} {has : Bool} {nx : Wt} (h : Good l has nx) : loadR l has nx = ⟨l, has, nx⟩ := by
  rw [loadR]
  cases has with
  | true => rfl
  | false => rw [h.none rfl]; rfl
theorem Good.plain {l : List Wt} {has : Bool} {nx : Wt} (h : Good l has nx) : Good l false Wt.zero := ⟨h.len, h.ok, rfl, fun _ => rfl⟩
theorem R_keepT {w w1 : World} {base g t : Nat} {ok : Nat → Prop} {v : Value} {xs : List Wt} {cs : Array Value} (h : kW.R 27 w base ok v xs) (hg : w.heap[g]? = some (.cells cs t (0, 0))) (ht : 27 ≠ t) (k : Keep (fun i => i = g) w w1) : kW.R 27 w1 base ok v xs :=
  Kd.R_mono (Kd.R_step (Kd.R_types h hg (fun q hq => by
    have : q = 27 := by simpa [kW, Kd.iso, Kd.pair, Kd.int, Kd.scalar] using hq
    rw [this]; exact ht)) (fun i ho hlt => k.block i hlt (fun e => ho.2 e))) (fun _ h => h.1)
theorem R_keepR {w w1 : World} {base b : Nat} {ok : Nat → Prop} {v : Value} {xs : List Wt} {r : Rg} (h : kW.R 27 w base ok v xs) (hb : IsRing w b r) (k : Keep (fun i => i = b) w w1) : kW.R 27 w1 base ok v xs := by
  obtain ⟨_, _, hb⟩ := hb
  exact R_keepT h hb.blk (by decide) k
theorem R_keepR2 {w w1 : World} {base b b2 : Nat} {ok : Nat → Prop} {v : Value} {xs : List Wt} {r r2 : Rg} (h : kW.R 27 w base ok v xs) (hb : IsRing w b r) (hb2 : IsRing w b2 r2) (k : Keep (fun i => i = b ∨ i = b2) w w1) : kW.R 27 w1 base ok v xs := by
  obtain ⟨_, _, hb⟩ := hb
  obtain ⟨_, _, hb2⟩ := hb2
  have hE : ∀ q, q ∈ 27 :: kW.E → q ≠ 71 := fun q hq => by
    have : q = 27 := by simpa [kW, Kd.iso, Kd.pair, Kd.int, Kd.scalar] using hq
    rw [this]; decide
  exact Kd.R_mono (Kd.R_step (Kd.R_types (Kd.R_types h hb.blk hE) hb2.blk hE) (fun i ho hlt => k.block i hlt (fun e => e.elim ho.1.2 ho.2))) (fun _ h => h.1.1)
theorem rload_good (A : Option Addr) (c : Nat) (l : List Wt) (has : Bool) (nx : Wt) (w : World) (hC : kW.C w A l.length l) (hc : l.length ≤ c) (hg : loadE l has nx = 0) :
    Calls Try.prog 12 #[.agg #[.slice A l.length c, .bool has, .int .i64 nx.s, .int .i64 nx.g, .int .u64 nx.t]] w fun e w' => ∃ A' c', e = .returned (.tuple #[.agg #[.slice A' l.length c', .bool has, .int .i64 (if has then nx else Wt.zero).s, .int .i64 (if has then nx else Wt.zero).g, .int .u64 (if has then nx else Wt.zero).t], .int .i64 0]) ∧ l.length ≤ c' ∧ kW.R 27 w' w.heap.size (fun _ => True) (.slice A' l.length c') l ∧ Below w.heap.size w w' := by
  have hL : loadL l has nx = ⟨l, has, if has then nx else Wt.zero⟩ := by rw [loadL, if_pos hg, loadR]
  have h := rload_any A c l has nx w hC hc
  rw [hL, hg] at h
  refine h.mono fun e w' ⟨v, he, hv, hB⟩ => ?_
  obtain ⟨A', c', rfl, hc', _⟩ := Kd.R_reads hv
  exact ⟨A', c', he, hc', hv, hB⟩
end Go.Proofs.Ytjjdojnnomokaaa
