import Derived.Test.YtefkdicejhjfoaaPol
namespace Go.Proofs.Ytefkdicejhjfoaa
open Go.RowKit Go.Proofs.YtefkdicejhjfoaaW.PrintWords Go.Proofs.YtefkdicejhjfoaaW.PrintLast Go.Proofs.YtefkdicejhjfoaaW.PrintMore Go.Proofs.Ytefkdicejhjfoaa.PPolicyPaths
/-! Path, May, Above, Groups, lives: step by step. -/
theorem C_one {w : World} {b : Nat} {x : Int} (h : w.cell? ⟨b, 0, none⟩ = some (.int .i64 x)) : Kd.C (Kd.int .i64) w (some ⟨b, 0, none⟩) 1 [x] := by
  refine ⟨rfl, by simp, fun _ => ⟨_, rfl, fun j p hp => ?_⟩⟩
  match j with
  | 0 =>
    obtain rfl : x = p := by simpa using hp
    exact ⟨[.int .i64 x], rfl, rfl, fun i v hv => by
      match i with
      | 0 => obtain rfl : Value.int .i64 x = v := by simpa using hv
             exact h⟩
theorem C_two {w : World} {b : Nat} {x y : Int} (h : w.cell? ⟨b, 0, none⟩ = some (.int .i64 x)) (h1 : w.cell? ⟨b, 1, none⟩ = some (.int .i64 y)) : Kd.C (Kd.int .i64) w (some ⟨b, 0, none⟩) 2 [x, y] := by
  refine ⟨rfl, by simp, fun _ => ⟨_, rfl, fun j p hp => ?_⟩⟩
  match j with
  | 0 =>
    obtain rfl : x = p := by simpa using hp
    exact ⟨[.int .i64 x], rfl, rfl, fun i v hv => by
      match i with
      | 0 => obtain rfl : Value.int .i64 x = v := by simpa using hv
             exact h⟩
  | 1 =>
    obtain rfl : y = p := by simpa using hp
    exact ⟨[.int .i64 y], rfl, rfl, fun i v hv => by
      match i with
      | 0 => obtain rfl : Value.int .i64 y = v := by simpa using hv
             exact h1⟩
/-- Does a path lead there? -/
noncomputable def rchB (es : List S35) (a b : Int) : Bool := @decide (Rch (toE es) a.toNat b.toNat) (Classical.propDecidable _)
theorem rchB_iff {es : List S35} {a b : Int} : rchB es a b = true ↔ Rch (toE es) a.toNat b.toNat := by
  unfold rchB
  exact @decide_eq_true_iff _ (Classical.propDecidable _)
noncomputable def pathP (D : Int) (es : List S35) (a b : Int) : Bool × Int := if lookedP D es [a, b] = 0 then (rchB es a b, 0) else (false, lookedP D es [a, b])
theorem looked_zero {D : Int} {es : List S35} {of : List Int} (h : lookedP D es of = 0) : ∃ d : Nat, D = d ∧ 1 ≤ d ∧ d ≤ 16 ∧ Fits d es ∧ ∀ x ∈ of, ∃ n : Nat, x = n ∧ n < d := by
  unfold lookedP at h
  split at h
  · rename_i h0
    obtain ⟨d, rfl, h1, h2, h3⟩ := chk_fits h0
    refine ⟨d, rfl, h1, h2, h3, fun x hx => ?_⟩
    split at h
    · cases h
    · rename_i ha
      have hb : outB d x = false := by
        cases hb : outB d x with
        | false => rfl
        | true => exact absurd (List.any_eq_true.2 ⟨x, hx, hb⟩) ha
      unfold outB at hb
      simp at hb
      obtain ⟨n, rfl⟩ := Int.eq_ofNat_of_zero_le hb.1
      exact ⟨n, rfl, by omega⟩
  · rename_i h0
    exact absurd h h0
theorem bit_test' {m d : Nat} (hm : m < 65536) (hd : d < 16) : (Go.bits .and .u32 ((m : Int) / 2 ^ d) 1 == 1) = m.testBit d := by
  have h := bit_test m d hm hd
  rw [shr_nat m d hd] at h
  rw [show (m : Int) / 2 ^ d = ((m >>> d : Nat) : Int) by rw [Nat.shiftRight_eq_div_pow]; simp, h]
  cases m.testBit d <;> rfl
theorem rchB_bit {es : List S35} {a s : Nat} (h : ∀ i, s.testBit i = true ↔ Rch (toE es) a i) (b : Nat) : s.testBit b = rchB es a b := by
  have h1 := h b
  have h2 := rchB_iff (es := es) (a := (a : Int)) (b := (b : Int))
  rw [Int.toNat_natCast, Int.toNat_natCast] at h2
  rw [← h2] at h1
  cases hb : s.testBit b with
  | true => exact (h1.1 hb).symm
  | false =>
    cases hr : rchB es a b with
    | true => rw [h1.2 hr] at hb; cases hb
    | false => rfl
set_option maxHeartbeats 1000000 in
theorem path_any (D : Int) (B : Option Addr) (d : Nat) (es : List S35) (a b : Int) (w : World) (hE : Kd.C k35 w B es.length es) (hd : es.length ≤ d) (hl : es.length < 17592186044416) :
    Calls Try.prog 14 #[.int .i64 D, .slice B es.length d, .int .i64 a, .int .i64 b] w fun e w' => e = .returned (.tuple #[.bool (pathP D es a b).1, .int .i64 (pathP D es a b).2]) ∧ Below w.heap.size w w' := by
  have HE := Aside0.mk hE
  clear hE
  obtain ⟨p, hp⟩ : ∃ p, p = (pathP D es a b).1 := ⟨_, rfl⟩
  obtain ⟨q, hq⟩ : ∃ q, q = (pathP D es a b).2 := ⟨_, rfl⟩
  rw [← hp, ← hq]
  have HP := Aside0.mk hp
  have HQ := Aside0.mk hq
  clear hp hq
  go_enter Try.func14, Try.ntmps14
  go_wp2_with fail
  have hB0 : Below w.heap.size w (w.alloc (.cells #[.int .i64 a, .int .i64 b] 3)) := below_al (Below.refl _ _) _
  have hc0 : (w.alloc (.cells #[.int .i64 a, .int .i64 b] 3)).cell? ⟨w.heap.size, 0, none⟩ = some (.int .i64 a) := cell_blk (blk_new _ _) 0
  have hc1 : (w.alloc (.cells #[.int .i64 a, .int .i64 b] 3)).cell? ⟨w.heap.size, 1, none⟩ = some (.int .i64 b) := cell_blk (blk_new _ _) 1
  generalize w.alloc (.cells #[.int .i64 a, .int .i64 b] 3) = W at *
  refine (looked_any D B d es _ 2 [a, b] W (Kd.C_below HE.out hB0) hd (C_two hc0 hc1) hl (by simp)).mono ?_
  obtain ⟨r, hr⟩ : ∃ r, r = lookedP D es [a, b] := ⟨_, rfl⟩
  rw [← hr]
  rintro e w1 ⟨rfl, hB1⟩
  by_cases h0 : r = 0
  · subst h0
    obtain ⟨D', rfl, h1, h2, hf, hof⟩ := looked_zero hr.symm
    obtain ⟨a', rfl, ha⟩ := hof a (by simp)
    obtain ⟨b', rfl, hb⟩ := hof b (by simp)
    obtain ⟨k, s, hs, hk, hbit⟩ := reached_f h2 ha hf hl
    have hpq : pathP D' es a' b' = (rchB es a' b', 0) := by rw [pathP, if_pos hr.symm]
    have hP := HP.out
    have hQ := HQ.out
    rw [hpq] at hP hQ
    have HS := Aside0.mk hbit
    have HPP := Aside0.mk hP
    have HR := Aside0.mk hr
    subst hQ
    clear hP hpq hof hbit hr
    go_wp2_with fail
    refine (policy_reached.calls k B d es a' s w1 (Kd.C_below HE.out (below_then hB0 hB1)) hd hk).mono ?_
    rintro e w2 ⟨rfl, hB2⟩
    have hbt := bit_test' hs (show b' < 16 by omega)
    rw [rchB_bit HS.out b', ← HPP.out] at hbt
    go_wp2
    go_ret2
    exact ⟨rfl, below_then (below_then hB0 hB1) hB2⟩
  · have hn : (r != 0) = true := by simpa using h0
    have hpq : pathP D es a b = (false, r) := by rw [pathP, ← hr, if_neg h0]
    have hP := HP.out
    have hQ := HQ.out
    rw [hpq] at hP hQ
    subst hP hQ
    clear h0 hpq hr
    go_wp2
    go_ret2
    exact ⟨rfl, below_then hB0 hB1⟩
theorem C_edges {w : World} {b : Nat} {x y z u : Int} (h0 : w.cell? ⟨b, 0, none⟩ = some (.int .i64 x)) (h1 : w.cell? ⟨b, 1, none⟩ = some (.int .i64 y)) (h2 : w.cell? ⟨b, 2, none⟩ = some (.int .i64 z)) (h3 : w.cell? ⟨b, 3, none⟩ = some (.int .i64 u)) :
    Kd.C k35 w (some ⟨b, 0, none⟩) 2 [⟨x, y⟩, ⟨z, u⟩] := by
  refine ⟨rfl, by simp, fun _ => ⟨_, rfl, fun j p hp => ?_⟩⟩
  match j with
  | 0 =>
    obtain rfl : (⟨x, y⟩ : S35) = p := by simpa using hp
    exact ⟨[.int .i64 x, .int .i64 y], rfl, ⟨_, _, rfl, rfl, rfl⟩, fun i v hv => by
      match i with
      | 0 => obtain rfl : Value.int .i64 x = v := by simpa using hv
             exact h0
      | 1 => obtain rfl : Value.int .i64 y = v := by simpa using hv
             exact h1⟩
  | 1 =>
    obtain rfl : (⟨z, u⟩ : S35) = p := by simpa using hp
    exact ⟨[.int .i64 z, .int .i64 u], rfl, ⟨_, _, rfl, rfl, rfl⟩, fun i v hv => by
      match i with
      | 0 => obtain rfl : Value.int .i64 z = v := by simpa using hv
             exact h2
      | 1 => obtain rfl : Value.int .i64 u = v := by simpa using hv
             exact h3⟩
theorem lives_path : pathP 3 [⟨0, 1⟩, ⟨1, 2⟩] 0 2 = (true, 0) := by
  rw [pathP, if_pos (by decide)]
  congr 1
  rw [rchB_iff]
  have h1 : Rch (toE [⟨0, 1⟩, ⟨1, 2⟩]) 0 1 := Rch.edge (e := (0, 1)) (by decide)
  exact Rch.step (e := (1, 2)) h1 (by decide) rfl
set_option maxHeartbeats 1000000 in
theorem lives_any (w : World) : Calls Try.prog 13 #[] w fun e w' => e = .returned (.bool true) ∧ Below w.heap.size w w' := by
  go_enter Try.func13, Try.ntmps13
  go_wp2_with fail
  have hB0 : Below w.heap.size w (w.alloc (.cells #[.int .i64 0, .int .i64 1, .int .i64 1, .int .i64 2] 35)) := below_al (Below.refl _ _) _
  have hb : (w.alloc (.cells #[.int .i64 0, .int .i64 1, .int .i64 1, .int .i64 2] 35)).heap[w.heap.size]? = some (.cells #[.int .i64 0, .int .i64 1, .int .i64 1, .int .i64 2] 35 (0, 0)) := blk_new _ _
  generalize w.alloc (.cells #[.int .i64 0, .int .i64 1, .int .i64 1, .int .i64 2] 35) = W at *
  refine (path_any 3 _ 2 [⟨0, 1⟩, ⟨1, 2⟩] 0 2 W (C_edges (cell_blk hb 0) (cell_blk hb 1) (cell_blk hb 2) (cell_blk hb 3)) (by simp) (by simp)).mono ?_
  rw [lives_path]
  rintro e w1 ⟨rfl, hB1⟩
  go_wp2
  go_ret
  exact ⟨rfl, below_then hB0 hB1⟩
end Go.Proofs.Ytefkdicejhjfoaa
