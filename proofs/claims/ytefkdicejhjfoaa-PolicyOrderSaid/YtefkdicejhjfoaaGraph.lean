import Derived.RowKit
import Derived.Laws.BitsLemmas
namespace Go.Proofs.Ytefkdicejhjfoaa
open Go.RowKit
/-! Paths in a small graph, in plain Lean: passes over the edges until nothing is new. -/
def upd (S : Nat → Bool) (y : Nat) : Nat → Bool := fun i => if i = y then true else S i
def pass (S : Nat → Bool) : List (Nat × Nat) → Nat → Bool
  | [] => S
  | e :: E => pass (if S e.1 then upd S e.2 else S) E
inductive Rch (E : List (Nat × Nat)) (a : Nat) : Nat → Prop
  | refl : Rch E a a
  | step {b : Nat} {e : Nat × Nat} : Rch E a b → e ∈ E → e.1 = b → Rch E a e.2
theorem Rch.trans {E : List (Nat × Nat)} {a b c : Nat} (h : Rch E a b) (k : Rch E b c) : Rch E a c := by
  induction k with
  | refl => exact h
  | step _ he h1 ih => exact .step ih he h1
theorem Rch.edge {E : List (Nat × Nat)} {e : Nat × Nat} (h : e ∈ E) : Rch E e.1 e.2 := .step .refl h rfl
theorem Rch.mono {E F : List (Nat × Nat)} (hs : ∀ e ∈ E, e ∈ F) {a b : Nat} (h : Rch E a b) : Rch F a b := by
  induction h with
  | refl => exact .refl
  | step _ he h1 ih => exact .step ih (hs _ he) h1
def Closed (E : List (Nat × Nat)) (T : Nat → Bool) : Prop := ∀ e ∈ E, T e.1 = true → T e.2 = true
theorem upd_le {S : Nat → Bool} {y i : Nat} (h : S i = true) : upd S y i = true := by
  unfold upd; split <;> simp [h]
theorem upd_self (S : Nat → Bool) (y : Nat) : upd S y y = true := by simp [upd]
theorem one_le {S : Nat → Bool} {e : Nat × Nat} {i : Nat} (h : S i = true) : (if S e.1 then upd S e.2 else S) i = true := by
  split
  · exact upd_le h
  · exact h
theorem pass_le (E : List (Nat × Nat)) : ∀ (S : Nat → Bool) (i : Nat), S i = true → pass S E i = true := by
  induction E with
  | nil => intro S i h; exact h
  | cons e E ih => intro S i h; exact ih _ _ (one_le h)
theorem pass_fix (E : List (Nat × Nat)) : ∀ (S : Nat → Bool), (∀ i, pass S E i = S i) → Closed E S := by
  induction E with
  | nil => intro S _ e he; cases he
  | cons e E ih =>
    intro S h
    have h1 : (if S e.1 then upd S e.2 else S) = S := by
      funext i
      cases hs : S i with
      | true => exact one_le hs
      | false =>
        cases hu : (if S e.1 then upd S e.2 else S) i with
        | false => rfl
        | true =>
          have := pass_le E _ i hu
          have h2 := h i
          rw [pass, this, hs] at h2
          cases h2
    rw [pass, h1] at h
    intro e' he' hs
    rcases List.mem_cons.1 he' with rfl | he'
    · rw [if_pos hs] at h1
      rw [← h1]
      exact upd_self _ _
    · exact ih S h e' he' hs
theorem pass_sub {T : Nat → Bool} (E : List (Nat × Nat)) : ∀ (S : Nat → Bool), Closed E T → (∀ i, S i = true → T i = true) → ∀ i, pass S E i = true → T i = true := by
  induction E with
  | nil => intro S _ h i hi; exact h i hi
  | cons e E ih =>
    intro S hc h i hi
    refine ih _ (fun e' he' => hc e' (List.mem_cons_of_mem _ he')) (fun j hj => ?_) i hi
    split at hj
    · rename_i hs
      unfold upd at hj
      split at hj
      · rename_i hje
        subst hje
        exact hc e (List.mem_cons_self ..) (h _ hs)
      · exact h j hj
    · exact h j hj
theorem pass_rch {a : Nat} {F : List (Nat × Nat)} (E : List (Nat × Nat)) : ∀ (S : Nat → Bool), (∀ e ∈ E, e ∈ F) → (∀ i, S i = true → Rch F a i) → ∀ i, pass S E i = true → Rch F a i := by
  induction E with
  | nil => intro S _ h i hi; exact h i hi
  | cons e E ih =>
    intro S hc h i hi
    refine ih _ (fun e' he' => hc e' (List.mem_cons_of_mem _ he')) (fun j hj => ?_) i hi
    split at hj
    · rename_i hs
      unfold upd at hj
      split at hj
      · rename_i hje
        subst hje
        exact .step (h _ hs) (hc e (List.mem_cons_self ..)) rfl
      · exact h j hj
    · exact h j hj
theorem pass_lt {D : Nat} (E : List (Nat × Nat)) : ∀ (S : Nat → Bool) (i : Nat), (∀ e ∈ E, e.2 < D) → S i = false → pass S E i = true → i < D := by
  induction E with
  | nil => intro S i _ h hi; rw [pass, h] at hi; cases hi
  | cons e E ih =>
    intro S i hd h hi
    cases hs : (if S e.1 then upd S e.2 else S) i with
    | false => exact ih _ i (fun e' he' => hd e' (List.mem_cons_of_mem _ he')) hs hi
    | true =>
      split at hs
      · unfold upd at hs
        split at hs
        · rename_i hje
          subst hje
          exact hd e (List.mem_cons_self ..)
        · rw [h] at hs; cases hs
      · rw [h] at hs; cases hs
def cnt (S : Nat → Bool) : Nat → Nat
  | 0 => 0
  | n + 1 => cnt S n + (if S n then 1 else 0)
theorem cnt_le (S : Nat → Bool) (n : Nat) : cnt S n ≤ n := by
  induction n with
  | zero => exact Nat.le_refl _
  | succ n ih => rw [cnt]; split <;> omega
theorem cnt_mono {S T : Nat → Bool} (h : ∀ i, S i = true → T i = true) (n : Nat) : cnt S n ≤ cnt T n := by
  induction n with
  | zero => exact Nat.le_refl _
  | succ n ih =>
    rw [cnt, cnt]
    split
    · rename_i hs; rw [if_pos (h n hs)]; omega
    · split <;> omega
theorem cnt_lt {S T : Nat → Bool} (h : ∀ i, S i = true → T i = true) {n i : Nat} (hi : i < n) (hs : S i = false) (ht : T i = true) : cnt S n < cnt T n := by
  induction n with
  | zero => omega
  | succ n ih =>
    rw [cnt, cnt]
    by_cases hn : i = n
    · subst hn
      have := cnt_mono h i
      rw [hs, ht]
      simp only [Bool.false_eq_true, if_false, if_true]
      omega
    · have := ih (by omega)
      split
      · rename_i hs'; rw [if_pos (h n hs')]; omega
      · split <;> omega
theorem pass_grow {D : Nat} {E : List (Nat × Nat)} {S : Nat → Bool} (hd : ∀ e ∈ E, e.2 < D) : (∀ i, pass S E i = S i) ∨ cnt S D < cnt (pass S E) D := by
  by_cases h : ∀ i, pass S E i = S i
  · exact .inl h
  · refine .inr ?_
    obtain ⟨i, hi⟩ := Classical.not_forall.1 h
    have hs : S i = false := by
      cases hs : S i with
      | false => rfl
      | true => exact absurd ((pass_le E S i hs).trans hs.symm) hi
    have ht : pass S E i = true := by
      cases ht : pass S E i with
      | true => rfl
      | false => exact absurd (ht.trans hs.symm) hi
    exact cnt_lt (pass_le E S) (pass_lt E S i hd hs ht) hs ht
theorem rch_of_closed {E : List (Nat × Nat)} {S : Nat → Bool} {a : Nat} (ha : S a = true) (hc : Closed E S) {b : Nat} (h : Rch E a b) : S b = true := by
  induction h with
  | refl => exact ha
  | step _ he h1 ih => subst h1; exact hc _ he ih
/-- Some passes. -/
def passes (S : Nat → Bool) (E : List (Nat × Nat)) : Nat → Nat → Bool
  | 0 => S
  | n + 1 => pass (passes S E n) E
theorem passes_le (S : Nat → Bool) (E : List (Nat × Nat)) (n : Nat) : ∀ i, S i = true → passes S E n i = true := by
  induction n with
  | zero => intro i h; exact h
  | succ n ih => intro i h; exact pass_le E _ i (ih i h)
theorem passes_cnt {D : Nat} {E : List (Nat × Nat)} {S : Nat → Bool} (hd : ∀ e ∈ E, e.2 < D) (n : Nat) : (∀ i, pass (passes S E n) E i = passes S E n i) ∨ n + cnt S D ≤ cnt (passes S E n) D := by
  induction n with
  | zero => exact .inr (by simp [passes])
  | succ n ih =>
    rcases ih with h | h
    · refine .inl ?_
      have he : passes S E (n + 1) = passes S E n := funext h
      rw [he]
      exact h
    · rcases pass_grow (S := passes S E n) hd with h1 | h1
      · refine .inl ?_
        have he : passes S E (n + 1) = passes S E n := funext h1
        rw [he]
        exact h1
      · exact .inr (by rw [passes]; omega)
theorem cnt_pos {S : Nat → Bool} {D a : Nat} (ha : a < D) (h : S a = true) : 0 < cnt S D := by
  have := cnt_lt (S := fun _ => false) (T := S) (fun i h => by cases h) ha rfl h
  omega
/-- As many passes as there are domains are enough. -/
theorem passes_closed {D a : Nat} {E : List (Nat × Nat)} {S : Nat → Bool} (hd : ∀ e ∈ E, e.2 < D) (ha : a < D) (hs : S a = true) : Closed E (passes S E D) := by
  refine pass_fix E _ ?_
  rcases passes_cnt (S := S) hd D with h | h
  · exact h
  · have h1 := cnt_le (passes S E D) D
    have h2 := cnt_pos ha hs
    omega
theorem passes_rch {a : Nat} {E : List (Nat × Nat)} {S : Nat → Bool} (hs : ∀ i, S i = true → Rch E a i) (n : Nat) : ∀ i, passes S E n i = true → Rch E a i := by
  induction n with
  | zero => exact hs
  | succ n ih => exact pass_rch E _ (fun _ h => h) ih
end Go.Proofs.Ytefkdicejhjfoaa
