import Derived.Test.YtikoonomhojlkaaFqI
set_option linter.unusedSimpArgs false
set_option linter.unusedVariables false
namespace Go.Proofs.Ytikoonomhojlkaa
open Go.RowKit Go.Proofs.YtikoonomhojlkaaW.PrintWords Go.Proofs.YtikoonomhojlkaaW.PrintMore Go.Proofs.YtikoonomhojlkaaW.PrintLast
/-! What puts and takes leave in order. -/
theorem rises_pw {l : List Wt} : Rises l ↔ l.Pairwise (fun y z => y.f1 < z.f1) := by
  rw [List.pairwise_iff_getElem]
  constructor
  · intro h i j hi hj hij
    exact h i j _ _ hij (List.getElem?_eq_getElem hi) (List.getElem?_eq_getElem hj)
  · intro h i j y z hij hy hz
    obtain ⟨h1, rfl⟩ := List.getElem?_eq_some_iff.1 hy
    obtain ⟨h2, rfl⟩ := List.getElem?_eq_some_iff.1 hz
    exact h i j h1 h2 hij
theorem ins_perm (l : List Wt) (x : Wt) : (insL l x).Perm (x :: l) := by
  have h : (l.takeWhile (ltT x.f1) ++ l.dropWhile (ltT x.f1)) = l := List.takeWhile_append_dropWhile
  have := List.perm_middle (a := x) (l₁ := l.takeWhile (ltT x.f1)) (l₂ := l.dropWhile (ltT x.f1))
  rw [h] at this
  exact this
theorem drop_ge {t : Int} : ∀ {l : List Wt}, l.Pairwise (fun y z => y.f1 < z.f1) → (∀ y ∈ l, y.f1 ≠ t) → ∀ z ∈ l.dropWhile (ltT t), t < z.f1
  | [], _, _, z, hz => by simp at hz
  | y :: l, hp, hn, z, hz => by
    rw [List.dropWhile_cons] at hz
    have h1 := List.pairwise_cons.1 hp
    by_cases h : ltT t y = true
    · rw [if_pos h] at hz
      exact drop_ge h1.2 (fun y' hy' => hn y' (List.mem_cons_of_mem _ hy')) z hz
    · rw [if_neg h] at hz
      have hy : t < y.f1 := by
        have h2 : ¬ y.f1 < t := by simpa [ltT] using h
        have h3 := hn y (List.mem_cons_self)
        omega
      rcases List.mem_cons.1 hz with rfl | hz
      · exact hy
      · have := h1.1 z hz
        omega
theorem take_lt {t : Int} : ∀ {l : List Wt}, ∀ y ∈ l.takeWhile (ltT t), y.f1 < t
  | [], y, hy => by simp at hy
  | z :: l, y, hy => by
    rw [List.takeWhile_cons] at hy
    by_cases h : ltT t z = true
    · rw [if_pos h] at hy
      rcases List.mem_cons.1 hy with rfl | hy
      · simpa [ltT] using h
      · exact take_lt y hy
    · rw [if_neg h] at hy
      simp at hy
theorem ins_pw {l : List Wt} {x : Wt} (h : l.Pairwise (fun y z => y.f1 < z.f1)) (hn : ∀ y ∈ l, y.f1 ≠ x.f1) : (insL l x).Pairwise (fun y z => y.f1 < z.f1) := by
  have hd := drop_ge h hn
  have ht : ∀ y ∈ l.takeWhile (ltT x.f1), y.f1 < x.f1 := fun y hy => take_lt y hy
  rw [insL, List.pairwise_append]
  refine ⟨h.sublist (List.takeWhile_sublist _), List.pairwise_cons.2 ⟨hd, h.sublist (List.dropWhile_sublist _)⟩, fun y hy z hz => ?_⟩
  rcases List.mem_cons.1 hz with rfl | hz
  · exact ht y hy
  · have := ht y hy
    have := hd z hz
    omega
theorem putL_good {l : List Wt} (x : Wt) (h : GoodQ l) : GoodQ (putL l x).1 := by
  unfold putL
  split
  · exact h
  · rename_i hno
    split
    · exact h
    · rename_i hlen
      have hno : (l.any (isB x.f0.f0 x.f0.f1) || l.any (eqT x.f1)) = false := by simpa using hno
      rw [Bool.or_eq_false_iff] at hno
      refine ⟨rises_pw.2 (ins_pw (rises_pw.1 h.rises) (fun y hy he => ?_)), ?_, ?_⟩
      · have := List.any_eq_false.1 hno.2 y hy
        exact this (by simp [eqT, he])
      · rw [(ins_perm l x).length_eq, List.length_cons]; omega
      · rw [((ins_perm l x).map gidOf).nodup_iff, List.map_cons, List.nodup_cons]
        refine ⟨fun hm => ?_, h.apart⟩
        obtain ⟨y, hy, he⟩ := List.mem_map.1 hm
        have := List.any_eq_false.1 hno.1 y hy
        refine this ?_
        unfold gidOf at he
        injection he with h1 h2
        simp [isB, h1, h2]
theorem nil_good : GoodQ [] := ⟨fun i j y z _ h => by simp at h, by simp, by simp⟩
theorem tail_good {y : Wt} {l : List Wt} (h : GoodQ (y :: l)) : GoodQ l :=
  ⟨rises_pw.2 (List.pairwise_cons.1 (rises_pw.1 h.rises)).2, by have := h.len; rw [List.length_cons] at this; omega, by have := h.apart; rw [List.map_cons, List.nodup_cons] at this; exact this.2⟩
theorem head_gone {y : Wt} {l : List Wt} (h : GoodQ (y :: l)) : l.any (isB y.f0.f0 y.f0.f1) = false := by
  have := h.apart
  rw [List.map_cons, List.nodup_cons] at this
  rw [List.any_eq_false]
  intro z hz hb
  refine this.1 (List.mem_map.2 ⟨z, hz, ?_⟩)
  have := isB_iff.1 hb
  unfold gidOf
  rw [this.1, this.2]
theorem head_least {y z : Wt} {l : List Wt} (h : GoodQ (y :: l)) (hz : z ∈ l) : y.f1 < z.f1 := (List.pairwise_cons.1 (rises_pw.1 h.rises)).1 z hz
/-- What a put leaves: what was there, and perhaps the one. -/
theorem putL_len (l : List Wt) (x : Wt) : ((putL l x).2 = 0 ∧ (putL l x).1.length = l.length + 1) ∨ ((putL l x).2 ≠ 0 ∧ (putL l x).1 = l) := by
  unfold putL
  split
  · exact .inr ⟨by simp, rfl⟩
  · split
    · exact .inr ⟨by simp, rfl⟩
    · exact .inl ⟨rfl, by rw [(ins_perm l x).length_eq, List.length_cons]⟩
theorem putL_mem {l : List Wt} {x z : Wt} (h : z ∈ (putL l x).1) : z = x ∨ z ∈ l := by
  unfold putL at h
  split at h
  · exact .inr h
  · split at h
    · exact .inr h
    · exact List.mem_cons.1 ((ins_perm l x).mem_iff.1 h)
end Go.Proofs.Ytikoonomhojlkaa
