import Derived.Test.YtnglgjegkjfnaaaSlI
set_option linter.unusedSimpArgs false
set_option linter.unusedVariables false
namespace Go.Proofs.Ytnglgjegkjfnaaa
/-! The plain law of a slab: what every call keeps. -/
def allS (s : Sl) : List Int := s.caches.flatten ++ s.free
def aliveAt (s : Sl) (i : Nat) : Bool := s.alive.getD i false
def genAt (s : Sl) (i : Nat) : Int := s.gens.getD i 0
def FreeAt (s : Sl) (x : Int) : Prop := 0 ≤ x ∧ x < s.gens.length ∧ aliveAt s x.toNat = false ∧ genAt s x.toNat < 2147483647
/-- L: the slots that stand in the lists; ex: a slot that stands in none for now. -/
structure Wf1 (s : Sl) (L : List Int) (ex : Int → Prop) : Prop where
  l0 : 1 ≤ s.limit
  l1 : s.limit ≤ 4096
  c0 : 1 ≤ s.caches.length
  c1 : s.caches.length ≤ 64
  g : (s.gens.length : Int) ≤ s.limit
  a : s.alive.length = s.gens.length
  cl : ∀ c ∈ s.caches, c.length < 64
  gb : ∀ i : Nat, i < s.gens.length → ¬ ex i → 1 ≤ genAt s i
  gm : ∀ i : Nat, i < s.gens.length → 0 ≤ genAt s i ∧ genAt s i ≤ 2147483647
  nd : L.Nodup
  fr : ∀ x ∈ L, FreeAt s x ∧ ¬ ex x
  al : ∀ i : Nat, i < s.gens.length → aliveAt s i = false → genAt s i < 2147483647 → (i : Int) ∈ L ∨ ex i
def Wf (s : Sl) : Prop := Wf1 s (allS s) (fun _ => False)
theorem getD_set_self {α : Type} {l : List α} {i : Nat} {x d : α} (h : i < l.length) : (l.set i x).getD i d = x := by simp [List.getD_eq_getElem?_getD, h]
theorem getD_set_ne {α : Type} {l : List α} {i j : Nat} {x d : α} (h : i ≠ j) : (l.set i x).getD j d = l.getD j d := by simp [List.getD_eq_getElem?_getD, List.getElem?_set_ne h]
theorem flat_count (l : List (List Int)) (x : Int) (y : List Int) : ∀ p, p < l.length → (l.set p y).flatten.count x + (l.getD p []).count x = l.flatten.count x + y.count x := by
  induction l with
  | nil => intro p h; simp at h
  | cons a l ih =>
    intro p h
    cases p with
    | zero => simp [List.count_append]; omega
    | succ p =>
      have := ih p (by simpa using h)
      simp only [List.set_cons_succ, List.flatten_cons, List.count_append, List.getD_cons_succ]
      omega
namespace Wf1
variable {s : Sl} {L L' : List Int} {ex : Int → Prop}
theorem perm (h : Wf1 s L ex) (hp : L.Perm L') : Wf1 s L' ex :=
  ⟨h.l0, h.l1, h.c0, h.c1, h.g, h.a, h.cl, h.gb, h.gm, hp.nodup_iff.1 h.nd, fun x hx => h.fr x (hp.mem_iff.2 hx), fun i hi ha hg => (h.al i hi ha hg).imp hp.mem_iff.1 id⟩
theorem lists (h : Wf1 s L ex) {caches : List (List Int)} {free : List Int} (hc : caches.length = s.caches.length) (hl : ∀ c ∈ caches, c.length < 64) : Wf1 { s with caches := caches, free := free } L ex :=
  ⟨h.l0, h.l1, by show 1 ≤ caches.length; rw [hc]; exact h.c0, by show caches.length ≤ 64; rw [hc]; exact h.c1, h.g, h.a, hl, h.gb, h.gm, h.nd, h.fr, h.al⟩
/-- The slot at the list's head is taken out. -/
theorem out {x : Int} (h : Wf1 s (x :: L) (fun _ => False)) : Wf1 s L (fun i => i = x) ∧ FreeAt s x := by
  have hn := List.nodup_cons.1 h.nd
  refine ⟨⟨h.l0, h.l1, h.c0, h.c1, h.g, h.a, h.cl, fun i hi _ => h.gb i hi (fun f => f), h.gm, hn.2, fun y hy => ⟨(h.fr y (List.mem_cons_of_mem _ hy)).1, fun e => hn.1 (e ▸ hy)⟩, fun i hi ha hg => ?_⟩, (h.fr x List.mem_cons_self).1⟩
  rcases h.al i hi ha hg with hm | hm
  · rcases List.mem_cons.1 hm with rfl | hm
    · exact .inr rfl
    · exact .inl hm
  · exact hm.elim
end Wf1
theorem set_len {caches : List (List Int)} {p : Nat} {y : List Int} (hl : ∀ c ∈ caches, c.length < 64) (hy : y.length < 64) : ∀ c ∈ caches.set p y, c.length < 64 := fun c hc => by
  rcases List.mem_or_eq_of_mem_set hc with hc | rfl
  · exact hl c hc
  · exact hy
theorem Wf.ok {s : Sl} (h : Wf s) : Ok s := by
  have hn : (allS s).length ≤ s.gens.length := by
    have key : ∀ (n : Nat) (l : List Int), l.Nodup → (∀ x ∈ l, 0 ≤ x ∧ x < n) → l.length ≤ n := by
      intro n
      induction n with
      | zero =>
        intro l _ hl
        cases l with
        | nil => simp
        | cons x l => have := hl x List.mem_cons_self; omega
      | succ n ih =>
        intro l hd hl
        by_cases hm : (n : Int) ∈ l
        · have h1 := List.length_erase_of_mem hm
          have h2 := ih (l.erase n) (hd.erase _) (fun x hx => by
            have h3 := (hd.mem_erase_iff).1 hx
            have := hl x h3.2
            have h4 := h3.1
            omega)
          omega
        · have := ih l hd (fun x hx => by
            have h3 := hl x hx
            have h4 : x ≠ n := fun e => hm (e ▸ hx)
            omega)
          omega
    exact key _ _ h.nd (fun x hx => ⟨(h.fr x hx).1.1, (h.fr x hx).1.2.1⟩)
  have hg := h.g
  have h1 := h.l1
  have hfl : s.free.length ≤ (allS s).length := by simp [allS]
  refine ⟨h.l0, h.l1, h.c0, h.c1, h.g, h.a, fun x hx => ?_, by omega, fun c hc => Nat.le_of_lt (h.cl c hc), fun x hx => ?_, fun c hc x hx => ?_⟩
  · obtain ⟨i, hi, rfl⟩ := List.getElem_of_mem hx
    have := h.gm i hi
    rw [genAt, List.getD_eq_getElem?_getD, List.getElem?_eq_getElem hi] at this
    exact this
  · have := (h.fr x (List.mem_append_right _ hx)).1
    exact ⟨this.1, this.2.1⟩
  · have := (h.fr x (List.mem_append_left _ (List.mem_flatten_of_mem hc hx))).1
    exact ⟨this.1, this.2.1⟩
theorem fill_wf {s : Sl} {p : Nat} (h : Wf s) (hp : p < s.caches.length) : Wf (fillS s p) := by
  unfold fillS
  split
  · rename_i he
    refine (Wf1.lists h (caches := s.caches.set p (s.free.take 16)) (free := s.free.drop 16) (by simp) (set_len h.cl (by rw [List.length_take]; omega))).perm ?_
    rw [List.perm_iff_count]
    intro x
    have h1 := flat_count s.caches x (s.free.take 16) p hp
    have h2 : s.free.count x = (s.free.take 16).count x + (s.free.drop 16).count x := by rw [← List.count_append, List.take_append_drop]
    rw [he] at h1
    simp only [allS, refillS, List.count_append, List.count_nil] at h1 ⊢
    omega
  · exact h
/-- Behind the slot that is found. -/
structure Mid (s : Sl) (x : Int) : Prop where
  w : Wf1 s (allS s) (fun i => i = x)
  f : FreeAt s x
end Go.Proofs.Ytnglgjegkjfnaaa
set_option linter.unusedSimpArgs false
set_option linter.unusedVariables false
namespace Go.Proofs.Ytnglgjegkjfnaaa
/-! What Take, Give, Flush do to the book. -/
theorem getD_none {α : Type} {l : List α} {i : Nat} {d : α} (h : l.length ≤ i) : l.getD i d = d := by rw [List.getD_eq_getElem?_getD, List.getElem?_eq_none h]; rfl
theorem aliveS_iff {s : Sl} (ha : s.alive.length = s.gens.length) {x g : Int} : aliveS s x g = true ↔ 0 ≤ x ∧ aliveAt s x.toNat = true ∧ genAt s x.toNat = g := by
  simp only [aliveS, Bool.and_eq_true, decide_eq_true_eq]
  constructor
  · rintro ⟨h0, h1, h2, h3⟩
    exact ⟨h0, h2, h3⟩
  · rintro ⟨h0, h2, h3⟩
    refine ⟨h0, ?_, h2, h3⟩
    rcases Nat.lt_or_ge x.toNat s.alive.length with h | h
    · omega
    · rw [aliveAt, getD_none h] at h2
      cases h2
structure TakeR (s s' : Sl) (x g : Int) : Prop where
  wf : Wf s'
  lim : s'.limit = s.limit
  cl : s'.caches.length = s.caches.length
  x0 : 0 ≤ x
  ge : g = genAt s x.toNat + 1
  gen : ∀ i, genAt s' i = if i = x.toNat then g else genAt s i
  al : ∀ y h, aliveS s' y h = true ↔ (y = x ∧ h = g) ∨ (y ≠ x ∧ aliveS s y h = true)
  live : liveS s' = liveS s + 1
  dead : aliveAt s x.toNat = false
  lt : x < s'.gens.length
theorem fill_same (s : Sl) (p : Nat) : (fillS s p).gens = s.gens ∧ (fillS s p).alive = s.alive ∧ (fillS s p).limit = s.limit ∧ (fillS s p).caches.length = s.caches.length := by
  unfold fillS
  split
  · simp [refillS]
  · simp
/-- No slot: then each one is alive or its generations are used up. -/
theorem take_none {s : Sl} {p : Nat} (h : Wf s) (hp : p < s.caches.length) (hs : (slotS s p).2 = none) : Wf (slotS s p).1 ∧ (slotS s p).1.limit = s.limit ∧ (slotS s p).1.caches.length = s.caches.length ∧ (slotS s p).1.gens = s.gens ∧ (slotS s p).1.alive = s.alive ∧ (s.gens.length : Int) = s.limit ∧ allS s = [] := by
  obtain ⟨f1, f2, f3, f4⟩ := fill_same s p
  have hW := fill_wf h hp
  have hg := h.g
  have hcp := h.c0
  unfold slotS slotT at hs ⊢
  split
  · rename_i x hx; rw [hx] at hs; cases hs
  · rename_i hx
    rw [hx] at hs
    simp only at hs
    split
    · rename_i hg'; rw [if_pos hg'] at hs; cases hs
    · rename_i hg'
      rw [if_neg hg'] at hs
      split
      · rename_i q hq; rw [hq] at hs; cases hs
      · rename_i hq
        have hcx : (fillS s p).caches.getD p [] = [] := List.getLast?_eq_none_iff.1 hx
        have hfree : (fillS s p).free = [] := by
          unfold fillS at hcx ⊢
          split
          · rename_i he
            rw [if_pos he] at hcx
            have : (s.caches.set p (s.free.take 16)).getD p [] = s.free.take 16 := getD_set_self hp
            have h2 : s.free.take 16 = [] := by rw [← this]; exact hcx
            show s.free.drop 16 = []
            have h3 := congrArg List.length h2
            rw [List.length_take, List.length_nil] at h3
            exact List.drop_eq_nil_of_le (by omega)
          · rename_i he
            rw [if_neg he] at hcx
            exact absurd hcx he
        have hall : ∀ i, i < (fillS s p).caches.length → (fillS s p).caches.getD i [] = [] := by
          have key : ∀ fuel k, stealFrom (fillS s p) p fuel k = none → ∀ j, k ≤ j → j < k + fuel → (fillS s p).caches.getD ((p + j) % (fillS s p).caches.length) [] = [] := by
            intro fuel
            induction fuel with
            | zero => intro k _ j h1 h2; omega
            | succ n ih =>
              intro k h j h1 h2
              rw [stealFrom] at h
              split at h
              · rename_i he
                by_cases hjk : j = k
                · subst hjk; exact he
                · exact ih (k + 1) h j (by omega) (by omega)
              · cases h
          intro i hi
          by_cases hip : i = p
          · subst hip; exact hcx
          · have hcl : (fillS s p).caches.length = s.caches.length := f4
            generalize hn : (fillS s p).caches.length = n at *
            by_cases hlt : p < i
            · have := key _ _ hq (i - p) (by omega) (by rw [hn]; omega)
              rw [show p + (i - p) = i by omega, Nat.mod_eq_of_lt hi] at this
              exact this
            · have := key _ _ hq (n - p + i) (by omega) (by rw [hn]; omega)
              rw [show p + (n - p + i) = n + i by omega, Nat.add_mod_left, Nat.mod_eq_of_lt hi] at this
              exact this
        have hflat : (fillS s p).caches.flatten = [] := by
          rw [List.flatten_eq_nil_iff]
          intro c hc
          obtain ⟨i, hi, rfl⟩ := List.getElem_of_mem hc
          have := hall i hi
          rw [List.getD_eq_getElem?_getD, List.getElem?_eq_getElem hi] at this
          exact this
        have hallS : allS (fillS s p) = [] := by rw [allS, hflat, hfree]; rfl
        refine ⟨hW, f3, f4, f1, f2, ?_, ?_⟩
        · rw [f1, f3] at hg'
          omega
        · unfold fillS at hallS
          split at hallS
          · rename_i he
            -- the list was empty: nothing was moved
            have h1 : s.free = [] := by
              have h2 : (s.caches.set p (s.free.take 16)).getD p [] = s.free.take 16 := getD_set_self hp
              have h3 : (fillS s p).caches.getD p [] = s.free.take 16 := by rw [fillS, if_pos he]; exact h2
              rw [hcx] at h3
              have h4 := congrArg List.length h3
              rw [List.length_take, List.length_nil] at h4
              exact List.eq_nil_of_length_eq_zero (by omega)
            have h5 : (refillS s p).caches = s.caches := by
              show s.caches.set p (s.free.take 16) = s.caches
              rw [h1]
              apply List.ext_getElem?
              intro i
              by_cases hi : p = i
              · subst hi
                rw [List.getElem?_set_self hp]
                rw [List.getD_eq_getElem?_getD, List.getElem?_eq_getElem hp] at he
                rw [List.getElem?_eq_getElem hp]
                exact congrArg some he.symm
              · rw [List.getElem?_set_ne hi]
            rw [allS, h5] at hallS
            rw [allS, h1]
            have h6 : (refillS s p).free = [] := by show s.free.drop 16 = []; rw [h1]; rfl
            rw [h6] at hallS
            exact hallS
          · exact hallS
structure GiveR (s s' : Sl) (x g : Int) : Prop where
  wf : Wf s'
  lim : s'.limit = s.limit
  cl : s'.caches.length = s.caches.length
  gen : s'.gens = s.gens
  al : ∀ y h, aliveS s' y h = true ↔ aliveS s y h = true ∧ y ≠ x
  live : liveS s' + 1 = liveS s
end Go.Proofs.Ytnglgjegkjfnaaa
