import Derived.Test.YtnglgjegkjfnaaaSlI
namespace Go.Proofs.Ytnglgjegkjfnaaa
/-! The plain law of a slab: what every call keeps. -/
def allS (s : Sl) : List Int := s.caches.flatten ++ s.free
def aliveAt (s : Sl) (i : Nat) : Bool := s.alive.getD i false
def genAt (s : Sl) (i : Nat) : Int := s.gens.getD i 0
def FreeAt (s : Sl) (x : Int) : Prop := 0 ≤ x ∧ x < s.gens.length ∧ aliveAt s x.toNat = false ∧ genAt s x.toNat < 2147483647
/-- L: the slots that stand in the lists; ex: a slot that stands in none for now. -/
structure Wf1 (s : Sl) (L : List Int) (ex : Int → Prop) : Prop where
  l0 : 1 ≤ s.limit
  l1 : s.limit ≤ 4096
  c0 : 1 ≤ s.caches.length
  c1 : s.caches.length ≤ 64
  g : (s.gens.length : Int) ≤ s.limit
  a : s.alive.length = s.gens.length
  cl : ∀ c ∈ s.caches, c.length < 64
  gb : ∀ i : Nat, i < s.gens.length → ¬ ex i → 1 ≤ genAt s i
  gm : ∀ i : Nat, i < s.gens.length → 0 ≤ genAt s i ∧ genAt s i ≤ 2147483647
  nd : L.Nodup
  fr : ∀ x ∈ L, FreeAt s x ∧ ¬ ex x
  al : ∀ i : Nat, i < s.gens.length → aliveAt s i = false → genAt s i < 2147483647 → (i : Int) ∈ L ∨ ex i
def Wf (s : Sl) : Prop := Wf1 s (allS s) (fun _ => False)
theorem getD_set_self {α : Type} {l : List α} {i : Nat} {x d : α} (h : i < l.length) : (l.set i x).getD i d = x := by simp [List.getD_eq_getElem?_getD, h]
theorem getD_set_ne {α : Type} {l : List α} {i j : Nat} {x d : α} (h : i ≠ j) : (l.set i x).getD j d = l.getD j d := by simp [List.getD_eq_getElem?_getD, List.getElem?_set_ne h]
theorem flat_count (l : List (List Int)) (x : Int) (y : List Int) : ∀ p, p < l.length → (l.set p y).flatten.count x + (l.getD p []).count x = l.flatten.count x + y.count x := by
  induction l with
  | nil => intro p h; simp at h
  | cons a l ih =>
    intro p h
    cases p with
    | zero => simp [List.count_append]; omega
    | succ p =>
      have := ih p (by simpa using h)
      simp only [List.set_cons_succ, List.flatten_cons, List.count_append, List.getD_cons_succ]
      omega
theorem mem_getD' {l : List (List Int)} {p : Nat} (h : p < l.length) : l.getD p [] ∈ l := by
  rw [List.getD_eq_getElem?_getD, List.getElem?_eq_getElem h]
  exact List.getElem_mem h
namespace Wf1
variable {s : Sl} {L L' : List Int} {ex : Int → Prop}
theorem perm (h : Wf1 s L ex) (hp : L.Perm L') : Wf1 s L' ex :=
  ⟨h.l0, h.l1, h.c0, h.c1, h.g, h.a, h.cl, h.gb, h.gm, hp.nodup_iff.1 h.nd, fun x hx => h.fr x (hp.mem_iff.2 hx), fun i hi ha hg => (h.al i hi ha hg).imp hp.mem_iff.1 id⟩
theorem lists (h : Wf1 s L ex) {caches : List (List Int)} {free : List Int} (hc : caches.length = s.caches.length) (hl : ∀ c ∈ caches, c.length < 64) : Wf1 { s with caches := caches, free := free } L ex :=
  ⟨h.l0, h.l1, by show 1 ≤ caches.length; rw [hc]; exact h.c0, by show caches.length ≤ 64; rw [hc]; exact h.c1, h.g, h.a, hl, h.gb, h.gm, h.nd, h.fr, h.al⟩
/-- The slot at the list's head is taken out. -/
theorem out {x : Int} (h : Wf1 s (x :: L) (fun _ => False)) : Wf1 s L (fun i => i = x) ∧ FreeAt s x := by
  have hn := List.nodup_cons.1 h.nd
  refine ⟨⟨h.l0, h.l1, h.c0, h.c1, h.g, h.a, h.cl, fun i hi _ => h.gb i hi (fun f => f), h.gm, hn.2, fun y hy => ⟨(h.fr y (List.mem_cons_of_mem _ hy)).1, fun e => hn.1 (e ▸ hy)⟩, fun i hi ha hg => ?_⟩, (h.fr x List.mem_cons_self).1⟩
  rcases h.al i hi ha hg with hm | hm
  · rcases List.mem_cons.1 hm with rfl | hm
    · exact .inr rfl
    · exact .inl hm
  · exact hm.elim
end Wf1
theorem set_len {caches : List (List Int)} {p : Nat} {y : List Int} (hl : ∀ c ∈ caches, c.length < 64) (hy : y.length < 64) : ∀ c ∈ caches.set p y, c.length < 64 := fun c hc => by
  rcases List.mem_or_eq_of_mem_set hc with hc | rfl
  · exact hl c hc
  · exact hy
theorem Wf.ok {s : Sl} (h : Wf s) : Ok s := by
  have hn : (allS s).length ≤ s.gens.length := by
    have key : ∀ (n : Nat) (l : List Int), l.Nodup → (∀ x ∈ l, 0 ≤ x ∧ x < n) → l.length ≤ n := by
      intro n
      induction n with
      | zero =>
        intro l _ hl
        cases l with
        | nil => simp
        | cons x l => have := hl x List.mem_cons_self; omega
      | succ n ih =>
        intro l hd hl
        by_cases hm : (n : Int) ∈ l
        · have h1 := List.length_erase_of_mem hm
          have h2 := ih (l.erase n) (hd.erase _) (fun x hx => by
            have h3 := (hd.mem_erase_iff).1 hx
            have := hl x h3.2
            have h4 := h3.1
            omega)
          omega
        · have := ih l hd (fun x hx => by
            have h3 := hl x hx
            have h4 : x ≠ n := fun e => hm (e ▸ hx)
            omega)
          omega
    exact key _ _ h.nd (fun x hx => ⟨(h.fr x hx).1.1, (h.fr x hx).1.2.1⟩)
  have hg := h.g
  have h1 := h.l1
  have hfl : s.free.length ≤ (allS s).length := by simp [allS]
  refine ⟨h.l0, h.l1, h.c0, h.c1, h.g, h.a, fun x hx => ?_, by omega, fun c hc => Nat.le_of_lt (h.cl c hc), fun x hx => ?_, fun c hc x hx => ?_⟩
  · obtain ⟨i, hi, rfl⟩ := List.getElem_of_mem hx
    have := h.gm i hi
    rw [genAt, List.getD_eq_getElem?_getD, List.getElem?_eq_getElem hi] at this
    exact this
  · have := (h.fr x (List.mem_append_right _ hx)).1
    exact ⟨this.1, this.2.1⟩
  · have := (h.fr x (List.mem_append_left _ (List.mem_flatten_of_mem hc hx))).1
    exact ⟨this.1, this.2.1⟩
theorem new_wf {limit procs : Int} (h : okNew limit procs = true) : Wf (newS limit procs) := by
  obtain ⟨h0, h1, h2, h3⟩ := okNew_iff.1 h
  have hall : allS (newS limit procs) = [] := by
    show (List.replicate procs.toNat []).flatten ++ [] = []
    simp
  refine ⟨h0, h1, ?_, ?_, ?_, rfl, fun c hc => ?_, fun i hi => by simp [newS] at hi, fun i hi => by simp [newS] at hi, by rw [hall]; exact List.nodup_nil, fun x hx => (by rw [hall] at hx; cases hx), fun i hi => by simp [newS] at hi⟩
  · simp [newS]; omega
  · simp [newS]; omega
  · simp [newS]; omega
  · simp only [newS] at hc
    rw [List.eq_of_mem_replicate hc]; decide
theorem fill_wf {s : Sl} {p : Nat} (h : Wf s) (hp : p < s.caches.length) : Wf (fillS s p) := by
  unfold fillS
  split
  · rename_i he
    refine (Wf1.lists h (caches := s.caches.set p (s.free.take 16)) (free := s.free.drop 16) (by simp) (set_len h.cl (by rw [List.length_take]; omega))).perm ?_
    rw [List.perm_iff_count]
    intro x
    have h1 := flat_count s.caches x (s.free.take 16) p hp
    have h2 : s.free.count x = (s.free.take 16).count x + (s.free.drop 16).count x := by rw [← List.count_append, List.take_append_drop]
    rw [he] at h1
    simp only [allS, refillS, List.count_append, List.count_nil] at h1 ⊢
    omega
  · exact h
/-- Behind the slot that is found. -/
structure Mid (s : Sl) (x : Int) : Prop where
  w : Wf1 s (allS s) (fun i => i = x)
  f : FreeAt s x
theorem perm_out {s : Sl} {p : Nat} {y c : List Int} {x : Int} (hp : p < s.caches.length) (hc : s.caches.getD p [] = c) (hx : ∀ z, c.count z = y.count z + [x].count z) : (allS s).Perm (x :: allS { s with caches := s.caches.set p y }) := by
  rw [List.perm_iff_count]
  intro z
  have h1 := flat_count s.caches z y p hp
  have h2 := hx z
  rw [hc] at h1
  have h3 : (x :: allS { s with caches := s.caches.set p y }).count z = [x].count z + (allS { s with caches := s.caches.set p y }).count z := by
    rw [← List.count_append]; rfl
  rw [h3]
  simp only [allS, List.count_append] at h1 ⊢
  omega
theorem slotT_some {s : Sl} {p : Nat} {x : Int} (h : Wf s) (hp : p < s.caches.length) (hs : (slotT s p).2 = some x) : Mid (slotT s p).1 x ∧ (slotT s p).1.limit = s.limit ∧ (slotT s p).1.caches.length = s.caches.length ∧ (∀ i, i < s.gens.length → aliveAt (slotT s p).1 i = aliveAt s i ∧ genAt (slotT s p).1 i = genAt s i) ∧ s.gens.length ≤ (slotT s p).1.gens.length ∧ (∀ i, s.gens.length ≤ i → genAt (slotT s p).1 i = 0) ∧ liveS (slotT s p).1 = liveS s := by
  have hz : ∀ i, s.gens.length ≤ i → genAt s i = 0 := fun i hi => by rw [genAt, List.getD_eq_getElem?_getD, List.getElem?_eq_none hi]; rfl
  unfold slotT at hs ⊢
  split
  · rename_i y hy
    rw [hy] at hs
    injection hs with hs
    subst hs
    obtain ⟨t, ht⟩ : ∃ t, s.caches.getD p [] = t ++ [y] := by
      obtain ⟨ys, hys⟩ := List.getLast?_eq_some_iff.1 hy
      exact ⟨ys, hys⟩
    have hd : (s.caches.getD p []).dropLast = t := by rw [ht, List.dropLast_concat]
    have hpm := perm_out (s := s) (p := p) (y := t) (x := y) hp ht (fun z => by rw [List.count_append])
    have h1 := (Wf1.perm h hpm).out
    have hcl := h.cl _ (mem_getD' hp)
    rw [ht, List.length_append, List.length_singleton] at hcl
    refine ⟨⟨?_, h1.2⟩, rfl, by simp [popS], fun i _ => ⟨rfl, rfl⟩, Nat.le_refl _, hz, rfl⟩
    have := h1.1.lists (caches := s.caches.set p t) (free := s.free) (by simp) (set_len h.cl (by omega))
    simp only [popS, hd]
    exact this
  · rename_i hn
    rw [hn] at hs
    simp only at hs
    split
    · rename_i hg
      rw [if_pos hg] at hs
      injection hs with hs
      subst hs
      have hga : s.alive.length = s.gens.length := h.a
      have hA : ∀ i, aliveAt (growS s) i = if i = s.gens.length then false else aliveAt s i := by
        intro i
        simp only [aliveAt, growS, List.getD_eq_getElem?_getD]
        by_cases hi : i < s.alive.length
        · rw [List.getElem?_append_left hi, if_neg (by omega)]
        · rw [List.getElem?_append_right (by omega), List.getElem?_eq_none (l := s.alive) (by omega)]
          split
          · rename_i e; rw [e, hga, Nat.sub_self]; rfl
          · rename_i e
            have : i - s.alive.length ≠ 0 := by omega
            obtain ⟨m, hm⟩ := Nat.exists_eq_succ_of_ne_zero this
            rw [hm]; rfl
      have hG : ∀ i, genAt (growS s) i = genAt s i := by
        intro i
        simp only [genAt, growS, List.getD_eq_getElem?_getD]
        by_cases hi : i < s.gens.length
        · rw [List.getElem?_append_left hi]
        · rw [List.getElem?_append_right (by omega), List.getElem?_eq_none (l := s.gens) (by omega)]
          cases i - s.gens.length with
          | zero => rfl
          | succ m => rfl
      have hgl : (growS s).gens.length = s.gens.length + 1 := by simp [growS]
      have hal : (growS s).alive.length = s.alive.length + 1 := by simp [growS]
      refine ⟨⟨⟨h.l0, h.l1, h.c0, h.c1, by rw [hgl]; show ((s.gens.length + 1 : Nat) : Int) ≤ s.limit; omega, by rw [hgl, hal, hga], h.cl, fun i hi he => ?_, fun i hi => ?_, h.nd, fun x hx => ?_, fun i hi ha hg' => ?_⟩, ?_⟩, rfl, rfl, fun i hi => ⟨by rw [hA, if_neg (by omega)], hG i⟩, by rw [hgl]; omega, fun i hi => (hG i).trans (hz i hi), ?_⟩
      · have hi' : i < s.gens.length + 1 := by rw [← hgl]; exact hi
        rw [hG]; exact h.gb i (by have : (i : Int) ≠ s.gens.length := he; omega) (fun f => f)
      · rw [hG]
        by_cases hi2 : i < s.gens.length
        · exact h.gm i hi2
        · rw [hz i (by omega)]; omega
      · obtain ⟨⟨f0, f1, f2, f3⟩, _⟩ := h.fr x hx
        have hx' : x.toNat ≠ s.gens.length := by omega
        refine ⟨⟨f0, by rw [hgl]; omega, by rw [hA, if_neg hx']; exact f2, by rw [hG]; exact f3⟩, by omega⟩
      · by_cases hi2 : i < s.gens.length
        · rw [hA, if_neg (by omega)] at ha
          rw [hG] at hg'
          exact (h.al i hi2 ha hg').imp id (fun f => f.elim)
        · have hi' : i < s.gens.length + 1 := by rw [← hgl]; exact hi
          refine .inr ?_
          have : i = s.gens.length := by omega
          rw [this]
      · refine ⟨by omega, by rw [hgl]; omega, ?_, ?_⟩
        · rw [hA, Int.toNat_natCast, if_pos rfl]
        · rw [hG, Int.toNat_natCast, hz _ (Nat.le_refl _)]; omega
      · simp [liveS, growS]
    · rename_i hg
      rw [if_neg hg] at hs
      split
      · rename_i q hq
        rw [hq] at hs
        injection hs with hs
        subst hs
        have hqs : q < s.caches.length ∧ s.caches.getD q [] ≠ [] := by
          have key : ∀ fuel i, stealFrom s p fuel i = some q → q < s.caches.length ∧ s.caches.getD q [] ≠ [] := by
            intro fuel
            induction fuel with
            | zero => intro i h; cases h
            | succ n ih =>
              intro i h
              rw [stealFrom] at h
              split at h
              · exact ih _ h
              · rename_i hn
                injection h with h
                subst h
                exact ⟨Nat.mod_lt _ (by omega), hn⟩
          exact key _ _ hq
        obtain ⟨y, t, hyt⟩ := List.exists_cons_of_ne_nil hqs.2
        have hpm := perm_out (s := s) (p := q) (y := t) (x := y) hqs.1 hyt (fun z => by rw [show y :: t = [y] ++ t from rfl, List.count_append]; omega)
        have h1 := (Wf1.perm h hpm).out
        have hcl := h.cl _ (mem_getD' hqs.1)
        rw [hyt, List.length_cons] at hcl
        rw [hyt]
        refine ⟨⟨?_, h1.2⟩, rfl, by simp [robS], fun i _ => ⟨rfl, rfl⟩, Nat.le_refl _, hz, rfl⟩
        have := h1.1.lists (caches := s.caches.set q t) (free := s.free) (by simp) (set_len h.cl (by omega))
        simp only [robS, hyt, List.tail_cons]
        exact this
      · rename_i hq
        rw [hq] at hs
        cases hs
end Go.Proofs.Ytnglgjegkjfnaaa
