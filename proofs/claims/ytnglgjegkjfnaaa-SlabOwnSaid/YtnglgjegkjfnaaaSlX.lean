import Derived.Test.YtnglgjegkjfnaaaSlH
set_option linter.unusedSimpArgs false
set_option linter.unusedVariables false
namespace Go.Proofs.Ytnglgjegkjfnaaa
open Go.RowKit Go.Proofs.YtnglgjegkjfnaaaW.PrintWords Go.Proofs.YtnglgjegkjfnaaaW.PrintMore
/-! What a slab's calls do, in plain words. -/
def refillS (s : Sl) (p : Nat) : Sl := { s with caches := s.caches.set p (s.free.take 16), free := s.free.drop 16 }
def stealFrom (s : Sl) (p : Nat) : Nat → Nat → Option Nat
  | 0, _ => none
  | fuel + 1, i => if s.caches.getD ((p + i) % s.caches.length) [] = [] then stealFrom s p fuel (i + 1) else some ((p + i) % s.caches.length)
def stealAt (s : Sl) (p : Nat) : Option Nat := stealFrom s p (s.caches.length - 1) 1
def popS (s : Sl) (p : Nat) : Sl := { s with caches := s.caches.set p (s.caches.getD p []).dropLast }
def growS (s : Sl) : Sl := { s with gens := s.gens ++ [0], alive := s.alive ++ [false] }
def robS (s : Sl) (q : Nat) : Sl := { s with caches := s.caches.set q (s.caches.getD q []).tail }
/-- A slot that can be given, out of a slab whose p-th cache is filled as it may be. -/
def slotT (s : Sl) (p : Nat) : Sl × Option Int :=
  match (s.caches.getD p []).getLast? with
  | some x => (popS s p, some x)
  | none => if s.gens.length < s.limit then (growS s, some s.gens.length) else
    match stealAt s p with
    | some q => (robS s q, some ((s.caches.getD q []).headD 0))
    | none => (s, none)
def fillS (s : Sl) (p : Nat) : Sl := if s.caches.getD p [] = [] then refillS s p else s
def slotS (s : Sl) (p : Nat) : Sl × Option Int := slotT (fillS s p) p
def givenS (s : Sl) (x : Nat) : Sl := { s with gens := s.gens.set x (s.gens.getD x 0 + 1), alive := s.alive.set x true }
/-- Take: the slab, the slot, its generation, the error. -/
def takeS (s : Sl) (p : Int) : Sl × Int × Int × Int :=
  if procS s p then
    match slotS s p.toNat with
    | (s1, some x) => (givenS s1 x.toNat, x, s1.gens.getD x.toNat 0 + 1, 0)
    | (s1, none) => (s1, 0, 0, 2)
  else (s, 0, 0, 1)
def giveBack (s : Sl) (p : Nat) (x : Int) : Sl :=
  let c := s.caches.getD p [] ++ [x]
  if c.length = 64 then { s with free := s.free ++ c.take 32, caches := s.caches.set p (c.drop 32) } else { s with caches := s.caches.set p c }
def giveS (s : Sl) (p x g : Int) : Sl × Int :=
  if procS s p then
    if aliveS s x g then
      if g = 2147483647 then ({ s with alive := s.alive.set x.toNat false }, 0) else (giveBack { s with alive := s.alive.set x.toNat false } p.toNat x, 0)
    else (s, 41)
  else (s, 1)
def flushS (s : Sl) (p : Int) : Sl × Int :=
  if procS s p then ({ s with free := s.free ++ s.caches.getD p.toNat [], caches := s.caches.set p.toNat [] }, 0) else (s, 1)
/-- What the walks ask of a slab. -/
structure Ok (s : Sl) : Prop where
  l0 : 0 < s.limit
  l1 : s.limit ≤ 4096
  c0 : 0 < s.caches.length
  c1 : s.caches.length ≤ 64
  g : (s.gens.length : Int) ≤ s.limit
  a : s.alive.length = s.gens.length
  gb : ∀ x ∈ s.gens, 0 ≤ x ∧ x ≤ 2147483647
  fl : s.free.length ≤ 4096
  cl : ∀ c ∈ s.caches, c.length ≤ 64
  fb : ∀ x ∈ s.free, 0 ≤ x ∧ x < s.gens.length
  cb : ∀ c ∈ s.caches, ∀ x ∈ c, 0 ≤ x ∧ x < s.gens.length
theorem Ok.bd {s : Sl} (h : Ok s) : Bd s := by
  have h1 := h.l1
  have h2 := h.g
  have h3 := h.a
  have h4 := h.fl
  have h5 := h.c1
  exact ⟨by omega, by omega, by omega, by omega, fun x hx => by have := h.cl x hx; omega⟩
theorem procS_iff {s : Sl} {p : Int} : procS s p = true ↔ 0 ≤ p ∧ p < s.caches.length := by simp [procS]
end Go.Proofs.Ytnglgjegkjfnaaa
set_option linter.unusedSimpArgs false
set_option linter.unusedVariables false
namespace Go.Proofs.Ytnglgjegkjfnaaa
/-! The plain law of a slab: what every call keeps. -/
def allS (s : Sl) : List Int := s.caches.flatten ++ s.free
def aliveAt (s : Sl) (i : Nat) : Bool := s.alive.getD i false
def genAt (s : Sl) (i : Nat) : Int := s.gens.getD i 0
def FreeAt (s : Sl) (x : Int) : Prop := 0 ≤ x ∧ x < s.gens.length ∧ aliveAt s x.toNat = false ∧ genAt s x.toNat < 2147483647
/-- L: the slots that stand in the lists; ex: a slot that stands in none for now. -/
structure Wf1 (s : Sl) (L : List Int) (ex : Int → Prop) : Prop where
  l0 : 1 ≤ s.limit
  l1 : s.limit ≤ 4096
  c0 : 1 ≤ s.caches.length
  c1 : s.caches.length ≤ 64
  g : (s.gens.length : Int) ≤ s.limit
  a : s.alive.length = s.gens.length
  cl : ∀ c ∈ s.caches, c.length < 64
  gb : ∀ i : Nat, i < s.gens.length → ¬ ex i → 1 ≤ genAt s i
  gm : ∀ i : Nat, i < s.gens.length → 0 ≤ genAt s i ∧ genAt s i ≤ 2147483647
  nd : L.Nodup
  fr : ∀ x ∈ L, FreeAt s x ∧ ¬ ex x
  al : ∀ i : Nat, i < s.gens.length → aliveAt s i = false → genAt s i < 2147483647 → (i : Int) ∈ L ∨ ex i
def Wf (s : Sl) : Prop := Wf1 s (allS s) (fun _ => False)
theorem getD_set_self {α : Type} {l : List α} {i : Nat} {x d : α} (h : i < l.length) : (l.set i x).getD i d = x := by simp [List.getD_eq_getElem?_getD, h]
theorem getD_set_ne {α : Type} {l : List α} {i j : Nat} {x d : α} (h : i ≠ j) : (l.set i x).getD j d = l.getD j d := by simp [List.getD_eq_getElem?_getD, List.getElem?_set_ne h]
theorem flat_count (l : List (List Int)) (x : Int) (y : List Int) : ∀ p, p < l.length → (l.set p y).flatten.count x + (l.getD p []).count x = l.flatten.count x + y.count x := by
  induction l with
  | nil => intro p h; simp at h
  | cons a l ih =>
    intro p h
    cases p with
    | zero => simp [List.count_append]; omega
    | succ p =>
      have := ih p (by simpa using h)
      simp only [List.set_cons_succ, List.flatten_cons, List.count_append, List.getD_cons_succ]
      omega
theorem mem_getD' {l : List (List Int)} {p : Nat} (h : p < l.length) : l.getD p [] ∈ l := by
  rw [List.getD_eq_getElem?_getD, List.getElem?_eq_getElem h]
  exact List.getElem_mem h
namespace Wf1
variable {s : Sl} {L L' : List Int} {ex : Int → Prop}
theorem perm (h : Wf1 s L ex) (hp : L.Perm L') : Wf1 s L' ex :=
  ⟨h.l0, h.l1, h.c0, h.c1, h.g, h.a, h.cl, h.gb, h.gm, hp.nodup_iff.1 h.nd, fun x hx => h.fr x (hp.mem_iff.2 hx), fun i hi ha hg => (h.al i hi ha hg).imp hp.mem_iff.1 id⟩
theorem lists (h : Wf1 s L ex) {caches : List (List Int)} {free : List Int} (hc : caches.length = s.caches.length) (hl : ∀ c ∈ caches, c.length < 64) : Wf1 { s with caches := caches, free := free } L ex :=
  ⟨h.l0, h.l1, by show 1 ≤ caches.length; rw [hc]; exact h.c0, by show caches.length ≤ 64; rw [hc]; exact h.c1, h.g, h.a, hl, h.gb, h.gm, h.nd, h.fr, h.al⟩
/-- The slot at the list's head is taken out. -/
theorem out {x : Int} (h : Wf1 s (x :: L) (fun _ => False)) : Wf1 s L (fun i => i = x) ∧ FreeAt s x := by
  have hn := List.nodup_cons.1 h.nd
  refine ⟨⟨h.l0, h.l1, h.c0, h.c1, h.g, h.a, h.cl, fun i hi _ => h.gb i hi (fun f => f), h.gm, hn.2, fun y hy => ⟨(h.fr y (List.mem_cons_of_mem _ hy)).1, fun e => hn.1 (e ▸ hy)⟩, fun i hi ha hg => ?_⟩, (h.fr x List.mem_cons_self).1⟩
  rcases h.al i hi ha hg with hm | hm
  · rcases List.mem_cons.1 hm with rfl | hm
    · exact .inr rfl
    · exact .inl hm
  · exact hm.elim
end Wf1
theorem set_len {caches : List (List Int)} {p : Nat} {y : List Int} (hl : ∀ c ∈ caches, c.length < 64) (hy : y.length < 64) : ∀ c ∈ caches.set p y, c.length < 64 := fun c hc => by
  rcases List.mem_or_eq_of_mem_set hc with hc | rfl
  · exact hl c hc
  · exact hy
theorem Wf.ok {s : Sl} (h : Wf s) : Ok s := by
  have hn : (allS s).length ≤ s.gens.length := by
    have key : ∀ (n : Nat) (l : List Int), l.Nodup → (∀ x ∈ l, 0 ≤ x ∧ x < n) → l.length ≤ n := by
      intro n
      induction n with
      | zero =>
        intro l _ hl
        cases l with
        | nil => simp
        | cons x l => have := hl x List.mem_cons_self; omega
      | succ n ih =>
        intro l hd hl
        by_cases hm : (n : Int) ∈ l
        · have h1 := List.length_erase_of_mem hm
          have h2 := ih (l.erase n) (hd.erase _) (fun x hx => by
            have h3 := (hd.mem_erase_iff).1 hx
            have := hl x h3.2
            have h4 := h3.1
            omega)
          omega
        · have := ih l hd (fun x hx => by
            have h3 := hl x hx
            have h4 : x ≠ n := fun e => hm (e ▸ hx)
            omega)
          omega
    exact key _ _ h.nd (fun x hx => ⟨(h.fr x hx).1.1, (h.fr x hx).1.2.1⟩)
  have hg := h.g
  have h1 := h.l1
  have hfl : s.free.length ≤ (allS s).length := by simp [allS]
  refine ⟨h.l0, h.l1, h.c0, h.c1, h.g, h.a, fun x hx => ?_, by omega, fun c hc => Nat.le_of_lt (h.cl c hc), fun x hx => ?_, fun c hc x hx => ?_⟩
  · obtain ⟨i, hi, rfl⟩ := List.getElem_of_mem hx
    have := h.gm i hi
    rw [genAt, List.getD_eq_getElem?_getD, List.getElem?_eq_getElem hi] at this
    exact this
  · have := (h.fr x (List.mem_append_right _ hx)).1
    exact ⟨this.1, this.2.1⟩
  · have := (h.fr x (List.mem_append_left _ (List.mem_flatten_of_mem hc hx))).1
    exact ⟨this.1, this.2.1⟩
theorem new_wf {limit procs : Int} (h : okNew limit procs = true) : Wf (newS limit procs) := by
  obtain ⟨h0, h1, h2, h3⟩ := okNew_iff.1 h
  have hall : allS (newS limit procs) = [] := by
    show (List.replicate procs.toNat []).flatten ++ [] = []
    simp
  refine ⟨h0, h1, ?_, ?_, ?_, rfl, fun c hc => ?_, fun i hi => by simp [newS] at hi, fun i hi => by simp [newS] at hi, by rw [hall]; exact List.nodup_nil, fun x hx => (by rw [hall] at hx; cases hx), fun i hi => by simp [newS] at hi⟩
  · simp [newS]; omega
  · simp [newS]; omega
  · simp [newS]; omega
  · simp only [newS] at hc
    rw [List.eq_of_mem_replicate hc]; decide
theorem fill_wf {s : Sl} {p : Nat} (h : Wf s) (hp : p < s.caches.length) : Wf (fillS s p) := by
  unfold fillS
  split
  · rename_i he
    refine (Wf1.lists h (caches := s.caches.set p (s.free.take 16)) (free := s.free.drop 16) (by simp) (set_len h.cl (by rw [List.length_take]; omega))).perm ?_
    rw [List.perm_iff_count]
    intro x
    have h1 := flat_count s.caches x (s.free.take 16) p hp
    have h2 : s.free.count x = (s.free.take 16).count x + (s.free.drop 16).count x := by rw [← List.count_append, List.take_append_drop]
    rw [he] at h1
    simp only [allS, refillS, List.count_append, List.count_nil] at h1 ⊢
    omega
  · exact h
/-- Behind the slot that is found. -/
structure Mid (s : Sl) (x : Int) : Prop where
  w : Wf1 s (allS s) (fun i => i = x)
  f : FreeAt s x
theorem perm_out {s : Sl} {p : Nat} {y c : List Int} {x : Int} (hp : p < s.caches.length) (hc : s.caches.getD p [] = c) (hx : ∀ z, c.count z = y.count z + [x].count z) : (allS s).Perm (x :: allS { s with caches := s.caches.set p y }) := by
  rw [List.perm_iff_count]
  intro z
  have h1 := flat_count s.caches z y p hp
  have h2 := hx z
  rw [hc] at h1
  have h3 : (x :: allS { s with caches := s.caches.set p y }).count z = [x].count z + (allS { s with caches := s.caches.set p y }).count z := by
    rw [← List.count_append]; rfl
  rw [h3]
  simp only [allS, List.count_append] at h1 ⊢
  omega
theorem slotT_some {s : Sl} {p : Nat} {x : Int} (h : Wf s) (hp : p < s.caches.length) (hs : (slotT s p).2 = some x) : Mid (slotT s p).1 x ∧ (slotT s p).1.limit = s.limit ∧ (slotT s p).1.caches.length = s.caches.length ∧ (∀ i, i < s.gens.length → aliveAt (slotT s p).1 i = aliveAt s i ∧ genAt (slotT s p).1 i = genAt s i) ∧ s.gens.length ≤ (slotT s p).1.gens.length ∧ (∀ i, s.gens.length ≤ i → genAt (slotT s p).1 i = 0) ∧ liveS (slotT s p).1 = liveS s := by
  have hz : ∀ i, s.gens.length ≤ i → genAt s i = 0 := fun i hi => by rw [genAt, List.getD_eq_getElem?_getD, List.getElem?_eq_none hi]; rfl
  unfold slotT at hs ⊢
  split
  · rename_i y hy
    rw [hy] at hs
    injection hs with hs
    subst hs
    obtain ⟨t, ht⟩ : ∃ t, s.caches.getD p [] = t ++ [y] := by
      obtain ⟨ys, hys⟩ := List.getLast?_eq_some_iff.1 hy
      exact ⟨ys, hys⟩
    have hd : (s.caches.getD p []).dropLast = t := by rw [ht, List.dropLast_concat]
    have hpm := perm_out (s := s) (p := p) (y := t) (x := y) hp ht (fun z => by rw [List.count_append])
    have h1 := (Wf1.perm h hpm).out
    have hcl := h.cl _ (mem_getD' hp)
    rw [ht, List.length_append, List.length_singleton] at hcl
    refine ⟨⟨?_, h1.2⟩, rfl, by simp [popS], fun i _ => ⟨rfl, rfl⟩, Nat.le_refl _, hz, rfl⟩
    have := h1.1.lists (caches := s.caches.set p t) (free := s.free) (by simp) (set_len h.cl (by omega))
    simp only [popS, hd]
    exact this
  · rename_i hn
    rw [hn] at hs
    simp only at hs
    split
    · rename_i hg
      rw [if_pos hg] at hs
      injection hs with hs
      subst hs
      have hga : s.alive.length = s.gens.length := h.a
      have hA : ∀ i, aliveAt (growS s) i = if i = s.gens.length then false else aliveAt s i := by
        intro i
        simp only [aliveAt, growS, List.getD_eq_getElem?_getD]
        by_cases hi : i < s.alive.length
        · rw [List.getElem?_append_left hi, if_neg (by omega)]
        · rw [List.getElem?_append_right (by omega), List.getElem?_eq_none (l := s.alive) (by omega)]
          split
          · rename_i e; rw [e, hga, Nat.sub_self]; rfl
          · rename_i e
            have : i - s.alive.length ≠ 0 := by omega
            obtain ⟨m, hm⟩ := Nat.exists_eq_succ_of_ne_zero this
            rw [hm]; rfl
      have hG : ∀ i, genAt (growS s) i = genAt s i := by
        intro i
        simp only [genAt, growS, List.getD_eq_getElem?_getD]
        by_cases hi : i < s.gens.length
        · rw [List.getElem?_append_left hi]
        · rw [List.getElem?_append_right (by omega), List.getElem?_eq_none (l := s.gens) (by omega)]
          cases i - s.gens.length with
          | zero => rfl
          | succ m => rfl
      have hgl : (growS s).gens.length = s.gens.length + 1 := by simp [growS]
      have hal : (growS s).alive.length = s.alive.length + 1 := by simp [growS]
      refine ⟨⟨⟨h.l0, h.l1, h.c0, h.c1, by rw [hgl]; show ((s.gens.length + 1 : Nat) : Int) ≤ s.limit; omega, by rw [hgl, hal, hga], h.cl, fun i hi he => ?_, fun i hi => ?_, h.nd, fun x hx => ?_, fun i hi ha hg' => ?_⟩, ?_⟩, rfl, rfl, fun i hi => ⟨by rw [hA, if_neg (by omega)], hG i⟩, by rw [hgl]; omega, fun i hi => (hG i).trans (hz i hi), ?_⟩
      · have hi' : i < s.gens.length + 1 := by rw [← hgl]; exact hi
        rw [hG]; exact h.gb i (by have : (i : Int) ≠ s.gens.length := he; omega) (fun f => f)
      · rw [hG]
        by_cases hi2 : i < s.gens.length
        · exact h.gm i hi2
        · rw [hz i (by omega)]; omega
      · obtain ⟨⟨f0, f1, f2, f3⟩, _⟩ := h.fr x hx
        have hx' : x.toNat ≠ s.gens.length := by omega
        refine ⟨⟨f0, by rw [hgl]; omega, by rw [hA, if_neg hx']; exact f2, by rw [hG]; exact f3⟩, by omega⟩
      · by_cases hi2 : i < s.gens.length
        · rw [hA, if_neg (by omega)] at ha
          rw [hG] at hg'
          exact (h.al i hi2 ha hg').imp id (fun f => f.elim)
        · have hi' : i < s.gens.length + 1 := by rw [← hgl]; exact hi
          refine .inr ?_
          have : i = s.gens.length := by omega
          rw [this]
      · refine ⟨by omega, by rw [hgl]; omega, ?_, ?_⟩
        · rw [hA, Int.toNat_natCast, if_pos rfl]
        · rw [hG, Int.toNat_natCast, hz _ (Nat.le_refl _)]; omega
      · simp [liveS, growS]
    · rename_i hg
      rw [if_neg hg] at hs
      split
      · rename_i q hq
        rw [hq] at hs
        injection hs with hs
        subst hs
        have hqs : q < s.caches.length ∧ s.caches.getD q [] ≠ [] := by
          have key : ∀ fuel i, stealFrom s p fuel i = some q → q < s.caches.length ∧ s.caches.getD q [] ≠ [] := by
            intro fuel
            induction fuel with
            | zero => intro i h; cases h
            | succ n ih =>
              intro i h
              rw [stealFrom] at h
              split at h
              · exact ih _ h
              · rename_i hn
                injection h with h
                subst h
                exact ⟨Nat.mod_lt _ (by omega), hn⟩
          exact key _ _ hq
        obtain ⟨y, t, hyt⟩ := List.exists_cons_of_ne_nil hqs.2
        have hpm := perm_out (s := s) (p := q) (y := t) (x := y) hqs.1 hyt (fun z => by rw [show y :: t = [y] ++ t from rfl, List.count_append]; omega)
        have h1 := (Wf1.perm h hpm).out
        have hcl := h.cl _ (mem_getD' hqs.1)
        rw [hyt, List.length_cons] at hcl
        rw [hyt]
        refine ⟨⟨?_, h1.2⟩, rfl, by simp [robS], fun i _ => ⟨rfl, rfl⟩, Nat.le_refl _, hz, rfl⟩
        have := h1.1.lists (caches := s.caches.set q t) (free := s.free) (by simp) (set_len h.cl (by omega))
        simp only [robS, hyt, List.tail_cons]
        exact this
      · rename_i hq
        rw [hq] at hs
        cases hs
end Go.Proofs.Ytnglgjegkjfnaaa
set_option linter.unusedSimpArgs false
set_option linter.unusedVariables false
namespace Go.Proofs.Ytnglgjegkjfnaaa
/-! What Take, Give, Flush do to the book. -/
theorem getD_none {α : Type} {l : List α} {i : Nat} {d : α} (h : l.length ≤ i) : l.getD i d = d := by rw [List.getD_eq_getElem?_getD, List.getElem?_eq_none h]; rfl
theorem aliveS_iff {s : Sl} (ha : s.alive.length = s.gens.length) {x g : Int} : aliveS s x g = true ↔ 0 ≤ x ∧ aliveAt s x.toNat = true ∧ genAt s x.toNat = g := by
  simp only [aliveS, Bool.and_eq_true, decide_eq_true_eq]
  constructor
  · rintro ⟨h0, h1, h2, h3⟩
    exact ⟨h0, h2, h3⟩
  · rintro ⟨h0, h2, h3⟩
    refine ⟨h0, ?_, h2, h3⟩
    rcases Nat.lt_or_ge x.toNat s.alive.length with h | h
    · omega
    · rw [aliveAt, getD_none h] at h2
      cases h2
theorem countP_set_true : ∀ (l : List Bool) (i : Nat), i < l.length → l.getD i false = false → (l.set i true).countP id = l.countP id + 1
  | [], i, h, _ => by simp at h
  | a :: l, 0, _, h => by
    have : a = false := h
    subst this
    simp
  | a :: l, i + 1, h, h2 => by
    have := countP_set_true l i (by simpa using h) h2
    simp only [List.set_cons_succ, List.countP_cons, this]
    omega
theorem countP_set_false : ∀ (l : List Bool) (i : Nat), l.getD i false = true → (l.set i false).countP id + 1 = l.countP id
  | [], i, h => by simp at h
  | a :: l, 0, h => by
    have : a = true := h
    subst this
    simp
  | a :: l, i + 1, h => by
    have := countP_set_false l i h
    simp only [List.set_cons_succ, List.countP_cons, ← this]
    omega
structure TakeR (s s' : Sl) (x g : Int) : Prop where
  wf : Wf s'
  lim : s'.limit = s.limit
  cl : s'.caches.length = s.caches.length
  x0 : 0 ≤ x
  ge : g = genAt s x.toNat + 1
  gen : ∀ i, genAt s' i = if i = x.toNat then g else genAt s i
  al : ∀ y h, aliveS s' y h = true ↔ (y = x ∧ h = g) ∨ (y ≠ x ∧ aliveS s y h = true)
  live : liveS s' = liveS s + 1
  dead : aliveAt s x.toNat = false
  lt : x < s'.gens.length
theorem fill_same (s : Sl) (p : Nat) : (fillS s p).gens = s.gens ∧ (fillS s p).alive = s.alive ∧ (fillS s p).limit = s.limit ∧ (fillS s p).caches.length = s.caches.length := by
  unfold fillS
  split
  · simp [refillS]
  · simp
theorem given_wf {s : Sl} {x : Int} (h : Mid s x) : Wf (givenS s x.toNat) := by
  obtain ⟨f0, f1, f2, f3⟩ := h.f
  have hal : s.alive.length = s.gens.length := h.w.a
  have hgl : (givenS s x.toNat).gens.length = s.gens.length := by simp [givenS]
  have hA : ∀ i, aliveAt (givenS s x.toNat) i = if x.toNat = i then true else aliveAt s i := fun i => by
    unfold aliveAt givenS
    split
    · rename_i e; subst e; exact getD_set_self (by omega)
    · rename_i e; exact getD_set_ne e
  have hG : ∀ i, genAt (givenS s x.toNat) i = if x.toNat = i then genAt s x.toNat + 1 else genAt s i := fun i => by
    unfold genAt givenS
    split
    · rename_i e; subst e; exact getD_set_self (by omega)
    · rename_i e; exact getD_set_ne e
  have hm := h.w.gm x.toNat (by omega)
  refine ⟨h.w.l0, h.w.l1, h.w.c0, h.w.c1, by rw [hgl]; exact h.w.g, by rw [hgl]; simpa [givenS] using hal, h.w.cl, fun i hi _ => ?_, fun i hi => ?_, h.w.nd, fun y hy => ?_, fun i hi ha hg => .inl ?_⟩
  · rw [hG]
    split
    · omega
    · exact h.w.gb i (by omega) (by omega)
  · rw [hG]
    split
    · omega
    · exact h.w.gm i (by omega)
  · obtain ⟨⟨e0, e1, e2, e3⟩, hne⟩ := h.w.fr y hy
    have hxy : x.toNat ≠ y.toNat := by omega
    exact ⟨⟨e0, by rw [hgl]; exact e1, by rw [hA, if_neg hxy]; exact e2, by rw [hG, if_neg hxy]; exact e3⟩, fun f => f⟩
  · rw [hA] at ha
    rw [hG] at hg
    by_cases e : x.toNat = i
    · rw [if_pos e] at ha; cases ha
    · rw [if_neg e] at ha hg
      exact (h.w.al i (by omega) ha hg).resolve_right (by omega)
theorem take_some {s : Sl} {p : Nat} {x : Int} (h : Wf s) (hp : p < s.caches.length) (hs : (slotS s p).2 = some x) : TakeR s (givenS (slotS s p).1 x.toNat) x ((slotS s p).1.gens.getD x.toNat 0 + 1) := by
  obtain ⟨f1, f2, f3, f4⟩ := fill_same s p
  obtain ⟨hm, hl, hc, hsame, hge, hz, hlv⟩ := slotT_some (fill_wf h hp) (by rw [f4]; exact hp) hs
  have hsl : slotT (fillS s p) p = slotS s p := rfl
  rw [hsl] at hm hl hc hsame hge hz hlv
  generalize slotS s p = r at *
  have hal := hm.w.a
  obtain ⟨g0, g1, g2, g3⟩ := hm.f
  have hgen : ∀ i, genAt r.1 i = genAt s i := fun i => by
    rcases Nat.lt_or_ge i (fillS s p).gens.length with hi | hi
    · rw [(hsame i hi).2, genAt, genAt, f1]
    · rw [hz i hi]
      rw [f1] at hi
      exact (getD_none hi).symm
  have hali : ∀ i, i ≠ x.toNat → aliveAt r.1 i = aliveAt s i := fun i hne => by
    rcases Nat.lt_or_ge i (fillS s p).gens.length with hi | hi
    · rw [(hsame i hi).1, aliveAt, aliveAt, f2]
    · have h2 : aliveAt s i = false := getD_none (by rw [h.a]; rw [f1] at hi; exact hi)
      rw [h2]
      rcases Nat.lt_or_ge i r.1.gens.length with hi2 | hi2
      · cases ha : aliveAt r.1 i with
        | false => rfl
        | true =>
          -- a new slot beside x: there is none
          exfalso
          have h5 := congrArg List.length (show (fillS s p).alive = s.alive from f2)
          have hcount : r.1.alive.countP id = (fillS s p).alive.countP id := hlv
          -- the marks of the elder ones are the same, and one more is set
          have key : ∀ (a b : List Bool), (∀ j, j < a.length → b.getD j false = a.getD j false) → a.length ≤ b.length → (∃ j, a.length ≤ j ∧ b.getD j false = true) → a.countP id < b.countP id := by
            intro a
            induction a with
            | nil =>
              intro b _ _ ⟨j, _, hj⟩
              have : true ∈ b := by
                rw [List.getD_eq_getElem?_getD] at hj
                cases hb : b[j]? with
                | none => rw [hb] at hj; cases hj
                | some v => rw [hb] at hj; have : v = true := hj; subst this; exact List.mem_of_getElem? hb
              exact List.countP_pos_iff.2 ⟨true, this, rfl⟩
            | cons v a ih =>
              intro b hb hle ⟨j, hj, hjt⟩
              cases b with
              | nil => simp at hle
              | cons u b =>
                have h0 := hb 0 (by simp)
                have huv : u = v := h0
                subst huv
                have := ih b (fun j hj => hb (j + 1) (by simpa using hj)) (by simpa using hle) (by
                  cases j with
                  | zero => simp at hj
                  | succ j => exact ⟨j, by simpa using hj, hjt⟩)
                simp only [List.countP_cons]
                omega
          have := key (fillS s p).alive r.1.alive (fun j hj => (hsame j (by rw [← (fill_wf h hp).a]; exact hj)).1) (by rw [hal, (fill_wf h hp).a]; exact hge) ⟨i, by rw [(fill_wf h hp).a]; exact hi, ha⟩
          omega
      · exact getD_none (by rw [hal]; exact hi2)
  have hgx : genAt r.1 x.toNat = genAt s x.toNat := hgen _
  have hax : aliveAt s x.toNat = false := by
    rcases Nat.lt_or_ge x.toNat (fillS s p).gens.length with hi | hi
    · rw [← g2, (hsame _ hi).1, aliveAt, aliveAt, f2]
    · exact getD_none (by rw [h.a]; rw [f1] at hi; exact hi)
  have hW := given_wf hm
  refine ⟨hW, ?_, ?_, g0, ?_, fun i => ?_, fun y g => ?_, ?_, ?_, ?_⟩
  · show r.1.limit = s.limit
    rw [hl, f3]
  · show r.1.caches.length = s.caches.length
    rw [hc, f4]
  · show genAt r.1 x.toNat + 1 = _
    rw [hgx]
  · show (r.1.gens.set x.toNat _).getD i 0 = _
    split
    · rename_i e; subst e; exact getD_set_self (by omega)
    · rename_i e; rw [getD_set_ne (Ne.symm e)]; exact hgen i
  · rw [aliveS_iff hW.a, aliveS_iff h.a]
    show 0 ≤ y ∧ (r.1.alive.set x.toNat true).getD y.toNat false = true ∧ (r.1.gens.set x.toNat _).getD y.toNat 0 = g ↔ _
    by_cases e : y = x
    · subst e
      rw [getD_set_self (by omega), getD_set_self (by omega)]
      constructor
      · rintro ⟨_, _, h3⟩; exact .inl ⟨rfl, h3.symm⟩
      · rintro (⟨_, h3⟩ | ⟨h3, _⟩)
        · exact ⟨g0, rfl, h3.symm⟩
        · exact absurd rfl h3
    · constructor
      · rintro ⟨h1, h2, h3⟩
        have hne : x.toNat ≠ y.toNat := by omega
        rw [getD_set_ne hne] at h2 h3
        refine .inr ⟨e, h1, ?_, ?_⟩
        · rw [← hali y.toNat (Ne.symm hne)]; exact h2
        · rw [← hgen]; exact h3
      · rintro (⟨h3, _⟩ | ⟨_, h1, h2, h3⟩)
        · exact absurd h3 e
        · have hne : x.toNat ≠ y.toNat := by omega
          rw [getD_set_ne hne, getD_set_ne hne]
          refine ⟨h1, ?_, ?_⟩
          · show aliveAt r.1 y.toNat = true
            rw [hali y.toNat (Ne.symm hne)]; exact h2
          · show genAt r.1 y.toNat = g
            rw [hgen]; exact h3
  · show (r.1.alive.set x.toNat true).countP id = _
    rw [countP_set_true _ _ (by omega) g2]
    have : r.1.alive.countP id = s.alive.countP id := by rw [← f2]; exact hlv
    rw [this]; rfl
  · exact hax
  · show x < ((r.1.gens.set x.toNat _).length : Int)
    rw [List.length_set]; exact g1
/-- No slot: then each one is alive or its generations are used up. -/
theorem take_none {s : Sl} {p : Nat} (h : Wf s) (hp : p < s.caches.length) (hs : (slotS s p).2 = none) : Wf (slotS s p).1 ∧ (slotS s p).1.limit = s.limit ∧ (slotS s p).1.caches.length = s.caches.length ∧ (slotS s p).1.gens = s.gens ∧ (slotS s p).1.alive = s.alive ∧ (s.gens.length : Int) = s.limit ∧ allS s = [] := by
  obtain ⟨f1, f2, f3, f4⟩ := fill_same s p
  have hW := fill_wf h hp
  have hg := h.g
  have hcp := h.c0
  unfold slotS slotT at hs ⊢
  split
  · rename_i x hx; rw [hx] at hs; cases hs
  · rename_i hx
    rw [hx] at hs
    simp only at hs
    split
    · rename_i hg'; rw [if_pos hg'] at hs; cases hs
    · rename_i hg'
      rw [if_neg hg'] at hs
      split
      · rename_i q hq; rw [hq] at hs; cases hs
      · rename_i hq
        have hcx : (fillS s p).caches.getD p [] = [] := List.getLast?_eq_none_iff.1 hx
        have hfree : (fillS s p).free = [] := by
          unfold fillS at hcx ⊢
          split
          · rename_i he
            rw [if_pos he] at hcx
            have : (s.caches.set p (s.free.take 16)).getD p [] = s.free.take 16 := getD_set_self hp
            have h2 : s.free.take 16 = [] := by rw [← this]; exact hcx
            show s.free.drop 16 = []
            have h3 := congrArg List.length h2
            rw [List.length_take, List.length_nil] at h3
            exact List.drop_eq_nil_of_le (by omega)
          · rename_i he
            rw [if_neg he] at hcx
            exact absurd hcx he
        have hall : ∀ i, i < (fillS s p).caches.length → (fillS s p).caches.getD i [] = [] := by
          have key : ∀ fuel k, stealFrom (fillS s p) p fuel k = none → ∀ j, k ≤ j → j < k + fuel → (fillS s p).caches.getD ((p + j) % (fillS s p).caches.length) [] = [] := by
            intro fuel
            induction fuel with
            | zero => intro k _ j h1 h2; omega
            | succ n ih =>
              intro k h j h1 h2
              rw [stealFrom] at h
              split at h
              · rename_i he
                by_cases hjk : j = k
                · subst hjk; exact he
                · exact ih (k + 1) h j (by omega) (by omega)
              · cases h
          intro i hi
          by_cases hip : i = p
          · subst hip; exact hcx
          · have hcl : (fillS s p).caches.length = s.caches.length := f4
            generalize hn : (fillS s p).caches.length = n at *
            by_cases hlt : p < i
            · have := key _ _ hq (i - p) (by omega) (by rw [hn]; omega)
              rw [show p + (i - p) = i by omega, Nat.mod_eq_of_lt hi] at this
              exact this
            · have := key _ _ hq (n - p + i) (by omega) (by rw [hn]; omega)
              rw [show p + (n - p + i) = n + i by omega, Nat.add_mod_left, Nat.mod_eq_of_lt hi] at this
              exact this
        have hflat : (fillS s p).caches.flatten = [] := by
          rw [List.flatten_eq_nil_iff]
          intro c hc
          obtain ⟨i, hi, rfl⟩ := List.getElem_of_mem hc
          have := hall i hi
          rw [List.getD_eq_getElem?_getD, List.getElem?_eq_getElem hi] at this
          exact this
        have hallS : allS (fillS s p) = [] := by rw [allS, hflat, hfree]; rfl
        refine ⟨hW, f3, f4, f1, f2, ?_, ?_⟩
        · rw [f1, f3] at hg'
          omega
        · unfold fillS at hallS
          split at hallS
          · rename_i he
            -- the list was empty: nothing was moved
            have h1 : s.free = [] := by
              have h2 : (s.caches.set p (s.free.take 16)).getD p [] = s.free.take 16 := getD_set_self hp
              have h3 : (fillS s p).caches.getD p [] = s.free.take 16 := by rw [fillS, if_pos he]; exact h2
              rw [hcx] at h3
              have h4 := congrArg List.length h3
              rw [List.length_take, List.length_nil] at h4
              exact List.eq_nil_of_length_eq_zero (by omega)
            have h5 : (refillS s p).caches = s.caches := by
              show s.caches.set p (s.free.take 16) = s.caches
              rw [h1]
              apply List.ext_getElem?
              intro i
              by_cases hi : p = i
              · subst hi
                rw [List.getElem?_set_self hp]
                rw [List.getD_eq_getElem?_getD, List.getElem?_eq_getElem hp] at he
                rw [List.getElem?_eq_getElem hp]
                exact congrArg some he.symm
              · rw [List.getElem?_set_ne hi]
            rw [allS, h5] at hallS
            rw [allS, h1]
            have h6 : (refillS s p).free = [] := by show s.free.drop 16 = []; rw [h1]; rfl
            rw [h6] at hallS
            exact hallS
          · exact hallS
structure GiveR (s s' : Sl) (x g : Int) : Prop where
  wf : Wf s'
  lim : s'.limit = s.limit
  cl : s'.caches.length = s.caches.length
  gen : s'.gens = s.gens
  al : ∀ y h, aliveS s' y h = true ↔ aliveS s y h = true ∧ y ≠ x
  live : liveS s' + 1 = liveS s
theorem dead_core {s : Sl} {i : Nat} (h : Wf s) (ha : aliveAt s i = true) : Wf1 { s with alive := s.alive.set i false } (if genAt s i = 2147483647 then allS s else (i : Int) :: allS s) (fun _ => False) := by
  have hil : i < s.alive.length := by
    rcases Nat.lt_or_ge i s.alive.length with hi | hi
    · exact hi
    · rw [aliveAt, getD_none hi] at ha; cases ha
  have hA : ∀ j, aliveAt { s with alive := s.alive.set i false } j = if i = j then false else aliveAt s j := fun j => by
    unfold aliveAt
    split
    · rename_i e; subst e; exact getD_set_self hil
    · rename_i e; exact getD_set_ne e
  have hni : (i : Int) ∉ allS s := fun hm => by
    have := (h.fr _ hm).1.2.2.1
    rw [Int.toNat_natCast, ha] at this
    cases this
  have hgm := h.gm i (by have := h.a; omega)
  refine ⟨h.l0, h.l1, h.c0, h.c1, h.g, by show (s.alive.set i false).length = _; rw [List.length_set]; exact h.a, h.cl, h.gb, h.gm, ?_, fun y hy => ⟨?_, fun f => f⟩, fun j hj hd hg => .inl ?_⟩
  · split
    · exact h.nd
    · exact List.nodup_cons.2 ⟨hni, h.nd⟩
  · have hold : y ∈ allS s → FreeAt { s with alive := s.alive.set i false } y := fun hm => by
      obtain ⟨e0, e1, e2, e3⟩ := (h.fr y hm).1
      exact ⟨e0, e1, by rw [hA]; split; rfl; exact e2, e3⟩
    split at hy
    · exact hold hy
    · rename_i hg
      rcases List.mem_cons.1 hy with rfl | hy
      · have := h.a
        refine ⟨by omega, by show (i : Int) < (s.gens.length : Int); omega, by rw [hA, Int.toNat_natCast, if_pos rfl], ?_⟩
        show genAt s _ < _
        rw [Int.toNat_natCast]
        omega
      · exact hold hy
  · rw [hA] at hd
    have hg' : genAt s j < 2147483647 := hg
    by_cases e : i = j
    · subst e
      rw [if_neg (by omega)]
      exact List.mem_cons_self
    · rw [if_neg e] at hd
      have hm := (h.al j hj hd hg').resolve_right (fun f => f)
      split
      · exact hm
      · exact List.mem_cons_of_mem _ hm
theorem dead_al {s : Sl} {i : Nat} (h : s.alive.length = s.gens.length) (hi : i < s.alive.length) {caches : List (List Int)} {free : List Int} (y g : Int) : aliveS { s with alive := s.alive.set i false, caches := caches, free := free } y g = true ↔ aliveS s y g = true ∧ y ≠ i := by
  rw [aliveS_iff (by show (s.alive.set i false).length = _; rw [List.length_set]; exact h), aliveS_iff h]
  show 0 ≤ y ∧ (s.alive.set i false).getD y.toNat false = true ∧ genAt s y.toNat = g ↔ _
  by_cases e : y.toNat = i
  · rw [← e, getD_set_self (by omega)]
    constructor
    · rintro ⟨_, h2, _⟩; cases h2
    · rintro ⟨⟨h1, _, _⟩, h4⟩; exact absurd (by omega) h4
  · rw [getD_set_ne (Ne.symm e)]
    constructor
    · rintro ⟨h1, h2, h3⟩; exact ⟨⟨h1, h2, h3⟩, by omega⟩
    · rintro ⟨⟨h1, h2, h3⟩, _⟩; exact ⟨h1, h2, h3⟩
theorem give_alive {s : Sl} {p : Nat} {x g : Int} (h : Wf s) (hp : p < s.caches.length) (hal : aliveS s x g = true) : GiveR s (giveS s p x g).1 x g ∧ (giveS s p x g).2 = 0 := by
  have hpr : procS s p = true := procS_iff.2 ⟨by omega, by omega⟩
  obtain ⟨h0, h1, h2⟩ := (aliveS_iff h.a).1 hal
  obtain ⟨i, rfl⟩ := Int.eq_ofNat_of_zero_le h0
  rw [Int.toNat_natCast] at h1 h2
  have hil : i < s.alive.length := by
    rcases Nat.lt_or_ge i s.alive.length with hi | hi
    · exact hi
    · rw [aliveAt, getD_none hi] at h1; cases h1
  have hc := dead_core h h1
  have hlv : (s.alive.set i false).countP id + 1 = s.alive.countP id := countP_set_false _ _ h1
  unfold giveS
  rw [if_pos hpr, if_pos hal, Int.toNat_natCast, Int.toNat_natCast]
  split
  · rename_i hg
    rw [if_pos (h2.trans hg)] at hc
    exact ⟨⟨hc, rfl, rfl, rfl, fun y g' => dead_al h.a hil y g', hlv⟩, rfl⟩
  · rename_i hg
    rw [if_neg (by rw [h2]; exact hg)] at hc
    have hcl := h.cl _ (mem_getD' hp)
    unfold giveBack
    simp only
    split
    · rename_i h64
      refine ⟨⟨?_, rfl, by simp, rfl, fun y g' => dead_al h.a hil y g', hlv⟩, trivial⟩
      refine (Wf1.lists hc (caches := s.caches.set p ((s.caches.getD p [] ++ [(i : Int)]).drop 32)) (free := s.free ++ (s.caches.getD p [] ++ [(i : Int)]).take 32) (by simp) (set_len h.cl (by rw [List.length_drop]; omega))).perm ?_
      rw [List.perm_iff_count]
      intro z
      have h3 := flat_count s.caches z ((s.caches.getD p [] ++ [(i : Int)]).drop 32) p hp
      have h4 : (s.caches.getD p [] ++ [(i : Int)]).count z = ((s.caches.getD p [] ++ [(i : Int)]).take 32).count z + ((s.caches.getD p [] ++ [(i : Int)]).drop 32).count z := by rw [← List.count_append, List.take_append_drop]
      have h5 : ((i : Int) :: allS s).count z = [(i : Int)].count z + (allS s).count z := by rw [← List.count_append]; rfl
      rw [h5]
      rw [List.count_append] at h4
      simp only [allS, List.count_append] at h3 h4 ⊢
      omega
    · rename_i h64
      rw [List.length_append, List.length_singleton] at h64
      refine ⟨⟨?_, rfl, by simp, rfl, fun y g' => dead_al h.a hil y g', hlv⟩, trivial⟩
      refine (Wf1.lists hc (caches := s.caches.set p (s.caches.getD p [] ++ [(i : Int)])) (free := s.free) (by simp) (set_len h.cl (by rw [List.length_append, List.length_singleton]; omega))).perm ?_
      rw [List.perm_iff_count]
      intro z
      have h3 := flat_count s.caches z (s.caches.getD p [] ++ [(i : Int)]) p hp
      have h5 : ((i : Int) :: allS s).count z = [(i : Int)].count z + (allS s).count z := by rw [← List.count_append]; rfl
      rw [h5]
      simp only [allS, List.count_append] at h3 ⊢
      omega
theorem flush_wf {s : Sl} {p : Nat} (h : Wf s) (hp : p < s.caches.length) : Wf (flushS s p).1 ∧ (flushS s p).2 = 0 ∧ (flushS s p).1.gens = s.gens ∧ (flushS s p).1.alive = s.alive ∧ (flushS s p).1.limit = s.limit ∧ (flushS s p).1.caches = s.caches.set p [] ∧ (flushS s p).1.free = s.free ++ s.caches.getD p [] := by
  have hpr : procS s p = true := procS_iff.2 ⟨by omega, by omega⟩
  unfold flushS
  rw [if_pos hpr, Int.toNat_natCast]
  refine ⟨?_, rfl, rfl, rfl, rfl, rfl, rfl⟩
  refine (Wf1.lists h (caches := s.caches.set p []) (free := s.free ++ s.caches.getD p []) (by simp) (set_len h.cl (by decide))).perm ?_
  rw [List.perm_iff_count]
  intro z
  have h3 := flat_count s.caches z [] p hp
  simp only [allS, List.count_append, List.count_nil] at h3 ⊢
  omega
end Go.Proofs.Ytnglgjegkjfnaaa
