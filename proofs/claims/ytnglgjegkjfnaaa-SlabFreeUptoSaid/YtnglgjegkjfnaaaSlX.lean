import Derived.Test.YtnglgjegkjfnaaaSlW
namespace Go.Proofs.Ytnglgjegkjfnaaa
/-! What Take, Give, Flush do to the book. -/
theorem getD_none {α : Type} {l : List α} {i : Nat} {d : α} (h : l.length ≤ i) : l.getD i d = d := by rw [List.getD_eq_getElem?_getD, List.getElem?_eq_none h]; rfl
theorem aliveS_iff {s : Sl} (ha : s.alive.length = s.gens.length) {x g : Int} : aliveS s x g = true ↔ 0 ≤ x ∧ aliveAt s x.toNat = true ∧ genAt s x.toNat = g := by
  simp only [aliveS, Bool.and_eq_true, decide_eq_true_eq]
  constructor
  · rintro ⟨h0, h1, h2, h3⟩
    exact ⟨h0, h2, h3⟩
  · rintro ⟨h0, h2, h3⟩
    refine ⟨h0, ?_, h2, h3⟩
    rcases Nat.lt_or_ge x.toNat s.alive.length with h | h
    · omega
    · rw [aliveAt, getD_none h] at h2
      cases h2
theorem countP_set_true : ∀ (l : List Bool) (i : Nat), i < l.length → l.getD i false = false → (l.set i true).countP id = l.countP id + 1
  | [], i, h, _ => by simp at h
  | a :: l, 0, _, h => by
    have : a = false := h
    subst this
    simp
  | a :: l, i + 1, h, h2 => by
    have := countP_set_true l i (by simpa using h) h2
    simp only [List.set_cons_succ, List.countP_cons, this]
    omega
theorem countP_set_false : ∀ (l : List Bool) (i : Nat), l.getD i false = true → (l.set i false).countP id + 1 = l.countP id
  | [], i, h => by simp at h
  | a :: l, 0, h => by
    have : a = true := h
    subst this
    simp
  | a :: l, i + 1, h => by
    have := countP_set_false l i h
    simp only [List.set_cons_succ, List.countP_cons, ← this]
    omega
structure TakeR (s s' : Sl) (x g : Int) : Prop where
  wf : Wf s'
  lim : s'.limit = s.limit
  cl : s'.caches.length = s.caches.length
  x0 : 0 ≤ x
  ge : g = genAt s x.toNat + 1
  gen : ∀ i, genAt s' i = if i = x.toNat then g else genAt s i
  al : ∀ y h, aliveS s' y h = true ↔ (y = x ∧ h = g) ∨ (y ≠ x ∧ aliveS s y h = true)
  live : liveS s' = liveS s + 1
  dead : aliveAt s x.toNat = false
  lt : x < s'.gens.length
theorem fill_same (s : Sl) (p : Nat) : (fillS s p).gens = s.gens ∧ (fillS s p).alive = s.alive ∧ (fillS s p).limit = s.limit ∧ (fillS s p).caches.length = s.caches.length := by
  unfold fillS
  split
  · simp [refillS]
  · simp
theorem given_wf {s : Sl} {x : Int} (h : Mid s x) : Wf (givenS s x.toNat) := by
  obtain ⟨f0, f1, f2, f3⟩ := h.f
  have hal : s.alive.length = s.gens.length := h.w.a
  have hgl : (givenS s x.toNat).gens.length = s.gens.length := by simp [givenS]
  have hA : ∀ i, aliveAt (givenS s x.toNat) i = if x.toNat = i then true else aliveAt s i := fun i => by
    unfold aliveAt givenS
    split
    · rename_i e; subst e; exact getD_set_self (by omega)
    · rename_i e; exact getD_set_ne e
  have hG : ∀ i, genAt (givenS s x.toNat) i = if x.toNat = i then genAt s x.toNat + 1 else genAt s i := fun i => by
    unfold genAt givenS
    split
    · rename_i e; subst e; exact getD_set_self (by omega)
    · rename_i e; exact getD_set_ne e
  have hm := h.w.gm x.toNat (by omega)
  refine ⟨h.w.l0, h.w.l1, h.w.c0, h.w.c1, by rw [hgl]; exact h.w.g, by rw [hgl]; simpa [givenS] using hal, h.w.cl, fun i hi _ => ?_, fun i hi => ?_, h.w.nd, fun y hy => ?_, fun i hi ha hg => .inl ?_⟩
  · rw [hG]
    split
    · omega
    · exact h.w.gb i (by omega) (by omega)
  · rw [hG]
    split
    · omega
    · exact h.w.gm i (by omega)
  · obtain ⟨⟨e0, e1, e2, e3⟩, hne⟩ := h.w.fr y hy
    have hxy : x.toNat ≠ y.toNat := by omega
    exact ⟨⟨e0, by rw [hgl]; exact e1, by rw [hA, if_neg hxy]; exact e2, by rw [hG, if_neg hxy]; exact e3⟩, fun f => f⟩
  · rw [hA] at ha
    rw [hG] at hg
    by_cases e : x.toNat = i
    · rw [if_pos e] at ha; cases ha
    · rw [if_neg e] at ha hg
      exact (h.w.al i (by omega) ha hg).resolve_right (by omega)
theorem take_some {s : Sl} {p : Nat} {x : Int} (h : Wf s) (hp : p < s.caches.length) (hs : (slotS s p).2 = some x) : TakeR s (givenS (slotS s p).1 x.toNat) x ((slotS s p).1.gens.getD x.toNat 0 + 1) := by
  obtain ⟨f1, f2, f3, f4⟩ := fill_same s p
  obtain ⟨hm, hl, hc, hsame, hge, hz, hlv⟩ := slotT_some (fill_wf h hp) (by rw [f4]; exact hp) hs
  have hsl : slotT (fillS s p) p = slotS s p := rfl
  rw [hsl] at hm hl hc hsame hge hz hlv
  generalize slotS s p = r at *
  have hal := hm.w.a
  obtain ⟨g0, g1, g2, g3⟩ := hm.f
  have hgen : ∀ i, genAt r.1 i = genAt s i := fun i => by
    rcases Nat.lt_or_ge i (fillS s p).gens.length with hi | hi
    · rw [(hsame i hi).2, genAt, genAt, f1]
    · rw [hz i hi]
      rw [f1] at hi
      exact (getD_none hi).symm
  have hali : ∀ i, i ≠ x.toNat → aliveAt r.1 i = aliveAt s i := fun i hne => by
    rcases Nat.lt_or_ge i (fillS s p).gens.length with hi | hi
    · rw [(hsame i hi).1, aliveAt, aliveAt, f2]
    · have h2 : aliveAt s i = false := getD_none (by rw [h.a]; rw [f1] at hi; exact hi)
      rw [h2]
      rcases Nat.lt_or_ge i r.1.gens.length with hi2 | hi2
      · cases ha : aliveAt r.1 i with
        | false => rfl
        | true =>
          -- a new slot beside x: there is none
          exfalso
          have h5 := congrArg List.length (show (fillS s p).alive = s.alive from f2)
          have hcount : r.1.alive.countP id = (fillS s p).alive.countP id := hlv
          -- the marks of the elder ones are the same, and one more is set
          have key : ∀ (a b : List Bool), (∀ j, j < a.length → b.getD j false = a.getD j false) → a.length ≤ b.length → (∃ j, a.length ≤ j ∧ b.getD j false = true) → a.countP id < b.countP id := by
            intro a
            induction a with
            | nil =>
              intro b _ _ ⟨j, _, hj⟩
              have : true ∈ b := by
                rw [List.getD_eq_getElem?_getD] at hj
                cases hb : b[j]? with
                | none => rw [hb] at hj; cases hj
                | some v => rw [hb] at hj; have : v = true := hj; subst this; exact List.mem_of_getElem? hb
              exact List.countP_pos_iff.2 ⟨true, this, rfl⟩
            | cons v a ih =>
              intro b hb hle ⟨j, hj, hjt⟩
              cases b with
              | nil => simp at hle
              | cons u b =>
                have h0 := hb 0 (by simp)
                have huv : u = v := h0
                subst huv
                have := ih b (fun j hj => hb (j + 1) (by simpa using hj)) (by simpa using hle) (by
                  cases j with
                  | zero => simp at hj
                  | succ j => exact ⟨j, by simpa using hj, hjt⟩)
                simp only [List.countP_cons]
                omega
          have := key (fillS s p).alive r.1.alive (fun j hj => (hsame j (by rw [← (fill_wf h hp).a]; exact hj)).1) (by rw [hal, (fill_wf h hp).a]; exact hge) ⟨i, by rw [(fill_wf h hp).a]; exact hi, ha⟩
          omega
      · exact getD_none (by rw [hal]; exact hi2)
  have hgx : genAt r.1 x.toNat = genAt s x.toNat := hgen _
  have hax : aliveAt s x.toNat = false := by
    rcases Nat.lt_or_ge x.toNat (fillS s p).gens.length with hi | hi
    · rw [← g2, (hsame _ hi).1, aliveAt, aliveAt, f2]
    · exact getD_none (by rw [h.a]; rw [f1] at hi; exact hi)
  have hW := given_wf hm
  refine ⟨hW, ?_, ?_, g0, ?_, fun i => ?_, fun y g => ?_, ?_, ?_, ?_⟩
  · show r.1.limit = s.limit
    rw [hl, f3]
  · show r.1.caches.length = s.caches.length
    rw [hc, f4]
  · show genAt r.1 x.toNat + 1 = _
    rw [hgx]
  · show (r.1.gens.set x.toNat _).getD i 0 = _
    split
    · rename_i e; subst e; exact getD_set_self (by omega)
    · rename_i e; rw [getD_set_ne (Ne.symm e)]; exact hgen i
  · rw [aliveS_iff hW.a, aliveS_iff h.a]
    show 0 ≤ y ∧ (r.1.alive.set x.toNat true).getD y.toNat false = true ∧ (r.1.gens.set x.toNat _).getD y.toNat 0 = g ↔ _
    by_cases e : y = x
    · subst e
      rw [getD_set_self (by omega), getD_set_self (by omega)]
      constructor
      · rintro ⟨_, _, h3⟩; exact .inl ⟨rfl, h3.symm⟩
      · rintro (⟨_, h3⟩ | ⟨h3, _⟩)
        · exact ⟨g0, rfl, h3.symm⟩
        · exact absurd rfl h3
    · constructor
      · rintro ⟨h1, h2, h3⟩
        have hne : x.toNat ≠ y.toNat := by omega
        rw [getD_set_ne hne] at h2 h3
        refine .inr ⟨e, h1, ?_, ?_⟩
        · rw [← hali y.toNat (Ne.symm hne)]; exact h2
        · rw [← hgen]; exact h3
      · rintro (⟨h3, _⟩ | ⟨_, h1, h2, h3⟩)
        · exact absurd h3 e
        · have hne : x.toNat ≠ y.toNat := by omega
          rw [getD_set_ne hne, getD_set_ne hne]
          refine ⟨h1, ?_, ?_⟩
          · show aliveAt r.1 y.toNat = true
            rw [hali y.toNat (Ne.symm hne)]; exact h2
          · show genAt r.1 y.toNat = g
            rw [hgen]; exact h3
  · show (r.1.alive.set x.toNat true).countP id = _
    rw [countP_set_true _ _ (by omega) g2]
    have : r.1.alive.countP id = s.alive.countP id := by rw [← f2]; exact hlv
    rw [this]; rfl
  · exact hax
  · show x < ((r.1.gens.set x.toNat _).length : Int)
    rw [List.length_set]; exact g1
/-- No slot: then each one is alive or its generations are used up. -/
theorem take_none {s : Sl} {p : Nat} (h : Wf s) (hp : p < s.caches.length) (hs : (slotS s p).2 = none) : Wf (slotS s p).1 ∧ (slotS s p).1.limit = s.limit ∧ (slotS s p).1.caches.length = s.caches.length ∧ (slotS s p).1.gens = s.gens ∧ (slotS s p).1.alive = s.alive ∧ (s.gens.length : Int) = s.limit ∧ allS s = [] := by
  obtain ⟨f1, f2, f3, f4⟩ := fill_same s p
  have hW := fill_wf h hp
  have hg := h.g
  have hcp := h.c0
  unfold slotS slotT at hs ⊢
  split
  · rename_i x hx; rw [hx] at hs; cases hs
  · rename_i hx
    rw [hx] at hs
    simp only at hs
    split
    · rename_i hg'; rw [if_pos hg'] at hs; cases hs
    · rename_i hg'
      rw [if_neg hg'] at hs
      split
      · rename_i q hq; rw [hq] at hs; cases hs
      · rename_i hq
        have hcx : (fillS s p).caches.getD p [] = [] := List.getLast?_eq_none_iff.1 hx
        have hfree : (fillS s p).free = [] := by
          unfold fillS at hcx ⊢
          split
          · rename_i he
            rw [if_pos he] at hcx
            have : (s.caches.set p (s.free.take 16)).getD p [] = s.free.take 16 := getD_set_self hp
            have h2 : s.free.take 16 = [] := by rw [← this]; exact hcx
            show s.free.drop 16 = []
            have h3 := congrArg List.length h2
            rw [List.length_take, List.length_nil] at h3
            exact List.drop_eq_nil_of_le (by omega)
          · rename_i he
            rw [if_neg he] at hcx
            exact absurd hcx he
        have hall : ∀ i, i < (fillS s p).caches.length → (fillS s p).caches.getD i [] = [] := by
          have key : ∀ fuel k, stealFrom (fillS s p) p fuel k = none → ∀ j, k ≤ j → j < k + fuel → (fillS s p).caches.getD ((p + j) % (fillS s p).caches.length) [] = [] := by
            intro fuel
            induction fuel with
            | zero => intro k _ j h1 h2; omega
            | succ n ih =>
              intro k h j h1 h2
              rw [stealFrom] at h
              split at h
              · rename_i he
                by_cases hjk : j = k
                · subst hjk; exact he
                · exact ih (k + 1) h j (by omega) (by omega)
              · cases h
          intro i hi
          by_cases hip : i = p
          · subst hip; exact hcx
          · have hcl : (fillS s p).caches.length = s.caches.length := f4
            generalize hn : (fillS s p).caches.length = n at *
            by_cases hlt : p < i
            · have := key _ _ hq (i - p) (by omega) (by rw [hn]; omega)
              rw [show p + (i - p) = i by omega, Nat.mod_eq_of_lt hi] at this
              exact this
            · have := key _ _ hq (n - p + i) (by omega) (by rw [hn]; omega)
              rw [show p + (n - p + i) = n + i by omega, Nat.add_mod_left, Nat.mod_eq_of_lt hi] at this
              exact this
        have hflat : (fillS s p).caches.flatten = [] := by
          rw [List.flatten_eq_nil_iff]
          intro c hc
          obtain ⟨i, hi, rfl⟩ := List.getElem_of_mem hc
          have := hall i hi
          rw [List.getD_eq_getElem?_getD, List.getElem?_eq_getElem hi] at this
          exact this
        have hallS : allS (fillS s p) = [] := by rw [allS, hflat, hfree]; rfl
        refine ⟨hW, f3, f4, f1, f2, ?_, ?_⟩
        · rw [f1, f3] at hg'
          omega
        · unfold fillS at hallS
          split at hallS
          · rename_i he
            -- the list was empty: nothing was moved
            have h1 : s.free = [] := by
              have h2 : (s.caches.set p (s.free.take 16)).getD p [] = s.free.take 16 := getD_set_self hp
              have h3 : (fillS s p).caches.getD p [] = s.free.take 16 := by rw [fillS, if_pos he]; exact h2
              rw [hcx] at h3
              have h4 := congrArg List.length h3
              rw [List.length_take, List.length_nil] at h4
              exact List.eq_nil_of_length_eq_zero (by omega)
            have h5 : (refillS s p).caches = s.caches := by
              show s.caches.set p (s.free.take 16) = s.caches
              rw [h1]
              apply List.ext_getElem?
              intro i
              by_cases hi : p = i
              · subst hi
                rw [List.getElem?_set_self hp]
                rw [List.getD_eq_getElem?_getD, List.getElem?_eq_getElem hp] at he
                rw [List.getElem?_eq_getElem hp]
                exact congrArg some he.symm
              · rw [List.getElem?_set_ne hi]
            rw [allS, h5] at hallS
            rw [allS, h1]
            have h6 : (refillS s p).free = [] := by show s.free.drop 16 = []; rw [h1]; rfl
            rw [h6] at hallS
            exact hallS
          · exact hallS
theorem live_full {s : Sl} (h : Wf s) (hl : allS s = []) (hg : ∀ i : Nat, i < s.gens.length → genAt s i < 2147483647) : liveS s = s.gens.length := by
  rw [← h.a]
  refine List.countP_eq_length.2 fun v hv => ?_
  obtain ⟨i, hi, rfl⟩ := List.getElem_of_mem hv
  have hig : i < s.gens.length := by rw [← h.a]; exact hi
  cases ha : s.alive[i] with
  | true => rfl
  | false =>
    have := h.al i hig (by rw [aliveAt, List.getD_eq_getElem?_getD, List.getElem?_eq_getElem hi]; exact ha) (hg i hig)
    rw [hl] at this
    rcases this with h | h
    · cases h
    · exact h.elim
structure GiveR (s s' : Sl) (x g : Int) : Prop where
  wf : Wf s'
  lim : s'.limit = s.limit
  cl : s'.caches.length = s.caches.length
  gen : s'.gens = s.gens
  al : ∀ y h, aliveS s' y h = true ↔ aliveS s y h = true ∧ y ≠ x
  live : liveS s' + 1 = liveS s
theorem dead_core {s : Sl} {i : Nat} (h : Wf s) (ha : aliveAt s i = true) : Wf1 { s with alive := s.alive.set i false } (if genAt s i = 2147483647 then allS s else (i : Int) :: allS s) (fun _ => False) := by
  have hil : i < s.alive.length := by
    rcases Nat.lt_or_ge i s.alive.length with hi | hi
    · exact hi
    · rw [aliveAt, getD_none hi] at ha; cases ha
  have hA : ∀ j, aliveAt { s with alive := s.alive.set i false } j = if i = j then false else aliveAt s j := fun j => by
    unfold aliveAt
    split
    · rename_i e; subst e; exact getD_set_self hil
    · rename_i e; exact getD_set_ne e
  have hni : (i : Int) ∉ allS s := fun hm => by
    have := (h.fr _ hm).1.2.2.1
    rw [Int.toNat_natCast, ha] at this
    cases this
  have hgm := h.gm i (by have := h.a; omega)
  refine ⟨h.l0, h.l1, h.c0, h.c1, h.g, by show (s.alive.set i false).length = _; rw [List.length_set]; exact h.a, h.cl, h.gb, h.gm, ?_, fun y hy => ⟨?_, fun f => f⟩, fun j hj hd hg => .inl ?_⟩
  · split
    · exact h.nd
    · exact List.nodup_cons.2 ⟨hni, h.nd⟩
  · have hold : y ∈ allS s → FreeAt { s with alive := s.alive.set i false } y := fun hm => by
      obtain ⟨e0, e1, e2, e3⟩ := (h.fr y hm).1
      exact ⟨e0, e1, by rw [hA]; split; rfl; exact e2, e3⟩
    split at hy
    · exact hold hy
    · rename_i hg
      rcases List.mem_cons.1 hy with rfl | hy
      · have := h.a
        refine ⟨by omega, by show (i : Int) < (s.gens.length : Int); omega, by rw [hA, Int.toNat_natCast, if_pos rfl], ?_⟩
        show genAt s _ < _
        rw [Int.toNat_natCast]
        omega
      · exact hold hy
  · rw [hA] at hd
    have hg' : genAt s j < 2147483647 := hg
    by_cases e : i = j
    · subst e
      rw [if_neg (by omega)]
      exact List.mem_cons_self
    · rw [if_neg e] at hd
      have hm := (h.al j hj hd hg').resolve_right (fun f => f)
      split
      · exact hm
      · exact List.mem_cons_of_mem _ hm
theorem dead_al {s : Sl} {i : Nat} (h : s.alive.length = s.gens.length) (hi : i < s.alive.length) {caches : List (List Int)} {free : List Int} (y g : Int) : aliveS { s with alive := s.alive.set i false, caches := caches, free := free } y g = true ↔ aliveS s y g = true ∧ y ≠ i := by
  rw [aliveS_iff (by show (s.alive.set i false).length = _; rw [List.length_set]; exact h), aliveS_iff h]
  show 0 ≤ y ∧ (s.alive.set i false).getD y.toNat false = true ∧ genAt s y.toNat = g ↔ _
  by_cases e : y.toNat = i
  · rw [← e, getD_set_self (by omega)]
    constructor
    · rintro ⟨_, h2, _⟩; cases h2
    · rintro ⟨⟨h1, _, _⟩, h4⟩; exact absurd (by omega) h4
  · rw [getD_set_ne (Ne.symm e)]
    constructor
    · rintro ⟨h1, h2, h3⟩; exact ⟨⟨h1, h2, h3⟩, by omega⟩
    · rintro ⟨⟨h1, h2, h3⟩, _⟩; exact ⟨h1, h2, h3⟩
theorem give_alive {s : Sl} {p : Nat} {x g : Int} (h : Wf s) (hp : p < s.caches.length) (hal : aliveS s x g = true) : GiveR s (giveS s p x g).1 x g ∧ (giveS s p x g).2 = 0 := by
  have hpr : procS s p = true := procS_iff.2 ⟨by omega, by omega⟩
  obtain ⟨h0, h1, h2⟩ := (aliveS_iff h.a).1 hal
  obtain ⟨i, rfl⟩ := Int.eq_ofNat_of_zero_le h0
  rw [Int.toNat_natCast] at h1 h2
  have hil : i < s.alive.length := by
    rcases Nat.lt_or_ge i s.alive.length with hi | hi
    · exact hi
    · rw [aliveAt, getD_none hi] at h1; cases h1
  have hc := dead_core h h1
  have hlv : (s.alive.set i false).countP id + 1 = s.alive.countP id := countP_set_false _ _ h1
  unfold giveS
  rw [if_pos hpr, if_pos hal, Int.toNat_natCast, Int.toNat_natCast]
  split
  · rename_i hg
    rw [if_pos (h2.trans hg)] at hc
    exact ⟨⟨hc, rfl, rfl, rfl, fun y g' => dead_al h.a hil y g', hlv⟩, rfl⟩
  · rename_i hg
    rw [if_neg (by rw [h2]; exact hg)] at hc
    have hcl := h.cl _ (mem_getD' hp)
    unfold giveBack
    simp only
    split
    · rename_i h64
      refine ⟨⟨?_, rfl, by simp, rfl, fun y g' => dead_al h.a hil y g', hlv⟩, trivial⟩
      refine (Wf1.lists hc (caches := s.caches.set p ((s.caches.getD p [] ++ [(i : Int)]).drop 32)) (free := s.free ++ (s.caches.getD p [] ++ [(i : Int)]).take 32) (by simp) (set_len h.cl (by rw [List.length_drop]; omega))).perm ?_
      rw [List.perm_iff_count]
      intro z
      have h3 := flat_count s.caches z ((s.caches.getD p [] ++ [(i : Int)]).drop 32) p hp
      have h4 : (s.caches.getD p [] ++ [(i : Int)]).count z = ((s.caches.getD p [] ++ [(i : Int)]).take 32).count z + ((s.caches.getD p [] ++ [(i : Int)]).drop 32).count z := by rw [← List.count_append, List.take_append_drop]
      have h5 : ((i : Int) :: allS s).count z = [(i : Int)].count z + (allS s).count z := by rw [← List.count_append]; rfl
      rw [h5]
      rw [List.count_append] at h4
      simp only [allS, List.count_append] at h3 h4 ⊢
      omega
    · rename_i h64
      rw [List.length_append, List.length_singleton] at h64
      refine ⟨⟨?_, rfl, by simp, rfl, fun y g' => dead_al h.a hil y g', hlv⟩, trivial⟩
      refine (Wf1.lists hc (caches := s.caches.set p (s.caches.getD p [] ++ [(i : Int)])) (free := s.free) (by simp) (set_len h.cl (by rw [List.length_append, List.length_singleton]; omega))).perm ?_
      rw [List.perm_iff_count]
      intro z
      have h3 := flat_count s.caches z (s.caches.getD p [] ++ [(i : Int)]) p hp
      have h5 : ((i : Int) :: allS s).count z = [(i : Int)].count z + (allS s).count z := by rw [← List.count_append]; rfl
      rw [h5]
      simp only [allS, List.count_append] at h3 ⊢
      omega
theorem flush_wf {s : Sl} {p : Nat} (h : Wf s) (hp : p < s.caches.length) : Wf (flushS s p).1 ∧ (flushS s p).2 = 0 ∧ (flushS s p).1.gens = s.gens ∧ (flushS s p).1.alive = s.alive ∧ (flushS s p).1.limit = s.limit ∧ (flushS s p).1.caches = s.caches.set p [] ∧ (flushS s p).1.free = s.free ++ s.caches.getD p [] := by
  have hpr : procS s p = true := procS_iff.2 ⟨by omega, by omega⟩
  unfold flushS
  rw [if_pos hpr, Int.toNat_natCast]
  refine ⟨?_, rfl, rfl, rfl, rfl, rfl, rfl⟩
  refine (Wf1.lists h (caches := s.caches.set p []) (free := s.free ++ s.caches.getD p []) (by simp) (set_len h.cl (by decide))).perm ?_
  rw [List.perm_iff_count]
  intro z
  have h3 := flat_count s.caches z [] p hp
  simp only [allS, List.count_append, List.count_nil] at h3 ⊢
  omega
end Go.Proofs.Ytnglgjegkjfnaaa
