import Derived.Test.YtefkdicejhjfoaaGraphB
namespace Go.Proofs.Ytefkdicejhjfoaa
open Go.RowKit Go.Proofs.YtefkdicejhjfoaaW.PrintWords Go.Proofs.YtefkdicejhjfoaaW.PrintLast Go.Proofs.YtefkdicejhjfoaaW.PrintMore Go.Proofs.Ytefkdicejhjfoaa.PPolicyPaths
/-! 'reached' of the program (bits) and of the document (a row of Bools): both hold what paths lead to. -/
theorem or_u32 (m n : Nat) (hm : m < 65536) (hn : n < 65536) : Go.bits .or .u32 (m : Int) (n : Int) = ((m ||| n : Nat) : Int) :=
  (bits_nat .u32 16 (by decide) (fun n h0 h1 => by rw [IntKind.wrap_u32]; omega) m n hm hn).2
theorem and_u32 (m n : Nat) (hm : m < 65536) (hn : n < 65536) : Go.bits .and .u32 (m : Int) (n : Int) = ((m &&& n : Nat) : Int) :=
  (bits_nat .u32 16 (by decide) (fun n h0 h1 => by rw [IntKind.wrap_u32]; omega) m n hm hn).1
theorem bits32 : IntKind.u32.bits = 32 := rfl
theorem pow_small {d : Nat} (hd : d < 16) : 2 ^ d < 65536 := by
  have h : 2 ^ d ≤ 2 ^ 15 := Nat.pow_le_pow_right (by decide) (by omega)
  omega
theorem shl_one {d : Nat} (hd : d < 16) : shl .u32 1 (d : Int) = ((2 ^ d : Nat) : Int) := by
  unfold shl
  rw [Int.toNat_natCast, bits32, Nat.min_eq_left (by omega), Int.one_mul, IntKind.wrap_u32]
  have h := pow_small hd
  have h2 : ((2 : Int) ^ d) = ((2 ^ d : Nat) : Int) := by simp
  rw [h2]
  generalize 2 ^ d = p at *
  omega
theorem shr_nat (m d : Nat) (hd : d < 16) : shr .u32 (m : Int) (d : Int) = ((m >>> d : Nat) : Int) := by
  unfold shr
  rw [Int.toNat_natCast, bits32, Nat.min_eq_left (by omega), Nat.shiftRight_eq_div_pow]
  simp
theorem bit_test (m d : Nat) (hm : m < 65536) (hd : d < 16) : Go.bits .and .u32 (shr .u32 (m : Int) (d : Int)) 1 = if m.testBit d then 1 else 0 := by
  rw [shr_nat m d hd]
  have h := and_u32 (m >>> d) 1 (Nat.lt_of_le_of_lt (by rw [Nat.shiftRight_eq_div_pow]; exact Nat.div_le_self _ _) hm) (by decide)
  rw [show ((1 : Nat) : Int) = 1 from rfl] at h
  rw [h, Nat.and_one_is_mod]
  have ht : m.testBit d = decide ((m >>> d) % 2 = 1) := by
    rw [Nat.testBit_eq_decide_div_mod_eq, Nat.shiftRight_eq_div_pow]
  rw [ht]
  by_cases hh : (m >>> d) % 2 = 1
  · rw [decide_eq_true hh, if_pos rfl, hh]; rfl
  · rw [decide_eq_false hh, if_neg (by decide)]; omega
theorem or_test (m y : Nat) : (m ||| 2 ^ y).testBit = upd m.testBit y := by
  funext i
  rw [Nat.testBit_or, Nat.testBit_two_pow]
  unfold upd
  by_cases h : i = y
  · subst h; simp
  · rw [if_neg h, decide_eq_false (fun hh => h hh.symm), Bool.or_false]
theorem or_small {m y : Nat} (hm : m < 65536) (hy : y < 16) : m ||| 2 ^ y < 65536 :=
  Nat.or_lt_two_pow (n := 16) hm (pow_small hy)
theorem toE_drop (es : List S35) (i : Nat) : (toE es).drop i = toE (es.drop i) := by rw [toE, toE, List.map_drop]
/-- One pass of the program. -/
theorem prl1 {D : Nat} (hD : D ≤ 16) {es : List S35} (hf : Fits D es) (hl : es.length < 17592186044416) {was : Int} {F : Nat} : ∀ (d j m k : Nat), j + d = es.length → d + 1 + F ≤ k → m < 65536 →
    ∃ m' K : Nat, m' < 65536 ∧ F ≤ K ∧ m'.testBit = pass m.testBit (toE (es.drop j)) ∧ policy_reached.l1 k es (m : Int) was es (es.length : Int) (j : Int) = policy_reached.l0 K es (m' : Int) was := by
  intro d
  induction d with
  | zero =>
    intro j m k hj hk hm
    obtain ⟨k, rfl⟩ : ∃ k', k = k' + 1 := ⟨k - 1, by omega⟩
    refine ⟨m, k, hm, by omega, ?_, ?_⟩
    · rw [List.drop_eq_nil_of_le (by omega)]; rfl
    · rw [policy_reached.l1, if_neg (by omega)]
  | succ d ih =>
    intro j m k hj hk hm
    obtain ⟨k, rfl⟩ : ∃ k', k = k' + 1 := ⟨k - 1, by omega⟩
    have he : es[j]? = some es[j] := List.getElem?_eq_getElem (by omega)
    have hfe := hf es[j] (List.getElem_mem _)
    generalize es[j] = e at he hfe
    obtain ⟨x, hx⟩ := Int.eq_ofNat_of_zero_le hfe.1
    obtain ⟨y, hy⟩ := Int.eq_ofNat_of_zero_le hfe.2.2.1
    rw [hx, hy] at hfe
    rw [policy_reached.l1, if_pos (by omega), if_pos (by omega), if_pos (by omega), rd35 he, hx, hy, if_pos (by omega), bit_test m x hm (by omega), wrap_succ (by omega), drop_at he]
    have hp : pass m.testBit (toE (e :: es.drop (j + 1))) = pass (if m.testBit x then upd m.testBit y else m.testBit) (toE (es.drop (j + 1))) := by
      rw [toE, List.map_cons, pass, hx, hy]
      rfl
    rw [hp]
    cases hb : m.testBit x with
    | true =>
      rw [if_pos rfl, if_pos rfl, if_pos (by omega), shl_one (by omega), or_u32 m _ hm (pow_small (by omega)), ← or_test]
      exact ih (j + 1) _ k (by omega) (by omega) (or_small hm (by omega))
    | false =>
      rw [if_neg (by decide), if_neg (by decide)]
      exact ih (j + 1) m k (by omega) (by omega) hm
theorem prl0 {D : Nat} (hD : D ≤ 16) {es : List S35} (hf : Fits D es) (hl : es.length < 17592186044416) {a : Nat} : ∀ c (m was : Nat) k, D ≤ cnt m.testBit D + c → (c + 2) * (es.length + 3) ≤ k → m < 65536 → m.testBit a = true → (∀ i, m.testBit i = true → Rch (toE es) a i) → (was = m → Closed (toE es) m.testBit) →
    ∃ r : Nat, r < 65536 ∧ policy_reached.l0 k es (m : Int) (was : Int) = some (r : Int) ∧ ∀ i, r.testBit i = true ↔ Rch (toE es) a i := by
  intro c
  induction c with
  | zero =>
    intro m was k hc hk hm ha hr hw
    rw [Nat.zero_add] at hk
    obtain ⟨k, rfl⟩ : ∃ k', k = k' + 1 := ⟨k - 1, by omega⟩
    rw [policy_reached.l0]
    have hcl : Closed (toE es) m.testBit := by
      refine pass_fix _ _ ?_
      rcases pass_grow (S := m.testBit) (D := D) (E := toE es) (fun e he => (fits_lt hf e he).2) with h | h
      · exact h
      · have := cnt_le (pass m.testBit (toE es)) D
        omega
    by_cases hww : was = m
    · rw [if_pos (by omega)]
      exact ⟨m, hm, rfl, fun i => ⟨hr i, fun h => rch_of_closed ha hcl h⟩⟩
    · rw [if_neg (by omega)]
      obtain ⟨m', K, hm', hK, hp, he⟩ := prl1 hD hf hl (was := (m : Int)) (F := 1) es.length 0 m k (by omega) (by omega) hm
      rw [List.drop_zero] at hp
      have hmm : m' = m := Nat.eq_of_testBit_eq (fun i => by
        rw [hp]
        cases hi : m.testBit i with
        | true => exact pass_le _ _ i hi
        | false =>
          cases hpi : pass m.testBit (toE es) i with
          | false => rfl
          | true => rw [pass_sub (toE es) m.testBit hcl (fun _ h => h) i hpi] at hi; cases hi)
      obtain ⟨K, rfl⟩ : ∃ k', K = k' + 1 := ⟨K - 1, by omega⟩
      refine ⟨m, hm, ?_, fun i => ⟨hr i, fun h => rch_of_closed ha hcl h⟩⟩
      have h0 : (0 : Int) = ((0 : Nat) : Int) := rfl
      rw [h0, he, hmm, policy_reached.l0, if_pos rfl]
  | succ c ih =>
    intro m was k hc hk hm ha hr hw
    have hk' : (c + 2) * (es.length + 3) + (es.length + 3) ≤ k := by
      have : (c + 1 + 2) * (es.length + 3) = (c + 2) * (es.length + 3) + (es.length + 3) := by rw [show c + 1 + 2 = (c + 2) + 1 from rfl, Nat.add_mul, Nat.one_mul]
      omega
    obtain ⟨k, rfl⟩ : ∃ k', k = k' + 1 := ⟨k - 1, by omega⟩
    rw [policy_reached.l0]
    by_cases hww : was = m
    · rw [if_pos (by omega)]
      exact ⟨m, hm, rfl, fun i => ⟨hr i, fun h => rch_of_closed ha (hw hww) h⟩⟩
    · rw [if_neg (by omega)]
      obtain ⟨m', K, hm', hK, hp, he⟩ := prl1 hD hf hl (was := (m : Int)) (F := (c + 2) * (es.length + 3)) es.length 0 m k (by omega) (by omega) hm
      rw [List.drop_zero] at hp
      have h0 : (0 : Int) = ((0 : Nat) : Int) := rfl
      rw [h0, he]
      rcases pass_grow (S := m.testBit) (D := D) (E := toE es) (fun e he => (fits_lt hf e he).2) with h | h
      · have hmm : m' = m := Nat.eq_of_testBit_eq (fun i => by rw [hp]; exact h i)
        subst hmm
        have hpos : 0 < (c + 2) * (es.length + 3) := Nat.mul_pos (by omega) (by omega)
        obtain ⟨K, rfl⟩ : ∃ k', K = k' + 1 := ⟨K - 1, by omega⟩
        refine ⟨m', hm, ?_, fun i => ⟨hr i, fun h' => rch_of_closed ha (pass_fix _ _ h) h'⟩⟩
        rw [policy_reached.l0, if_pos rfl]
      · refine ih m' m K (by rw [hp]; omega) hK hm' (by rw [hp]; exact pass_le _ _ _ ha) (by rw [hp]; exact pass_rch (toE es) _ (fun _ h => h) hr) (fun hww' => ?_)
        subst hww'
        rw [← hp] at h
        omega
/-- The program's 'reached': a bit is set just if a path leads there. -/
theorem reached_f {D a : Nat} (hD : D ≤ 16) (ha : a < D) {es : List S35} (hf : Fits D es) (hl : es.length < 17592186044416) : ∃ k r : Nat, r < 65536 ∧ policy_reached.f k es (a : Int) = some (r : Int) ∧ ∀ i, r.testBit i = true ↔ Rch (toE es) a i := by
  obtain ⟨r, hr, he, hi⟩ := prl0 hD hf hl (a := a) D (2 ^ a) 0 ((D + 2) * (es.length + 3)) (by omega) (Nat.le_refl _) (pow_small (by omega)) (by rw [Nat.testBit_two_pow]; simp) (fun i hi => by
    rw [Nat.testBit_two_pow] at hi
    have : a = i := by simpa using hi
    subst this
    exact .refl) (fun h => by exact absurd h (by have := Nat.two_pow_pos a; omega))
  refine ⟨(D + 2) * (es.length + 3), r, hr, ?_, hi⟩
  rw [policy_reached.f, if_pos (by omega), shl_one (by omega)]
  exact he
/-! The document's 'reached': a row of Bools. -/
def fn (l : List Bool) : Nat → Bool := fun i => rdOf false l i
theorem fn_set {l : List Bool} {y : Nat} (hy : y < l.length) : fn (l.set y true) = upd (fn l) y := by
  funext i
  simp only [fn, rdOf, upd, List.getD_eq_getElem?_getD, Int.toNat_natCast, List.getElem?_set]
  by_cases h : y = i
  · subst h; simp [hy]
  · rw [if_neg h, if_neg (fun hh => h hh.symm)]
theorem rrl1 {D : Nat} {es : List S35} (hf : Fits D es) (hl : es.length < 17592186044416) {rd8 : Int} {F : Nat} : ∀ (d j : Nat) (l : List Bool) (k : Nat), j + d = es.length → d + 1 + F ≤ k → l.length = D →
    ∃ (l' : List Bool) (K : Nat), l'.length = D ∧ F ≤ K ∧ fn l' = pass (fn l) (toE (es.drop j)) ∧ rotaref17_reached.l1 k (D : Int) es l rd8 (j : Int) = rotaref17_reached.l0 K (D : Int) es l' (wrap64 (rd8 + 1)) := by
  intro d
  induction d with
  | zero =>
    intro j l k hj hk hm
    obtain ⟨k, rfl⟩ : ∃ k', k = k' + 1 := ⟨k - 1, by omega⟩
    refine ⟨l, k, hm, by omega, ?_, ?_⟩
    · rw [List.drop_eq_nil_of_le (by omega)]; rfl
    · rw [rotaref17_reached.l1, if_neg (by omega)]
  | succ d ih =>
    intro j l k hj hk hm
    obtain ⟨k, rfl⟩ : ∃ k', k = k' + 1 := ⟨k - 1, by omega⟩
    have he : es[j]? = some es[j] := List.getElem?_eq_getElem (by omega)
    have hfe := hf es[j] (List.getElem_mem _)
    generalize es[j] = e at he hfe
    obtain ⟨x, hx⟩ := Int.eq_ofNat_of_zero_le hfe.1
    obtain ⟨y, hy⟩ := Int.eq_ofNat_of_zero_le hfe.2.2.1
    rw [hx, hy] at hfe
    rw [rotaref17_reached.l1, if_pos (by omega), if_pos (by omega), rd35 he, hx, hy, if_pos (by omega), if_pos (by omega), wrap_succ (by omega), drop_at he]
    have hp : pass (fn l) (toE (e :: es.drop (j + 1))) = pass (if fn l x then upd (fn l) y else fn l) (toE (es.drop (j + 1))) := by
      rw [toE, List.map_cons, pass, hx, hy]
      rfl
    rw [hp]
    have hb' : rdOf false l (x : Int) = fn l x := rfl
    rw [hb']
    cases hb : fn l x with
    | true =>
      rw [if_pos rfl, if_pos rfl, if_pos (by omega), if_pos (by omega), Int.toNat_natCast, ← fn_set (by omega)]
      exact ih (j + 1) _ k (by omega) (by omega) (by rw [List.length_set]; exact hm)
    | false =>
      rw [if_neg (by decide), if_neg (by decide)]
      exact ih (j + 1) l k (by omega) (by omega) hm
theorem passes_front (S : Nat → Bool) (E : List (Nat × Nat)) (n : Nat) : passes (pass S E) E n = passes S E (n + 1) := by
  induction n with
  | zero => rfl
  | succ n ih => rw [passes, ih, ← passes]
theorem rrl0 {D : Nat} (hD : D ≤ 16) {es : List S35} (hf : Fits D es) (hl : es.length < 17592186044416) : ∀ (c i : Nat) (l : List Bool) (k : Nat), i + c = D → (c + 1) * (es.length + 3) ≤ k → l.length = D →
    ∃ l' : List Bool, l'.length = D ∧ fn l' = passes (fn l) (toE es) c ∧ rotaref17_reached.l0 k (D : Int) es l (i : Int) = some l' := by
  intro c
  induction c with
  | zero =>
    intro i l k hi hk hm
    rw [Nat.zero_add, Nat.one_mul] at hk
    obtain ⟨k, rfl⟩ : ∃ k', k = k' + 1 := ⟨k - 1, by omega⟩
    exact ⟨l, hm, rfl, by rw [rotaref17_reached.l0, if_neg (by omega)]⟩
  | succ c ih =>
    intro i l k hi hk hm
    have hk' : (c + 1) * (es.length + 3) + (es.length + 3) ≤ k := by
      have : (c + 1 + 1) * (es.length + 3) = (c + 1) * (es.length + 3) + (es.length + 3) := by rw [Nat.add_mul (c + 1) 1, Nat.one_mul]
      omega
    obtain ⟨k, rfl⟩ : ∃ k', k = k' + 1 := ⟨k - 1, by omega⟩
    rw [rotaref17_reached.l0, if_pos (by omega)]
    obtain ⟨l1, K, hl1, hK, hp, he⟩ := rrl1 hf hl (rd8 := (i : Int)) (F := (c + 1) * (es.length + 3)) es.length 0 l k (by omega) (by omega) hm
    rw [List.drop_zero] at hp
    have h0 : (0 : Int) = ((0 : Nat) : Int) := rfl
    rw [h0, he, wrap_succ (by omega)]
    obtain ⟨l', hl', hp', he'⟩ := ih (i + 1) l1 K (by omega) hK hl1
    refine ⟨l', hl', ?_, he'⟩
    rw [hp', hp, passes_front]
/-- The document's 'reached': a place is true just if a path leads there. -/
theorem rreached_f {D a : Nat} (hD : D ≤ 16) (ha : a < D) {es : List S35} (hf : Fits D es) (hl : es.length < 17592186044416) : ∃ (k : Nat) (r : List Bool), r.length = D ∧ rotaref17_reached.f k (D : Int) es (a : Int) = some r ∧ ∀ i, fn r i = true ↔ Rch (toE es) a i := by
  have hz : ∀ i, fn (List.replicate D false) i = false := fun i => by
    simp [fn, rdOf, List.getD_eq_getElem?_getD, List.getElem?_replicate]
    split <;> rfl
  have hs : fn ((List.replicate D false).set a true) = upd (fn (List.replicate D false)) a := fn_set (by rw [List.length_replicate]; exact ha)
  obtain ⟨r, hr, hp, he⟩ := rrl0 hD hf hl D 0 ((List.replicate D false).set a true) ((D + 1) * (es.length + 3)) (by omega) (Nat.le_refl _) (by simp)
  have hsa : fn ((List.replicate D false).set a true) a = true := by rw [hs]; exact upd_self _ _
  refine ⟨(D + 1) * (es.length + 3), r, hr, ?_, fun i => ⟨fun h => ?_, fun h => ?_⟩⟩
  · rw [rotaref17_reached.f, if_pos (by omega), Int.toNat_natCast, if_pos (by omega), Option.bind_some, if_pos (by omega), if_pos (by rw [List.length_replicate]; omega), Int.toNat_natCast]
    exact he
  · rw [hp] at h
    refine passes_rch (a := a) (fun i hi => ?_) D i h
    rw [hs] at hi
    unfold upd at hi
    split at hi
    · rename_i hia; subst hia; exact .refl
    · rw [hz] at hi; cases hi
  · rw [hp]
    exact rch_of_closed (passes_le _ _ _ _ hsa) (passes_closed (fun e he => (fits_lt hf e he).2) ha hsa) h
end Go.Proofs.Ytefkdicejhjfoaa
