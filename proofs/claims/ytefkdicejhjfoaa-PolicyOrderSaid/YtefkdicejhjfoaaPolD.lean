import Derived.Test.YtefkdicejhjfoaaPolC
namespace Go.Proofs.Ytefkdicejhjfoaa
open Go.RowKit Go.Proofs.YtefkdicejhjfoaaW.PrintWords Go.Proofs.YtefkdicejhjfoaaW.PrintLast Go.Proofs.YtefkdicejhjfoaaW.PrintMore Go.Proofs.Ytefkdicejhjfoaa.PPolicyPaths
/-! May, and the document's May and Path. -/
theorem lift {α : Type} {f : Nat → Option α} (h : ∀ k, LeO (f k) (f (k + 1))) {k k' : Nat} {r : α} (e : f k = some r) (hk : k ≤ k') : f k' = some r := by
  induction hk with
  | refl => exact e
  | step _ ih => exact h _ _ ih
/-- Is there such an edge? -/
def hasE (es : List S35) (a b : Int) : Bool := es.any (fun e => a == e.f0 && b == e.f1)
theorem has_drop {es : List S35} {i : Nat} {e : S35} (h : es[i]? = some e) (a b : Int) : hasE (es.drop i) a b = ((a == e.f0 && b == e.f1) || hasE (es.drop (i + 1)) a b) := by
  rw [drop_at h]; rfl
theorem idx32 {es : List S35} (hl : es.length < 17592186044416) (a b : Int) : ∀ m i k, i + m = es.length → m + 1 ≤ k → ∃ j : Int, api_Edge_32.l0 k es (es.length : Int) (i : Int) a b = some j ∧ decide (j ≥ 0) = hasE (es.drop i) a b := by
  intro m
  induction m with
  | zero =>
    intro i k hi hk
    obtain ⟨k, rfl⟩ : ∃ k', k = k' + 1 := ⟨k - 1, by omega⟩
    rw [api_Edge_32.l0, if_neg (by omega), List.drop_eq_nil_of_le (by omega)]
    exact ⟨_, rfl, rfl⟩
  | succ m ih =>
    intro i k hi hk
    obtain ⟨k, rfl⟩ : ∃ k', k = k' + 1 := ⟨k - 1, by omega⟩
    have he : es[i]? = some es[i] := List.getElem?_eq_getElem (by omega)
    generalize es[i] = e at he
    rw [api_Edge_32.l0, if_pos (by omega), if_pos (by omega), if_pos (by omega), rd35 he, has_drop he, wrap_succ (by omega)]
    cases hb : (a == e.f0 && b == e.f1) with
    | true => rw [if_pos rfl]; exact ⟨_, rfl, by simp⟩
    | false =>
      rw [if_neg (by decide), Bool.false_or]
      exact ih (i + 1) k (by omega) (by omega)
theorem contains_f {es : List S35} (hl : es.length < 17592186044416) (a b : Int) : api_Edge_26.f (es.length + 1) es a b = some (hasE es a b) := by
  obtain ⟨j, hj, hd⟩ := idx32 hl a b es.length 0 (es.length + 1) (by omega) (Nat.le_refl _)
  have h0 : ((0 : Nat) : Int) = 0 := rfl
  rw [h0] at hj
  rw [api_Edge_26.f, api_Edge_32.f, hj, Option.bind_some, hd, List.drop_zero]
theorem edge_l0 {es : List S35} (hl : es.length < 17592186044416) (a b : Int) : ∀ m i k, i + m = es.length → m + 1 ≤ k → rotaref17_edge.l0 k es a b (i : Int) = some (hasE (es.drop i) a b) := by
  intro m
  induction m with
  | zero =>
    intro i k hi hk
    obtain ⟨k, rfl⟩ : ∃ k', k = k' + 1 := ⟨k - 1, by omega⟩
    rw [rotaref17_edge.l0, if_neg (by omega), List.drop_eq_nil_of_le (by omega)]
    rfl
  | succ m ih =>
    intro i k hi hk
    obtain ⟨k, rfl⟩ : ∃ k', k = k' + 1 := ⟨k - 1, by omega⟩
    have he : es[i]? = some es[i] := List.getElem?_eq_getElem (by omega)
    generalize es[i] = e at he
    rw [rotaref17_edge.l0, if_pos (by omega), if_pos (by omega), rd35 he, has_drop he, wrap_succ (by omega), ih (i + 1) k (by omega) (by omega)]
    by_cases h1 : e.f0 = a
    · rw [if_pos h1]
      by_cases h2 : e.f1 = b
      · rw [if_pos h2, h1, h2]; simp
      · rw [if_neg h2, show (b == e.f1) = false by simpa using fun h => h2 h.symm]; simp
    · rw [if_neg h1, show (a == e.f0) = false by simpa using fun h => h1 h.symm]; simp
theorem asked_f {D : Int} {es : List S35} (hl : es.length < 17592186044416) (a b : Int) {k : Nat} (hk : es.length + 2 ≤ k) : rotaref17_asked.f k D es a b = some (lookedP D es [a, b]) := by
  rw [rotaref17_asked.f, rcheck_f hl hk, Option.bind_some, ref_is, ref_is]
  unfold lookedP
  by_cases h0 : (chk D es).2 = 0
  · rw [if_pos h0, if_pos h0, Option.bind_some]
    by_cases h1 : 0 ≤ a ∧ a < D
    · rw [decide_eq_true h1, if_pos rfl, Option.bind_some]
      by_cases h2 : 0 ≤ b ∧ b < D
      · rw [decide_eq_true h2, if_pos rfl, if_neg (by simp [outB]; omega)]
      · rw [decide_eq_false h2, if_neg (by decide), if_pos (by simp [outB]; omega)]
    · rw [decide_eq_false h1, if_neg (by decide), if_pos (by simp [outB]; omega)]
  · rw [if_neg h0, if_neg h0]
def mayP (D : Int) (es : List S35) (a b : Int) : Bool × Int := if lookedP D es [a, b] = 0 then (hasE es a b, 0) else (false, lookedP D es [a, b])
theorem rmay_any (D : Int) (B : Option Addr) (d : Nat) (es : List S35) (a b : Int) (w : World) (hE : Kd.C k35 w B es.length es) (hd : es.length ≤ d) (hl : es.length < 8796093022208) :
    Calls Try.prog 17 #[.int .i64 D, .slice B es.length d, .int .i64 a, .int .i64 b] w fun e w' => e = .returned (.tuple #[.bool (mayP D es a b).1, .int .i64 (mayP D es a b).2]) ∧ Below w.heap.size w w' := by
  have h : rotaref17_May.f (es.length + 2) D es a b = some ((mayP D es a b).1, (mayP D es a b).2) := by
    rw [rotaref17_May.f, asked_f (by omega) a b (Nat.le_refl _), Option.bind_some]
    unfold mayP
    by_cases h0 : lookedP D es [a, b] = 0
    · rw [if_pos h0, if_pos h0, rotaref17_edge.f]
      have he := edge_l0 (es := es) (by omega) a b es.length 0 (es.length + 2) (by omega) (by omega)
      have h00 : ((0 : Nat) : Int) = 0 := rfl
      rw [h00] at he
      rw [he, Option.bind_some, List.drop_zero]
    · rw [if_neg h0, if_neg h0]
  exact (rotaref17_May.calls _ D B d es a b _ _ w hE hd h).mono fun e w' ⟨he, hB⟩ => ⟨he, by first | exact hB | exact hB.below⟩
theorem rpath_any (D : Int) (B : Option Addr) (d : Nat) (es : List S35) (a b : Int) (w : World) (hE : Kd.C k35 w B es.length es) (hd : es.length ≤ d) (hl : es.length < 8796093022208) :
    Calls Try.prog 18 #[.int .i64 D, .slice B es.length d, .int .i64 a, .int .i64 b] w fun e w' => e = .returned (.tuple #[.bool (pathP D es a b).1, .int .i64 (pathP D es a b).2]) ∧ Below w.heap.size w w' := by
  have h : ∃ k, rotaref17_Path.f k D es a b = some ((pathP D es a b).1, (pathP D es a b).2) := by
    by_cases h0 : lookedP D es [a, b] = 0
    · have hp : pathP D es a b = (rchB es a b, 0) := by rw [pathP, if_pos h0]
      obtain ⟨D', rfl, h1, h2, hf, hof⟩ := looked_zero h0
      obtain ⟨a', rfl, ha⟩ := hof a (by simp)
      obtain ⟨b', rfl, hb⟩ := hof b (by simp)
      obtain ⟨k, r, hr, hk, hi⟩ := rreached_f h2 ha hf (by omega)
      refine ⟨k + es.length + 2, ?_⟩
      have hk' := lift (fun k => rotaref17_reached.mono _ _ _ k) hk (show k ≤ k + es.length + 2 by omega)
      rw [rotaref17_Path.f, asked_f (by omega) _ _ (by omega), Option.bind_some, if_pos h0, hk', Option.bind_some, if_pos (by omega), if_pos (by omega), hp]
      congr 2
      have h3 := hi b'
      have h4 := rchB_iff (es := es) (a := (a' : Int)) (b := (b' : Int))
      rw [Int.toNat_natCast, Int.toNat_natCast] at h4
      rw [← h4] at h3
      show fn r b' = rchB es a' b'
      cases h5 : fn r b' with
      | true => exact (h3.1 h5).symm
      | false =>
        cases h6 : rchB es a' b' with
        | false => rfl
        | true => rw [h3.2 h6] at h5; cases h5
    · refine ⟨es.length + 2, ?_⟩
      rw [rotaref17_Path.f, asked_f (by omega) _ _ (by omega), Option.bind_some, if_neg h0, pathP, if_neg h0]
  obtain ⟨k, h⟩ := h
  exact (rotaref17_Path.calls _ D B d es a b _ _ w hE hd h).mono fun e w' ⟨he, hB⟩ => ⟨he, by first | exact hB | exact hB.below⟩
set_option maxHeartbeats 1000000 in
theorem may_any (D : Int) (B : Option Addr) (d : Nat) (es : List S35) (a b : Int) (w : World) (hE : Kd.C k35 w B es.length es) (hd : es.length ≤ d) (hl : es.length < 8796093022208) :
    Calls Try.prog 16 #[.int .i64 D, .slice B es.length d, .int .i64 a, .int .i64 b] w fun e w' => e = .returned (.tuple #[.bool (mayP D es a b).1, .int .i64 (mayP D es a b).2]) ∧ Below w.heap.size w w' := by
  have HE := Aside0.mk hE
  clear hE
  obtain ⟨p, hp⟩ : ∃ p, p = (mayP D es a b).1 := ⟨_, rfl⟩
  obtain ⟨q, hq⟩ : ∃ q, q = (mayP D es a b).2 := ⟨_, rfl⟩
  rw [← hp, ← hq]
  have HP := Aside0.mk hp
  have HQ := Aside0.mk hq
  clear hp hq
  go_enter Try.func16, Try.ntmps16
  go_wp2_with fail
  have hB0 : Below w.heap.size w (w.alloc (.cells #[.int .i64 a, .int .i64 b] 3)) := below_al (Below.refl _ _) _
  have hc0 : (w.alloc (.cells #[.int .i64 a, .int .i64 b] 3)).cell? ⟨w.heap.size, 0, none⟩ = some (.int .i64 a) := cell_blk (blk_new _ _) 0
  have hc1 : (w.alloc (.cells #[.int .i64 a, .int .i64 b] 3)).cell? ⟨w.heap.size, 1, none⟩ = some (.int .i64 b) := cell_blk (blk_new _ _) 1
  generalize w.alloc (.cells #[.int .i64 a, .int .i64 b] 3) = W at *
  refine (looked_any D B d es _ 2 [a, b] W (Kd.C_below HE.out hB0) hd (C_two hc0 hc1) (by omega) (by simp)).mono ?_
  obtain ⟨r, hr⟩ : ∃ r, r = lookedP D es [a, b] := ⟨_, rfl⟩
  rw [← hr]
  rintro e w1 ⟨rfl, hB1⟩
  have hP := HP.out
  have hQ := HQ.out
  rw [mayP, ← hr] at hP hQ
  clear hr
  by_cases h0 : r = 0
  · subst h0
    rw [if_pos rfl] at hP hQ
    subst hQ
    have HPP := Aside0.mk hP
    clear hP
    go_wp2_with fail
    refine (api_Edge_26.calls (es.length + 1) B d es a b _ w1 (Kd.C_below HE.out (below_then hB0 hB1)) hd (contains_f (by omega) a b)).mono ?_
    rw [← HPP.out]
    rintro e w2 ⟨rfl, hB2x⟩
    have hB2 : Below w1.heap.size w1 w2 := by first | exact hB2x | exact hB2x.below
    clear hB2x
    go_wp2
    go_ret2
    exact ⟨rfl, below_then (below_then hB0 hB1) hB2⟩
  · have hn : (r == 0) = false := by simpa using h0
    rw [if_neg h0] at hP hQ
    subst hP hQ
    clear h0
    go_wp2
    go_ret2
    exact ⟨rfl, below_then hB0 hB1⟩
end Go.Proofs.Ytefkdicejhjfoaa
