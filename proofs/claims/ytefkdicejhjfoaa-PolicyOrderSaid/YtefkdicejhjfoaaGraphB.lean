import Derived.Test.YtefkdicejhjfoaaPPolicyPathsx
import Derived.Test.YtefkdicejhjfoaaGraph
namespace Go.Proofs.Ytefkdicejhjfoaa
open Go.RowKit Go.Proofs.YtefkdicejhjfoaaW.PrintWords Go.Proofs.YtefkdicejhjfoaaW.PrintLast Go.Proofs.YtefkdicejhjfoaaW.PrintMore Go.Proofs.Ytefkdicejhjfoaa.PPolicyPaths
/-! What the program's functions and the document's compute, as plain answers. -/
def badE (D : Int) (e : S35) : Bool := decide (e.f0 = e.f1) || decide (e.f0 < 0) || decide (D ≤ e.f0) || decide (e.f1 < 0) || decide (D ≤ e.f1)
def chkL (D : Int) : List S35 → Nat → Int × Int
  | [], _ => (0, 0)
  | e :: es, i => if badE D e = true then ((i : Int), 170) else chkL D es (i + 1)
/-- Check: the place of the first edge that may not be, and why. -/
def chk (D : Int) (es : List S35) : Int × Int := if D < 1 ∨ 16 < D then (0, 1) else chkL D es 0
theorem wrap_succ {n : Nat} (h : n < 17592186044416) : wrap64 ((n : Int) + 1) = ((n + 1 : Nat) : Int) := by unfold wrap64; omega
theorem rd35 {es : List S35} {i : Nat} {e : S35} (h : es[i]? = some e) : rd_T35 es i = e := by
  simp [rd_T35, List.getD_eq_getElem?_getD, h]
theorem drop_at {α : Type} {l : List α} {i : Nat} {e : α} (h : l[i]? = some e) : l.drop i = e :: l.drop (i + 1) := by
  obtain ⟨hk, he⟩ := List.getElem?_eq_some_iff.1 h
  rw [List.drop_eq_getElem_cons hk, he]
theorem chk_l0 {D : Int} {es : List S35} (hl : es.length < 17592186044416) : ∀ m i k, i + m = es.length → m + 1 ≤ k → policy_Check.l0 k D es (es.length : Int) (i : Int) = some (chkL D (es.drop i) i) := by
  intro m
  induction m with
  | zero =>
    intro i k hi hk
    obtain ⟨k, rfl⟩ : ∃ k', k = k' + 1 := ⟨k - 1, by omega⟩
    rw [policy_Check.l0, if_neg (by omega), List.drop_eq_nil_of_le (by omega)]
    rfl
  | succ m ih =>
    intro i k hi hk
    obtain ⟨k, rfl⟩ : ∃ k', k = k' + 1 := ⟨k - 1, by omega⟩
    have he : es[i]? = some es[i] := List.getElem?_eq_getElem (by omega)
    generalize es[i] = e at he
    rw [policy_Check.l0, if_pos (by omega), if_pos (by omega), if_pos (by omega), rd35 he, drop_at he, chkL, wrap_succ (by omega), ih (i + 1) k (by omega) (by omega)]
    unfold badE
    by_cases h1 : e.f0 = e.f1
    · rw [if_pos h1, if_pos (by simp [h1])]
    · rw [if_neg h1]
      by_cases h2 : e.f0 < 0
      · rw [if_pos h2, if_pos (by simp [h2])]
      · rw [if_neg h2]
        by_cases h3 : e.f0 ≥ D
        · rw [if_pos h3, if_pos (by simp; omega)]
        · rw [if_neg h3]
          by_cases h4 : e.f1 < 0
          · rw [if_pos h4, if_pos (by simp [h4])]
          · rw [if_neg h4]
            by_cases h5 : e.f1 ≥ D
            · rw [if_pos h5, if_pos (by simp; omega)]
            · rw [if_neg h5, if_neg (by simp; omega)]
theorem check_f {D : Int} {es : List S35} (hl : es.length < 17592186044416) {k : Nat} (hk : es.length + 2 ≤ k) : policy_Check.f k D es = some (chk D es) := by
  obtain ⟨k, rfl⟩ : ∃ k', k = k' + 1 := ⟨k - 1, by omega⟩
  unfold policy_Check.f chk
  by_cases h1 : D < 1
  · rw [if_pos h1, if_pos (.inl h1), policy_Check.j0, if_pos rfl]
  · rw [if_neg h1]
    by_cases h2 : D > 16
    · rw [decide_eq_true h2, if_pos (.inr h2), policy_Check.j0, if_pos rfl]
    · rw [decide_eq_false h2, if_neg (by omega), policy_Check.j0, if_neg (by decide)]
      exact chk_l0 hl es.length 0 k (by omega) (by omega)
theorem ref_is (D x : Int) : rotaref17_is.f D x = some (decide (0 ≤ x ∧ x < D)) := by
  unfold rotaref17_is.f
  by_cases h : x ≥ 0
  · rw [if_pos h]; congr 1; simp; omega
  · rw [if_neg h]; congr 1; simp; omega
theorem rchk_l0 {D : Int} {es : List S35} (hl : es.length < 17592186044416) : ∀ m i k, i + m = es.length → m + 1 ≤ k → rotaref17_Check.l0 k D es (i : Int) = some (chkL D (es.drop i) i) := by
  intro m
  induction m with
  | zero =>
    intro i k hi hk
    obtain ⟨k, rfl⟩ : ∃ k', k = k' + 1 := ⟨k - 1, by omega⟩
    rw [rotaref17_Check.l0, if_neg (by omega), List.drop_eq_nil_of_le (by omega)]
    rfl
  | succ m ih =>
    intro i k hi hk
    obtain ⟨k, rfl⟩ : ∃ k', k = k' + 1 := ⟨k - 1, by omega⟩
    have he : es[i]? = some es[i] := List.getElem?_eq_getElem (by omega)
    generalize es[i] = e at he
    rw [rotaref17_Check.l0, if_pos (by omega), if_pos (by omega), rd35 he, drop_at he, chkL, wrap_succ (by omega), ih (i + 1) k (by omega) (by omega), ref_is, ref_is, Option.bind_some]
    unfold badE
    by_cases h1 : 0 ≤ e.f0 ∧ e.f0 < D
    · rw [decide_eq_true h1, if_pos rfl, Option.bind_some]
      by_cases h2 : 0 ≤ e.f1 ∧ e.f1 < D
      · rw [decide_eq_true h2, if_pos rfl]
        by_cases h3 : e.f0 = e.f1
        · rw [if_pos h3, if_pos (by simp [h3])]
        · rw [if_neg h3, if_neg (by simp; omega)]
      · rw [decide_eq_false h2, if_neg (by decide), if_pos (by simp; omega)]
    · rw [decide_eq_false h1, if_neg (by decide), if_pos (by simp; omega)]
theorem rcheck_f {D : Int} {es : List S35} (hl : es.length < 17592186044416) {k : Nat} (hk : es.length + 2 ≤ k) : rotaref17_Check.f k D es = some (chk D es) := by
  obtain ⟨k, rfl⟩ : ∃ k', k = k' + 1 := ⟨k - 1, by omega⟩
  unfold rotaref17_Check.f chk
  by_cases h1 : D < 1
  · rw [if_pos h1, if_pos (.inl h1), rotaref17_Check.j0, if_pos rfl]
  · rw [if_neg h1]
    by_cases h2 : D > 16
    · rw [decide_eq_true h2, if_pos (.inr h2), rotaref17_Check.j0, if_pos rfl]
    · rw [decide_eq_false h2, if_neg (by omega), rotaref17_Check.j0, if_neg (by decide)]
      exact rchk_l0 hl es.length 0 k (by omega) (by omega)
theorem edges_l0 {es : List S35} (hl : es.length < 8796093022208) : ∀ m i k, i + m = es.length → m + 1 ≤ k → rotalaw17_edges.l0 k es (es.take i) (i : Int) = some es := by
  intro m
  induction m with
  | zero =>
    intro i k hi hk
    obtain ⟨k, rfl⟩ : ∃ k', k = k' + 1 := ⟨k - 1, by omega⟩
    rw [rotalaw17_edges.l0, if_neg (by omega), List.take_of_length_le (by omega)]
  | succ m ih =>
    intro i k hi hk
    obtain ⟨k, rfl⟩ : ∃ k', k = k' + 1 := ⟨k - 1, by omega⟩
    have he : es[i]? = some es[i] := List.getElem?_eq_getElem (by omega)
    generalize es[i] = e at he
    rw [rotalaw17_edges.l0, if_pos (by omega), if_pos (by omega), if_pos (by rw [List.length_take]; omega), rd35 he, wrap_succ (by omega)]
    have ht : es.take i ++ [(⟨e.f0, e.f1⟩ : S35)] = es.take (i + 1) := by
      rw [List.take_add_one, he]
      rfl
    rw [ht]
    exact ih (i + 1) k (by omega) (by omega)
theorem edges_f {es : List S35} (hl : es.length < 8796093022208) {k : Nat} (hk : es.length + 1 ≤ k) : rotalaw17_edges.f k es = some es := edges_l0 hl es.length 0 k (by omega) hk
/-- The edges, as pairs of numbers; edges that may be. -/
def toE (es : List S35) : List (Nat × Nat) := es.map (fun e => (e.f0.toNat, e.f1.toNat))
def Fits (D : Nat) (es : List S35) : Prop := ∀ e ∈ es, 0 ≤ e.f0 ∧ e.f0 < D ∧ 0 ≤ e.f1 ∧ e.f1 < D
theorem chkL_fits {D : Nat} {es : List S35} : ∀ {i : Nat}, (chkL D es i).2 = 0 → Fits D es := by
  induction es with
  | nil => intro i _ e he; cases he
  | cons e es ih =>
    intro i h
    rw [chkL] at h
    split at h
    · cases h
    · rename_i hb
      intro e' he'
      rcases List.mem_cons.1 he' with rfl | he'
      · unfold badE at hb
        simp at hb
        omega
      · exact ih h e' he'
theorem chk_fits {D : Int} {es : List S35} (h : (chk D es).2 = 0) : ∃ d : Nat, D = d ∧ 1 ≤ d ∧ d ≤ 16 ∧ Fits d es := by
  unfold chk at h
  split at h
  · cases h
  · obtain ⟨d, rfl⟩ := Int.eq_ofNat_of_zero_le (show 0 ≤ D by omega)
    exact ⟨d, rfl, by omega, by omega, chkL_fits h⟩
theorem fits_lt {D : Nat} {es : List S35} (h : Fits D es) : ∀ e ∈ toE es, e.1 < D ∧ e.2 < D := by
  intro e he
  obtain ⟨x, hx, rfl⟩ := List.mem_map.1 he
  have := h x hx
  simp only
  omega
end Go.Proofs.Ytefkdicejhjfoaa
