import Derived.Test.YtefkdicejhjfoaaPPolicyAbovex
import Derived.Test.YtefkdicejhjfoaaAbC
import Derived.Test.YtefkdicejhjfoaaPolE
namespace Go.Proofs.Ytefkdicejhjfoaa
open Go.RowKit Go.Proofs.YtefkdicejhjfoaaW.PrintWords Go.Proofs.YtefkdicejhjfoaaW.PrintLast Go.Proofs.YtefkdicejhjfoaaW.PrintMore
/-! The document's Above. -/
def toA (e : PPolicyPaths.S35) : PPolicyAbove.S35 := ⟨e.f0, e.f1⟩
theorem toA_k {w : World} {x : PPolicyPaths.S35} {cs : List Value} (h : PPolicyPaths.k35.K w x cs) : PPolicyAbove.k35.K w (toA x) cs := by
  obtain ⟨_, _, rfl, rfl, rfl⟩ := h
  exact ⟨_, _, rfl, rfl, rfl⟩
theorem toA_E (es : List PPolicyPaths.S35) : Ab.toE (es.map toA) = toE es := by
  unfold Ab.toE toE
  rw [List.map_map]
  rfl
theorem toA_chkL (D : Int) (es : List PPolicyPaths.S35) : ∀ i, Ab.chkL D (es.map toA) i = chkL D es i := by
  induction es with
  | nil => intro i; rfl
  | cons e es ih => intro i; rw [List.map_cons, Ab.chkL, chkL, ih]; rfl
theorem toA_chk (D : Int) (es : List PPolicyPaths.S35) : Ab.chk D (es.map toA) = chk D es := by
  unfold Ab.chk chk
  rw [toA_chkL]
theorem toA_fits {D : Nat} {es : List PPolicyPaths.S35} (h : Fits D es) : Ab.Fits D (es.map toA) := by
  intro e he
  obtain ⟨x, hx, rfl⟩ := List.mem_map.1 he
  exact h x hx
theorem C_conv {α β : Type} {d : Kd α} {d' : Kd β} {w : World} {A : Option Addr} {n : Nat} {xs : List α} (g : α → β) (hs : d.sz = d'.sz) (hK : ∀ x cs, d.K w x cs → d'.K w (g x) cs) (h : d.C w A n xs) : d'.C w A n (xs.map g) := by
  refine ⟨by rw [List.length_map]; exact h.1, h.2.1, fun hn => ?_⟩
  obtain ⟨ad, e, hc⟩ := h.2.2 hn
  refine ⟨ad, e, fun j p hp => ?_⟩
  rw [List.getElem?_map] at hp
  obtain ⟨x, hx, rfl⟩ := Option.map_eq_some_iff.1 hp
  obtain ⟨c, hl, hk, hat⟩ := hc j x hx
  exact ⟨c, by rw [hl, hs], hK x c hk, by rw [← hs]; exact hat⟩
theorem aasked_f {D : Int} {es : List PPolicyPaths.S35} (hl : es.length < 17592186044416) (a : Int) {k : Nat} (hk : es.length + 2 ≤ k) : PPolicyAbove.rotaref17_asked.f k D (es.map toA) a a = some (lookedP D es [a]) := by
  rw [PPolicyAbove.rotaref17_asked.f, Ab.rcheck_f (by rw [List.length_map]; exact hl) (by rw [List.length_map]; exact hk), Option.bind_some, Ab.ref_is, toA_chk]
  unfold lookedP
  by_cases h0 : (chk D es).2 = 0
  · rw [if_pos h0, if_pos h0, Option.bind_some]
    by_cases h1 : 0 ≤ a ∧ a < D
    · rw [decide_eq_true h1, if_pos rfl, Option.bind_some, if_pos rfl, if_neg (by simp [outB]; omega)]
    · rw [decide_eq_false h1, if_neg (by decide), if_pos (by simp [outB]; omega)]
  · rw [if_neg h0, if_neg h0]
theorem fn_rchB {es : List PPolicyPaths.S35} {a : Nat} {r : List Bool} (hi : ∀ i, Ab.fn r i = true ↔ Rch (toE es) a i) (b : Nat) : Ab.fn r b = rchB es a b := by
  have h3 := hi b
  have h4 := rchB_iff (es := es) (a := (a : Int)) (b := (b : Int))
  rw [Int.toNat_natCast, Int.toNat_natCast] at h4
  rw [← h4] at h3
  cases h5 : Ab.fn r b with
  | true => exact (h3.1 h5).symm
  | false =>
    cases h6 : rchB es a b with
    | false => rfl
    | true => rw [h3.2 h6] at h5; cases h5
/-- One fuel serves all domains. -/
theorem rreached_all {D : Nat} (hD : D ≤ 16) {es : List PPolicyPaths.S35} (hf : Fits D es) (hl : es.length < 17592186044416) : ∀ n, n ≤ D → ∃ K, ∀ a, a < n → ∀ k, K ≤ k → ∃ r : List Bool, r.length = D ∧ PPolicyAbove.rotaref17_reached.f k (D : Int) (es.map toA) (a : Int) = some r ∧ ∀ b : Nat, Ab.fn r b = rchB es a b := by
  intro n
  induction n with
  | zero => intro _; exact ⟨0, fun a ha => by omega⟩
  | succ n ih =>
    intro hn
    obtain ⟨K, hK⟩ := ih (by omega)
    obtain ⟨k, r, hr, hk, hi⟩ := Ab.rreached_f hD (show n < D by omega) (toA_fits hf) (by rw [List.length_map]; exact hl)
    rw [toA_E] at hi
    refine ⟨K + k, fun a ha k' hk' => ?_⟩
    by_cases han : a = n
    · subst han
      exact ⟨r, hr, lift (fun k => PPolicyAbove.rotaref17_reached.mono _ _ _ k) hk (by omega), fn_rchB hi⟩
    · exact hK a (by omega) k' (by omega)
theorem rabove_l0 {D o : Nat} (hD : D ≤ 16) (ho : o < D) {es : List PPolicyPaths.S35} {K : Nat} (hK : ∀ a, a < D → ∀ k, K ≤ k → ∃ r : List Bool, r.length = D ∧ PPolicyAbove.rotaref17_reached.f k (D : Int) (es.map toA) (a : Int) = some r ∧ ∀ b : Nat, Ab.fn r b = rchB es a b) :
    ∀ m i k, i + m = D → K + m + 1 ≤ k → PPolicyAbove.rotaref17_Above.l0 k (D : Int) (es.map toA) (o : Int) (aboveL es o i) (i : Int) = some (aboveL es o D, 0) := by
  intro m
  induction m with
  | zero =>
    intro i k hi hk
    obtain ⟨k, rfl⟩ : ∃ k', k = k' + 1 := ⟨k - 1, by omega⟩
    obtain rfl : i = D := by omega
    rw [PPolicyAbove.rotaref17_Above.l0, if_neg (by omega)]
  | succ m ih =>
    intro i k hi hk
    obtain ⟨k, rfl⟩ : ∃ k', k = k' + 1 := ⟨k - 1, by omega⟩
    obtain ⟨r, hr, he, hb⟩ := hK i (by omega) k (by omega)
    have hal := aboveL_length es o i
    have hn := ih (i + 1) k (by omega) (by omega)
    rw [aboveL] at hn
    have hbo : rdOf false r (o : Int) = rchB es i o := hb o
    rw [PPolicyAbove.rotaref17_Above.l0, if_pos (by omega), he, Option.bind_some, if_pos (by omega), if_pos (by omega), hbo, wrap_succ (by omega)]
    cases hc : rchB es i o with
    | true =>
      rw [hc, if_pos rfl] at hn
      rw [if_pos rfl, if_pos (by omega)]
      exact hn
    | false =>
      rw [hc, if_neg (by decide)] at hn
      rw [if_neg (by decide)]
      exact hn
theorem rabove_any (D : Int) (B : Option Addr) (d : Nat) (es : List PPolicyPaths.S35) (o : Int) (w : World) (hE : Kd.C PPolicyPaths.k35 w B es.length es) (hd : es.length ≤ d) (hl : es.length < 8796093022208) :
    Calls Try.prog 20 #[.int .i64 D, .slice B es.length d, .int .i64 o] w fun e w' => ∃ v, e = .returned (.tuple #[v, .int .i64 (aboveP D es o).2]) ∧ Kd.R (Kd.int .i64) 3 w' w.heap.size (fun _ => True) v (aboveP D es o).1 ∧ Below w.heap.size w w' := by
  have h : ∃ k, PPolicyAbove.rotaref17_Above.f k D (es.map toA) o = some ((aboveP D es o).1, (aboveP D es o).2) := by
    by_cases h0 : lookedP D es [o] = 0
    · obtain ⟨D', rfl, h1, h2, hf, hof⟩ := looked_zero h0
      obtain ⟨o', rfl, ho⟩ := hof o (by simp)
      obtain ⟨K, hK⟩ := rreached_all h2 hf (by omega) D' (Nat.le_refl _)
      refine ⟨K + D' + es.length + 3, ?_⟩
      have h00 : ((0 : Nat) : Int) = 0 := rfl
      have hg := rabove_l0 h2 ho hK D' 0 (K + D' + es.length + 3) (by omega) (by omega)
      rw [h00, aboveL] at hg
      rw [PPolicyAbove.rotaref17_Above.f, aasked_f (by omega) _ (by omega), Option.bind_some, if_pos h0, hg, aboveP, if_pos h0]
      rfl
    · refine ⟨es.length + 2, ?_⟩
      rw [PPolicyAbove.rotaref17_Above.f, aasked_f (by omega) _ (by omega), Option.bind_some, if_neg h0, aboveP, if_neg h0]
  obtain ⟨k, h⟩ := h
  have hC := C_conv toA rfl (fun _ _ => toA_k) hE
  have hcall := PPolicyAbove.rotaref17_Above.calls k D B d (es.map toA) o _ _ w (by rw [List.length_map]; exact hC) (by rw [List.length_map]; exact hd) h
  rw [List.length_map] at hcall
  exact hcall
end Go.Proofs.Ytefkdicejhjfoaa
