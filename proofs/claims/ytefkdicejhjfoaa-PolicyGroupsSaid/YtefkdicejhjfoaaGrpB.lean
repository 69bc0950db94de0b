import Derived.Test.YtefkdicejhjfoaaGrp
namespace Go.Proofs.Ytefkdicejhjfoaa
open Go.RowKit Go.Proofs.YtefkdicejhjfoaaW.PrintWords Go.Proofs.YtefkdicejhjfoaaW.PrintLast Go.Proofs.YtefkdicejhjfoaaW.PrintMore
/-! The document's Groups. -/
theorem wrap_m1 {c : Nat} (h : c < 4611686018427387904) : wrap64 ((c : Int) - 1) = (c : Int) - 1 := by unfold wrap64; omega
theorem rgroups_l1 {D d : Nat} (hD : D ≤ 16) (hd : d < D) {es : List PPolicyPaths.S35} {K : Nat} (hK : ∀ a, a < D → ∀ k, K ≤ k → ∃ r : List Bool, r.length = D ∧ PPolicyAbove.rotaref17_reached.f k (D : Int) (es.map toA) (a : Int) = some r ∧ ∀ b : Nat, Ab.fn r b = rchB es a b)
    (acc : List Int) (hacc : acc.length ≤ 16) (F : Nat) : ∀ (c k g : Nat), K + c + 1 + F ≤ k → c ≤ D → Mut es d g → g ≤ d → (∀ o, c ≤ o → o < g → ¬ Mut es d o) →
      ∃ k', F ≤ k' ∧ PPolicyAbove.rotaref17_Groups.l1 k (D : Int) (es.map toA) acc (d : Int) (g : Int) ((c : Int) - 1) = PPolicyAbove.rotaref17_Groups.l0 k' (D : Int) (es.map toA) (acc ++ [(leastOf es d : Int)]) ((d + 1 : Nat) : Int) := by
  intro c
  induction c with
  | zero =>
    intro k g hk _ hm hg hl
    obtain ⟨k, rfl⟩ : ∃ k', k = k' + 1 := ⟨k - 1, by omega⟩
    have hlo : leastOf es d = g := leastOf_eq ⟨hm, fun o ho => hl o (by omega) ho⟩
    refine ⟨k, by omega, ?_⟩
    rw [PPolicyAbove.rotaref17_Groups.l1, if_neg (by omega), if_pos (by omega), wrap_succ (by omega), hlo]
  | succ c ih =>
    intro k g hk hc hm hg hl
    obtain ⟨k, rfl⟩ : ∃ k', k = k' + 1 := ⟨k - 1, by omega⟩
    rw [show ((c + 1 : Nat) : Int) - 1 = (c : Int) by omega, PPolicyAbove.rotaref17_Groups.l1, if_pos (by omega), wrap_m1 (by omega)]
    by_cases hcg : c < g
    · obtain ⟨r, hr, he, hb⟩ := hK d hd k (by omega)
      obtain ⟨r2, hr2, he2, hb2⟩ := hK c (by omega) k (by omega)
      have h1 : rdOf false r (c : Int) = rchB es d c := hb c
      have h2 : rdOf false r2 (d : Int) = rchB es c d := hb2 d
      rw [if_pos (by omega), he, Option.bind_some, if_pos (by omega), if_pos (by omega), h1]
      by_cases hx : rchB es d c = true
      · rw [if_pos hx, he2, Option.bind_some, if_pos (by omega), if_pos (by omega), h2]
        by_cases hy : rchB es c d = true
        · rw [if_pos hy]
          exact ih k c (by omega) (by omega) ⟨hx, hy⟩ (by omega) (fun o h1 h2 => by omega)
        · rw [if_neg hy]
          refine ih k g (by omega) (by omega) hm hg (fun o h1 h2 hmo => ?_)
          by_cases ho : o = c
          · subst ho; exact hy hmo.2
          · exact hl o (by omega) h2 hmo
      · rw [if_neg hx]
        refine ih k g (by omega) (by omega) hm hg (fun o h1 h2 hmo => ?_)
        by_cases ho : o = c
        · subst ho; exact hx hmo.1
        · exact hl o (by omega) h2 hmo
    · rw [if_neg (by omega)]
      exact ih k g (by omega) (by omega) hm hg (fun o h1 h2 => by omega)
theorem rgroups_l0 {D : Nat} (hD : D ≤ 16) {es : List PPolicyPaths.S35} {K : Nat} (hK : ∀ a, a < D → ∀ k, K ≤ k → ∃ r : List Bool, r.length = D ∧ PPolicyAbove.rotaref17_reached.f k (D : Int) (es.map toA) (a : Int) = some r ∧ ∀ b : Nat, Ab.fn r b = rchB es a b) :
    ∀ m i k, i + m = D → m * (K + D + 3) + 1 ≤ k → PPolicyAbove.rotaref17_Groups.l0 k (D : Int) (es.map toA) (groupsL es i) (i : Int) = some (groupsL es D, 0) := by
  intro m
  induction m with
  | zero =>
    intro i k hi hk
    obtain ⟨k, rfl⟩ : ∃ k', k = k' + 1 := ⟨k - 1, by omega⟩
    obtain rfl : i = D := by omega
    rw [PPolicyAbove.rotaref17_Groups.l0, if_neg (by omega)]
  | succ m ih =>
    intro i k hi hk
    have hmul : (m + 1) * (K + D + 3) = m * (K + D + 3) + (K + D + 3) := by rw [Nat.add_mul, Nat.one_mul]
    rw [hmul] at hk
    obtain ⟨k, rfl⟩ : ∃ k', k = k' + 1 := ⟨k - 1, by omega⟩
    rw [PPolicyAbove.rotaref17_Groups.l0, if_pos (by omega), wrap_m1 (by omega)]
    obtain ⟨k', hk', he⟩ := rgroups_l1 hD (show i < D by omega) hK (groupsL es i) (by rw [groupsL_length]; omega) (m * (K + D + 3) + 1) D k i (by omega) (Nat.le_refl _) (Mut.refl es i) (Nat.le_refl _) (fun o h1 h2 => by omega)
    rw [he]
    exact ih (i + 1) k' (by omega) hk'
theorem rgroups_any (D : Int) (B : Option Addr) (d : Nat) (es : List PPolicyPaths.S35) (w : World) (hE : Kd.C PPolicyPaths.k35 w B es.length es) (hd : es.length ≤ d) (hl : es.length < 8796093022208) :
    Calls Try.prog 21 #[.int .i64 D, .slice B es.length d] w fun e w' => ∃ v, e = .returned (.tuple #[v, .int .i64 (groupsP D es).2]) ∧ Kd.R (Kd.int .i64) 3 w' w.heap.size (fun _ => True) v (groupsP D es).1 ∧ Below w.heap.size w w' := by
  have h : ∃ k, PPolicyAbove.rotaref17_Groups.f k D (es.map toA) = some ((groupsP D es).1, (groupsP D es).2) := by
    by_cases h0 : lookedP D es [] = 0
    · obtain ⟨D', rfl, h1, h2, hf, _⟩ := looked_zero h0
      obtain ⟨K, hK⟩ := rreached_all h2 hf (by omega) D' (Nat.le_refl _)
      refine ⟨D' * (K + D' + 3) + 1 + (es.length + 2), ?_⟩
      have h00 : ((0 : Nat) : Int) = 0 := rfl
      have hg := rgroups_l0 h2 hK D' 0 (D' * (K + D' + 3) + 1 + (es.length + 2)) (by omega) (by omega)
      rw [h00, groupsL] at hg
      rw [looked_nil] at h0
      rw [PPolicyAbove.rotaref17_Groups.f, Ab.rcheck_f (by rw [List.length_map]; omega) (by rw [List.length_map]; omega), Option.bind_some, toA_chk, if_pos h0, hg, groupsP, looked_nil, if_pos h0]
      rfl
    · refine ⟨es.length + 2, ?_⟩
      rw [looked_nil] at h0
      rw [PPolicyAbove.rotaref17_Groups.f, Ab.rcheck_f (by rw [List.length_map]; omega) (by rw [List.length_map]; omega), Option.bind_some, toA_chk, if_neg h0, groupsP, looked_nil, if_neg h0]
  obtain ⟨k, h⟩ := h
  have hC := C_conv toA rfl (fun _ _ => toA_k) hE
  have hcall := PPolicyAbove.rotaref17_Groups.calls k D B d (es.map toA) _ _ w (by rw [List.length_map]; exact hC) (by rw [List.length_map]; exact hd) h
  rw [List.length_map] at hcall
  exact hcall
end Go.Proofs.Ytefkdicejhjfoaa
