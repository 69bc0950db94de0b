import Derived.Test.YtikoonomhojlkaaFqF
set_option linter.unusedSimpArgs false
set_option linter.unusedVariables false
namespace Go.Proofs.Ytikoonomhojlkaa
open Go.RowKit Go.Proofs.YtikoonomhojlkaaW.PrintWords Go.Proofs.YtikoonomhojlkaaW.PrintMore Go.Proofs.YtikoonomhojlkaaW.PrintLast
/-! What a queue answers, in plain words; its list exchanged. -/
def Ex (ok : Nat → Prop) (w w' : World) (k : Nat) : Prop := ok k ∨ (w.heap.size ≤ k ∧ k < w'.heap.size)
def isB (g0 g1 : Int) (y : Wt) : Bool := decide (y.f0.f0 = g0) && decide (y.f0.f1 = g1)
theorem isB_iff {g0 g1 : Int} {y : Wt} : isB g0 g1 y = true ↔ Is g0 g1 y := by unfold isB Is; simp
def ltT (t : Int) (y : Wt) : Bool := decide (y.f1 < t)
def eqT (t : Int) (y : Wt) : Bool := decide (y.f1 = t)
def insL (l : List Wt) (x : Wt) : List Wt := l.takeWhile (ltT x.f1) ++ x :: l.dropWhile (ltT x.f1)
def putL (l : List Wt) (x : Wt) : List Wt × Int := if l.any (isB x.f0.f0 x.f0.f1) || l.any (eqT x.f1) then (l, 30) else if 4096 ≤ l.length then (l, 2) else (insL l x, 0)
theorem cut_at {α : Type} (p : α → Bool) : ∀ (l : List α) (r : Nat), r ≤ l.length → (∀ j y, j < r → l[j]? = some y → p y = true) → (∀ j y, r ≤ j → l[j]? = some y → p y = false) → l.takeWhile p = l.take r ∧ l.dropWhile p = l.drop r
  | [], r, hr, _, _ => by simp
  | y :: l, 0, _, _, h2 => by
    have := h2 0 y (Nat.le_refl _) rfl
    rw [List.takeWhile_cons, List.dropWhile_cons, this]
    exact ⟨rfl, rfl⟩
  | y :: l, r + 1, hr, h1, h2 => by
    have h := h1 0 y (by omega) rfl
    have ih := cut_at p l r (by simpa using hr) (fun j z hj hz => h1 (j + 1) z (by omega) (by simpa using hz)) (fun j z hj hz => h2 (j + 1) z (by omega) (by simpa using hz))
    rw [List.takeWhile_cons, List.dropWhile_cons, h]
    simp [ih.1, ih.2]
def gidOf (y : Wt) : Int × Int := (y.f0.f0, y.f0.f1)
structure GoodQ (l : List Wt) : Prop where
  rises : Rises l
  len : l.length ≤ 4096
  apart : (l.map gidOf).Nodup
theorem any_iff {l : List Wt} {p : Wt → Bool} : l.any p = true ↔ ∃ (j : Nat) (y : Wt), l[j]? = some y ∧ p y = true := by
  rw [List.any_eq_true]
  constructor
  · rintro ⟨y, hy, hp⟩
    obtain ⟨j, hj, rfl⟩ := List.getElem_of_mem hy
    exact ⟨j, _, List.getElem?_eq_getElem hj, hp⟩
  · rintro ⟨j, y, hy, hp⟩
    exact ⟨y, List.mem_of_getElem? hy, hp⟩
theorem any_no {l : List Wt} {p : Wt → Bool} (h : ∀ (j : Nat) (y : Wt), l[j]? = some y → p y = false) : l.any p = false := by
  cases hc : l.any p with
  | false => rfl
  | true =>
    obtain ⟨j, y, hy, hp⟩ := any_iff.1 hc
    rw [h j y hy] at hp
    cases hp
/-- The turn stands just where the search ended, or nowhere. -/
theorem turn_there {l : List Wt} {t : Int} {r : Nat} (hR : Rises l) (hlo : ∀ j y, j < r → l[j]? = some y → y.f1 < t) (hhi : ∀ j y, r ≤ j → l[j]? = some y → t ≤ y.f1) : l.any (eqT t) = true ↔ ∃ y, l[r]? = some y ∧ y.f1 = t := by
  rw [any_iff]
  constructor
  · rintro ⟨j, y, hy, hp⟩
    have hp : y.f1 = t := by simpa [eqT] using hp
    have h1 : ¬ j < r := fun h => by have := hlo j y h hy; omega
    by_cases e : j = r
    · subst e; exact ⟨y, hy, hp⟩
    · obtain ⟨z, hz⟩ : ∃ z, l[r]? = some z := ⟨_, List.getElem?_eq_getElem (by have := (List.getElem?_eq_some_iff.1 hy).1; omega)⟩
      have h2 := hhi r z (Nat.le_refl _) hz
      have h3 := hR r j z y (by omega) hz hy
      omega
  · rintro ⟨y, hy, hp⟩
    exact ⟨r, y, hy, by simp [eqT, hp]⟩
section
variable {α : Type} {d : Kd α} {w w1 w' : World} {base e g t b : Nat} {ok F : Nat → Prop} {v v1 : Value} {xs : List α} {l l1 : List Wt}
theorem R_blk {cs : Array Value} (h : d.R e w base ok v xs) (hb : w.heap[g]? = some (.cells cs t (0, 0))) (hne : e ≠ t) : ¬ v.ownBlock = some g := fun hk => by
  obtain ⟨cs', hc⟩ := R_typed' h g hk
  rw [hb] at hc
  injection hc with hc
  injection hc with _ hc
  exact hne hc.symm
theorem R_keepT {cs : Array Value} (h : d.R e w base ok v xs) (hE : d.E = []) (hb : w.heap[g]? = some (.cells cs t (0, 0))) (hne : e ≠ t) (hk : Keep (fun k => k = g) w w1) : d.R e w1 base ok v xs :=
  Kd.R_mono (Kd.R_step (Kd.R_bound h) (fun k ho hl => hk.block k hl (fun f => by
    obtain ⟨q, hq, cs', hc⟩ := ho.2.2.2
    rw [hE, List.mem_singleton] at hq
    subst hq
    subst f
    rw [hb] at hc
    injection hc with hc
    injection hc with _ hc
    exact hne hc.symm))) (fun _ h => h.1)
theorem QB.mono {ok' : Nat → Prop} (h : QB w base ok b l v) (ho : ∀ k, ok k → ok' k) (hz : ∀ k, ok' k → base ≤ k ∧ k < w.heap.size) : QB w base ok' b l v := ⟨hz, ho b h.hb, h.blk, Kd.R_mono h.r ho⟩
theorem QB.far (h : QB w base ok b l v) (hb : base ≤ w.heap.size) (hB : Below w.heap.size w w') : QB w' base (Ex ok w w') b l v :=
  (h.below hB).mono (fun k hk => .inl hk) (fun k hk => hk.elim (fun h' => by have := h.z k h'; have := hB.size; omega) (fun h' => by omega))
theorem QB.lt (h : QB w base ok b l v) : base ≤ w.heap.size := by have := h.z b h.hb; omega
/-- Another list is stored. -/
theorem QB.store {w0 : World} (h : QB w0 base ok b l v) (hk0 : Keep ok w w0) (hs0 : w.heap.size ≤ w0.heap.size) (hk1 : Keep (fun k => v.ownBlock = some k) w0 w1) (hr : Kd.R kW TW w1 base (fun k => ok k ∨ w.heap.size ≤ k) v1 l1) (hz : ∀ k, ok k → base ≤ k ∧ k < w.heap.size) :
    QB (w1.setCell ⟨b, 0, none⟩ v1) base (Ex ok w (w1.setCell ⟨b, 0, none⟩ v1)) b l1 v1 ∧ Keep ok w (w1.setCell ⟨b, 0, none⟩ v1) := by
  have hb1 := blk_keep h.blk hk1 (R_blk h.r h.blk (by decide))
  have hS : Keep (fun k => k = b) w1 (w1.setCell ⟨b, 0, none⟩ v1) := (by repeat (first | (with_reducible exact Keep.refl _ _) | (with_reducible refine Keep.drewN ?_ _) | (with_reducible refine Keep.drew ?_) | (with_reducible refine Keep.setCell ?_ _ _ (by first | (right; with_reducible rfl) | (left; simp; done) | (left; simp; omega) | (right; simp; done) | (right; assumption))) | (with_reducible refine Keep.alloc ?_ _)))
  have hKK := (hk0.trans (hk1.mono (fun k _ e => h.r.1 k e))).trans (hS.mono (fun k _ e => by subst e; exact h.hb))
  have hbw : base ≤ w.heap.size := by have := hz b h.hb; omega
  refine ⟨⟨fun k hk => hk.elim (fun h' => by have := hz k h'; have := hKK.size; omega) (fun h' => by omega), .inl h.hb, ?_, ?_⟩, hKK⟩
  · have := blk_set (i := 0) (u := v1) hb1
    simpa using this
  · refine Kd.R_mono (Kd.R_bound (R_keepT hr rfl hb1 (by decide) hS)) (fun k ho => ho.1.imp id (fun h => ⟨h, ho.2.2.1⟩))
end
theorem find_b {w : World} {base b : Nat} {ok : Nat → Prop} {l : List Wt} {v : Value} (g0 g1 : Int) (h : QB w base ok b l v) (hl : l.length ≤ 4096) : Calls Try.prog 25 #[.pointer (some ⟨b, 0, none⟩), .agg #[.int .i64 g0, .int .i64 g1]] w fun e w' => Below w.heap.size w w' ∧ ∃ rf : Int, e = .returned (.int .i64 rf) ∧ ((0 ≤ rf ∧ l.any (isB g0 g1) = true) ∨ (rf = -1 ∧ l.any (isB g0 g1) = false)) :=
  (find_any g0 g1 h hl).mono fun e w' ⟨hB, hFP⟩ => by
    rcases hFP with ⟨i, z, he, hz, hI, -⟩ | ⟨he, hN⟩
    · exact ⟨hB, i, he, .inl ⟨by omega, any_iff.2 ⟨i, z, hz, isB_iff.2 hI⟩⟩⟩
    · exact ⟨hB, -1, he, .inr ⟨rfl, any_no (fun j z hz => by cases hb : isB g0 g1 z with | false => rfl | true => exact absurd (isB_iff.1 hb) (hN j z hz))⟩⟩
end Go.Proofs.Ytikoonomhojlkaa
