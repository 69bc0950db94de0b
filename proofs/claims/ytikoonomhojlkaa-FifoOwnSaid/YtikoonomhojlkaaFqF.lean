import Derived.Test.YtikoonomhojlkaaFqD
import Derived.Deep.DrawnRows
import Derived.RegionTactic
import Derived.BigRegion
import Derived.IntWalk
set_option linter.unusedSimpArgs false
set_option linter.unusedVariables false
namespace Go.Proofs.Ytikoonomhojlkaa
open Go.RowKit Go.Proofs.YtikoonomhojlkaaW.PrintWords Go.Proofs.YtikoonomhojlkaaW.PrintMore Go.Proofs.YtikoonomhojlkaaW.PrintLast
/-! A queue; where a turn, where a goroutine stands. -/
abbrev TQ : Nat := 59
structure QB (w : World) (base : Nat) (ok : Nat → Prop) (b : Nat) (l : List Wt) (v : Value) : Prop where
  z : ∀ k, ok k → base ≤ k ∧ k < w.heap.size
  hb : ok b
  blk : w.heap[b]? = some (.cells #[v] TQ (0, 0))
  r : Kd.R kW TW w base ok v l
def turnAt (l : List Wt) (i : Nat) : Int := match l[i]? with
  | some y => y.f1
  | none => 0
theorem turn_at {l : List Wt} {i : Nat} {y : Wt} (h : l[i]? = some y) : turnAt l i = y.f1 := by unfold turnAt; rw [h]
set_option maxHeartbeats 2000000 in
theorem place1_any (W : World) (n0 n1 b : Nat) (A : Option Addr) (c : Nat) (l : List Wt) (t : Int) (i : Nat) (hi : i < l.length) (hl : l.length ≤ 4096) (h0 : W.cell? ⟨n0, 0, none⟩ = some (.pointer (some ⟨b, 0, none⟩))) (h1 : W.cell? ⟨n1, 0, none⟩ = some (.int .u64 t)) (hb : W.cell? ⟨b, 0, none⟩ = some (.slice A l.length c)) (hC : kW.C W A l.length l) :
    Calls Try.prog 35 #[.int .i64 i, .pointer (some ⟨n0, 0, none⟩), .pointer (some ⟨n1, 0, none⟩)] W fun e w' => e = .returned (.bool (decide (t ≤ turnAt l i))) ∧ Below W.heap.size W w' := by
  obtain ⟨ab, off, rfl, hab⟩ := C_form hC (by omega) (by decide)
  obtain ⟨y, hy, e0, e1, e2⟩ := waits_at hC i hi
  rw [turn_at hy]
  have hki : (0 : Int) ≤ (i : Int) := by omega
  have hkl : (i : Int) < (l.length : Int) := by omega
  have HB : Aside0 (Below W.heap.size W W.drew) := ⟨(Below.refl _ _).drew⟩
  clear hC hy
  go_enter Try.func35, Try.ntmps35
  go_wp2_with fail
  go_region
  go_wp2
  go_ret
  exact ⟨rfl, HB.out⟩
set_option maxHeartbeats 2000000 in
theorem search_any (cb : Array Value) (n0 n1 n : Nat) (hcb : cb = #[.pointer (some ⟨n0, 0, none⟩), .pointer (some ⟨n1, 0, none⟩)]) (p : Nat → Bool) (w : World) (hn : n ≤ 4096) (hf : ∀ (W : World) (i : Nat), Below w.heap.size w W → i < n → Calls Try.prog 35 #[.int .i64 i, .pointer (some ⟨n0, 0, none⟩), .pointer (some ⟨n1, 0, none⟩)] W fun e w' => e = .returned (.bool (p i)) ∧ Below W.heap.size W w')
    (hmono : ∀ a b, a ≤ b → b < n → p a = true → p b = true) :
    Calls Try.prog 34 #[.int .i64 n, .func (.func 35) #[] cb] w fun e w' => ∃ r : Nat, e = .returned (.int .i64 r) ∧ r ≤ n ∧ (∀ t, t < r → p t = false) ∧ (∀ t, r ≤ t → t < n → p t = true) ∧ Below w.heap.size w w' := by
  subst hcb
  have HF := Aside0.mk hf
  have HM := Aside0.mk hmono
  have H0 : Aside0 ((∀ t, t < 0 → p t = false) ∧ (∀ t, n ≤ t → t < n → p t = true)) := ⟨⟨fun t ht => by omega, fun t h1 h2 => by omega⟩⟩
  clear hf hmono
  go_enter Try.func34, Try.ntmps34
  go_wp2_with fail
  go_loopw [5, 6] (fun s5 s6 wr => ∃ lo hi : Nat, s5 = .int .i64 lo ∧ s6 = .int .i64 hi ∧ lo ≤ hi ∧ hi ≤ n ∧ Aside0 (Below w.heap.size w wr) ∧ Aside0 ((∀ t, t < lo → p t = false) ∧ (∀ t, hi ≤ t → t < n → p t = true))) (fun s5 s6 _ => (intOf s6).toNat - (intOf s5).toNat)
  case atStart => exact ⟨0, n, rfl, rfl, by omega, by omega, ⟨Below.refl _ _⟩, H0⟩
  case round =>
    obtain ⟨lo, hi, rfl, rfl, hlh, hin, HB, I⟩ := hrel
    by_cases hlt : lo < hi
    · have hc := HF.out wr ((lo + hi) / 2) HB.out (by omega)
      rw [show (((lo + hi) / 2 : Nat) : Int) = ((lo : Int) + (hi : Int)) / 2 by omega] at hc
      cases hp : p ((lo + hi) / 2) <;> rw [hp] at hc
      · have I2 : Aside0 ((∀ t, t < (lo + hi) / 2 + 1 → p t = false) ∧ (∀ t, hi ≤ t → t < n → p t = true)) := ⟨⟨fun t ht => (by
            cases h : p t with
            | false => rfl
            | true => have := HM.out t ((lo + hi) / 2) (by omega) (by omega) h; rw [hp] at this; cases this), I.out.2⟩⟩
        clear hp
        go_wp2_with fail
        refine hc.mono ?_
        clear hc
        rintro e w1 ⟨rfl, hB1⟩
        have HB1 := Aside0.mk (below_then HB.out hB1)
        clear hB1
        go_wp2
        go_roundw
        case rel => exact ⟨(lo + hi) / 2 + 1, hi, by rw [show ((lo : Int) + (hi : Int)) / 2 + 1 = (((lo + hi) / 2 + 1 : Nat) : Int) by omega], rfl, by omega, hin, HB1, I2⟩
        case measure => simp [intOf]; omega
      · have I2 : Aside0 ((∀ t, t < lo → p t = false) ∧ (∀ t, (lo + hi) / 2 ≤ t → t < n → p t = true)) := ⟨⟨I.out.1, fun t ht htn => HM.out ((lo + hi) / 2) t ht htn hp⟩⟩
        clear hp
        go_wp2_with fail
        refine hc.mono ?_
        clear hc
        rintro e w1 ⟨rfl, hB1⟩
        have HB1 := Aside0.mk (below_then HB.out hB1)
        clear hB1
        go_wp2
        go_roundw
        case rel => exact ⟨lo, (lo + hi) / 2, rfl, by rw [show ((lo : Int) + (hi : Int)) / 2 = (((lo + hi) / 2 : Nat) : Int) by omega], by omega, by omega, HB1, I2⟩
        case measure => simp [intOf]; omega
    · obtain rfl : hi = lo := by omega
      go_wp2
      go_ret
      exact ⟨hi, rfl, hin, I.out.1, I.out.2, HB.out⟩
end Go.Proofs.Ytikoonomhojlkaa
set_option linter.unusedSimpArgs false
set_option linter.unusedVariables false
namespace Go.Proofs.Ytikoonomhojlkaa
open Go.RowKit Go.Proofs.YtikoonomhojlkaaW.PrintWords Go.Proofs.YtikoonomhojlkaaW.PrintMore Go.Proofs.YtikoonomhojlkaaW.PrintLast
/-! Where a turn, where a goroutine stands. -/
section
variable {w w' : World} {base b : Nat} {ok F : Nat → Prop} {l : List Wt} {v : Value}
theorem QB.move (h : QB w base ok b l v) (hm : ∀ k, ok k → k < w.heap.size → w'.heap[k]? = w.heap[k]?) (hs : w.heap.size ≤ w'.heap.size) : QB w' base ok b l v :=
  ⟨fun k hk => ⟨(h.z k hk).1, Nat.lt_of_lt_of_le (h.z k hk).2 hs⟩, h.hb, (hm b h.hb (lt_blk h.blk)).trans h.blk, Kd.R_step h.r hm⟩
theorem QB.keep (h : QB w base ok b l v) (hk : Keep F w w') (hF : ∀ k, F k → ¬ ok k) : QB w' base ok b l v := h.move (fun k ho hl => hk.block k hl (fun f => hF k f ho)) hk.size
theorem QB.below (h : QB w base ok b l v) (hB : Below w.heap.size w w') : QB w' base ok b l v := h.move (fun k _ hl => hB.block k hl) hB.size
theorem QB.reads (h : QB w base ok b l v) : ∃ A c, v = .slice A l.length c ∧ l.length ≤ c ∧ kW.C w A l.length l := Kd.R_reads h.r
end
/-- By rising turns. -/
def Rises (l : List Wt) : Prop := ∀ (i j : Nat) (y z : Wt), i < j → l[i]? = some y → l[j]? = some z → y.f1 < z.f1
set_option maxHeartbeats 2000000 in
theorem place_any {w : World} {base b : Nat} {ok : Nat → Prop} {l : List Wt} {v : Value} (t : Int) (h : QB w base ok b l v) (hR : Rises l) (hl : l.length ≤ 4096) : Calls Try.prog 24 #[.pointer (some ⟨b, 0, none⟩), .int .u64 t] w fun e w' => ∃ r : Nat, e = .returned (.int .i64 r) ∧ r ≤ l.length ∧ (∀ j y, j < r → l[j]? = some y → y.f1 < t) ∧ (∀ j y, r ≤ j → l[j]? = some y → t ≤ y.f1) ∧ Below w.heap.size w w' := by
  obtain ⟨A, c, rfl, hc, hC⟩ := h.reads
  have hB : Below w.heap.size w ((w.alloc (.cells #[.pointer (some ⟨b, 0, none⟩)] 23)).alloc (.cells #[.int .u64 t] 30)) := (by repeat (first | (with_reducible exact Below.refl _ _) | (with_reducible refine Below.drew ?_) | (with_reducible refine below_drewN ?_ _) | (with_reducible refine below_al ?_ _) | (with_reducible refine Below.alloc ?_ (by first | exact Nat.le_refl _ | omega | (simp; done) | (simp; omega)) _) | (with_reducible refine Below.setCell ?_ (by first | (simp only []; omega) | (simp; done) | (simp; omega)) _)))
  have h0 : ((w.alloc (.cells #[.pointer (some ⟨b, 0, none⟩)] 23)).alloc (.cells #[.int .u64 t] 30)).heap[w.heap.size]? = some (.cells #[.pointer (some ⟨b, 0, none⟩)] 23 (0, 0)) := blk_alloc (blk_new _ _)
  have h1 : ((w.alloc (.cells #[.pointer (some ⟨b, 0, none⟩)] 23)).alloc (.cells #[.int .u64 t] 30)).heap[w.heap.size + 1]? = some (.cells #[.int .u64 t] 30 (0, 0)) := blk_new1 _ _ _
  have hb := cell_blk h.blk 0
  simp only [List.getElem?_toArray, List.getElem?_cons_zero] at hb
  have hbl := lt_blk h.blk
  have hS := search_any #[.pointer (some ⟨w.heap.size, 0, none⟩), .pointer (some ⟨w.heap.size + 1, 0, none⟩)] w.heap.size (w.heap.size + 1) l.length rfl (fun i => decide (t ≤ turnAt l i)) ((w.alloc (.cells #[.pointer (some ⟨b, 0, none⟩)] 23)).alloc (.cells #[.int .u64 t] 30)) hl
    (fun W i hW hi => place1_any W w.heap.size (w.heap.size + 1) b A c l t i hi hl (cell_blk (blk_below h0 hW) 0) (cell_blk (blk_below h1 hW) 0) (cell_blk (blk_below (blk_below h.blk hB) hW) 0) (Kd.C_below (Kd.C_below hC hB) hW))
    (fun i j hij hj hp => by
      obtain ⟨y, hy⟩ : ∃ y, l[i]? = some y := ⟨_, List.getElem?_eq_getElem (by omega)⟩
      obtain ⟨z, hz⟩ : ∃ z, l[j]? = some z := ⟨_, List.getElem?_eq_getElem hj⟩
      simp only [turn_at hy, turn_at hz, decide_eq_true_eq] at hp ⊢
      by_cases e : i = j
      · subst e; rw [hy] at hz; injection hz with hz; subst hz; exact hp
      · have := hR i j y z (by omega) hy hz
        omega)
  have HS := Aside0.mk hS
  have HB := Aside0.mk hB
  clear hS hB h0 h1 hC h
  go_enter Try.func24, Try.ntmps24
  go_wp2_with fail
  refine HS.out.mono ?_
  clear HS
  rintro e w1 ⟨r, rfl, hr, hlo, hhi, hB1⟩
  have HR : Aside0 ((∀ j y, j < r → l[j]? = some y → y.f1 < t) ∧ (∀ j y, r ≤ j → l[j]? = some y → t ≤ y.f1)) := ⟨⟨fun j y hj hy => by have := hlo j hj; simp only [turn_at hy, decide_eq_false_iff_not] at this; omega, fun j y hj hy => by
    have hjl := (List.getElem?_eq_some_iff.1 hy).1
    have := hhi j hj hjl
    simpa only [turn_at hy, decide_eq_true_eq] using this⟩⟩
  have HB1 := Aside0.mk (HB.out.trans (hB1.mono HB.out.size))
  clear hlo hhi hB1
  go_wp2
  go_ret
  exact ⟨r, rfl, hr, HR.out.1, HR.out.2, HB1.out⟩
theorem find1_any (W : World) (n0 : Nat) (g0 g1 y0 y1 t : Int) (h0 : W.heap[n0]? = some (.cells #[.int .i64 g0, .int .i64 g1] 29 (0, 0))) :
    Calls Try.prog 37 #[.agg #[.int .i64 y0, .int .i64 y1, .int .u64 t], .pointer (some ⟨n0, 0, none⟩)] W fun e w' => e = .returned (.bool (decide (y0 = g0) && decide (y1 = g1))) ∧ Below W.heap.size W w' := by
  have c0 := cell_blk h0 0
  have c1 := cell_blk h0 1
  simp only [List.getElem?_toArray, List.getElem?_cons_zero, List.getElem?_cons_succ] at c0 c1
  have hl := lt_blk h0
  have HB : Aside0 (∀ a b : Int, Below W.heap.size W (W.alloc (.cells #[.int .i64 a, .int .i64 b, .int .u64 t] TW))) := ⟨fun _ _ => below_al (Below.refl _ _) _⟩
  clear h0
  go_enter Try.func37, Try.ntmps37
  go_wp2
  all_goals go_ret
  all_goals exact ⟨by simp_all, HB.out _ _⟩
def Is (g0 g1 : Int) (y : Wt) : Prop := y.f0.f0 = g0 ∧ y.f0.f1 = g1
def FindP (l : List Wt) (g0 g1 : Int) (w : World) (e : Ending) (w' : World) : Prop := Below w.heap.size w w' ∧ ((∃ (i : Nat) (y : Wt), e = .returned (.int .i64 i) ∧ l[i]? = some y ∧ Is g0 g1 y ∧ ∀ (j : Nat) (z : Wt), j < i → l[j]? = some z → ¬ Is g0 g1 z) ∨ (e = .returned (.int .i64 (-1)) ∧ ∀ (j : Nat) (z : Wt), l[j]? = some z → ¬ Is g0 g1 z))
set_option maxHeartbeats 2000000 in
theorem indexf_any (w : World) (A : Option Addr) (c : Nat) (l : List Wt) (n0 : Nat) (g0 g1 : Int) (hC : kW.C w A l.length l) (hl : l.length ≤ 4096) (h0 : w.heap[n0]? = some (.cells #[.int .i64 g0, .int .i64 g1] 29 (0, 0))) :
    Calls Try.prog 36 #[.slice A l.length c, .func (.func 37) #[] #[.pointer (some ⟨n0, 0, none⟩)]] w (FindP l g0 g1 w) := by
  have HC := Aside0.mk hC
  have H0 := Aside0.mk h0
  clear hC h0
  unfold FindP
  go_enter Try.func36, Try.ntmps36
  go_wp2_with fail
  go_loopw [8] (fun i wr => ∃ k : Nat, k ≤ l.length ∧ i = .int .i64 k ∧ Aside0 (∀ (j : Nat) (z : Wt), j < k → l[j]? = some z → ¬ Is g0 g1 z) ∧ Aside0 (Below w.heap.size w wr)) (fun i _ => l.length - (intOf i).toNat)
  case atStart => exact ⟨0, by omega, rfl, ⟨fun j x hj => by omega⟩, ⟨Below.refl _ _⟩⟩
  case round =>
    obtain ⟨k, hk, rfl, HN, HB⟩ := hrel
    by_cases hlt : k < l.length
    · obtain ⟨ab, off, rfl, hab⟩ := C_form HC.out (by omega) (by decide)
      obtain ⟨y, hy, e0, e1, e2⟩ := waits_at HC.out k hlt
      have e0 := (HB.out.cell (p := ⟨ab, off + k * 3, none⟩) hab).trans e0
      have e1 := (HB.out.cell (p := ⟨ab, off + k * 3 + 1, none⟩) hab).trans e1
      have e2 := (HB.out.cell (p := ⟨ab, off + k * 3 + 2, none⟩) hab).trans e2
      have hL := find1_any wr n0 g0 g1 y.f0.f0 y.f0.f1 y.f1 (blk_below H0.out HB.out)
      have hki : (0 : Int) ≤ (k : Int) := by omega
      have hkl : (k : Int) < (l.length : Int) := by omega
      have HY := Aside0.mk hy
      clear hy
      go_wp2_with fail
      refine hL.mono ?_
      clear hL e0 e1 e2
      rintro e w1 ⟨rfl, hB1⟩
      have HB1 := Aside0.mk (below_then HB.out hB1)
      clear hB1
      by_cases hi : Is g0 g1 y
      · rw [show (decide (y.f0.f0 = g0) && decide (y.f0.f1 = g1)) = true from by simp [hi.1, hi.2]]
        have HI := Aside0.mk hi
        clear hi
        go_wp2
        go_ret
        exact ⟨HB1.out, .inl ⟨k, y, rfl, HY.out, HI.out, HN.out⟩⟩
      · rw [show (decide (y.f0.f0 = g0) && decide (y.f0.f1 = g1)) = false from by
          by_cases h1 : y.f0.f0 = g0
          · have h2 : ¬ y.f0.f1 = g1 := fun h2 => hi ⟨h1, h2⟩
            simp [h2]
          · simp [h1]]
        have HN' : Aside0 (∀ (j : Nat) (z : Wt), j < k + 1 → l[j]? = some z → ¬ Is g0 g1 z) := ⟨fun j z hj hz => by
          by_cases e : j = k
          · subst e; rw [HY.out] at hz; injection hz with hz; subst hz; exact hi
          · exact HN.out j z (by omega) hz⟩
        clear hi
        go_wp2
        go_roundw
        case rel => exact ⟨k + 1, by omega, by go_num, HN', HB1⟩
        case measure => simp [intOf]; omega
    · obtain rfl : k = l.length := by omega
      go_wp2
      go_ret
      exact ⟨HB.out, .inr ⟨rfl, fun j z hz => HN.out j z (List.getElem?_eq_some_iff.1 hz).1 hz⟩⟩
set_option maxHeartbeats 2000000 in
theorem find_any {w : World} {base b : Nat} {ok : Nat → Prop} {l : List Wt} {v : Value} (g0 g1 : Int) (h : QB w base ok b l v) (hl : l.length ≤ 4096) : Calls Try.prog 25 #[.pointer (some ⟨b, 0, none⟩), .agg #[.int .i64 g0, .int .i64 g1]] w (FindP l g0 g1 w) := by
  obtain ⟨A, c, rfl, hc, hC⟩ := h.reads
  have hB : Below w.heap.size w (w.alloc (.cells #[.int .i64 g0, .int .i64 g1] 29)) := below_al (Below.refl _ _) _
  have hb := cell_blk h.blk 0
  simp only [List.getElem?_toArray, List.getElem?_cons_zero] at hb
  have hbl := lt_blk h.blk
  have HS := Aside0.mk (indexf_any (w.alloc (.cells #[.int .i64 g0, .int .i64 g1] 29)) A c l w.heap.size g0 g1 (Kd.C_below hC hB) hl (blk_new _ _))
  have HB := Aside0.mk hB
  clear hC hB h
  unfold FindP
  go_enter Try.func25, Try.ntmps25
  go_wp2_with fail
  refine HS.out.mono ?_
  clear HS
  rintro e w1 ⟨hB1, ⟨i, y, rfl, hy, hI, hN⟩ | ⟨rfl, hN⟩⟩
  · have HB1 := Aside0.mk (HB.out.trans (hB1.mono HB.out.size))
    have HR := Aside0.mk (And.intro hy (And.intro hI hN))
    clear hB1 hy hI hN
    go_wp2
    go_ret
    exact ⟨HB1.out, .inl ⟨i, y, rfl, HR.out⟩⟩
  · have HB1 := Aside0.mk (HB.out.trans (hB1.mono HB.out.size))
    have HR := Aside0.mk hN
    clear hB1 hN
    go_wp2
    go_ret
    exact ⟨HB1.out, .inr ⟨rfl, HR.out⟩⟩
end Go.Proofs.Ytikoonomhojlkaa
