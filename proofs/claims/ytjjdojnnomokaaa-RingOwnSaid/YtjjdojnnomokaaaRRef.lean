import Derived.Test.YtjjdojnnomokaaaRingJ
import Derived.Test.YtjjdojnnomokaaaOpen
import Derived.Test.YtjjdojnnomokaaaPRingLoadsx2
import Derived.Test.YtjjdojnnomokaaaPRingLoadsx5
set_option linter.unusedSimpArgs false
set_option linter.unusedVariables false
namespace Go.Proofs.Ytjjdojnnomokaaa
open Go.RowKit Go.Proofs.YtjjdojnnomokaaaW.PrintWords Go.Proofs.YtjjdojnnomokaaaW.PrintMore Go.Proofs.YtjjdojnnomokaaaW.PrintLast Go.Proofs.Ytjjdojnnomokaaa.PRingLoads
/-! The document's functions, told in my words. -/
def toS (x : Wt) : S27 := ⟨⟨x.s, x.g⟩, x.t⟩
def ofS (x : S27) : Wt := ⟨x.f0.f0, x.f0.f1, x.f1⟩
theorem toS_K {w : World} {x : Wt} {cs : List Value} (h : kW.K w x cs) : k27.K w (toS x) cs := by
  obtain rfl := kW_open h
  exact k27_mk w (toS x)
theorem ofS_M {w : World} {base : Nat} {ok : Nat → Prop} {x : S27} {cs : List Value} (h : k27.M w base ok x cs) : kW.M w base ok (ofS x) cs := by
  obtain rfl := k27_openM h
  exact kW_mkM _ _ _ _
theorem C_conv {α β : Type} {d : Kd α} {d' : Kd β} {w : World} {A : Option Addr} {n : Nat} {xs : List α} (g : α → β) (hs : d.sz = d'.sz) (hK : ∀ x cs, d.K w x cs → d'.K w (g x) cs) (h : d.C w A n xs) : d'.C w A n (xs.map g) := by
  refine ⟨by rw [List.length_map]; exact h.1, h.2.1, fun hn => ?_⟩
  obtain ⟨ad, e, hc⟩ := h.2.2 hn
  refine ⟨ad, e, fun j p hp => ?_⟩
  rw [List.getElem?_map] at hp
  obtain ⟨x, hx, rfl⟩ := Option.map_eq_some_iff.1 hp
  obtain ⟨c, hl, hk, hat⟩ := hc j x hx
  exact ⟨c, by rw [hl, hs], hK x c hk, by rw [← hs]; exact hat⟩
theorem R_conv {α β : Type} {d : Kd α} {d' : Kd β} {e base : Nat} {ok : Nat → Prop} {w : World} {v : Value} {xs : List α} (g : α → β) (hs : d.sz = d'.sz) (hM : ∀ ok x cs, d.M w base ok x cs → d'.M w base ok (g x) cs) (h : d.R e w base ok v xs) : d'.R e w base ok v (xs.map g) := by
  obtain ⟨h0, inner, ho, hl, hr⟩ := h
  refine ⟨h0, inner, ?_, ?_, fun j p hp => ?_⟩
  · rw [← hs, List.length_map]; exact ho
  · rw [List.length_map, ← hs]; exact hl
  · rw [List.getElem?_map] at hp
    obtain ⟨x, hx, rfl⟩ := Option.map_eq_some_iff.1 hp
    rw [← hs]
    exact hM _ _ _ (hr j x hx)
theorem R_ofS {e base : Nat} {ok : Nat → Prop} {w : World} {v : Value} {xs : List S27} (h : k27.R e w base ok v xs) : kW.R e w base ok v (xs.map ofS) := R_conv ofS rfl (fun _ _ _ => ofS_M) h
theorem map_of_to (l : List Wt) : (l.map toS).map ofS = l := by rw [List.map_map]; exact List.map_id l
theorem rdS {l : List Wt} {i : Nat} (h : i < l.length) : rd_T27 (l.map toS) (i : Int) = toS (l.getD i Wt.zero) := by
  unfold rd_T27
  rw [Int.toNat_natCast, List.getD_eq_getElem?_getD, List.getD_eq_getElem?_getD, List.getElem?_map, List.getElem?_eq_getElem h]
  rfl
theorem badT_take {l : List Wt} {m : Nat} (h : m < l.length) (t : Int) : badT (l.take (m + 1)) t = decide (t ≤ (l.getD m Wt.zero).t) := by
  have h1 : (l.take (m + 1)).getLast? = some (l.getD m Wt.zero) := by
    rw [List.getLast?_eq_getElem?, List.length_take, Nat.min_eq_left (by omega), Nat.add_sub_cancel, List.getElem?_take, if_pos (by omega), List.getD_eq_getElem?_getD, List.getElem?_eq_getElem h]
    rfl
  rw [badT, lastP, h1]
  rfl
theorem wrapS {i : Nat} (h : i < 4611686018427387904) : wrap64 ((i : Int) + 1) = ((i + 1 : Nat) : Int) := by unfold wrap64; omega
theorem wrapP {i : Nat} (h : i < 4611686018427387904) : wrap64 (((i + 1 : Nat) : Int) - 1) = (i : Int) := by unfold wrap64; omega
theorem rises_l0 {l : List Wt} (hl : l.length ≤ 64) (has : Bool) (nx : Wt) : ∀ d i k, i + 1 + d = l.length ∨ (l.length ≤ i + 1 ∧ d = 0) → d + 1 ≤ k → okTo l (min (i + 1) l.length) = true → rotaref02_rises.l0 k ((i + 1 : Nat) : Int) (l.map toS) has nx.s nx.g nx.t = some (okTo l l.length && !(has && badT l nx.t)) := by
  intro d
  induction d with
  | zero =>
    intro i k hi hk ho
    obtain ⟨k, rfl⟩ : ∃ k', k = k' + 1 := ⟨k - 1, by omega⟩
    have hle : l.length ≤ i + 1 := by omega
    rw [Nat.min_eq_right hle] at ho
    rw [rotaref02_rises.l0, List.length_map, if_neg (by omega), ho, Bool.true_and]
    cases has with
    | false => simp
    | true =>
      rw [if_pos rfl, Bool.true_and]
      by_cases h0 : l.length = 0
      · rw [if_pos (by omega)]
        have : l = [] := List.eq_nil_of_length_eq_zero h0
        subst this
        rfl
      · obtain ⟨m, hm⟩ : ∃ m, l.length = m + 1 := ⟨l.length - 1, by omega⟩
        have hb := badT_take (l := l) (m := m) (by omega) nx.t
        rw [← hm, List.take_length] at hb
        rw [if_neg (by omega), hm, wrapP (by omega), if_pos (by omega), if_pos (by omega), rdS (by omega), hb]
        congr 1
        show decide (nx.t > (l.getD m Wt.zero).t) = _
        by_cases h : nx.t ≤ (l.getD m Wt.zero).t
        · rw [decide_eq_true h, decide_eq_false (by omega)]; rfl
        · rw [decide_eq_false h, decide_eq_true (by omega)]; rfl
  | succ d ih =>
    intro i k hi hk ho
    obtain ⟨k, rfl⟩ : ∃ k', k = k' + 1 := ⟨k - 1, by omega⟩
    have hlt : i + 1 < l.length := by omega
    rw [Nat.min_eq_left (by omega)] at ho
    have hs : okTo l (i + 1 + 1) = !(decide ((l.getD (i + 1) Wt.zero).t ≤ (l.getD i Wt.zero).t)) := by
      rw [okTo, ho, Bool.true_and, badT_take (by omega)]
    rw [rotaref02_rises.l0, List.length_map, if_pos (by omega), if_pos (by omega), wrapP (by omega), if_pos (by omega), if_pos (by omega), rdS (by omega), rdS (by omega), wrapS (by omega)]
    by_cases h : (toS (l.getD (i + 1) Wt.zero)).f1 ≤ (toS (l.getD i Wt.zero)).f1
    · rw [if_pos h]
      have h' : (l.getD (i + 1) Wt.zero).t ≤ (l.getD i Wt.zero).t := h
      rw [decide_eq_true h'] at hs
      rw [okTo_false hs (by omega)]
      rfl
    · rw [if_neg h]
      have h' : ¬ (l.getD (i + 1) Wt.zero).t ≤ (l.getD i Wt.zero).t := h
      rw [decide_eq_false h'] at hs
      exact ih (i + 1) k (by omega) (by omega) (by rw [Nat.min_eq_left (by omega)]; exact hs)
theorem rises_f {l : List Wt} (hl : l.length ≤ 64) (has : Bool) (nx : Wt) {k : Nat} (hk : l.length + 1 ≤ k) : rotaref02_rises.f k (l.map toS) has nx.s nx.g nx.t = some (okTo l l.length && !(has && badT l nx.t)) := by
  rw [rotaref02_rises.f]
  have h0 : okTo l (min (0 + 1) l.length) = true := by
    by_cases h : l.length = 0
    · rw [h]; rfl
    · rw [Nat.min_eq_left (by omega)]; rfl
  refine rises_l0 hl has nx (l.length - 1) 0 k (by omega) (by omega) h0
def loadL (l : List Wt) (has : Bool) (nx : Wt) : Rg := if loadE l has nx = 0 then loadR l has nx else Rg.new
theorem rload_f (l : List Wt) (has : Bool) (nx : Wt) : rotaref02_Load.f (l.length + 1) (l.map toS) has nx.s nx.g nx.t = some ((loadL l has nx).l.map toS, (loadL l has nx).has, (loadL l has nx).nx.s, (loadL l has nx).nx.g, (loadL l has nx).nx.t, loadE l has nx) := by
  rw [rotaref02_Load.f, List.length_map]
  by_cases h : 64 < l.length
  · have hE : loadE l has nx = 2 := by rw [loadE, if_pos h]
    rw [if_pos (by omega), loadL, hE, if_neg (by decide)]
    rfl
  · rw [if_neg (by omega), rises_f (by omega) has nx (Nat.le_refl _), Option.bind_some]
    have hE : loadE l has nx = if okTo l l.length && !(has && badT l nx.t) then 0 else 20 := by rw [loadE, if_neg h]
    cases hb : (okTo l l.length && !(has && badT l nx.t)) with
    | true =>
      rw [hb] at hE
      rw [if_pos rfl, if_pos (by simp; omega), Option.bind_some, loadL, hE, if_pos rfl, if_pos rfl, loadR]
      cases has <;> rfl
    | false =>
      rw [hb] at hE
      rw [if_neg (by decide), loadL, hE, if_neg (by decide)]
      rfl
theorem rload_any (A : Option Addr) (c : Nat) (l : List Wt) (has : Bool) (nx : Wt) (w : World) (hC : kW.C w A l.length l) (hc : l.length ≤ c) :
    Calls Try.prog 12 #[.agg #[.slice A l.length c, .bool has, .int .i64 nx.s, .int .i64 nx.g, .int .u64 nx.t]] w fun e w' => ∃ v : Value, e = .returned (.tuple #[.agg #[v, .bool (loadL l has nx).has, .int .i64 (loadL l has nx).nx.s, .int .i64 (loadL l has nx).nx.g, .int .u64 (loadL l has nx).nx.t], .int .i64 (loadE l has nx)]) ∧ kW.R 27 w' w.heap.size (fun _ => True) v (loadL l has nx).l ∧ Below w.heap.size w w' := by
  have h := rotaref02_Load.calls (l.length + 1) A c (l.map toS) has nx.s nx.g nx.t _ _ _ _ _ _ w (by rw [List.length_map]; exact C_conv toS rfl (fun _ _ => toS_K) hC) (by rw [List.length_map]; exact hc) (rload_f l has nx)
  rw [List.length_map] at h
  refine h.mono fun e w' ⟨v, he, hv, hB⟩ => ⟨v, he, ?_, hB⟩
  have := R_ofS hv
  rwa [map_of_to] at this
theorem same_l0 {l : List Wt} (hl : l.length ≤ 4611686018427387) : ∀ d i k, i + d = l.length → d + 1 ≤ k → rotaref02_SameList.l0 k (l.map toS) (l.map toS) (i : Int) = some true := by
  intro d
  induction d with
  | zero =>
    intro i k hi hk
    obtain ⟨k, rfl⟩ : ∃ k', k = k' + 1 := ⟨k - 1, by omega⟩
    rw [rotaref02_SameList.l0, List.length_map, if_neg (by omega)]
  | succ d ih =>
    intro i k hi hk
    obtain ⟨k, rfl⟩ : ∃ k', k = k' + 1 := ⟨k - 1, by omega⟩
    rw [rotaref02_SameList.l0, List.length_map, if_pos (by omega), if_pos (by omega), if_pos (by omega), wrapS (by omega), if_neg (by simp)]
    exact ih (i + 1) k (by omega) (by omega)
theorem sameList_f {l : List Wt} (hl : l.length ≤ 4611686018427387) : rotaref02_SameList.f (l.length + 1) (l.map toS) (l.map toS) = some true := by
  rw [rotaref02_SameList.f, if_pos rfl]
  exact same_l0 hl l.length 0 _ (by omega) (by omega)
/-- Two lists that read alike. -/
theorem sameList_ok (A1 A2 : Option Addr) (c1 c2 : Nat) (l : List Wt) (w : World) (h1 : kW.C w A1 l.length l) (hc1 : l.length ≤ c1) (h2 : kW.C w A2 l.length l) (hc2 : l.length ≤ c2) (hl : l.length ≤ 4611686018427387) :
    Calls Try.prog 23 #[.slice A1 l.length c1, .slice A2 l.length c2] w fun e w' => e = .returned (.bool true) ∧ Below w.heap.size w w' := by
  have h := rotaref02_SameList.calls (l.length + 1) A1 c1 (l.map toS) A2 c2 (l.map toS) true w (by rw [List.length_map]; exact C_conv toS rfl (fun _ _ => toS_K) h1) (by rw [List.length_map]; exact hc1) (by rw [List.length_map]; exact C_conv toS rfl (fun _ _ => toS_K) h2) (by rw [List.length_map]; exact hc2) (sameList_f hl)
  rw [List.length_map] at h
  exact h.mono fun e w' ⟨he, hB⟩ => ⟨he, hB.below⟩
theorem same_ok (A1 A2 : Option Addr) (c1 c2 : Nat) (l : List Wt) (has : Bool) (nx : Wt) (w : World) (h1 : kW.C w A1 l.length l) (hc1 : l.length ≤ c1) (h2 : kW.C w A2 l.length l) (hc2 : l.length ≤ c2) (hl : l.length ≤ 4611686018427387) :
    Calls Try.prog 19 #[.agg #[.slice A1 l.length c1, .bool has, .int .i64 nx.s, .int .i64 nx.g, .int .u64 nx.t], .agg #[.slice A2 l.length c2, .bool has, .int .i64 nx.s, .int .i64 nx.g, .int .u64 nx.t]] w fun e w' => e = .returned (.bool true) ∧ Below w.heap.size w w' := by
  have hf : rotaref02_Same.f (l.length + 1) (l.map toS) has nx.s nx.g nx.t (l.map toS) has nx.s nx.g nx.t = some true := by
    rw [rotaref02_Same.f, if_pos (by simp), if_pos (by simp), sameList_f hl, Option.bind_some]
  have h := rotaref02_Same.calls (l.length + 1) A1 c1 (l.map toS) has nx.s nx.g nx.t A2 c2 (l.map toS) has nx.s nx.g nx.t true w (by rw [List.length_map]; exact C_conv toS rfl (fun _ _ => toS_K) h1) (by rw [List.length_map]; exact hc1) (by rw [List.length_map]; exact C_conv toS rfl (fun _ _ => toS_K) h2) (by rw [List.length_map]; exact hc2) hf
  rw [List.length_map] at h
  exact h
theorem rlen_any (A : Option Addr) (c : Nat) (r : Rg) (w : World) (hC : kW.C w A r.l.length r.l) (hc : r.l.length ≤ c) (hl : r.l.length ≤ 4611686018427387) :
    Calls Try.prog 22 #[.agg #[.slice A r.l.length c, .bool r.has, .int .i64 r.nx.s, .int .i64 r.nx.g, .int .u64 r.nx.t]] w fun e w' => e = .returned (.int .i64 (lenR r)) ∧ Below w.heap.size w w' := by
  clear hC hc
  unfold lenR
  cases hh : r.has with
  | true =>
    clear hh
    go_enter Try.func22, Try.ntmps22
    go_wp2
    go_ret
    exact ⟨rfl, (by repeat (first | (with_reducible exact Below.refl _ _) | (with_reducible refine Below.drew ?_) | (with_reducible refine below_drewN ?_ _) | (with_reducible refine below_al ?_ _) | (with_reducible refine Below.alloc ?_ (by first | exact Nat.le_refl _ | omega | (simp; done) | (simp; omega)) _) | (with_reducible refine Below.setCell ?_ (by first | (simp only []; omega) | (simp; done) | (simp; omega)) _)))⟩
  | false =>
    clear hh
    go_enter Try.func22, Try.ntmps22
    go_wp2
    go_ret
    exact ⟨rfl, (by repeat (first | (with_reducible exact Below.refl _ _) | (with_reducible refine Below.drew ?_) | (with_reducible refine below_drewN ?_ _) | (with_reducible refine below_al ?_ _) | (with_reducible refine Below.alloc ?_ (by first | exact Nat.le_refl _ | omega | (simp; done) | (simp; omega)) _) | (with_reducible refine Below.setCell ?_ (by first | (simp only []; omega) | (simp; done) | (simp; omega)) _)))⟩
end Go.Proofs.Ytjjdojnnomokaaa
