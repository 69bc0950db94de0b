import Derived.Test.YtjjdojnnomokaaaRingI
import Derived.LaidEqlPtr
set_option linter.unusedSimpArgs false
set_option linter.unusedVariables false
namespace Go.Proofs.Ytjjdojnnomokaaa
open Go.RowKit Go.Proofs.YtjjdojnnomokaaaW.PrintWords Go.Proofs.YtjjdojnnomokaaaW.PrintMore Go.Proofs.YtjjdojnnomokaaaW.PrintLast
/-! Steal. -/
def stealE (rf rt : Rg) : Int := if lenR rt > 0 then 22 else if lenR rf = 0 then 21 else 0
def half (n : Nat) : Nat := n - n / 2
def stealW (rf rt : Rg) : Wt := if stealE rf rt = 0 then (if rf.l = [] then rf.nx else rf.l.headD Wt.zero) else Wt.zero
def stealF (rf rt : Rg) : Rg := if stealE rf rt = 0 then (if rf.l = [] then ⟨[], false, Wt.zero⟩ else { rf with l := rf.l.drop (half rf.l.length) }) else rf
def stealT (rf rt : Rg) : Rg := if stealE rf rt = 0 then (if rf.l = [] then rt else { rt with l := (rf.l.take (half rf.l.length)).drop 1 }) else rt
theorem ringInfo : ∃ j, Try.prog.info? 71 = some j ∧ j.size ≠ 0 := by
  have h : (Try.prog.info? 71).map (·.size) = some 198 := by kernel_rfl
  obtain ⟨j, hj, hs⟩ := Option.map_eq_some_iff.1 h
  exact ⟨j, hj, by rw [hs]; decide⟩
theorem eql_other {w : World} {a b : Nat} {r q : Rg} (ha : IsRing w a r) (hb : IsRing w b q) (hne : a ≠ b) : (binOp .eql 33 (.pointer (some ⟨a, 0, none⟩)) (.pointer (some ⟨b, 0, none⟩))).run Try.prog w = .ok (.bool false) w := by
  obtain ⟨j, hj, hs⟩ := ringInfo
  obtain ⟨_, _, ha⟩ := ha
  obtain ⟨_, _, hb⟩ := hb
  exact run_eql_ptr_other w Try.underlying33 hj hs (fun h => hne (by injection h)) ha.blk hb.blk
theorem lenR_range {r : Rg} (h : r.l.length ≤ 64) : 0 ≤ lenR r ∧ lenR r ≤ 65 := by unfold lenR; split <;> omega
theorem lenR_zero {r : Rg} (h : lenR r = 0) : r.l = [] ∧ r.has = false := by
  unfold lenR at h
  cases hh : r.has with
  | true => rw [hh] at h; simp only [if_true] at h; omega
  | false => rw [hh] at h; simp at h; exact ⟨h, rfl⟩
set_option maxHeartbeats 8000000 in
theorem steal_any (bf bt : Nat) (rf rt : Rg) (w : World) (hf : IsRing w bf rf) (ht : IsRing w bt rt) (hne : bf ≠ bt) :
    Calls Try.prog 15 #[.pointer (some ⟨bf, 0, none⟩), .pointer (some ⟨bt, 0, none⟩)] w fun e w' => e = .returned (.tuple #[(.agg #[.int .i64 (stealW rf rt).s, .int .i64 (stealW rf rt).g, .int .u64 (stealW rf rt).t]), .int .i64 (stealE rf rt)]) ∧ IsRing w' bf (stealF rf rt) ∧ IsRing w' bt (stealT rf rt) ∧ Keep (fun k => k = bf ∨ k = bt) w w' := by
  have hfl := hf.lt
  have htl := ht.lt
  have hrf := lenR_range hf.len
  have hrt := lenR_range ht.len
  have hW : Below w.heap.size w (w.alloc (.cells #[.int .i64 0, .int .i64 0, .int .u64 0] 27)) := below_al (Below.refl _ _) _
  have hRR : (w.alloc (.cells #[.int .i64 0, .int .i64 0, .int .u64 0] 27)).heap[w.heap.size]? = some (.cells #[.int .i64 0, .int .i64 0, .int .u64 0] 27 (0, 0)) := blk_new _ _
  have HF := Aside0.mk (hf.below hW)
  have HT := Aside0.mk (ht.below hW)
  have hne' : bt ≠ bf := fun h => hne h.symm
  have hq := eql_other HF.out HT.out hne
  clear hf ht
  by_cases h1 : lenR rt > 0
  · have hE : stealE rf rt = 22 := by rw [stealE, if_pos h1]
    have e1 : stealW rf rt = Wt.zero := by rw [stealW, hE, if_neg (by decide)]
    have e2 : stealF rf rt = rf := by rw [stealF, hE, if_neg (by decide)]
    have e3 : stealT rf rt = rt := by rw [stealT, hE, if_neg (by decide)]
    rw [hE, e1, e2, e3]
    simp only [Wt.zero]
    have hd : decide (lenR rt > 0) = true := by simpa using h1
    clear hE e1 e2 e3 h1
    go_enter Try.func15, Try.ntmps15
    go_wp2_with fail
    refine (len_any bt rt _ HT.out).mono ?_
    rintro e w1 ⟨rfl, rfl⟩
    go_wp2
    exact bodyPost_ret (v := .tuple #[.agg #[.int .i64 0, .int .i64 0, .int .u64 0], .int .i64 22]) (by simp [results, Try.results15, go_sem]) rfl ⟨rfl, HF.out.below (by repeat (first | (with_reducible exact Below.refl _ _) | (with_reducible refine Below.drew ?_) | (with_reducible refine below_drewN ?_ _) | (with_reducible refine below_al ?_ _) | (with_reducible refine Below.alloc ?_ (by first | exact Nat.le_refl _ | omega | (simp; done) | (simp; omega)) _) | (with_reducible refine Below.setCell ?_ (by first | (simp only []; omega) | (simp; done) | (simp; omega)) _))), HT.out.below (by repeat (first | (with_reducible exact Below.refl _ _) | (with_reducible refine Below.drew ?_) | (with_reducible refine below_drewN ?_ _) | (with_reducible refine below_al ?_ _) | (with_reducible refine Below.alloc ?_ (by first | exact Nat.le_refl _ | omega | (simp; done) | (simp; omega)) _) | (with_reducible refine Below.setCell ?_ (by first | (simp only []; omega) | (simp; done) | (simp; omega)) _))), (by repeat (first | (with_reducible exact Keep.refl _ _) | (with_reducible refine Keep.drewN ?_ _) | (with_reducible refine Keep.drew ?_) | (with_reducible refine Keep.setCell ?_ _ _ (by first | (right; with_reducible rfl) | (left; simp; done) | (left; simp; omega) | (right; simp; done) | (right; assumption))) | (with_reducible refine Keep.alloc ?_ _)))⟩
  · have hd : decide (lenR rt > 0) = false := by simpa using h1
    by_cases h2 : lenR rf = 0
    · have hE : stealE rf rt = 21 := by rw [stealE, if_neg h1, if_pos h2]
      have e1 : stealW rf rt = Wt.zero := by rw [stealW, hE, if_neg (by decide)]
      have e2 : stealF rf rt = rf := by rw [stealF, hE, if_neg (by decide)]
      have e3 : stealT rf rt = rt := by rw [stealT, hE, if_neg (by decide)]
      rw [hE, e1, e2, e3]
      simp only [Wt.zero]
      have hd2 : (lenR rf == 0) = true := by simpa using h2
      clear hE e1 e2 e3 h1 h2
      go_enter Try.func15, Try.ntmps15
      go_wp2_with fail
      refine (len_any bt rt _ HT.out).mono ?_
      rintro e w1 ⟨rfl, rfl⟩
      go_wp2_with fail
      refine (len_any bf rf _ HF.out).mono ?_
      rintro e w1 ⟨rfl, rfl⟩
      go_wp2
      exact bodyPost_ret (v := .tuple #[.agg #[.int .i64 0, .int .i64 0, .int .u64 0], .int .i64 21]) (by simp [results, Try.results15, go_sem]) rfl ⟨rfl, HF.out.below (by repeat (first | (with_reducible exact Below.refl _ _) | (with_reducible refine Below.drew ?_) | (with_reducible refine below_drewN ?_ _) | (with_reducible refine below_al ?_ _) | (with_reducible refine Below.alloc ?_ (by first | exact Nat.le_refl _ | omega | (simp; done) | (simp; omega)) _) | (with_reducible refine Below.setCell ?_ (by first | (simp only []; omega) | (simp; done) | (simp; omega)) _))), HT.out.below (by repeat (first | (with_reducible exact Below.refl _ _) | (with_reducible refine Below.drew ?_) | (with_reducible refine below_drewN ?_ _) | (with_reducible refine below_al ?_ _) | (with_reducible refine Below.alloc ?_ (by first | exact Nat.le_refl _ | omega | (simp; done) | (simp; omega)) _) | (with_reducible refine Below.setCell ?_ (by first | (simp only []; omega) | (simp; done) | (simp; omega)) _))), (by repeat (first | (with_reducible exact Keep.refl _ _) | (with_reducible refine Keep.drewN ?_ _) | (with_reducible refine Keep.drew ?_) | (with_reducible refine Keep.setCell ?_ _ _ (by first | (right; with_reducible rfl) | (left; simp; done) | (left; simp; omega) | (right; simp; done) | (right; assumption))) | (with_reducible refine Keep.alloc ?_ _)))⟩
    · have hE : stealE rf rt = 0 := by rw [stealE, if_neg h1, if_neg h2]
      have hd2 : (lenR rf == 0) = false := by simpa using h2
      obtain ⟨hl0, hh0⟩ := lenR_zero (show lenR rt = 0 by omega)
      obtain ⟨f, cs, h⟩ := id HF.out
      obtain ⟨-, k1, -, -, -, -⟩ := h.cells
      have hflen := h.cs.len
      clear h
      cases hl : rf.l with
      | nil =>
        have hh : rf.has = true := by
          cases hh : rf.has with
          | true => rfl
          | false => exact absurd (show lenR rf = 0 by rw [lenR, hh, hl]; rfl) h2
        have e1 : stealW rf rt = rf.nx := by rw [stealW, hE, if_pos rfl, if_pos hl]
        have e2 : stealF rf rt = ⟨[], false, Wt.zero⟩ := by rw [stealF, hE, if_pos rfl, if_pos hl]
        have e3 : stealT rf rt = rt := by rw [stealT, hE, if_pos rfl, if_pos hl]
        have e4 : takeR rf = ⟨[], false, Wt.zero⟩ := by rw [takeR, hh, if_pos rfl, hl]
        have e5 : takeW rf = rf.nx := by rw [takeW, hh, if_pos rfl]
        have e6 : takeE rf = 0 := by rw [takeE, hh, if_pos rfl]
        rw [hE, e1, e2, e3]
        rw [hl] at k1
        have E4 := Aside0.mk e4
        have E5 := Aside0.mk e5
        have E6 := Aside0.mk e6
        have HH := Aside0.mk hh
        clear hE e1 e2 e3 e4 e5 e6 h1 h2 hl hl0 hh0 hh
        go_enter Try.func15, Try.ntmps15
        go_wp2_with fail
        refine (len_any bt rt _ HT.out).mono ?_
        rintro e w1 ⟨rfl, rfl⟩
        go_wp2_with fail
        refine (len_any bf rf _ HF.out).mono ?_
        rintro e w1 ⟨rfl, rfl⟩
        go_wp2_with fail
        refine (take_any bf rf _ HF.out).mono ?_
        rw [E4.out, E5.out, E6.out, HH.out]
        rintro e w2 ⟨rfl, hI, hK⟩
        have hR2 := blk_keep hRR hK (show ¬ w.heap.size = bf by omega)
        obtain ⟨r0, r1, r2, g0, g1, g2⟩ := blk3 hR2
        have hRW := lt_blk hR2
        have HT2 := Aside0.mk (HT.out.keep hK hne')
        have HI := Aside0.mk hI
        have HK := Aside0.mk ((Keep.of_below hW).trans' (G := fun k => k = bf ∨ k = bt) (hK.mono (fun _ _ h => .inl h)) (fun _ _ h => h))
        clear hI hK hR2 hRR hW HF HT hq
        go_wp2
        refine bodyPost_ret (v := .tuple #[(.agg #[.int .i64 rf.nx.s, .int .i64 rf.nx.g, .int .u64 rf.nx.t]), .int .i64 0]) (by simp [results, Try.results15, go_sem, r0, r1, r2, hRW]) rfl ⟨rfl, HI.out.keep (F := fun k => k = w.heap.size) (by repeat (first | (with_reducible exact Keep.refl _ _) | (with_reducible refine Keep.drewN ?_ _) | (with_reducible refine Keep.drew ?_) | (with_reducible refine Keep.setCell ?_ _ _ (by first | (right; with_reducible rfl) | (left; simp; done) | (left; simp; omega) | (right; simp; done) | (right; assumption))) | (with_reducible refine Keep.alloc ?_ _))) (by omega), HT2.out.keep (F := fun k => k = w.heap.size) (by repeat (first | (with_reducible exact Keep.refl _ _) | (with_reducible refine Keep.drewN ?_ _) | (with_reducible refine Keep.drew ?_) | (with_reducible refine Keep.setCell ?_ _ _ (by first | (right; with_reducible rfl) | (left; simp; done) | (left; simp; omega) | (right; simp; done) | (right; assumption))) | (with_reducible refine Keep.alloc ?_ _))) (by omega), (by repeat (first | (with_reducible exact HK.out) | (with_reducible refine Keep.drewN ?_ _) | (with_reducible refine Keep.drew ?_) | (with_reducible refine Keep.setCell ?_ _ _ (by first | (right; with_reducible rfl) | (left; simp; done) | (left; simp; omega) | (right; simp; done) | (right; assumption))) | (with_reducible refine Keep.alloc ?_ _)))⟩
      | cons x l =>
        obtain ⟨m, hm⟩ : ∃ m, half (x :: l).length = m + 1 := ⟨half (x :: l).length - 1, by unfold half; simp; omega⟩
        have hm32 : m ≤ 31 := by rw [hl] at hflen; unfold half at hm; simp at hm hflen; omega
        have hml : m ≤ l.length := by unfold half at hm; simp at hm; omega
        have e1 : stealW rf rt = x := by rw [stealW, hE, if_pos rfl, if_neg (by rw [hl]; simp), hl]; rfl
        have e2 : stealF rf rt = { rf with l := l.drop m } := by rw [stealF, hE, if_pos rfl, if_neg (by rw [hl]; simp), hl, hm]; rfl
        have e3 : stealT rf rt = { rt with l := l.take m } := by rw [stealT, hE, if_pos rfl, if_neg (by rw [hl]; simp), hl, hm]; rfl
        rw [hE, e1, e2, e3]
        rw [hl] at k1 hflen
        simp only [List.length_cons] at k1 hflen hm
        have hn : (((l.length + 1 : Nat) : Int) == 0) = false := by simp; omega
        have Q3 : Aside0 ((l.length : Int) + 1 - ((l.length : Int) + 1) / 2 = ((m + 1 : Nat) : Int)) := ⟨by unfold half at hm; omega⟩
        have HL := Aside0.mk hl
        have HT0 := Aside0.mk hl0
        clear hE e1 e2 e3 h1 h2 hl hh0 hl0 hm
        go_enter Try.func15, Try.ntmps15
        go_wp2_with fail
        refine (len_any bt rt _ HT.out).mono ?_
        rintro e w1 ⟨rfl, rfl⟩
        go_wp2_with fail
        refine (len_any bf rf _ HF.out).mono ?_
        rintro e w1 ⟨rfl, rfl⟩
        go_wp2_with fail
        go_quiet (fail)
        rw [Q3.out]
        clear hn
        go_wp2_with fail
        refine (pop_any bf rf x l _ (HF.out.below (below_drewN (Below.refl _ _) _)) HL.out).mono ?_
        rintro e w2 ⟨rfl, hI, hK⟩
        have hK1 : Keep (fun k => k = bf) (w.alloc (.cells #[.int .i64 0, .int .i64 0, .int .u64 0] 27)) w2 := (Keep.of_below (below_drewN (Below.refl _ _) nq)).trans' hK (fun _ _ h => h)
        have hR2 := blk_keep hRR hK1 (show ¬ w.heap.size = bf by omega)
        have hRW := lt_blk hR2
        have HI := Aside0.mk hI
        have HT2 := Aside0.mk (HT.out.keep hK1 hne')
        have HK2 := Aside0.mk ((Keep.of_below hW).trans' (G := fun k => k = bf ∨ k = bt) (hK1.mono (fun _ _ h => .inl h)) (fun _ _ h => h))
        have HR2 := Aside0.mk hR2
        clear hI hK hK1 hR2 hRR hW HF HT hq k1 HL
        go_wp2
        have hB3 : Below w2.heap.size w2 (w2.alloc (.cells #[.int .i64 x.s, .int .i64 x.g, .int .u64 x.t] 27)) := below_al (Below.refl _ _) _
        have hG3 : (w2.alloc (.cells #[.int .i64 x.s, .int .i64 x.g, .int .u64 x.t] 27)).heap[w2.heap.size]? = some (.cells #[.int .i64 x.s, .int .i64 x.g, .int .u64 x.t] 27 (0, 0)) := blk_new _ _
        have HI3 := Aside0.mk (HI.out.below hB3)
        have HT3 := Aside0.mk (HT2.out.below hB3)
        have HR3 := Aside0.mk (blk_below HR2.out hB3)
        have HK3 := Aside0.mk (HK2.out.trans (Keep.of_below hB3))
        have HG3 := Aside0.mk hG3
        have hbW2 := HI.out.lt
        have htW2 := HT2.out.lt
        clear hB3 hG3 HI HT2 HR2 HK2
        generalize w2.alloc (.cells #[.int .i64 x.s, .int .i64 x.g, .int .u64 x.t] 27) = W3 at *
        go_loopw [61] (fun i wr => ∃ k : Nat, k ≤ m ∧ i = .int .i64 k ∧ Aside0 (IsRing wr bf { rf with l := l.drop k }) ∧ Aside0 (IsRing wr bt { rt with l := l.take k }) ∧ Aside0 (Keep (fun k => k = bf ∨ k = bt) W3 wr)) (fun i _ => m - (intOf i).toNat)
        case atStart => exact ⟨0, by omega, rfl, HI3, ⟨by rw [List.take_zero, ← HT0.out]; exact HT3.out⟩, ⟨Keep.refl _ _⟩⟩
        case round =>
          obtain ⟨k, hk, rfl, HI, HT, HK⟩ := hrel
          by_cases hlt : k < m
          · obtain ⟨y, hy⟩ : ∃ y, l[k]? = some y := ⟨_, List.getElem?_eq_getElem (by omega)⟩
            have hpop := (pop_any bf { rf with l := l.drop k } y (l.drop (k + 1)) wr HI.out (drop_cons hy))
            have HTK := Aside0.mk (take_snoc hy)
            have hlk : (l.take k).length < 64 := by rw [List.length_take]; omega
            have HPL : Aside0 (pushL (l.take k) y = l.take k ++ [y]) := ⟨by rw [pushL, if_pos hlk]⟩
            clear hy hlk
            go_wp2_with fail
            refine hpop.mono ?_
            clear hpop
            rintro e w4 ⟨rfl, hI4, hK4⟩
            have HI4 := Aside0.mk hI4
            have HT4 := Aside0.mk (HT.out.keep hK4 hne')
            have HK4 := Aside0.mk (HK.out.trans (hK4.mono (G := fun k => k = bf ∨ k = bt) (fun _ _ h => .inl h)))
            clear hI4 hK4 HI HT HK
            go_wp2_with fail
            refine (push_any bt _ y _ HT4.out).mono ?_
            rintro e w5 ⟨v, rfl, -, hT5, hK5⟩
            have HT5 : Aside0 (IsRing w5 bt { rt with l := l.take (k + 1) }) := ⟨by rw [HTK.out, ← HPL.out]; exact hT5⟩
            have HI5 := Aside0.mk (HI4.out.keep hK5 hne)
            have HK5 := Aside0.mk (HK4.out.trans (hK5.mono (G := fun k => k = bf ∨ k = bt) (fun _ _ h => .inr h)))
            clear hT5 hK5
            go_wp2
            go_roundw
            case rel => exact ⟨k + 1, by omega, by go_num, HI5, HT5, HK5⟩
            case measure => simp [intOf]; omega
          · obtain rfl : k = m := by omega
            have hR5 := blk_keep HR3.out HK.out (show ¬ (w.heap.size = bf ∨ w.heap.size = bt) by omega)
            have hG5 := blk_keep HG3.out HK.out (show ¬ (w2.heap.size = bf ∨ w2.heap.size = bt) by omega)
            obtain ⟨r0, r1, r2, g0, g1, g2⟩ := blk3 hR5
            obtain ⟨p0, p1, p2, -, -, -⟩ := blk3 hG5
            have hRl := lt_blk hR5
            have HK6 := Aside0.mk (HK3.out.trans' HK.out (fun _ _ h => h))
            go_wp2
            refine bodyPost_ret (v := .tuple #[(.agg #[.int .i64 x.s, .int .i64 x.g, .int .u64 x.t]), .int .i64 0]) (by simp [results, Try.results15, go_sem, r0, r1, r2]) rfl ⟨rfl, HI.out.keep (F := fun k => k = w.heap.size) (by repeat (first | (with_reducible exact Keep.refl _ _) | (with_reducible refine Keep.drewN ?_ _) | (with_reducible refine Keep.drew ?_) | (with_reducible refine Keep.setCell ?_ _ _ (by first | (right; with_reducible rfl) | (left; simp; done) | (left; simp; omega) | (right; simp; done) | (right; assumption))) | (with_reducible refine Keep.alloc ?_ _))) (by omega), HT.out.keep (F := fun k => k = w.heap.size) (by repeat (first | (with_reducible exact Keep.refl _ _) | (with_reducible refine Keep.drewN ?_ _) | (with_reducible refine Keep.drew ?_) | (with_reducible refine Keep.setCell ?_ _ _ (by first | (right; with_reducible rfl) | (left; simp; done) | (left; simp; omega) | (right; simp; done) | (right; assumption))) | (with_reducible refine Keep.alloc ?_ _))) (by omega), (by repeat (first | (with_reducible exact HK6.out) | (with_reducible refine Keep.drewN ?_ _) | (with_reducible refine Keep.drew ?_) | (with_reducible refine Keep.setCell ?_ _ _ (by first | (right; with_reducible rfl) | (left; simp; done) | (left; simp; omega) | (right; simp; done) | (right; assumption))) | (with_reducible refine Keep.alloc ?_ _)))⟩
end Go.Proofs.Ytjjdojnnomokaaa
