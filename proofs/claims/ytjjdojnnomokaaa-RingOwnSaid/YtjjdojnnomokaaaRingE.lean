import Derived.Test.YtjjdojnnomokaaaRingD
set_option linter.unusedSimpArgs false
set_option linter.unusedVariables false
namespace Go.Proofs.Ytjjdojnnomokaaa
open Go.RowKit Go.Proofs.YtjjdojnnomokaaaW.PrintWords Go.Proofs.YtjjdojnnomokaaaW.PrintMore
/-! Put, Ready. -/
def badT (l : List Wt) (t : Int) : Bool := (lastP l).2 && decide (t ≤ (lastP l).1)
def putBad (r : Rg) (x : Wt) : Bool := badT r.l x.t || (r.has && decide (r.nx.t ≤ x.t))
def putE (r : Rg) (x : Wt) : Int := if putBad r x then 20 else 0
def putR (r : Rg) (x : Wt) : Rg := if putBad r x then r else { r with l := pushL r.l x }
def putOut (r : Rg) (x : Wt) : List Wt := if putBad r x then [] else pushOut r.l x
def rdyBad (r : Rg) (x : Wt) : Bool := badT r.l x.t || (r.has && decide (x.t ≤ r.nx.t))
def rdyE (r : Rg) (x : Wt) : Int := if rdyBad r x then 20 else 0
def rdyR (r : Rg) (x : Wt) : Rg := if rdyBad r x then r else { kickR r with has := true, nx := x }
def rdyOut (r : Rg) (x : Wt) : List Wt := if rdyBad r x then [] else kickOut r
theorem IsRing.at2 {w : World} {b : Nat} {r : Rg} (h : IsRing w b r) : w.cell? ⟨b, 194, none⟩ = some (.bool r.has) ∧ w.cell? ⟨b, 197, none⟩ = some (.int .u64 r.nx.t) := by
  obtain ⟨f, cs, h⟩ := h
  obtain ⟨-, -, k2, -, -, k5⟩ := h.cells
  exact ⟨k2, k5⟩
theorem RingCs.nextT {cs : Array Value} {f : Nat} {r : Rg} (h : RingCs cs f r) (x : Wt) : RingCs ((((cs.setIfInBounds 194 (.bool true)).setIfInBounds 195 (.int .i64 x.s)).setIfInBounds 196 (.int .i64 x.g)).setIfInBounds 197 (.int .u64 x.t)) f { r with has := true, nx := x } := h.nexted true x
set_option maxHeartbeats 4000000 in
theorem put_any (b : Nat) (r : Rg) (x : Wt) (w : World) (hR : IsRing w b r) :
    Calls Try.prog 18 #[.pointer (some ⟨b, 0, none⟩), (.agg #[.int .i64 x.s, .int .i64 x.g, .int .u64 x.t])] w fun e w' => ∃ v, e = .returned (.tuple #[v, .int .i64 (putE r x)]) ∧ Kd.R kW 27 w' w.heap.size (fun _ => True) v (putOut r x) ∧ IsRing w' b (putR r x) ∧ Keep (fun k => k = b) w w' := by
  have hbl := hR.lt
  have hW : Below w.heap.size w (w.alloc (.cells #[.int .i64 x.s, .int .i64 x.g, .int .u64 x.t] 27)) := below_al (Below.refl _ _) _
  have hRR : (w.alloc (.cells #[.int .i64 x.s, .int .i64 x.g, .int .u64 x.t] 27)).heap[w.heap.size]? = some (.cells #[.int .i64 x.s, .int .i64 x.g, .int .u64 x.t] 27 (0, 0)) := blk_new _ _
  have HR := Aside0.mk hR
  clear hR
  obtain ⟨r', hr'⟩ : ∃ r', r' = putR r x := ⟨_, rfl⟩
  obtain ⟨e', he'⟩ : ∃ e', e' = putE r x := ⟨_, rfl⟩
  obtain ⟨o', ho'⟩ : ∃ o', o' = putOut r x := ⟨_, rfl⟩
  rw [← hr', ← he', ← ho']
  unfold putR putBad badT at hr'
  unfold putE putBad badT at he'
  unfold putOut putBad badT at ho'
  go_enter Try.func18, Try.ntmps18
  go_wp2_with fail
  refine (last_any b r _ (HR.out.below hW)).mono ?_
  rintro e w1 ⟨rfl, hB1⟩
  have hR1 := (HR.out.below hW).below hB1
  have hB := below_then hW hB1
  obtain ⟨k2, k5⟩ := hR1.at2
  have hbx := blk_below hRR hB1
  obtain ⟨r0, r1, r2, -, -, -⟩ := blk3 hbx
  have HR1 := Aside0.mk hR1
  have hlx := lt_blk hbx
  clear hR1 hW hRR hB1
  generalize (lastP r.l).1 = lt at *
  generalize (lastP r.l).2 = ls at *
  obtain ⟨has, hhas⟩ : ∃ has, has = r.has := ⟨_, rfl⟩
  obtain ⟨nt, hnt⟩ : ∃ nt, nt = r.nx.t := ⟨_, rfl⟩
  rw [← hhas] at k2
  rw [← hnt] at k5
  rw [← hhas, ← hnt] at hr' he' ho'
  have HH := Aside0.mk hhas
  have HNT := Aside0.mk hnt
  have hr1 := Aside0.mk hr'
  have he1 := Aside0.mk he'
  have ho1 := Aside0.mk ho'
  clear hhas hnt hr' he' ho'
  by_cases hA : ls = true ∧ x.t ≤ lt
  · obtain ⟨rfl, hA⟩ := hA
    have d1 : decide (x.t ≤ lt) = true := by simpa using hA
    have hr2 := hr1.out
    have he2 := he1.out
    have ho2 := ho1.out
    simp only [d1, Bool.and_self, Bool.true_or, if_true] at hr2 he2 ho2
    subst hr2 he2 ho2
    clear hr1 he1 ho1 HH HNT hA
    go_wp2
    go_quiet (fail)
    go_wp2
    go_ret2
    exact ⟨_, rfl, Kd.R_nil _ _ _ _ _, HR1.out.below (below_drewN (Below.refl _ _) _), Keep.of_below (below_drewN hB _)⟩
  · have hA2 : (ls && decide (x.t ≤ lt)) = false := by
      cases ls with
      | false => rfl
      | true => simp only [true_and] at hA; simpa using hA
    have hr2 := hr1.out
    have he2 := he1.out
    have ho2 := ho1.out
    rw [hA2] at hr2 he2 ho2
    simp only [Bool.false_or] at hr2 he2 ho2
    have hr1 := Aside0.mk hr2
    have he1 := Aside0.mk he2
    have ho1 := Aside0.mk ho2
    clear hr2 he2 ho2 hA2
    have hls : (ls = false) ∨ (ls = true ∧ decide (x.t ≤ lt) = false) := by
      cases ls with
      | false => exact .inl rfl
      | true => exact .inr ⟨rfl, by simpa using hA⟩
    clear hA
    by_cases hC : has = true ∧ nt ≤ x.t
    · obtain ⟨rfl, hC⟩ := hC
      have d2 : decide (nt ≤ x.t) = true := by simpa using hC
      have hr2 := hr1.out
      have he2 := he1.out
      have ho2 := ho1.out
      simp only [d2, Bool.and_self, if_true] at hr2 he2 ho2
      subst hr2 he2 ho2
      clear hr1 he1 ho1 HH HNT hC
      rcases hls with rfl | ⟨rfl, d1⟩
      all_goals
        go_wp2
        go_quiet (fail)
        go_wp2
        go_ret2
        exact ⟨_, rfl, Kd.R_nil _ _ _ _ _, HR1.out.below (below_drewN (Below.refl _ _) _), Keep.of_below (below_drewN hB _)⟩
    · have hC2 : (has && decide (nt ≤ x.t)) = false := by
        cases has with
        | false => rfl
        | true => simp only [true_and] at hC; simpa using hC
      have hr2 := hr1.out
      have he2 := he1.out
      have ho2 := ho1.out
      simp only [hC2, Bool.false_eq_true, if_false] at hr2 he2 ho2
      subst hr2 he2 ho2
      clear hr1 he1 ho1 HNT hC2
      have hhs : (has = false) ∨ (has = true ∧ decide (nt ≤ x.t) = false) := by
        cases has with
        | false => exact .inl rfl
        | true => exact .inr ⟨rfl, by simpa using hC⟩
      clear hC
      rcases hls with rfl | ⟨rfl, d1⟩ <;> rcases hhs with rfl | ⟨rfl, d2⟩
      all_goals
        go_wp2
        go_quiet (fail)
        go_wp2_with fail
        refine (push_any b r x _ (HR1.out.below (below_drewN (Below.refl _ _) _))).mono ?_
        rintro e w3 ⟨v, rfl, hv, hI, hK⟩
        go_wp2
        go_ret2
        exact ⟨_, rfl, Kd.R_lower hv hB.size, (by have hh := HH.out; rw [hh]; exact hI), (Keep.of_below (below_drewN hB _)).trans' hK (fun _ _ h => h)⟩

set_option maxHeartbeats 4000000 in
theorem rdy_any (b : Nat) (r : Rg) (x : Wt) (w : World) (hR : IsRing w b r) :
    Calls Try.prog 32 #[.pointer (some ⟨b, 0, none⟩), (.agg #[.int .i64 x.s, .int .i64 x.g, .int .u64 x.t])] w fun e w' => ∃ v, e = .returned (.tuple #[v, .int .i64 (rdyE r x)]) ∧ Kd.R kW 27 w' w.heap.size (fun _ => True) v (rdyOut r x) ∧ IsRing w' b (rdyR r x) ∧ Keep (fun k => k = b) w w' := by
  have hbl := hR.lt
  have hW : Below w.heap.size w (w.alloc (.cells #[.int .i64 x.s, .int .i64 x.g, .int .u64 x.t] 27)) := below_al (Below.refl _ _) _
  have hRR : (w.alloc (.cells #[.int .i64 x.s, .int .i64 x.g, .int .u64 x.t] 27)).heap[w.heap.size]? = some (.cells #[.int .i64 x.s, .int .i64 x.g, .int .u64 x.t] 27 (0, 0)) := blk_new _ _
  have HR := Aside0.mk hR
  clear hR
  obtain ⟨r', hr'⟩ : ∃ r', r' = rdyR r x := ⟨_, rfl⟩
  obtain ⟨e', he'⟩ : ∃ e', e' = rdyE r x := ⟨_, rfl⟩
  obtain ⟨o', ho'⟩ : ∃ o', o' = rdyOut r x := ⟨_, rfl⟩
  rw [← hr', ← he', ← ho']
  unfold rdyR rdyBad badT at hr'
  unfold rdyE rdyBad badT at he'
  unfold rdyOut rdyBad badT at ho'
  go_enter Try.func32, Try.ntmps32
  go_wp2_with fail
  refine (last_any b r _ (HR.out.below hW)).mono ?_
  rintro e w1 ⟨rfl, hB1⟩
  have hR1 := (HR.out.below hW).below hB1
  have hB := below_then hW hB1
  obtain ⟨k2, k5⟩ := hR1.at2
  have hbx := blk_below hRR hB1
  obtain ⟨r0, r1, r2, -, -, -⟩ := blk3 hbx
  have HR1 := Aside0.mk hR1
  have hlx := lt_blk hbx
  clear hR1 hW hRR hB1
  generalize (lastP r.l).1 = lt at *
  generalize (lastP r.l).2 = ls at *
  obtain ⟨has, hhas⟩ : ∃ has, has = r.has := ⟨_, rfl⟩
  obtain ⟨nt, hnt⟩ : ∃ nt, nt = r.nx.t := ⟨_, rfl⟩
  rw [← hhas] at k2
  rw [← hnt] at k5
  rw [← hhas, ← hnt] at hr' he' ho'
  have HH := Aside0.mk hhas
  have HNT := Aside0.mk hnt
  have hr1 := Aside0.mk hr'
  have he1 := Aside0.mk he'
  have ho1 := Aside0.mk ho'
  clear hhas hnt hr' he' ho'
  by_cases hA : ls = true ∧ x.t ≤ lt
  · obtain ⟨rfl, hA⟩ := hA
    have d1 : decide (x.t ≤ lt) = true := by simpa using hA
    have hr2 := hr1.out
    have he2 := he1.out
    have ho2 := ho1.out
    simp only [d1, Bool.and_self, Bool.true_or, if_true] at hr2 he2 ho2
    subst hr2 he2 ho2
    clear hr1 he1 ho1 HH HNT hA
    go_wp2
    go_quiet (fail)
    go_wp2
    go_ret2
    exact ⟨_, rfl, Kd.R_nil _ _ _ _ _, HR1.out.below (below_drewN (Below.refl _ _) _), Keep.of_below (below_drewN hB _)⟩
  · have hA2 : (ls && decide (x.t ≤ lt)) = false := by
      cases ls with
      | false => rfl
      | true => simp only [true_and] at hA; simpa using hA
    have hr2 := hr1.out
    have he2 := he1.out
    have ho2 := ho1.out
    rw [hA2] at hr2 he2 ho2
    simp only [Bool.false_or] at hr2 he2 ho2
    have hr1 := Aside0.mk hr2
    have he1 := Aside0.mk he2
    have ho1 := Aside0.mk ho2
    clear hr2 he2 ho2 hA2
    have hls : (ls = false) ∨ (ls = true ∧ decide (x.t ≤ lt) = false) := by
      cases ls with
      | false => exact .inl rfl
      | true => exact .inr ⟨rfl, by simpa using hA⟩
    clear hA
    by_cases hC : has = true ∧ x.t ≤ nt
    · obtain ⟨rfl, hC⟩ := hC
      have d2 : decide (x.t ≤ nt) = true := by simpa using hC
      have hr2 := hr1.out
      have he2 := he1.out
      have ho2 := ho1.out
      simp only [d2, Bool.and_self, if_true] at hr2 he2 ho2
      subst hr2 he2 ho2
      clear hr1 he1 ho1 HH HNT hC
      rcases hls with rfl | ⟨rfl, d1⟩
      all_goals
        go_wp2
        go_quiet (fail)
        go_wp2
        go_ret2
        exact ⟨_, rfl, Kd.R_nil _ _ _ _ _, HR1.out.below (below_drewN (Below.refl _ _) _), Keep.of_below (below_drewN hB _)⟩
    · have hC2 : (has && decide (x.t ≤ nt)) = false := by
        cases has with
        | false => rfl
        | true => simp only [true_and] at hC; simpa using hC
      have hr2 := hr1.out
      have he2 := he1.out
      have ho2 := ho1.out
      simp only [hC2, Bool.false_eq_true, if_false] at hr2 he2 ho2
      subst hr2 he2 ho2
      clear hr1 he1 ho1 HNT hC2
      have hhs : (has = false) ∨ (has = true ∧ decide (x.t ≤ nt) = false) := by
        cases has with
        | false => exact .inl rfl
        | true => exact .inr ⟨rfl, by simpa using hC⟩
      clear hC
      rcases hls with rfl | ⟨rfl, d1⟩ <;> rcases hhs with rfl | ⟨rfl, d2⟩
      all_goals
        go_wp2
        go_quiet (fail)
        go_wp2_with fail
        refine (kick_any b r _ (HR1.out.below (below_drewN (Below.refl _ _) _))).mono ?_
        rintro e w3 ⟨v, rfl, hv, hI, hK⟩
        have hbx3 := blk_keep (w := w1.drewN nq) hbx hK (show ¬ w.heap.size = b by omega)
        obtain ⟨q0, q1, q2, -, -, -⟩ := blk3 hbx3
        have hK3 := (Keep.of_below (below_drewN hB _)).trans' hK (fun _ _ h => h)
        have hv3 := Kd.R_lower hv hB.size
        obtain ⟨f, cs, hF⟩ := id hI
        obtain ⟨-, -, j2, j3, j4, j5⟩ := hF.cells
        have f2 := hF.frozen 194
        have f3 := hF.frozen 195
        have f4 := hF.frozen 196
        have f5 := hF.frozen 197
        have hb3 := lt_blk hF.blk
        have HV := Aside0.mk hv3
        have HI := Aside0.mk hI
        have HK3 := Aside0.mk hK3
        have HB3 := Aside0.mk hF.blk
        have HC3 := Aside0.mk (hF.cs.nextT x)
        have hlx3 := lt_blk hbx3
        clear hF hI hK hv hv3 hK3 r0 r1 r2 k2 k5 hr1 he1 ho1
        go_wp2
        go_region
        go_wp2
        go_ret2
        exact ⟨_, rfl, R_keepB HV.out (F := fun k => k = b) (by repeat (first | (with_reducible exact Keep.refl _ _) | (with_reducible refine Keep.drewN ?_ _) | (with_reducible refine Keep.drew ?_) | (with_reducible refine Keep.setCell ?_ _ _ (by first | (right; with_reducible rfl) | (left; simp; done) | (left; simp; omega) | (right; simp; done) | (right; assumption))) | (with_reducible refine Keep.alloc ?_ _))) (fun i hi => by subst hi; exact hbl), ⟨f, _, ⟨by repeat (first | (with_reducible exact HB3.out) | (with_reducible refine blk_set ?_) | (with_reducible refine blk_set_ne ?_ (by first | assumption | (with_reducible rfl) | (simp; done) | (simp; omega) | omega)) | (with_reducible refine blk_drewN ?_ _) | (with_reducible refine blk_drew ?_) | (with_reducible refine blk_alloc ?_)), HC3.out⟩⟩, (by repeat (first | (with_reducible exact HK3.out) | (with_reducible refine Keep.drewN ?_ _) | (with_reducible refine Keep.drew ?_) | (with_reducible refine Keep.setCell ?_ _ _ (by first | (right; with_reducible rfl) | (left; simp; done) | (left; simp; omega) | (right; simp; done) | (right; assumption))) | (with_reducible refine Keep.alloc ?_ _)))⟩

end Go.Proofs.Ytjjdojnnomokaaa
