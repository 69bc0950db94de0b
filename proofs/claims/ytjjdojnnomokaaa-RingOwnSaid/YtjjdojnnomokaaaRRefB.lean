import Derived.Test.YtjjdojnnomokaaaRAwake
import Derived.Deep.RegionLaw
set_option linter.unusedSimpArgs false
set_option linter.unusedVariables false
namespace Go.Proofs.Ytjjdojnnomokaaa
open Go.RowKit Go.ChangeShapes Go.WideShapes Go.ChangeAt Go.Proofs.YtjjdojnnomokaaaW.PrintWords Go.Proofs.YtjjdojnnomokaaaW.PrintMore Go.Proofs.YtjjdojnnomokaaaW.PrintLast Go.Proofs.Ytjjdojnnomokaaa.PRingLoads
/-! The document's calls of one ring, told in my words. -/
theorem R_any {w : World} {base : Nat} {ok : Nat → Prop} {v : Value} {xs : List Wt} (h : kW.R 27 w base ok v xs) : kW.R 27 w base (fun _ => True) v xs := Kd.R_mono h (fun _ _ => trivial)
theorem behind_f (r : Rg) (x : Wt) (hl : r.l.length ≤ 64) : rotaref02_behind.f (r.l.map toS) r.has r.nx.s r.nx.g r.nx.t x.s x.g x.t = some ((pushL r.l x).map toS, r.has, r.nx.s, r.nx.g, r.nx.t, (pushOut r.l x).map toS) := by
  obtain ⟨l, has, nx⟩ := r
  have hl : l.length ≤ 64 := hl
  show rotaref02_behind.f (l.map toS) has nx.s nx.g nx.t x.s x.g x.t = some ((pushL l x).map toS, has, nx.s, nx.g, nx.t, (pushOut l x).map toS)
  have hm : (l.map toS).length = l.length := List.length_map ..
  rw [rotaref02_behind.f, pushL, pushOut, hm]
  by_cases h : l.length < 64
  · rw [if_pos (by omega), if_pos (by simp; omega), if_pos h, if_pos h, Option.bind_some, if_pos (by simp; omega)]
    simp [toS]
  · rw [if_neg (by omega), if_pos (by omega), if_neg h, if_neg h, Option.bind_some, if_pos (by simp; omega), Option.bind_some, if_pos (by simp; omega), Option.bind_some, if_pos (by simp; omega)]
    simp [toS]
/-- The document's 'behind'. -/
theorem behind_any (A : Option Addr) (c : Nat) (r : Rg) (x : Wt) (w : World) (hC : kW.C w A r.l.length r.l) (hc : r.l.length ≤ c) (hl : r.l.length ≤ 64) :
    Calls Try.prog 45 #[.agg #[.slice A r.l.length c, .bool r.has, .int .i64 r.nx.s, .int .i64 r.nx.g, .int .u64 r.nx.t], (.agg #[.int .i64 x.s, .int .i64 x.g, .int .u64 x.t])] w fun e w' => ∃ v vo, e = .returned (.tuple #[.agg #[v, .bool r.has, .int .i64 r.nx.s, .int .i64 r.nx.g, .int .u64 r.nx.t], vo]) ∧ kW.R 27 w' w.heap.size (fun _ => True) v (pushL r.l x) ∧ kW.R 27 w' w.heap.size (fun _ => True) vo (pushOut r.l x) ∧ Below w.heap.size w w' := by
  have h := rotaref02_behind.calls A c (r.l.map toS) r.has r.nx.s r.nx.g r.nx.t x.s x.g x.t _ _ _ _ _ _ w (by rw [List.length_map]; exact C_conv toS rfl (fun _ _ => toS_K) hC) (by rw [List.length_map]; exact hc) (behind_f r x hl)
  rw [List.length_map] at h
  refine h.mono fun e w' ⟨v, vo, he, hv, hvo, hB⟩ => ⟨v, vo, he, ?_, ?_, hB⟩
  · have := R_ofS hv
    rw [map_of_to] at this
    exact R_any this
  · have := R_ofS hvo
    rw [map_of_to] at this
    exact R_any this
theorem rdrain_any (A : Option Addr) (c : Nat) (r : Rg) (w : World) (hC : kW.C w A r.l.length r.l) (hc : r.l.length ≤ c) (hl : r.l.length ≤ 64) :
    Calls Try.prog 34 #[.agg #[.slice A r.l.length c, .bool r.has, .int .i64 r.nx.s, .int .i64 r.nx.g, .int .u64 r.nx.t]] w fun e w' => ∃ v, e = .returned v ∧ kW.R 27 w' w.heap.size (fun _ => True) v (drainOut r) ∧ Below w.heap.size w w' := by
  have hf : rotaref02_Drain.f (r.l.map toS) r.has r.nx.s r.nx.g r.nx.t = some ((drainOut r).map toS) := by
    obtain ⟨l, has, nx⟩ := r
    have hl : l.length ≤ 64 := hl
    rw [rotaref02_Drain.f, if_pos (by simp; omega), Option.bind_some]
    cases has with
    | false => simp [drainOut]
    | true => rw [if_pos rfl, if_pos (by simp; omega)]; simp [drainOut, toS]
  have h := rotaref02_Drain.calls A c (r.l.map toS) r.has r.nx.s r.nx.g r.nx.t _ w (by rw [List.length_map]; exact C_conv toS rfl (fun _ _ => toS_K) hC) (by rw [List.length_map]; exact hc) hf
  rw [List.length_map] at h
  refine h.mono fun e w' ⟨v, he, hv, hB⟩ => ⟨v, he, ?_, hB⟩
  have := R_ofS hv
  rwa [map_of_to] at this
set_option maxHeartbeats 4000000 in
theorem rkick_any (A : Option Addr) (c : Nat) (r : Rg) (base : Nat) (w : World) (hR : kW.R 27 w base (fun _ => True) (.slice A r.l.length c) r.l) (hb : base ≤ w.heap.size) (hl : r.l.length ≤ 64) :
    Calls Try.prog 42 #[.agg #[.slice A r.l.length c, .bool r.has, .int .i64 r.nx.s, .int .i64 r.nx.g, .int .u64 r.nx.t]] w fun e w' => ∃ v vo, e = .returned (.tuple #[.agg #[v, .bool (kickR r).has, .int .i64 (kickR r).nx.s, .int .i64 (kickR r).nx.g, .int .u64 (kickR r).nx.t], vo]) ∧ kW.R 27 w' base (fun _ => True) v (kickR r).l ∧ kW.R 27 w' w.heap.size (fun _ => True) vo (kickOut r) ∧ Below w.heap.size w w' := by
  have HR := Aside0.mk hR
  have HB := Aside0.mk hb
  clear hR hb
  obtain ⟨l, has, nx⟩ := r
  have hl : l.length ≤ 64 := hl
  simp only at HR
  cases has with
  | false =>
    have e1 : kickR ⟨l, false, nx⟩ = ⟨l, false, nx⟩ := rfl
    have e2 : kickOut ⟨l, false, nx⟩ = [] := rfl
    rw [e1, e2]
    clear e1 e2
    go_enter Try.func42, Try.ntmps42
    go_wp2
    refine bodyPost_ret (v := .tuple #[.agg #[.slice A l.length c, .bool false, .int .i64 nx.s, .int .i64 nx.g, .int .u64 nx.t], .slice none 0 0]) (by simp [results, Try.results42, go_sem]) rfl ⟨_, _, rfl, Kd.R_below HR.out (by repeat (first | (with_reducible exact Below.refl _ _) | (with_reducible refine Below.drew ?_) | (with_reducible refine below_drewN ?_ _) | (with_reducible refine below_al ?_ _) | (with_reducible refine Below.alloc ?_ (by first | exact Nat.le_refl _ | omega | (simp; done) | (simp; omega)) _) | (with_reducible refine Below.setCell ?_ (by first | (simp only []; omega) | (simp; done) | (simp; omega)) _))), Kd.R_nil _ _ _ _ _, (by repeat (first | (with_reducible exact Below.refl _ _) | (with_reducible refine Below.drew ?_) | (with_reducible refine below_drewN ?_ _) | (with_reducible refine below_al ?_ _) | (with_reducible refine Below.alloc ?_ (by first | exact Nat.le_refl _ | omega | (simp; done) | (simp; omega)) _) | (with_reducible refine Below.setCell ?_ (by first | (simp only []; omega) | (simp; done) | (simp; omega)) _)))⟩
  | true =>
    have e1 : kickR ⟨l, true, nx⟩ = ⟨pushL l nx, false, Wt.zero⟩ := rfl
    have e2 : kickOut ⟨l, true, nx⟩ = pushOut l nx := rfl
    rw [e1, e2]
    clear e1 e2
    go_enter Try.func42, Try.ntmps42
    go_wp2_with fail
    obtain ⟨W, hW⟩ : ∃ W, W = (((w.alloc (.cells #[.slice A l.length c, .bool false, .int .i64 0, .int .i64 0, .int .u64 0] 29)).alloc (.cells #[.slice none 0 0, .bool false, .int .i64 0, .int .i64 0, .int .u64 0] 29)).alloc (.cells #[.int .i64 nx.s, .int .i64 nx.g, .int .u64 nx.t] 27)) := ⟨_, rfl⟩
    have hB0 : Below w.heap.size w W := by rw [hW]; exact (by repeat (first | (with_reducible exact Below.refl _ _) | (with_reducible refine Below.drew ?_) | (with_reducible refine below_drewN ?_ _) | (with_reducible refine below_al ?_ _) | (with_reducible refine Below.alloc ?_ (by first | exact Nat.le_refl _ | omega | (simp; done) | (simp; omega)) _) | (with_reducible refine Below.setCell ?_ (by first | (simp only []; omega) | (simp; done) | (simp; omega)) _)))
    have hT : W.heap[w.heap.size + 1]? = some (.cells #[.slice none 0 0, .bool false, .int .i64 0, .int .i64 0, .int .u64 0] 29 (0, 0)) := by rw [hW]; exact blk_alloc (blk_new1 _ _ _)
    rw [← hW]
    clear hW
    have hbe := behind_any A c ⟨l, false, Wt.zero⟩ nx W (Kd.R_reads' (Kd.R_below HR.out hB0)).2.2 (Kd.R_reads' HR.out).2.1 hl
    simp only [Wt.zero] at hbe
    refine hbe.mono ?_
    clear hbe
    rintro e w1 ⟨v, vo, rfl, hv, hvo, hB1⟩
    have hT1 := blk_below hT hB1
    have hC1 := below_then hB0 hB1
    have hs0 := hB0.size
    obtain ⟨t0, t1, t2, t3, t4, g0, g1, g2, g3, g4⟩ := blk5 hT1
    have hTl := lt_blk hT1
    obtain ⟨A1, c1, rfl, -, -⟩ := Kd.R_reads hv
    obtain ⟨A2, c2, rfl, -, -⟩ := Kd.R_reads hvo
    have HV := Aside0.mk hv
    have HVO := Aside0.mk hvo
    have hT1' := Aside0.mk hT1
    clear hv hvo hT hB0 hB1 hT1
    go_wp2
    have hK : Keep (fun i => i = w.heap.size + 1) w1 (((((w1.setCell ⟨w.heap.size + 1, 0, none⟩ (.slice A1 (pushL l nx).length c1)).setCell ⟨w.heap.size + 1, 1, none⟩ (.bool false)).setCell ⟨w.heap.size + 1, 2, none⟩ (.int .i64 0)).setCell ⟨w.heap.size + 1, 3, none⟩ (.int .i64 0)).setCell ⟨w.heap.size + 1, 4, none⟩ (.int .u64 0)) := (by repeat (first | (with_reducible exact Keep.refl _ _) | (with_reducible refine Keep.drewN ?_ _) | (with_reducible refine Keep.drew ?_) | (with_reducible refine Keep.setCell ?_ _ _ (by first | (right; with_reducible rfl) | (left; simp; done) | (left; simp; omega) | (right; simp; done) | (right; assumption))) | (with_reducible refine Keep.alloc ?_ _)))
    refine bodyPost_ret (v := .tuple #[.agg #[.slice A1 (pushL l nx).length c1, .bool false, .int .i64 0, .int .i64 0, .int .u64 0], .slice A2 (pushOut l nx).length c2]) (by simp [results, Try.results42, go_sem, hTl, t0, t1, t2, t3, t4]) rfl ⟨_, _, rfl, ?_, ?_, ?_⟩
    · exact Kd.R_lower (R_keepT HV.out hT1'.out (by decide) hK) (Nat.le_trans HB.out hs0)
    · exact Kd.R_lower (R_keepT HVO.out hT1'.out (by decide) hK) hs0
    · exact (by repeat (first | (with_reducible exact hC1) | (with_reducible refine Below.drew ?_) | (with_reducible refine below_drewN ?_ _) | (with_reducible refine below_al ?_ _) | (with_reducible refine Below.alloc ?_ (by first | exact Nat.le_refl _ | omega | (simp; done) | (simp; omega)) _) | (with_reducible refine Below.setCell ?_ (by first | (simp only []; omega) | (simp; done) | (simp; omega)) _)))
end Go.Proofs.Ytjjdojnnomokaaa
