import Derived.Test.YtjjdojnnomokaaaRRefB
import Derived.Test.YtjjdojnnomokaaaRPlay
set_option linter.unusedSimpArgs false
set_option linter.unusedVariables false
namespace Go.Proofs.Ytjjdojnnomokaaa
open Go.RowKit Go.ChangeShapes Go.WideShapes Go.ChangeAt Go.Proofs.YtjjdojnnomokaaaW.PrintWords Go.Proofs.YtjjdojnnomokaaaW.PrintMore Go.Proofs.YtjjdojnnomokaaaW.PrintLast Go.Proofs.Ytjjdojnnomokaaa.PRingLoads
/-! rotaref02.Put, Ready: printed by gen02q.py. -/
theorem behind_len (n : Nat) {l : List Wt} (hn : l.length = n) (A : Option Addr) (c : Nat) (r : Rg) (x : Wt) (w : World) (hC : kW.C w A r.l.length r.l) (hc : n ≤ c) (hl : n ≤ 64) (hr : r.l = l := by rfl) :
    Calls Try.prog 45 #[.agg #[.slice A n c, .bool r.has, .int .i64 r.nx.s, .int .i64 r.nx.g, .int .u64 r.nx.t], (.agg #[.int .i64 x.s, .int .i64 x.g, .int .u64 x.t])] w fun e w' => ∃ v vo, e = .returned (.tuple #[.agg #[v, .bool r.has, .int .i64 r.nx.s, .int .i64 r.nx.g, .int .u64 r.nx.t], vo]) ∧ kW.R 27 w' w.heap.size (fun _ => True) v (pushL l x) ∧ kW.R 27 w' w.heap.size (fun _ => True) vo (pushOut l x) ∧ Below w.heap.size w w' := by
  subst hr hn
  exact behind_any A c r x w hC hc hl
theorem rkick_len (n : Nat) {l : List Wt} (hn : l.length = n) (A : Option Addr) (c : Nat) (r : Rg) (base : Nat) (w : World) (hR : kW.R 27 w base (fun _ => True) (.slice A n c) r.l) (hb : base ≤ w.heap.size) (hl : n ≤ 64) (hr : r.l = l := by rfl) :
    Calls Try.prog 42 #[.agg #[.slice A n c, .bool r.has, .int .i64 r.nx.s, .int .i64 r.nx.g, .int .u64 r.nx.t]] w fun e w' => ∃ v vo, e = .returned (.tuple #[.agg #[v, .bool (kickR r).has, .int .i64 (kickR r).nx.s, .int .i64 (kickR r).nx.g, .int .u64 (kickR r).nx.t], vo]) ∧ kW.R 27 w' base (fun _ => True) v (kickR r).l ∧ kW.R 27 w' w.heap.size (fun _ => True) vo (kickOut r) ∧ Below w.heap.size w w' := by
  subst hr hn
  exact rkick_any A c r base w hR hb hl
set_option maxHeartbeats 4000000 in
theorem rput_sbpg (A : Option Addr) (c m : Nat) (l : List Wt) (has : Bool) (nx x z : Wt) (base : Nat) (w : World) (hR : kW.R 27 w base (fun _ => True) (.slice A (m + 1) c) l) (hb : base ≤ w.heap.size) (hl : m + 1 ≤ 64) (hz : l[m]? = some z) (h1 : x.t ≤ z.t) :
    Calls Try.prog 40 #[.agg #[.slice A (m + 1) c, .bool has, .int .i64 nx.s, .int .i64 nx.g, .int .u64 nx.t], (.agg #[.int .i64 x.s, .int .i64 x.g, .int .u64 x.t])] w fun e w' => e = .returned (.tuple #[.agg #[.slice A (m + 1) c, .bool has, .int .i64 nx.s, .int .i64 nx.g, .int .u64 nx.t], .slice none 0 0, .int .i64 20]) ∧ kW.R 27 w' base (fun _ => True) (.slice A (m + 1) c) l ∧ Below w.heap.size w w' := by
  have HR := Aside0.mk hR
  have HB := Aside0.mk hb
  have hC := (Kd.R_reads' hR).2.2
  have hlen := (Kd.R_reads' hR).1
  obtain ⟨ab, off, rfl, hab⟩ := C_form hC (by omega) (by decide)
  obtain ⟨z', hz', -, -, c2⟩ := wt_at hC m (by omega)
  obtain rfl : z = z' := by rw [hz] at hz'; exact Option.some.inj hz'
  have hB : Below w.heap.size w (((w.alloc (.cells #[.slice (some ⟨ab, off, none⟩) (m + 1) c, .bool has, .int .i64 nx.s, .int .i64 nx.g, .int .u64 nx.t] 29)).alloc (.cells #[.int .i64 x.s, .int .i64 x.g, .int .u64 x.t] 27)).alloc (.cells #[.slice none 0 0, .bool false, .int .i64 0, .int .i64 0, .int .u64 0] 29)) := (by repeat (first | (with_reducible exact Below.refl _ _) | (with_reducible refine Below.drew ?_) | (with_reducible refine below_drewN ?_ _) | (with_reducible refine below_al ?_ _) | (with_reducible refine Below.alloc ?_ (by first | exact Nat.le_refl _ | omega | (simp; done) | (simp; omega)) _) | (with_reducible refine Below.setCell ?_ (by first | (simp only []; omega) | (simp; done) | (simp; omega)) _)))
  have hS : (((w.alloc (.cells #[.slice (some ⟨ab, off, none⟩) (m + 1) c, .bool has, .int .i64 nx.s, .int .i64 nx.g, .int .u64 nx.t] 29)).alloc (.cells #[.int .i64 x.s, .int .i64 x.g, .int .u64 x.t] 27)).alloc (.cells #[.slice none 0 0, .bool false, .int .i64 0, .int .i64 0, .int .u64 0] 29)).heap[w.heap.size]? = some (.cells #[.slice (some ⟨ab, off, none⟩) (m + 1) c, .bool has, .int .i64 nx.s, .int .i64 nx.g, .int .u64 nx.t] 29 (0, 0)) := blk_alloc (blk_alloc (blk_new _ _))
  have hX : (((w.alloc (.cells #[.slice (some ⟨ab, off, none⟩) (m + 1) c, .bool has, .int .i64 nx.s, .int .i64 nx.g, .int .u64 nx.t] 29)).alloc (.cells #[.int .i64 x.s, .int .i64 x.g, .int .u64 x.t] 27)).alloc (.cells #[.slice none 0 0, .bool false, .int .i64 0, .int .i64 0, .int .u64 0] 29)).heap[w.heap.size + 1]? = some (.cells #[.int .i64 x.s, .int .i64 x.g, .int .u64 x.t] 27 (0, 0)) := blk_alloc (blk_new1 _ _ _)
  have hT : (((w.alloc (.cells #[.slice (some ⟨ab, off, none⟩) (m + 1) c, .bool has, .int .i64 nx.s, .int .i64 nx.g, .int .u64 nx.t] 29)).alloc (.cells #[.int .i64 x.s, .int .i64 x.g, .int .u64 x.t] 27)).alloc (.cells #[.slice none 0 0, .bool false, .int .i64 0, .int .i64 0, .int .u64 0] 29)).heap[w.heap.size + 1 + 1]? = some (.cells #[.slice none 0 0, .bool false, .int .i64 0, .int .i64 0, .int .u64 0] 29 (0, 0)) := by simpa using blk_new2 w _ _ _
  have k2 := (hB.cell (p := ⟨ab, off + m * 3 + 2, none⟩) hab).trans c2
  have habw := Nat.lt_of_lt_of_le hab hB.size
  have d1 : decide (x.t ≤ z.t) = true := by simpa using h1
  have hws := hB.size
  clear hR hb hz hz' hC h1 c2
  have HLEN := Aside0.mk hlen
  clear hlen
  go_enter Try.func40, Try.ntmps40
  go_wp2_with fail
  generalize (((w.alloc (.cells #[.slice (some ⟨ab, off, none⟩) (m + 1) c, .bool has, .int .i64 nx.s, .int .i64 nx.g, .int .u64 nx.t] 29)).alloc (.cells #[.int .i64 x.s, .int .i64 x.g, .int .u64 x.t] 27)).alloc (.cells #[.slice none 0 0, .bool false, .int .i64 0, .int .i64 0, .int .u64 0] 29)) = W at *
  obtain ⟨s0, s1, s2, s3, s4, -, -, -, -, -⟩ := blk5 hS
  obtain ⟨x0, x1, x2, -, -, -⟩ := blk3 hX
  obtain ⟨t0, t1, t2, t3, t4, g0, g1, g2, g3, g4⟩ := blk5 hT
  have hTl := lt_blk hT
  have hSl := lt_blk hS
  have hT' := Aside0.mk hT
  have hX' := Aside0.mk hX
  clear hS hT hX
  go_quiet (fail)
  go_wp2
  refine bodyPost_ret (v := .tuple #[.agg #[.slice (some ⟨ab, off, none⟩) (m + 1) c, .bool has, .int .i64 nx.s, .int .i64 nx.g, .int .u64 nx.t], .slice none 0 0, .int .i64 20]) (by simp [results, Try.results40, go_sem, hTl, t0, t1, t2, t3, t4]) rfl ⟨rfl, ?_, ?_⟩
  · refine R_keepT (Kd.R_below HR.out hB) hT'.out (by decide) ?_
    exact (by repeat (first | (with_reducible exact Keep.refl _ _) | (with_reducible refine Keep.drewN ?_ _) | (with_reducible refine Keep.drew ?_) | (with_reducible refine Keep.setCell ?_ _ _ (by first | (right; with_reducible rfl) | (left; simp; done) | (left; simp; omega) | (right; simp; done) | (right; assumption))) | (with_reducible refine Keep.alloc ?_ _)))
  · exact (by repeat (first | (with_reducible exact hB) | (with_reducible refine Below.drew ?_) | (with_reducible refine below_drewN ?_ _) | (with_reducible refine below_al ?_ _) | (with_reducible refine Below.alloc ?_ (by first | exact Nat.le_refl _ | omega | (simp; done) | (simp; omega)) _) | (with_reducible refine Below.setCell ?_ (by first | (simp only []; omega) | (simp; done) | (simp; omega)) _)))
set_option maxHeartbeats 4000000 in
theorem rput_ngpg (A : Option Addr) (c : Nat) (l : List Wt) (nx x : Wt) (base : Nat) (w : World) (hR : kW.R 27 w base (fun _ => True) (.slice A 0 c) l) (hb : base ≤ w.heap.size) (hl : l = []) :
    Calls Try.prog 40 #[.agg #[.slice A 0 c, .bool false, .int .i64 nx.s, .int .i64 nx.g, .int .u64 nx.t], (.agg #[.int .i64 x.s, .int .i64 x.g, .int .u64 x.t])] w fun e w' => ∃ v vo, e = .returned (.tuple #[.agg #[v, .bool false, .int .i64 nx.s, .int .i64 nx.g, .int .u64 nx.t], vo, .int .i64 0]) ∧ kW.R 27 w' base (fun _ => True) v (pushL l x) ∧ kW.R 27 w' w.heap.size (fun _ => True) vo (pushOut l x) ∧ Below w.heap.size w w' := by
  have HR := Aside0.mk hR
  have HB := Aside0.mk hb
  obtain ⟨L, hrk⟩ : ∃ L, L = pushL l x := ⟨_, rfl⟩
  obtain ⟨O, hko⟩ : ∃ O, O = pushOut l x := ⟨_, rfl⟩
  rw [← hrk, ← hko]
  have HRK := Aside0.mk hrk
  have HKO := Aside0.mk hko
  clear hrk hko
  obtain ⟨has, hhas⟩ : ∃ has : Bool, has = false := ⟨_, rfl⟩
  rw [← hhas]
  subst hhas
  have hB : Below w.heap.size w (((w.alloc (.cells #[.slice A 0 c, .bool false, .int .i64 nx.s, .int .i64 nx.g, .int .u64 nx.t] 29)).alloc (.cells #[.int .i64 x.s, .int .i64 x.g, .int .u64 x.t] 27)).alloc (.cells #[.slice none 0 0, .bool false, .int .i64 0, .int .i64 0, .int .u64 0] 29)) := (by repeat (first | (with_reducible exact Below.refl _ _) | (with_reducible refine Below.drew ?_) | (with_reducible refine below_drewN ?_ _) | (with_reducible refine below_al ?_ _) | (with_reducible refine Below.alloc ?_ (by first | exact Nat.le_refl _ | omega | (simp; done) | (simp; omega)) _) | (with_reducible refine Below.setCell ?_ (by first | (simp only []; omega) | (simp; done) | (simp; omega)) _)))
  have hS : (((w.alloc (.cells #[.slice A 0 c, .bool false, .int .i64 nx.s, .int .i64 nx.g, .int .u64 nx.t] 29)).alloc (.cells #[.int .i64 x.s, .int .i64 x.g, .int .u64 x.t] 27)).alloc (.cells #[.slice none 0 0, .bool false, .int .i64 0, .int .i64 0, .int .u64 0] 29)).heap[w.heap.size]? = some (.cells #[.slice A 0 c, .bool false, .int .i64 nx.s, .int .i64 nx.g, .int .u64 nx.t] 29 (0, 0)) := blk_alloc (blk_alloc (blk_new _ _))
  have hX : (((w.alloc (.cells #[.slice A 0 c, .bool false, .int .i64 nx.s, .int .i64 nx.g, .int .u64 nx.t] 29)).alloc (.cells #[.int .i64 x.s, .int .i64 x.g, .int .u64 x.t] 27)).alloc (.cells #[.slice none 0 0, .bool false, .int .i64 0, .int .i64 0, .int .u64 0] 29)).heap[w.heap.size + 1]? = some (.cells #[.int .i64 x.s, .int .i64 x.g, .int .u64 x.t] 27 (0, 0)) := blk_alloc (blk_new1 _ _ _)
  have hT : (((w.alloc (.cells #[.slice A 0 c, .bool false, .int .i64 nx.s, .int .i64 nx.g, .int .u64 nx.t] 29)).alloc (.cells #[.int .i64 x.s, .int .i64 x.g, .int .u64 x.t] 27)).alloc (.cells #[.slice none 0 0, .bool false, .int .i64 0, .int .i64 0, .int .u64 0] 29)).heap[w.heap.size + 1 + 1]? = some (.cells #[.slice none 0 0, .bool false, .int .i64 0, .int .i64 0, .int .u64 0] 29 (0, 0)) := by simpa using blk_new2 w _ _ _
  have hws := hB.size
  have HL := Aside0.mk hl
  clear hl
  clear hR hb
  go_enter Try.func40, Try.ntmps40
  go_wp2_with fail
  generalize (((w.alloc (.cells #[.slice A 0 c, .bool false, .int .i64 nx.s, .int .i64 nx.g, .int .u64 nx.t] 29)).alloc (.cells #[.int .i64 x.s, .int .i64 x.g, .int .u64 x.t] 27)).alloc (.cells #[.slice none 0 0, .bool false, .int .i64 0, .int .i64 0, .int .u64 0] 29)) = W at *
  obtain ⟨s0, s1, s2, s3, s4, -, -, -, -, -⟩ := blk5 hS
  obtain ⟨x0, x1, x2, -, -, -⟩ := blk3 hX
  obtain ⟨t0, t1, t2, t3, t4, g0, g1, g2, g3, g4⟩ := blk5 hT
  have hTl := lt_blk hT
  have hSl := lt_blk hS
  have hT' := Aside0.mk hT
  have hX' := Aside0.mk hX
  clear hS hT hX
  go_quiet (fail)
  go_wp2_with fail
  have hBn : Below w.heap.size w (W.drewN nq) := below_drewN hB nq
  refine (behind_len 0 (l := l) (by rw [HL.out]; rfl) A c ⟨l, false, nx⟩ x (W.drewN nq) (Kd.R_reads' (Kd.R_below HR.out hBn)).2.2 (Kd.R_reads' HR.out).2.1 (by omega)).mono ?_
  rintro e w1 ⟨v, vo, rfl, hv, hvo, hB1⟩
  rw [← HRK.out] at hv
  rw [← HKO.out] at hvo
  have hT1 := blk_below (w := W) hT'.out (below_then (below_drewN (Below.refl _ _) nq) hB1)
  have hX1 := blk_below (w := W) hX'.out (below_then (below_drewN (Below.refl _ _) nq) hB1)
  have hC1 := below_then hBn hB1
  clear s0 s1 s2 s3 s4 x0 x1 x2 t0 t1 t2 t3 t4 g0 g1 g2 g3 g4 hB1
  obtain ⟨A1, c1, rfl, -, -⟩ := Kd.R_reads hv
  obtain ⟨A2, c2, rfl, -, -⟩ := Kd.R_reads hvo
  obtain ⟨x0, x1, x2, -, -, -⟩ := blk3 hX1
  obtain ⟨t0, t1, t2, t3, t4, g0, g1, g2, g3, g4⟩ := blk5 hT1
  have hTl1 := lt_blk hT1
  have hXl1 := lt_blk hX1
  have HT1 := Aside0.mk hT1
  have HV := Aside0.mk hv
  have HVO := Aside0.mk hvo
  clear hv hvo hT1 hX1 hTl hSl
  go_wp2
  refine bodyPost_ret (v := .tuple #[.agg #[.slice A1 L.length c1, .bool false, .int .i64 nx.s, .int .i64 nx.g, .int .u64 nx.t], .slice A2 O.length c2, .int .i64 0]) (by simp [results, Try.results40, go_sem, hTl1, t0, t1, t2, t3, t4]) rfl ⟨_, _, rfl, ?_, ?_, ?_⟩
  · refine R_keepT (Kd.R_lower HV.out (Nat.le_trans HB.out hBn.size)) HT1.out (by decide) ?_
    exact (by repeat (first | (with_reducible exact Keep.refl _ _) | (with_reducible refine Keep.drewN ?_ _) | (with_reducible refine Keep.drew ?_) | (with_reducible refine Keep.setCell ?_ _ _ (by first | (right; with_reducible rfl) | (left; simp; done) | (left; simp; omega) | (right; simp; done) | (right; assumption))) | (with_reducible refine Keep.alloc ?_ _)))
  · refine R_keepT (Kd.R_lower HVO.out hBn.size) HT1.out (by decide) ?_
    exact (by repeat (first | (with_reducible exact Keep.refl _ _) | (with_reducible refine Keep.drewN ?_ _) | (with_reducible refine Keep.drew ?_) | (with_reducible refine Keep.setCell ?_ _ _ (by first | (right; with_reducible rfl) | (left; simp; done) | (left; simp; omega) | (right; simp; done) | (right; assumption))) | (with_reducible refine Keep.alloc ?_ _)))
  · exact (by repeat (first | (with_reducible exact hC1) | (with_reducible refine Below.drew ?_) | (with_reducible refine below_drewN ?_ _) | (with_reducible refine below_al ?_ _) | (with_reducible refine Below.alloc ?_ (by first | exact Nat.le_refl _ | omega | (simp; done) | (simp; omega)) _) | (with_reducible refine Below.setCell ?_ (by first | (simp only []; omega) | (simp; done) | (simp; omega)) _)))
set_option maxHeartbeats 4000000 in
theorem rput_nghb (A : Option Addr) (c : Nat) (l : List Wt) (nx x : Wt) (base : Nat) (w : World) (hR : kW.R 27 w base (fun _ => True) (.slice A 0 c) l) (hb : base ≤ w.heap.size) (hl : l = []) (h2 : nx.t ≤ x.t) :
    Calls Try.prog 40 #[.agg #[.slice A 0 c, .bool true, .int .i64 nx.s, .int .i64 nx.g, .int .u64 nx.t], (.agg #[.int .i64 x.s, .int .i64 x.g, .int .u64 x.t])] w fun e w' => e = .returned (.tuple #[.agg #[.slice A 0 c, .bool true, .int .i64 nx.s, .int .i64 nx.g, .int .u64 nx.t], .slice none 0 0, .int .i64 20]) ∧ kW.R 27 w' base (fun _ => True) (.slice A 0 c) l ∧ Below w.heap.size w w' := by
  have HR := Aside0.mk hR
  have HB := Aside0.mk hb
  obtain ⟨has, hhas⟩ : ∃ has : Bool, has = true := ⟨_, rfl⟩
  rw [← hhas]
  subst hhas
  have hB : Below w.heap.size w (((w.alloc (.cells #[.slice A 0 c, .bool true, .int .i64 nx.s, .int .i64 nx.g, .int .u64 nx.t] 29)).alloc (.cells #[.int .i64 x.s, .int .i64 x.g, .int .u64 x.t] 27)).alloc (.cells #[.slice none 0 0, .bool false, .int .i64 0, .int .i64 0, .int .u64 0] 29)) := (by repeat (first | (with_reducible exact Below.refl _ _) | (with_reducible refine Below.drew ?_) | (with_reducible refine below_drewN ?_ _) | (with_reducible refine below_al ?_ _) | (with_reducible refine Below.alloc ?_ (by first | exact Nat.le_refl _ | omega | (simp; done) | (simp; omega)) _) | (with_reducible refine Below.setCell ?_ (by first | (simp only []; omega) | (simp; done) | (simp; omega)) _)))
  have hS : (((w.alloc (.cells #[.slice A 0 c, .bool true, .int .i64 nx.s, .int .i64 nx.g, .int .u64 nx.t] 29)).alloc (.cells #[.int .i64 x.s, .int .i64 x.g, .int .u64 x.t] 27)).alloc (.cells #[.slice none 0 0, .bool false, .int .i64 0, .int .i64 0, .int .u64 0] 29)).heap[w.heap.size]? = some (.cells #[.slice A 0 c, .bool true, .int .i64 nx.s, .int .i64 nx.g, .int .u64 nx.t] 29 (0, 0)) := blk_alloc (blk_alloc (blk_new _ _))
  have hX : (((w.alloc (.cells #[.slice A 0 c, .bool true, .int .i64 nx.s, .int .i64 nx.g, .int .u64 nx.t] 29)).alloc (.cells #[.int .i64 x.s, .int .i64 x.g, .int .u64 x.t] 27)).alloc (.cells #[.slice none 0 0, .bool false, .int .i64 0, .int .i64 0, .int .u64 0] 29)).heap[w.heap.size + 1]? = some (.cells #[.int .i64 x.s, .int .i64 x.g, .int .u64 x.t] 27 (0, 0)) := blk_alloc (blk_new1 _ _ _)
  have hT : (((w.alloc (.cells #[.slice A 0 c, .bool true, .int .i64 nx.s, .int .i64 nx.g, .int .u64 nx.t] 29)).alloc (.cells #[.int .i64 x.s, .int .i64 x.g, .int .u64 x.t] 27)).alloc (.cells #[.slice none 0 0, .bool false, .int .i64 0, .int .i64 0, .int .u64 0] 29)).heap[w.heap.size + 1 + 1]? = some (.cells #[.slice none 0 0, .bool false, .int .i64 0, .int .i64 0, .int .u64 0] 29 (0, 0)) := by simpa using blk_new2 w _ _ _
  have d2 : decide (nx.t ≤ x.t) = true := by simpa using h2
  have hws := hB.size
  have HL := Aside0.mk hl
  clear hl
  clear hR hb h2
  go_enter Try.func40, Try.ntmps40
  go_wp2_with fail
  generalize (((w.alloc (.cells #[.slice A 0 c, .bool true, .int .i64 nx.s, .int .i64 nx.g, .int .u64 nx.t] 29)).alloc (.cells #[.int .i64 x.s, .int .i64 x.g, .int .u64 x.t] 27)).alloc (.cells #[.slice none 0 0, .bool false, .int .i64 0, .int .i64 0, .int .u64 0] 29)) = W at *
  obtain ⟨s0, s1, s2, s3, s4, -, -, -, -, -⟩ := blk5 hS
  obtain ⟨x0, x1, x2, -, -, -⟩ := blk3 hX
  obtain ⟨t0, t1, t2, t3, t4, g0, g1, g2, g3, g4⟩ := blk5 hT
  have hTl := lt_blk hT
  have hSl := lt_blk hS
  have hT' := Aside0.mk hT
  have hX' := Aside0.mk hX
  clear hS hT hX
  go_quiet (fail)
  go_wp2
  refine bodyPost_ret (v := .tuple #[.agg #[.slice A 0 c, .bool true, .int .i64 nx.s, .int .i64 nx.g, .int .u64 nx.t], .slice none 0 0, .int .i64 20]) (by simp [results, Try.results40, go_sem, hTl, t0, t1, t2, t3, t4]) rfl ⟨rfl, ?_, ?_⟩
  · refine R_keepT (Kd.R_below HR.out hB) hT'.out (by decide) ?_
    exact (by repeat (first | (with_reducible exact Keep.refl _ _) | (with_reducible refine Keep.drewN ?_ _) | (with_reducible refine Keep.drew ?_) | (with_reducible refine Keep.setCell ?_ _ _ (by first | (right; with_reducible rfl) | (left; simp; done) | (left; simp; omega) | (right; simp; done) | (right; assumption))) | (with_reducible refine Keep.alloc ?_ _)))
  · exact (by repeat (first | (with_reducible exact hB) | (with_reducible refine Below.drew ?_) | (with_reducible refine below_drewN ?_ _) | (with_reducible refine below_al ?_ _) | (with_reducible refine Below.alloc ?_ (by first | exact Nat.le_refl _ | omega | (simp; done) | (simp; omega)) _) | (with_reducible refine Below.setCell ?_ (by first | (simp only []; omega) | (simp; done) | (simp; omega)) _)))
set_option maxHeartbeats 4000000 in
theorem rput_nghg (A : Option Addr) (c : Nat) (l : List Wt) (nx x : Wt) (base : Nat) (w : World) (hR : kW.R 27 w base (fun _ => True) (.slice A 0 c) l) (hb : base ≤ w.heap.size) (hl : l = []) (h2 : ¬ nx.t ≤ x.t) :
    Calls Try.prog 40 #[.agg #[.slice A 0 c, .bool true, .int .i64 nx.s, .int .i64 nx.g, .int .u64 nx.t], (.agg #[.int .i64 x.s, .int .i64 x.g, .int .u64 x.t])] w fun e w' => ∃ v vo, e = .returned (.tuple #[.agg #[v, .bool true, .int .i64 nx.s, .int .i64 nx.g, .int .u64 nx.t], vo, .int .i64 0]) ∧ kW.R 27 w' base (fun _ => True) v (pushL l x) ∧ kW.R 27 w' w.heap.size (fun _ => True) vo (pushOut l x) ∧ Below w.heap.size w w' := by
  have HR := Aside0.mk hR
  have HB := Aside0.mk hb
  obtain ⟨L, hrk⟩ : ∃ L, L = pushL l x := ⟨_, rfl⟩
  obtain ⟨O, hko⟩ : ∃ O, O = pushOut l x := ⟨_, rfl⟩
  rw [← hrk, ← hko]
  have HRK := Aside0.mk hrk
  have HKO := Aside0.mk hko
  clear hrk hko
  obtain ⟨has, hhas⟩ : ∃ has : Bool, has = true := ⟨_, rfl⟩
  rw [← hhas]
  subst hhas
  have hB : Below w.heap.size w (((w.alloc (.cells #[.slice A 0 c, .bool true, .int .i64 nx.s, .int .i64 nx.g, .int .u64 nx.t] 29)).alloc (.cells #[.int .i64 x.s, .int .i64 x.g, .int .u64 x.t] 27)).alloc (.cells #[.slice none 0 0, .bool false, .int .i64 0, .int .i64 0, .int .u64 0] 29)) := (by repeat (first | (with_reducible exact Below.refl _ _) | (with_reducible refine Below.drew ?_) | (with_reducible refine below_drewN ?_ _) | (with_reducible refine below_al ?_ _) | (with_reducible refine Below.alloc ?_ (by first | exact Nat.le_refl _ | omega | (simp; done) | (simp; omega)) _) | (with_reducible refine Below.setCell ?_ (by first | (simp only []; omega) | (simp; done) | (simp; omega)) _)))
  have hS : (((w.alloc (.cells #[.slice A 0 c, .bool true, .int .i64 nx.s, .int .i64 nx.g, .int .u64 nx.t] 29)).alloc (.cells #[.int .i64 x.s, .int .i64 x.g, .int .u64 x.t] 27)).alloc (.cells #[.slice none 0 0, .bool false, .int .i64 0, .int .i64 0, .int .u64 0] 29)).heap[w.heap.size]? = some (.cells #[.slice A 0 c, .bool true, .int .i64 nx.s, .int .i64 nx.g, .int .u64 nx.t] 29 (0, 0)) := blk_alloc (blk_alloc (blk_new _ _))
  have hX : (((w.alloc (.cells #[.slice A 0 c, .bool true, .int .i64 nx.s, .int .i64 nx.g, .int .u64 nx.t] 29)).alloc (.cells #[.int .i64 x.s, .int .i64 x.g, .int .u64 x.t] 27)).alloc (.cells #[.slice none 0 0, .bool false, .int .i64 0, .int .i64 0, .int .u64 0] 29)).heap[w.heap.size + 1]? = some (.cells #[.int .i64 x.s, .int .i64 x.g, .int .u64 x.t] 27 (0, 0)) := blk_alloc (blk_new1 _ _ _)
  have hT : (((w.alloc (.cells #[.slice A 0 c, .bool true, .int .i64 nx.s, .int .i64 nx.g, .int .u64 nx.t] 29)).alloc (.cells #[.int .i64 x.s, .int .i64 x.g, .int .u64 x.t] 27)).alloc (.cells #[.slice none 0 0, .bool false, .int .i64 0, .int .i64 0, .int .u64 0] 29)).heap[w.heap.size + 1 + 1]? = some (.cells #[.slice none 0 0, .bool false, .int .i64 0, .int .i64 0, .int .u64 0] 29 (0, 0)) := by simpa using blk_new2 w _ _ _
  have d2 : decide (nx.t ≤ x.t) = false := by simpa using h2
  have hws := hB.size
  have HL := Aside0.mk hl
  clear hl
  clear hR hb h2
  go_enter Try.func40, Try.ntmps40
  go_wp2_with fail
  generalize (((w.alloc (.cells #[.slice A 0 c, .bool true, .int .i64 nx.s, .int .i64 nx.g, .int .u64 nx.t] 29)).alloc (.cells #[.int .i64 x.s, .int .i64 x.g, .int .u64 x.t] 27)).alloc (.cells #[.slice none 0 0, .bool false, .int .i64 0, .int .i64 0, .int .u64 0] 29)) = W at *
  obtain ⟨s0, s1, s2, s3, s4, -, -, -, -, -⟩ := blk5 hS
  obtain ⟨x0, x1, x2, -, -, -⟩ := blk3 hX
  obtain ⟨t0, t1, t2, t3, t4, g0, g1, g2, g3, g4⟩ := blk5 hT
  have hTl := lt_blk hT
  have hSl := lt_blk hS
  have hT' := Aside0.mk hT
  have hX' := Aside0.mk hX
  clear hS hT hX
  go_quiet (fail)
  go_wp2_with fail
  have hBn : Below w.heap.size w (W.drewN nq) := below_drewN hB nq
  refine (behind_len 0 (l := l) (by rw [HL.out]; rfl) A c ⟨l, true, nx⟩ x (W.drewN nq) (Kd.R_reads' (Kd.R_below HR.out hBn)).2.2 (Kd.R_reads' HR.out).2.1 (by omega)).mono ?_
  rintro e w1 ⟨v, vo, rfl, hv, hvo, hB1⟩
  rw [← HRK.out] at hv
  rw [← HKO.out] at hvo
  have hT1 := blk_below (w := W) hT'.out (below_then (below_drewN (Below.refl _ _) nq) hB1)
  have hX1 := blk_below (w := W) hX'.out (below_then (below_drewN (Below.refl _ _) nq) hB1)
  have hC1 := below_then hBn hB1
  clear s0 s1 s2 s3 s4 x0 x1 x2 t0 t1 t2 t3 t4 g0 g1 g2 g3 g4 hB1
  obtain ⟨A1, c1, rfl, -, -⟩ := Kd.R_reads hv
  obtain ⟨A2, c2, rfl, -, -⟩ := Kd.R_reads hvo
  obtain ⟨x0, x1, x2, -, -, -⟩ := blk3 hX1
  obtain ⟨t0, t1, t2, t3, t4, g0, g1, g2, g3, g4⟩ := blk5 hT1
  have hTl1 := lt_blk hT1
  have hXl1 := lt_blk hX1
  have HT1 := Aside0.mk hT1
  have HV := Aside0.mk hv
  have HVO := Aside0.mk hvo
  clear hv hvo hT1 hX1 hTl hSl
  go_wp2
  refine bodyPost_ret (v := .tuple #[.agg #[.slice A1 L.length c1, .bool true, .int .i64 nx.s, .int .i64 nx.g, .int .u64 nx.t], .slice A2 O.length c2, .int .i64 0]) (by simp [results, Try.results40, go_sem, hTl1, t0, t1, t2, t3, t4]) rfl ⟨_, _, rfl, ?_, ?_, ?_⟩
  · refine R_keepT (Kd.R_lower HV.out (Nat.le_trans HB.out hBn.size)) HT1.out (by decide) ?_
    exact (by repeat (first | (with_reducible exact Keep.refl _ _) | (with_reducible refine Keep.drewN ?_ _) | (with_reducible refine Keep.drew ?_) | (with_reducible refine Keep.setCell ?_ _ _ (by first | (right; with_reducible rfl) | (left; simp; done) | (left; simp; omega) | (right; simp; done) | (right; assumption))) | (with_reducible refine Keep.alloc ?_ _)))
  · refine R_keepT (Kd.R_lower HVO.out hBn.size) HT1.out (by decide) ?_
    exact (by repeat (first | (with_reducible exact Keep.refl _ _) | (with_reducible refine Keep.drewN ?_ _) | (with_reducible refine Keep.drew ?_) | (with_reducible refine Keep.setCell ?_ _ _ (by first | (right; with_reducible rfl) | (left; simp; done) | (left; simp; omega) | (right; simp; done) | (right; assumption))) | (with_reducible refine Keep.alloc ?_ _)))
  · exact (by repeat (first | (with_reducible exact hC1) | (with_reducible refine Below.drew ?_) | (with_reducible refine below_drewN ?_ _) | (with_reducible refine below_al ?_ _) | (with_reducible refine Below.alloc ?_ (by first | exact Nat.le_refl _ | omega | (simp; done) | (simp; omega)) _) | (with_reducible refine Below.setCell ?_ (by first | (simp only []; omega) | (simp; done) | (simp; omega)) _)))
set_option maxHeartbeats 4000000 in
theorem rput_sgpg (A : Option Addr) (c m : Nat) (l : List Wt) (nx x z : Wt) (base : Nat) (w : World) (hR : kW.R 27 w base (fun _ => True) (.slice A (m + 1) c) l) (hb : base ≤ w.heap.size) (hl : m + 1 ≤ 64) (hz : l[m]? = some z) (h1 : ¬ x.t ≤ z.t) :
    Calls Try.prog 40 #[.agg #[.slice A (m + 1) c, .bool false, .int .i64 nx.s, .int .i64 nx.g, .int .u64 nx.t], (.agg #[.int .i64 x.s, .int .i64 x.g, .int .u64 x.t])] w fun e w' => ∃ v vo, e = .returned (.tuple #[.agg #[v, .bool false, .int .i64 nx.s, .int .i64 nx.g, .int .u64 nx.t], vo, .int .i64 0]) ∧ kW.R 27 w' base (fun _ => True) v (pushL l x) ∧ kW.R 27 w' w.heap.size (fun _ => True) vo (pushOut l x) ∧ Below w.heap.size w w' := by
  have HR := Aside0.mk hR
  have HB := Aside0.mk hb
  obtain ⟨L, hrk⟩ : ∃ L, L = pushL l x := ⟨_, rfl⟩
  obtain ⟨O, hko⟩ : ∃ O, O = pushOut l x := ⟨_, rfl⟩
  rw [← hrk, ← hko]
  have HRK := Aside0.mk hrk
  have HKO := Aside0.mk hko
  clear hrk hko
  obtain ⟨has, hhas⟩ : ∃ has : Bool, has = false := ⟨_, rfl⟩
  rw [← hhas]
  have hC := (Kd.R_reads' hR).2.2
  have hlen := (Kd.R_reads' hR).1
  obtain ⟨ab, off, rfl, hab⟩ := C_form hC (by omega) (by decide)
  obtain ⟨z', hz', -, -, c2⟩ := wt_at hC m (by omega)
  obtain rfl : z = z' := by rw [hz] at hz'; exact Option.some.inj hz'
  subst hhas
  have hB : Below w.heap.size w (((w.alloc (.cells #[.slice (some ⟨ab, off, none⟩) (m + 1) c, .bool false, .int .i64 nx.s, .int .i64 nx.g, .int .u64 nx.t] 29)).alloc (.cells #[.int .i64 x.s, .int .i64 x.g, .int .u64 x.t] 27)).alloc (.cells #[.slice none 0 0, .bool false, .int .i64 0, .int .i64 0, .int .u64 0] 29)) := (by repeat (first | (with_reducible exact Below.refl _ _) | (with_reducible refine Below.drew ?_) | (with_reducible refine below_drewN ?_ _) | (with_reducible refine below_al ?_ _) | (with_reducible refine Below.alloc ?_ (by first | exact Nat.le_refl _ | omega | (simp; done) | (simp; omega)) _) | (with_reducible refine Below.setCell ?_ (by first | (simp only []; omega) | (simp; done) | (simp; omega)) _)))
  have hS : (((w.alloc (.cells #[.slice (some ⟨ab, off, none⟩) (m + 1) c, .bool false, .int .i64 nx.s, .int .i64 nx.g, .int .u64 nx.t] 29)).alloc (.cells #[.int .i64 x.s, .int .i64 x.g, .int .u64 x.t] 27)).alloc (.cells #[.slice none 0 0, .bool false, .int .i64 0, .int .i64 0, .int .u64 0] 29)).heap[w.heap.size]? = some (.cells #[.slice (some ⟨ab, off, none⟩) (m + 1) c, .bool false, .int .i64 nx.s, .int .i64 nx.g, .int .u64 nx.t] 29 (0, 0)) := blk_alloc (blk_alloc (blk_new _ _))
  have hX : (((w.alloc (.cells #[.slice (some ⟨ab, off, none⟩) (m + 1) c, .bool false, .int .i64 nx.s, .int .i64 nx.g, .int .u64 nx.t] 29)).alloc (.cells #[.int .i64 x.s, .int .i64 x.g, .int .u64 x.t] 27)).alloc (.cells #[.slice none 0 0, .bool false, .int .i64 0, .int .i64 0, .int .u64 0] 29)).heap[w.heap.size + 1]? = some (.cells #[.int .i64 x.s, .int .i64 x.g, .int .u64 x.t] 27 (0, 0)) := blk_alloc (blk_new1 _ _ _)
  have hT : (((w.alloc (.cells #[.slice (some ⟨ab, off, none⟩) (m + 1) c, .bool false, .int .i64 nx.s, .int .i64 nx.g, .int .u64 nx.t] 29)).alloc (.cells #[.int .i64 x.s, .int .i64 x.g, .int .u64 x.t] 27)).alloc (.cells #[.slice none 0 0, .bool false, .int .i64 0, .int .i64 0, .int .u64 0] 29)).heap[w.heap.size + 1 + 1]? = some (.cells #[.slice none 0 0, .bool false, .int .i64 0, .int .i64 0, .int .u64 0] 29 (0, 0)) := by simpa using blk_new2 w _ _ _
  have k2 := (hB.cell (p := ⟨ab, off + m * 3 + 2, none⟩) hab).trans c2
  have habw := Nat.lt_of_lt_of_le hab hB.size
  have d1 : decide (x.t ≤ z.t) = false := by simpa using h1
  have hws := hB.size
  clear hR hb hz hz' hC h1 c2
  have HLEN := Aside0.mk hlen
  clear hlen
  go_enter Try.func40, Try.ntmps40
  go_wp2_with fail
  generalize (((w.alloc (.cells #[.slice (some ⟨ab, off, none⟩) (m + 1) c, .bool false, .int .i64 nx.s, .int .i64 nx.g, .int .u64 nx.t] 29)).alloc (.cells #[.int .i64 x.s, .int .i64 x.g, .int .u64 x.t] 27)).alloc (.cells #[.slice none 0 0, .bool false, .int .i64 0, .int .i64 0, .int .u64 0] 29)) = W at *
  obtain ⟨s0, s1, s2, s3, s4, -, -, -, -, -⟩ := blk5 hS
  obtain ⟨x0, x1, x2, -, -, -⟩ := blk3 hX
  obtain ⟨t0, t1, t2, t3, t4, g0, g1, g2, g3, g4⟩ := blk5 hT
  have hTl := lt_blk hT
  have hSl := lt_blk hS
  have hT' := Aside0.mk hT
  have hX' := Aside0.mk hX
  clear hS hT hX
  go_quiet (fail)
  go_wp2_with fail
  have hBn : Below w.heap.size w (W.drewN nq) := below_drewN hB nq
  refine (behind_len (m + 1) (l := l) HLEN.out.symm (some ⟨ab, off, none⟩) c ⟨l, false, nx⟩ x (W.drewN nq) (Kd.R_reads' (Kd.R_below HR.out hBn)).2.2 (Kd.R_reads' HR.out).2.1 (by omega)).mono ?_
  rintro e w1 ⟨v, vo, rfl, hv, hvo, hB1⟩
  rw [← HRK.out] at hv
  rw [← HKO.out] at hvo
  have hT1 := blk_below (w := W) hT'.out (below_then (below_drewN (Below.refl _ _) nq) hB1)
  have hX1 := blk_below (w := W) hX'.out (below_then (below_drewN (Below.refl _ _) nq) hB1)
  have hC1 := below_then hBn hB1
  clear s0 s1 s2 s3 s4 x0 x1 x2 t0 t1 t2 t3 t4 g0 g1 g2 g3 g4 k2 hB1
  obtain ⟨A1, c1, rfl, -, -⟩ := Kd.R_reads hv
  obtain ⟨A2, c2, rfl, -, -⟩ := Kd.R_reads hvo
  obtain ⟨x0, x1, x2, -, -, -⟩ := blk3 hX1
  obtain ⟨t0, t1, t2, t3, t4, g0, g1, g2, g3, g4⟩ := blk5 hT1
  have hTl1 := lt_blk hT1
  have hXl1 := lt_blk hX1
  have HT1 := Aside0.mk hT1
  have HV := Aside0.mk hv
  have HVO := Aside0.mk hvo
  clear hv hvo hT1 hX1 hTl hSl
  go_wp2
  refine bodyPost_ret (v := .tuple #[.agg #[.slice A1 L.length c1, .bool false, .int .i64 nx.s, .int .i64 nx.g, .int .u64 nx.t], .slice A2 O.length c2, .int .i64 0]) (by simp [results, Try.results40, go_sem, hTl1, t0, t1, t2, t3, t4]) rfl ⟨_, _, rfl, ?_, ?_, ?_⟩
  · refine R_keepT (Kd.R_lower HV.out (Nat.le_trans HB.out hBn.size)) HT1.out (by decide) ?_
    exact (by repeat (first | (with_reducible exact Keep.refl _ _) | (with_reducible refine Keep.drewN ?_ _) | (with_reducible refine Keep.drew ?_) | (with_reducible refine Keep.setCell ?_ _ _ (by first | (right; with_reducible rfl) | (left; simp; done) | (left; simp; omega) | (right; simp; done) | (right; assumption))) | (with_reducible refine Keep.alloc ?_ _)))
  · refine R_keepT (Kd.R_lower HVO.out hBn.size) HT1.out (by decide) ?_
    exact (by repeat (first | (with_reducible exact Keep.refl _ _) | (with_reducible refine Keep.drewN ?_ _) | (with_reducible refine Keep.drew ?_) | (with_reducible refine Keep.setCell ?_ _ _ (by first | (right; with_reducible rfl) | (left; simp; done) | (left; simp; omega) | (right; simp; done) | (right; assumption))) | (with_reducible refine Keep.alloc ?_ _)))
  · exact (by repeat (first | (with_reducible exact hC1) | (with_reducible refine Below.drew ?_) | (with_reducible refine below_drewN ?_ _) | (with_reducible refine below_al ?_ _) | (with_reducible refine Below.alloc ?_ (by first | exact Nat.le_refl _ | omega | (simp; done) | (simp; omega)) _) | (with_reducible refine Below.setCell ?_ (by first | (simp only []; omega) | (simp; done) | (simp; omega)) _)))
set_option maxHeartbeats 4000000 in
theorem rput_sghb (A : Option Addr) (c m : Nat) (l : List Wt) (nx x z : Wt) (base : Nat) (w : World) (hR : kW.R 27 w base (fun _ => True) (.slice A (m + 1) c) l) (hb : base ≤ w.heap.size) (hl : m + 1 ≤ 64) (hz : l[m]? = some z) (h1 : ¬ x.t ≤ z.t) (h2 : nx.t ≤ x.t) :
    Calls Try.prog 40 #[.agg #[.slice A (m + 1) c, .bool true, .int .i64 nx.s, .int .i64 nx.g, .int .u64 nx.t], (.agg #[.int .i64 x.s, .int .i64 x.g, .int .u64 x.t])] w fun e w' => e = .returned (.tuple #[.agg #[.slice A (m + 1) c, .bool true, .int .i64 nx.s, .int .i64 nx.g, .int .u64 nx.t], .slice none 0 0, .int .i64 20]) ∧ kW.R 27 w' base (fun _ => True) (.slice A (m + 1) c) l ∧ Below w.heap.size w w' := by
  have HR := Aside0.mk hR
  have HB := Aside0.mk hb
  obtain ⟨has, hhas⟩ : ∃ has : Bool, has = true := ⟨_, rfl⟩
  rw [← hhas]
  have hC := (Kd.R_reads' hR).2.2
  have hlen := (Kd.R_reads' hR).1
  obtain ⟨ab, off, rfl, hab⟩ := C_form hC (by omega) (by decide)
  obtain ⟨z', hz', -, -, c2⟩ := wt_at hC m (by omega)
  obtain rfl : z = z' := by rw [hz] at hz'; exact Option.some.inj hz'
  subst hhas
  have hB : Below w.heap.size w (((w.alloc (.cells #[.slice (some ⟨ab, off, none⟩) (m + 1) c, .bool true, .int .i64 nx.s, .int .i64 nx.g, .int .u64 nx.t] 29)).alloc (.cells #[.int .i64 x.s, .int .i64 x.g, .int .u64 x.t] 27)).alloc (.cells #[.slice none 0 0, .bool false, .int .i64 0, .int .i64 0, .int .u64 0] 29)) := (by repeat (first | (with_reducible exact Below.refl _ _) | (with_reducible refine Below.drew ?_) | (with_reducible refine below_drewN ?_ _) | (with_reducible refine below_al ?_ _) | (with_reducible refine Below.alloc ?_ (by first | exact Nat.le_refl _ | omega | (simp; done) | (simp; omega)) _) | (with_reducible refine Below.setCell ?_ (by first | (simp only []; omega) | (simp; done) | (simp; omega)) _)))
  have hS : (((w.alloc (.cells #[.slice (some ⟨ab, off, none⟩) (m + 1) c, .bool true, .int .i64 nx.s, .int .i64 nx.g, .int .u64 nx.t] 29)).alloc (.cells #[.int .i64 x.s, .int .i64 x.g, .int .u64 x.t] 27)).alloc (.cells #[.slice none 0 0, .bool false, .int .i64 0, .int .i64 0, .int .u64 0] 29)).heap[w.heap.size]? = some (.cells #[.slice (some ⟨ab, off, none⟩) (m + 1) c, .bool true, .int .i64 nx.s, .int .i64 nx.g, .int .u64 nx.t] 29 (0, 0)) := blk_alloc (blk_alloc (blk_new _ _))
  have hX : (((w.alloc (.cells #[.slice (some ⟨ab, off, none⟩) (m + 1) c, .bool true, .int .i64 nx.s, .int .i64 nx.g, .int .u64 nx.t] 29)).alloc (.cells #[.int .i64 x.s, .int .i64 x.g, .int .u64 x.t] 27)).alloc (.cells #[.slice none 0 0, .bool false, .int .i64 0, .int .i64 0, .int .u64 0] 29)).heap[w.heap.size + 1]? = some (.cells #[.int .i64 x.s, .int .i64 x.g, .int .u64 x.t] 27 (0, 0)) := blk_alloc (blk_new1 _ _ _)
  have hT : (((w.alloc (.cells #[.slice (some ⟨ab, off, none⟩) (m + 1) c, .bool true, .int .i64 nx.s, .int .i64 nx.g, .int .u64 nx.t] 29)).alloc (.cells #[.int .i64 x.s, .int .i64 x.g, .int .u64 x.t] 27)).alloc (.cells #[.slice none 0 0, .bool false, .int .i64 0, .int .i64 0, .int .u64 0] 29)).heap[w.heap.size + 1 + 1]? = some (.cells #[.slice none 0 0, .bool false, .int .i64 0, .int .i64 0, .int .u64 0] 29 (0, 0)) := by simpa using blk_new2 w _ _ _
  have k2 := (hB.cell (p := ⟨ab, off + m * 3 + 2, none⟩) hab).trans c2
  have habw := Nat.lt_of_lt_of_le hab hB.size
  have d1 : decide (x.t ≤ z.t) = false := by simpa using h1
  have d2 : decide (nx.t ≤ x.t) = true := by simpa using h2
  have hws := hB.size
  clear hR hb hz hz' hC h1 c2 h2
  have HLEN := Aside0.mk hlen
  clear hlen
  go_enter Try.func40, Try.ntmps40
  go_wp2_with fail
  generalize (((w.alloc (.cells #[.slice (some ⟨ab, off, none⟩) (m + 1) c, .bool true, .int .i64 nx.s, .int .i64 nx.g, .int .u64 nx.t] 29)).alloc (.cells #[.int .i64 x.s, .int .i64 x.g, .int .u64 x.t] 27)).alloc (.cells #[.slice none 0 0, .bool false, .int .i64 0, .int .i64 0, .int .u64 0] 29)) = W at *
  obtain ⟨s0, s1, s2, s3, s4, -, -, -, -, -⟩ := blk5 hS
  obtain ⟨x0, x1, x2, -, -, -⟩ := blk3 hX
  obtain ⟨t0, t1, t2, t3, t4, g0, g1, g2, g3, g4⟩ := blk5 hT
  have hTl := lt_blk hT
  have hSl := lt_blk hS
  have hT' := Aside0.mk hT
  have hX' := Aside0.mk hX
  clear hS hT hX
  go_quiet (fail)
  go_wp2
  refine bodyPost_ret (v := .tuple #[.agg #[.slice (some ⟨ab, off, none⟩) (m + 1) c, .bool true, .int .i64 nx.s, .int .i64 nx.g, .int .u64 nx.t], .slice none 0 0, .int .i64 20]) (by simp [results, Try.results40, go_sem, hTl, t0, t1, t2, t3, t4]) rfl ⟨rfl, ?_, ?_⟩
  · refine R_keepT (Kd.R_below HR.out hB) hT'.out (by decide) ?_
    exact (by repeat (first | (with_reducible exact Keep.refl _ _) | (with_reducible refine Keep.drewN ?_ _) | (with_reducible refine Keep.drew ?_) | (with_reducible refine Keep.setCell ?_ _ _ (by first | (right; with_reducible rfl) | (left; simp; done) | (left; simp; omega) | (right; simp; done) | (right; assumption))) | (with_reducible refine Keep.alloc ?_ _)))
  · exact (by repeat (first | (with_reducible exact hB) | (with_reducible refine Below.drew ?_) | (with_reducible refine below_drewN ?_ _) | (with_reducible refine below_al ?_ _) | (with_reducible refine Below.alloc ?_ (by first | exact Nat.le_refl _ | omega | (simp; done) | (simp; omega)) _) | (with_reducible refine Below.setCell ?_ (by first | (simp only []; omega) | (simp; done) | (simp; omega)) _)))
set_option maxHeartbeats 4000000 in
theorem rput_sghg (A : Option Addr) (c m : Nat) (l : List Wt) (nx x z : Wt) (base : Nat) (w : World) (hR : kW.R 27 w base (fun _ => True) (.slice A (m + 1) c) l) (hb : base ≤ w.heap.size) (hl : m + 1 ≤ 64) (hz : l[m]? = some z) (h1 : ¬ x.t ≤ z.t) (h2 : ¬ nx.t ≤ x.t) :
    Calls Try.prog 40 #[.agg #[.slice A (m + 1) c, .bool true, .int .i64 nx.s, .int .i64 nx.g, .int .u64 nx.t], (.agg #[.int .i64 x.s, .int .i64 x.g, .int .u64 x.t])] w fun e w' => ∃ v vo, e = .returned (.tuple #[.agg #[v, .bool true, .int .i64 nx.s, .int .i64 nx.g, .int .u64 nx.t], vo, .int .i64 0]) ∧ kW.R 27 w' base (fun _ => True) v (pushL l x) ∧ kW.R 27 w' w.heap.size (fun _ => True) vo (pushOut l x) ∧ Below w.heap.size w w' := by
  have HR := Aside0.mk hR
  have HB := Aside0.mk hb
  obtain ⟨L, hrk⟩ : ∃ L, L = pushL l x := ⟨_, rfl⟩
  obtain ⟨O, hko⟩ : ∃ O, O = pushOut l x := ⟨_, rfl⟩
  rw [← hrk, ← hko]
  have HRK := Aside0.mk hrk
  have HKO := Aside0.mk hko
  clear hrk hko
  obtain ⟨has, hhas⟩ : ∃ has : Bool, has = true := ⟨_, rfl⟩
  rw [← hhas]
  have hC := (Kd.R_reads' hR).2.2
  have hlen := (Kd.R_reads' hR).1
  obtain ⟨ab, off, rfl, hab⟩ := C_form hC (by omega) (by decide)
  obtain ⟨z', hz', -, -, c2⟩ := wt_at hC m (by omega)
  obtain rfl : z = z' := by rw [hz] at hz'; exact Option.some.inj hz'
  subst hhas
  have hB : Below w.heap.size w (((w.alloc (.cells #[.slice (some ⟨ab, off, none⟩) (m + 1) c, .bool true, .int .i64 nx.s, .int .i64 nx.g, .int .u64 nx.t] 29)).alloc (.cells #[.int .i64 x.s, .int .i64 x.g, .int .u64 x.t] 27)).alloc (.cells #[.slice none 0 0, .bool false, .int .i64 0, .int .i64 0, .int .u64 0] 29)) := (by repeat (first | (with_reducible exact Below.refl _ _) | (with_reducible refine Below.drew ?_) | (with_reducible refine below_drewN ?_ _) | (with_reducible refine below_al ?_ _) | (with_reducible refine Below.alloc ?_ (by first | exact Nat.le_refl _ | omega | (simp; done) | (simp; omega)) _) | (with_reducible refine Below.setCell ?_ (by first | (simp only []; omega) | (simp; done) | (simp; omega)) _)))
  have hS : (((w.alloc (.cells #[.slice (some ⟨ab, off, none⟩) (m + 1) c, .bool true, .int .i64 nx.s, .int .i64 nx.g, .int .u64 nx.t] 29)).alloc (.cells #[.int .i64 x.s, .int .i64 x.g, .int .u64 x.t] 27)).alloc (.cells #[.slice none 0 0, .bool false, .int .i64 0, .int .i64 0, .int .u64 0] 29)).heap[w.heap.size]? = some (.cells #[.slice (some ⟨ab, off, none⟩) (m + 1) c, .bool true, .int .i64 nx.s, .int .i64 nx.g, .int .u64 nx.t] 29 (0, 0)) := blk_alloc (blk_alloc (blk_new _ _))
  have hX : (((w.alloc (.cells #[.slice (some ⟨ab, off, none⟩) (m + 1) c, .bool true, .int .i64 nx.s, .int .i64 nx.g, .int .u64 nx.t] 29)).alloc (.cells #[.int .i64 x.s, .int .i64 x.g, .int .u64 x.t] 27)).alloc (.cells #[.slice none 0 0, .bool false, .int .i64 0, .int .i64 0, .int .u64 0] 29)).heap[w.heap.size + 1]? = some (.cells #[.int .i64 x.s, .int .i64 x.g, .int .u64 x.t] 27 (0, 0)) := blk_alloc (blk_new1 _ _ _)
  have hT : (((w.alloc (.cells #[.slice (some ⟨ab, off, none⟩) (m + 1) c, .bool true, .int .i64 nx.s, .int .i64 nx.g, .int .u64 nx.t] 29)).alloc (.cells #[.int .i64 x.s, .int .i64 x.g, .int .u64 x.t] 27)).alloc (.cells #[.slice none 0 0, .bool false, .int .i64 0, .int .i64 0, .int .u64 0] 29)).heap[w.heap.size + 1 + 1]? = some (.cells #[.slice none 0 0, .bool false, .int .i64 0, .int .i64 0, .int .u64 0] 29 (0, 0)) := by simpa using blk_new2 w _ _ _
  have k2 := (hB.cell (p := ⟨ab, off + m * 3 + 2, none⟩) hab).trans c2
  have habw := Nat.lt_of_lt_of_le hab hB.size
  have d1 : decide (x.t ≤ z.t) = false := by simpa using h1
  have d2 : decide (nx.t ≤ x.t) = false := by simpa using h2
  have hws := hB.size
  clear hR hb hz hz' hC h1 c2 h2
  have HLEN := Aside0.mk hlen
  clear hlen
  go_enter Try.func40, Try.ntmps40
  go_wp2_with fail
  generalize (((w.alloc (.cells #[.slice (some ⟨ab, off, none⟩) (m + 1) c, .bool true, .int .i64 nx.s, .int .i64 nx.g, .int .u64 nx.t] 29)).alloc (.cells #[.int .i64 x.s, .int .i64 x.g, .int .u64 x.t] 27)).alloc (.cells #[.slice none 0 0, .bool false, .int .i64 0, .int .i64 0, .int .u64 0] 29)) = W at *
  obtain ⟨s0, s1, s2, s3, s4, -, -, -, -, -⟩ := blk5 hS
  obtain ⟨x0, x1, x2, -, -, -⟩ := blk3 hX
  obtain ⟨t0, t1, t2, t3, t4, g0, g1, g2, g3, g4⟩ := blk5 hT
  have hTl := lt_blk hT
  have hSl := lt_blk hS
  have hT' := Aside0.mk hT
  have hX' := Aside0.mk hX
  clear hS hT hX
  go_quiet (fail)
  go_wp2_with fail
  have hBn : Below w.heap.size w (W.drewN nq) := below_drewN hB nq
  refine (behind_len (m + 1) (l := l) HLEN.out.symm (some ⟨ab, off, none⟩) c ⟨l, true, nx⟩ x (W.drewN nq) (Kd.R_reads' (Kd.R_below HR.out hBn)).2.2 (Kd.R_reads' HR.out).2.1 (by omega)).mono ?_
  rintro e w1 ⟨v, vo, rfl, hv, hvo, hB1⟩
  rw [← HRK.out] at hv
  rw [← HKO.out] at hvo
  have hT1 := blk_below (w := W) hT'.out (below_then (below_drewN (Below.refl _ _) nq) hB1)
  have hX1 := blk_below (w := W) hX'.out (below_then (below_drewN (Below.refl _ _) nq) hB1)
  have hC1 := below_then hBn hB1
  clear s0 s1 s2 s3 s4 x0 x1 x2 t0 t1 t2 t3 t4 g0 g1 g2 g3 g4 k2 hB1
  obtain ⟨A1, c1, rfl, -, -⟩ := Kd.R_reads hv
  obtain ⟨A2, c2, rfl, -, -⟩ := Kd.R_reads hvo
  obtain ⟨x0, x1, x2, -, -, -⟩ := blk3 hX1
  obtain ⟨t0, t1, t2, t3, t4, g0, g1, g2, g3, g4⟩ := blk5 hT1
  have hTl1 := lt_blk hT1
  have hXl1 := lt_blk hX1
  have HT1 := Aside0.mk hT1
  have HV := Aside0.mk hv
  have HVO := Aside0.mk hvo
  clear hv hvo hT1 hX1 hTl hSl
  go_wp2
  refine bodyPost_ret (v := .tuple #[.agg #[.slice A1 L.length c1, .bool true, .int .i64 nx.s, .int .i64 nx.g, .int .u64 nx.t], .slice A2 O.length c2, .int .i64 0]) (by simp [results, Try.results40, go_sem, hTl1, t0, t1, t2, t3, t4]) rfl ⟨_, _, rfl, ?_, ?_, ?_⟩
  · refine R_keepT (Kd.R_lower HV.out (Nat.le_trans HB.out hBn.size)) HT1.out (by decide) ?_
    exact (by repeat (first | (with_reducible exact Keep.refl _ _) | (with_reducible refine Keep.drewN ?_ _) | (with_reducible refine Keep.drew ?_) | (with_reducible refine Keep.setCell ?_ _ _ (by first | (right; with_reducible rfl) | (left; simp; done) | (left; simp; omega) | (right; simp; done) | (right; assumption))) | (with_reducible refine Keep.alloc ?_ _)))
  · refine R_keepT (Kd.R_lower HVO.out hBn.size) HT1.out (by decide) ?_
    exact (by repeat (first | (with_reducible exact Keep.refl _ _) | (with_reducible refine Keep.drewN ?_ _) | (with_reducible refine Keep.drew ?_) | (with_reducible refine Keep.setCell ?_ _ _ (by first | (right; with_reducible rfl) | (left; simp; done) | (left; simp; omega) | (right; simp; done) | (right; assumption))) | (with_reducible refine Keep.alloc ?_ _)))
  · exact (by repeat (first | (with_reducible exact hC1) | (with_reducible refine Below.drew ?_) | (with_reducible refine below_drewN ?_ _) | (with_reducible refine below_al ?_ _) | (with_reducible refine Below.alloc ?_ (by first | exact Nat.le_refl _ | omega | (simp; done) | (simp; omega)) _) | (with_reducible refine Below.setCell ?_ (by first | (simp only []; omega) | (simp; done) | (simp; omega)) _)))
set_option maxHeartbeats 4000000 in
theorem rready_sbpg (A : Option Addr) (c m : Nat) (l : List Wt) (has : Bool) (nx x z : Wt) (base : Nat) (w : World) (hR : kW.R 27 w base (fun _ => True) (.slice A (m + 1) c) l) (hb : base ≤ w.heap.size) (hl : m + 1 ≤ 64) (hz : l[m]? = some z) (h1 : x.t ≤ z.t) :
    Calls Try.prog 41 #[.agg #[.slice A (m + 1) c, .bool has, .int .i64 nx.s, .int .i64 nx.g, .int .u64 nx.t], (.agg #[.int .i64 x.s, .int .i64 x.g, .int .u64 x.t])] w fun e w' => e = .returned (.tuple #[.agg #[.slice A (m + 1) c, .bool has, .int .i64 nx.s, .int .i64 nx.g, .int .u64 nx.t], .slice none 0 0, .int .i64 20]) ∧ kW.R 27 w' base (fun _ => True) (.slice A (m + 1) c) l ∧ Below w.heap.size w w' := by
  have HR := Aside0.mk hR
  have HB := Aside0.mk hb
  have hC := (Kd.R_reads' hR).2.2
  have hlen := (Kd.R_reads' hR).1
  obtain ⟨ab, off, rfl, hab⟩ := C_form hC (by omega) (by decide)
  obtain ⟨z', hz', -, -, c2⟩ := wt_at hC m (by omega)
  obtain rfl : z = z' := by rw [hz] at hz'; exact Option.some.inj hz'
  have hB : Below w.heap.size w (((w.alloc (.cells #[.slice (some ⟨ab, off, none⟩) (m + 1) c, .bool has, .int .i64 nx.s, .int .i64 nx.g, .int .u64 nx.t] 29)).alloc (.cells #[.int .i64 x.s, .int .i64 x.g, .int .u64 x.t] 27)).alloc (.cells #[.slice none 0 0, .bool false, .int .i64 0, .int .i64 0, .int .u64 0] 29)) := (by repeat (first | (with_reducible exact Below.refl _ _) | (with_reducible refine Below.drew ?_) | (with_reducible refine below_drewN ?_ _) | (with_reducible refine below_al ?_ _) | (with_reducible refine Below.alloc ?_ (by first | exact Nat.le_refl _ | omega | (simp; done) | (simp; omega)) _) | (with_reducible refine Below.setCell ?_ (by first | (simp only []; omega) | (simp; done) | (simp; omega)) _)))
  have hS : (((w.alloc (.cells #[.slice (some ⟨ab, off, none⟩) (m + 1) c, .bool has, .int .i64 nx.s, .int .i64 nx.g, .int .u64 nx.t] 29)).alloc (.cells #[.int .i64 x.s, .int .i64 x.g, .int .u64 x.t] 27)).alloc (.cells #[.slice none 0 0, .bool false, .int .i64 0, .int .i64 0, .int .u64 0] 29)).heap[w.heap.size]? = some (.cells #[.slice (some ⟨ab, off, none⟩) (m + 1) c, .bool has, .int .i64 nx.s, .int .i64 nx.g, .int .u64 nx.t] 29 (0, 0)) := blk_alloc (blk_alloc (blk_new _ _))
  have hX : (((w.alloc (.cells #[.slice (some ⟨ab, off, none⟩) (m + 1) c, .bool has, .int .i64 nx.s, .int .i64 nx.g, .int .u64 nx.t] 29)).alloc (.cells #[.int .i64 x.s, .int .i64 x.g, .int .u64 x.t] 27)).alloc (.cells #[.slice none 0 0, .bool false, .int .i64 0, .int .i64 0, .int .u64 0] 29)).heap[w.heap.size + 1]? = some (.cells #[.int .i64 x.s, .int .i64 x.g, .int .u64 x.t] 27 (0, 0)) := blk_alloc (blk_new1 _ _ _)
  have hT : (((w.alloc (.cells #[.slice (some ⟨ab, off, none⟩) (m + 1) c, .bool has, .int .i64 nx.s, .int .i64 nx.g, .int .u64 nx.t] 29)).alloc (.cells #[.int .i64 x.s, .int .i64 x.g, .int .u64 x.t] 27)).alloc (.cells #[.slice none 0 0, .bool false, .int .i64 0, .int .i64 0, .int .u64 0] 29)).heap[w.heap.size + 1 + 1]? = some (.cells #[.slice none 0 0, .bool false, .int .i64 0, .int .i64 0, .int .u64 0] 29 (0, 0)) := by simpa using blk_new2 w _ _ _
  have k2 := (hB.cell (p := ⟨ab, off + m * 3 + 2, none⟩) hab).trans c2
  have habw := Nat.lt_of_lt_of_le hab hB.size
  have d1 : decide (x.t ≤ z.t) = true := by simpa using h1
  have hws := hB.size
  clear hR hb hz hz' hC h1 c2
  have HLEN := Aside0.mk hlen
  clear hlen
  go_enter Try.func41, Try.ntmps41
  go_wp2_with fail
  generalize (((w.alloc (.cells #[.slice (some ⟨ab, off, none⟩) (m + 1) c, .bool has, .int .i64 nx.s, .int .i64 nx.g, .int .u64 nx.t] 29)).alloc (.cells #[.int .i64 x.s, .int .i64 x.g, .int .u64 x.t] 27)).alloc (.cells #[.slice none 0 0, .bool false, .int .i64 0, .int .i64 0, .int .u64 0] 29)) = W at *
  obtain ⟨s0, s1, s2, s3, s4, -, -, -, -, -⟩ := blk5 hS
  obtain ⟨x0, x1, x2, -, -, -⟩ := blk3 hX
  obtain ⟨t0, t1, t2, t3, t4, g0, g1, g2, g3, g4⟩ := blk5 hT
  have hTl := lt_blk hT
  have hSl := lt_blk hS
  have hT' := Aside0.mk hT
  have hX' := Aside0.mk hX
  clear hS hT hX
  go_quiet (fail)
  go_wp2
  refine bodyPost_ret (v := .tuple #[.agg #[.slice (some ⟨ab, off, none⟩) (m + 1) c, .bool has, .int .i64 nx.s, .int .i64 nx.g, .int .u64 nx.t], .slice none 0 0, .int .i64 20]) (by simp [results, Try.results41, go_sem, hTl, t0, t1, t2, t3, t4]) rfl ⟨rfl, ?_, ?_⟩
  · refine R_keepT (Kd.R_below HR.out hB) hT'.out (by decide) ?_
    exact (by repeat (first | (with_reducible exact Keep.refl _ _) | (with_reducible refine Keep.drewN ?_ _) | (with_reducible refine Keep.drew ?_) | (with_reducible refine Keep.setCell ?_ _ _ (by first | (right; with_reducible rfl) | (left; simp; done) | (left; simp; omega) | (right; simp; done) | (right; assumption))) | (with_reducible refine Keep.alloc ?_ _)))
  · exact (by repeat (first | (with_reducible exact hB) | (with_reducible refine Below.drew ?_) | (with_reducible refine below_drewN ?_ _) | (with_reducible refine below_al ?_ _) | (with_reducible refine Below.alloc ?_ (by first | exact Nat.le_refl _ | omega | (simp; done) | (simp; omega)) _) | (with_reducible refine Below.setCell ?_ (by first | (simp only []; omega) | (simp; done) | (simp; omega)) _)))
set_option maxHeartbeats 4000000 in
theorem rready_ngpg (A : Option Addr) (c : Nat) (l : List Wt) (nx x : Wt) (base : Nat) (w : World) (hR : kW.R 27 w base (fun _ => True) (.slice A 0 c) l) (hb : base ≤ w.heap.size) (hl : l = []) :
    Calls Try.prog 41 #[.agg #[.slice A 0 c, .bool false, .int .i64 nx.s, .int .i64 nx.g, .int .u64 nx.t], (.agg #[.int .i64 x.s, .int .i64 x.g, .int .u64 x.t])] w fun e w' => ∃ v vo, e = .returned (.tuple #[.agg #[v, .bool true, .int .i64 x.s, .int .i64 x.g, .int .u64 x.t], vo, .int .i64 0]) ∧ kW.R 27 w' base (fun _ => True) v (kickR ⟨l, false, nx⟩).l ∧ kW.R 27 w' w.heap.size (fun _ => True) vo (kickOut ⟨l, false, nx⟩) ∧ Below w.heap.size w w' := by
  have HR := Aside0.mk hR
  have HB := Aside0.mk hb
  obtain ⟨rk, hrk⟩ : ∃ rk, rk = kickR ⟨l, false, nx⟩ := ⟨_, rfl⟩
  obtain ⟨ko, hko⟩ : ∃ ko, ko = kickOut ⟨l, false, nx⟩ := ⟨_, rfl⟩
  rw [← hrk, ← hko]
  have HRK := Aside0.mk hrk
  have HKO := Aside0.mk hko
  clear hrk hko
  obtain ⟨has, hhas⟩ : ∃ has : Bool, has = false := ⟨_, rfl⟩
  rw [← hhas]
  subst hhas
  have hB : Below w.heap.size w (((w.alloc (.cells #[.slice A 0 c, .bool false, .int .i64 nx.s, .int .i64 nx.g, .int .u64 nx.t] 29)).alloc (.cells #[.int .i64 x.s, .int .i64 x.g, .int .u64 x.t] 27)).alloc (.cells #[.slice none 0 0, .bool false, .int .i64 0, .int .i64 0, .int .u64 0] 29)) := (by repeat (first | (with_reducible exact Below.refl _ _) | (with_reducible refine Below.drew ?_) | (with_reducible refine below_drewN ?_ _) | (with_reducible refine below_al ?_ _) | (with_reducible refine Below.alloc ?_ (by first | exact Nat.le_refl _ | omega | (simp; done) | (simp; omega)) _) | (with_reducible refine Below.setCell ?_ (by first | (simp only []; omega) | (simp; done) | (simp; omega)) _)))
  have hS : (((w.alloc (.cells #[.slice A 0 c, .bool false, .int .i64 nx.s, .int .i64 nx.g, .int .u64 nx.t] 29)).alloc (.cells #[.int .i64 x.s, .int .i64 x.g, .int .u64 x.t] 27)).alloc (.cells #[.slice none 0 0, .bool false, .int .i64 0, .int .i64 0, .int .u64 0] 29)).heap[w.heap.size]? = some (.cells #[.slice A 0 c, .bool false, .int .i64 nx.s, .int .i64 nx.g, .int .u64 nx.t] 29 (0, 0)) := blk_alloc (blk_alloc (blk_new _ _))
  have hX : (((w.alloc (.cells #[.slice A 0 c, .bool false, .int .i64 nx.s, .int .i64 nx.g, .int .u64 nx.t] 29)).alloc (.cells #[.int .i64 x.s, .int .i64 x.g, .int .u64 x.t] 27)).alloc (.cells #[.slice none 0 0, .bool false, .int .i64 0, .int .i64 0, .int .u64 0] 29)).heap[w.heap.size + 1]? = some (.cells #[.int .i64 x.s, .int .i64 x.g, .int .u64 x.t] 27 (0, 0)) := blk_alloc (blk_new1 _ _ _)
  have hT : (((w.alloc (.cells #[.slice A 0 c, .bool false, .int .i64 nx.s, .int .i64 nx.g, .int .u64 nx.t] 29)).alloc (.cells #[.int .i64 x.s, .int .i64 x.g, .int .u64 x.t] 27)).alloc (.cells #[.slice none 0 0, .bool false, .int .i64 0, .int .i64 0, .int .u64 0] 29)).heap[w.heap.size + 1 + 1]? = some (.cells #[.slice none 0 0, .bool false, .int .i64 0, .int .i64 0, .int .u64 0] 29 (0, 0)) := by simpa using blk_new2 w _ _ _
  have hws := hB.size
  have HL := Aside0.mk hl
  clear hl
  clear hR hb
  go_enter Try.func41, Try.ntmps41
  go_wp2_with fail
  generalize (((w.alloc (.cells #[.slice A 0 c, .bool false, .int .i64 nx.s, .int .i64 nx.g, .int .u64 nx.t] 29)).alloc (.cells #[.int .i64 x.s, .int .i64 x.g, .int .u64 x.t] 27)).alloc (.cells #[.slice none 0 0, .bool false, .int .i64 0, .int .i64 0, .int .u64 0] 29)) = W at *
  obtain ⟨s0, s1, s2, s3, s4, -, -, -, -, -⟩ := blk5 hS
  obtain ⟨x0, x1, x2, -, -, -⟩ := blk3 hX
  obtain ⟨t0, t1, t2, t3, t4, g0, g1, g2, g3, g4⟩ := blk5 hT
  have hTl := lt_blk hT
  have hSl := lt_blk hS
  have hT' := Aside0.mk hT
  have hX' := Aside0.mk hX
  clear hS hT hX
  go_quiet (fail)
  go_wp2_with fail
  have hBn : Below w.heap.size w (W.drewN nq) := below_drewN hB nq
  have hkc := rkick_len 0 (l := l) (by rw [HL.out]; rfl) A c ⟨l, false, nx⟩ base (W.drewN nq) (Kd.R_below HR.out hBn) (Nat.le_trans HB.out hBn.size) (by omega)
  rw [← HRK.out, ← HKO.out] at hkc
  refine hkc.mono ?_
  clear hkc
  rintro e w1 ⟨v, vo, rfl, hv, hvo, hB1⟩
  have hT1 := blk_below (w := W) hT'.out (below_then (below_drewN (Below.refl _ _) nq) hB1)
  have hX1 := blk_below (w := W) hX'.out (below_then (below_drewN (Below.refl _ _) nq) hB1)
  have hC1 := below_then hBn hB1
  clear s0 s1 s2 s3 s4 x0 x1 x2 t0 t1 t2 t3 t4 g0 g1 g2 g3 g4 hB1
  obtain ⟨A1, c1, rfl, -, -⟩ := Kd.R_reads hv
  obtain ⟨A2, c2, rfl, -, -⟩ := Kd.R_reads hvo
  obtain ⟨x0, x1, x2, -, -, -⟩ := blk3 hX1
  obtain ⟨t0, t1, t2, t3, t4, g0, g1, g2, g3, g4⟩ := blk5 hT1
  have hTl1 := lt_blk hT1
  have hXl1 := lt_blk hX1
  have HT1 := Aside0.mk hT1
  have HV := Aside0.mk hv
  have HVO := Aside0.mk hvo
  clear hv hvo hT1 hX1 hTl hSl
  go_wp2
  refine bodyPost_ret (v := .tuple #[.agg #[.slice A1 rk.l.length c1, .bool true, .int .i64 x.s, .int .i64 x.g, .int .u64 x.t], .slice A2 ko.length c2, .int .i64 0]) (by simp [results, Try.results41, go_sem, hTl1, t0, t1, t2, t3, t4]) rfl ⟨_, _, rfl, ?_, ?_, ?_⟩
  · refine R_keepT (HV.out) HT1.out (by decide) ?_
    exact (by repeat (first | (with_reducible exact Keep.refl _ _) | (with_reducible refine Keep.drewN ?_ _) | (with_reducible refine Keep.drew ?_) | (with_reducible refine Keep.setCell ?_ _ _ (by first | (right; with_reducible rfl) | (left; simp; done) | (left; simp; omega) | (right; simp; done) | (right; assumption))) | (with_reducible refine Keep.alloc ?_ _)))
  · refine R_keepT (Kd.R_lower HVO.out hBn.size) HT1.out (by decide) ?_
    exact (by repeat (first | (with_reducible exact Keep.refl _ _) | (with_reducible refine Keep.drewN ?_ _) | (with_reducible refine Keep.drew ?_) | (with_reducible refine Keep.setCell ?_ _ _ (by first | (right; with_reducible rfl) | (left; simp; done) | (left; simp; omega) | (right; simp; done) | (right; assumption))) | (with_reducible refine Keep.alloc ?_ _)))
  · exact (by repeat (first | (with_reducible exact hC1) | (with_reducible refine Below.drew ?_) | (with_reducible refine below_drewN ?_ _) | (with_reducible refine below_al ?_ _) | (with_reducible refine Below.alloc ?_ (by first | exact Nat.le_refl _ | omega | (simp; done) | (simp; omega)) _) | (with_reducible refine Below.setCell ?_ (by first | (simp only []; omega) | (simp; done) | (simp; omega)) _)))
set_option maxHeartbeats 4000000 in
theorem rready_nghb (A : Option Addr) (c : Nat) (l : List Wt) (nx x : Wt) (base : Nat) (w : World) (hR : kW.R 27 w base (fun _ => True) (.slice A 0 c) l) (hb : base ≤ w.heap.size) (hl : l = []) (h2 : x.t ≤ nx.t) :
    Calls Try.prog 41 #[.agg #[.slice A 0 c, .bool true, .int .i64 nx.s, .int .i64 nx.g, .int .u64 nx.t], (.agg #[.int .i64 x.s, .int .i64 x.g, .int .u64 x.t])] w fun e w' => e = .returned (.tuple #[.agg #[.slice A 0 c, .bool true, .int .i64 nx.s, .int .i64 nx.g, .int .u64 nx.t], .slice none 0 0, .int .i64 20]) ∧ kW.R 27 w' base (fun _ => True) (.slice A 0 c) l ∧ Below w.heap.size w w' := by
  have HR := Aside0.mk hR
  have HB := Aside0.mk hb
  obtain ⟨has, hhas⟩ : ∃ has : Bool, has = true := ⟨_, rfl⟩
  rw [← hhas]
  subst hhas
  have hB : Below w.heap.size w (((w.alloc (.cells #[.slice A 0 c, .bool true, .int .i64 nx.s, .int .i64 nx.g, .int .u64 nx.t] 29)).alloc (.cells #[.int .i64 x.s, .int .i64 x.g, .int .u64 x.t] 27)).alloc (.cells #[.slice none 0 0, .bool false, .int .i64 0, .int .i64 0, .int .u64 0] 29)) := (by repeat (first | (with_reducible exact Below.refl _ _) | (with_reducible refine Below.drew ?_) | (with_reducible refine below_drewN ?_ _) | (with_reducible refine below_al ?_ _) | (with_reducible refine Below.alloc ?_ (by first | exact Nat.le_refl _ | omega | (simp; done) | (simp; omega)) _) | (with_reducible refine Below.setCell ?_ (by first | (simp only []; omega) | (simp; done) | (simp; omega)) _)))
  have hS : (((w.alloc (.cells #[.slice A 0 c, .bool true, .int .i64 nx.s, .int .i64 nx.g, .int .u64 nx.t] 29)).alloc (.cells #[.int .i64 x.s, .int .i64 x.g, .int .u64 x.t] 27)).alloc (.cells #[.slice none 0 0, .bool false, .int .i64 0, .int .i64 0, .int .u64 0] 29)).heap[w.heap.size]? = some (.cells #[.slice A 0 c, .bool true, .int .i64 nx.s, .int .i64 nx.g, .int .u64 nx.t] 29 (0, 0)) := blk_alloc (blk_alloc (blk_new _ _))
  have hX : (((w.alloc (.cells #[.slice A 0 c, .bool true, .int .i64 nx.s, .int .i64 nx.g, .int .u64 nx.t] 29)).alloc (.cells #[.int .i64 x.s, .int .i64 x.g, .int .u64 x.t] 27)).alloc (.cells #[.slice none 0 0, .bool false, .int .i64 0, .int .i64 0, .int .u64 0] 29)).heap[w.heap.size + 1]? = some (.cells #[.int .i64 x.s, .int .i64 x.g, .int .u64 x.t] 27 (0, 0)) := blk_alloc (blk_new1 _ _ _)
  have hT : (((w.alloc (.cells #[.slice A 0 c, .bool true, .int .i64 nx.s, .int .i64 nx.g, .int .u64 nx.t] 29)).alloc (.cells #[.int .i64 x.s, .int .i64 x.g, .int .u64 x.t] 27)).alloc (.cells #[.slice none 0 0, .bool false, .int .i64 0, .int .i64 0, .int .u64 0] 29)).heap[w.heap.size + 1 + 1]? = some (.cells #[.slice none 0 0, .bool false, .int .i64 0, .int .i64 0, .int .u64 0] 29 (0, 0)) := by simpa using blk_new2 w _ _ _
  have d2 : decide (x.t ≤ nx.t) = true := by simpa using h2
  have hws := hB.size
  have HL := Aside0.mk hl
  clear hl
  clear hR hb h2
  go_enter Try.func41, Try.ntmps41
  go_wp2_with fail
  generalize (((w.alloc (.cells #[.slice A 0 c, .bool true, .int .i64 nx.s, .int .i64 nx.g, .int .u64 nx.t] 29)).alloc (.cells #[.int .i64 x.s, .int .i64 x.g, .int .u64 x.t] 27)).alloc (.cells #[.slice none 0 0, .bool false, .int .i64 0, .int .i64 0, .int .u64 0] 29)) = W at *
  obtain ⟨s0, s1, s2, s3, s4, -, -, -, -, -⟩ := blk5 hS
  obtain ⟨x0, x1, x2, -, -, -⟩ := blk3 hX
  obtain ⟨t0, t1, t2, t3, t4, g0, g1, g2, g3, g4⟩ := blk5 hT
  have hTl := lt_blk hT
  have hSl := lt_blk hS
  have hT' := Aside0.mk hT
  have hX' := Aside0.mk hX
  clear hS hT hX
  go_quiet (fail)
  go_wp2
  refine bodyPost_ret (v := .tuple #[.agg #[.slice A 0 c, .bool true, .int .i64 nx.s, .int .i64 nx.g, .int .u64 nx.t], .slice none 0 0, .int .i64 20]) (by simp [results, Try.results41, go_sem, hTl, t0, t1, t2, t3, t4]) rfl ⟨rfl, ?_, ?_⟩
  · refine R_keepT (Kd.R_below HR.out hB) hT'.out (by decide) ?_
    exact (by repeat (first | (with_reducible exact Keep.refl _ _) | (with_reducible refine Keep.drewN ?_ _) | (with_reducible refine Keep.drew ?_) | (with_reducible refine Keep.setCell ?_ _ _ (by first | (right; with_reducible rfl) | (left; simp; done) | (left; simp; omega) | (right; simp; done) | (right; assumption))) | (with_reducible refine Keep.alloc ?_ _)))
  · exact (by repeat (first | (with_reducible exact hB) | (with_reducible refine Below.drew ?_) | (with_reducible refine below_drewN ?_ _) | (with_reducible refine below_al ?_ _) | (with_reducible refine Below.alloc ?_ (by first | exact Nat.le_refl _ | omega | (simp; done) | (simp; omega)) _) | (with_reducible refine Below.setCell ?_ (by first | (simp only []; omega) | (simp; done) | (simp; omega)) _)))
set_option maxHeartbeats 4000000 in
theorem rready_nghg (A : Option Addr) (c : Nat) (l : List Wt) (nx x : Wt) (base : Nat) (w : World) (hR : kW.R 27 w base (fun _ => True) (.slice A 0 c) l) (hb : base ≤ w.heap.size) (hl : l = []) (h2 : ¬ x.t ≤ nx.t) :
    Calls Try.prog 41 #[.agg #[.slice A 0 c, .bool true, .int .i64 nx.s, .int .i64 nx.g, .int .u64 nx.t], (.agg #[.int .i64 x.s, .int .i64 x.g, .int .u64 x.t])] w fun e w' => ∃ v vo, e = .returned (.tuple #[.agg #[v, .bool true, .int .i64 x.s, .int .i64 x.g, .int .u64 x.t], vo, .int .i64 0]) ∧ kW.R 27 w' base (fun _ => True) v (kickR ⟨l, true, nx⟩).l ∧ kW.R 27 w' w.heap.size (fun _ => True) vo (kickOut ⟨l, true, nx⟩) ∧ Below w.heap.size w w' := by
  have HR := Aside0.mk hR
  have HB := Aside0.mk hb
  obtain ⟨rk, hrk⟩ : ∃ rk, rk = kickR ⟨l, true, nx⟩ := ⟨_, rfl⟩
  obtain ⟨ko, hko⟩ : ∃ ko, ko = kickOut ⟨l, true, nx⟩ := ⟨_, rfl⟩
  rw [← hrk, ← hko]
  have HRK := Aside0.mk hrk
  have HKO := Aside0.mk hko
  clear hrk hko
  obtain ⟨has, hhas⟩ : ∃ has : Bool, has = true := ⟨_, rfl⟩
  rw [← hhas]
  subst hhas
  have hB : Below w.heap.size w (((w.alloc (.cells #[.slice A 0 c, .bool true, .int .i64 nx.s, .int .i64 nx.g, .int .u64 nx.t] 29)).alloc (.cells #[.int .i64 x.s, .int .i64 x.g, .int .u64 x.t] 27)).alloc (.cells #[.slice none 0 0, .bool false, .int .i64 0, .int .i64 0, .int .u64 0] 29)) := (by repeat (first | (with_reducible exact Below.refl _ _) | (with_reducible refine Below.drew ?_) | (with_reducible refine below_drewN ?_ _) | (with_reducible refine below_al ?_ _) | (with_reducible refine Below.alloc ?_ (by first | exact Nat.le_refl _ | omega | (simp; done) | (simp; omega)) _) | (with_reducible refine Below.setCell ?_ (by first | (simp only []; omega) | (simp; done) | (simp; omega)) _)))
  have hS : (((w.alloc (.cells #[.slice A 0 c, .bool true, .int .i64 nx.s, .int .i64 nx.g, .int .u64 nx.t] 29)).alloc (.cells #[.int .i64 x.s, .int .i64 x.g, .int .u64 x.t] 27)).alloc (.cells #[.slice none 0 0, .bool false, .int .i64 0, .int .i64 0, .int .u64 0] 29)).heap[w.heap.size]? = some (.cells #[.slice A 0 c, .bool true, .int .i64 nx.s, .int .i64 nx.g, .int .u64 nx.t] 29 (0, 0)) := blk_alloc (blk_alloc (blk_new _ _))
  have hX : (((w.alloc (.cells #[.slice A 0 c, .bool true, .int .i64 nx.s, .int .i64 nx.g, .int .u64 nx.t] 29)).alloc (.cells #[.int .i64 x.s, .int .i64 x.g, .int .u64 x.t] 27)).alloc (.cells #[.slice none 0 0, .bool false, .int .i64 0, .int .i64 0, .int .u64 0] 29)).heap[w.heap.size + 1]? = some (.cells #[.int .i64 x.s, .int .i64 x.g, .int .u64 x.t] 27 (0, 0)) := blk_alloc (blk_new1 _ _ _)
  have hT : (((w.alloc (.cells #[.slice A 0 c, .bool true, .int .i64 nx.s, .int .i64 nx.g, .int .u64 nx.t] 29)).alloc (.cells #[.int .i64 x.s, .int .i64 x.g, .int .u64 x.t] 27)).alloc (.cells #[.slice none 0 0, .bool false, .int .i64 0, .int .i64 0, .int .u64 0] 29)).heap[w.heap.size + 1 + 1]? = some (.cells #[.slice none 0 0, .bool false, .int .i64 0, .int .i64 0, .int .u64 0] 29 (0, 0)) := by simpa using blk_new2 w _ _ _
  have d2 : decide (x.t ≤ nx.t) = false := by simpa using h2
  have hws := hB.size
  have HL := Aside0.mk hl
  clear hl
  clear hR hb h2
  go_enter Try.func41, Try.ntmps41
  go_wp2_with fail
  generalize (((w.alloc (.cells #[.slice A 0 c, .bool true, .int .i64 nx.s, .int .i64 nx.g, .int .u64 nx.t] 29)).alloc (.cells #[.int .i64 x.s, .int .i64 x.g, .int .u64 x.t] 27)).alloc (.cells #[.slice none 0 0, .bool false, .int .i64 0, .int .i64 0, .int .u64 0] 29)) = W at *
  obtain ⟨s0, s1, s2, s3, s4, -, -, -, -, -⟩ := blk5 hS
  obtain ⟨x0, x1, x2, -, -, -⟩ := blk3 hX
  obtain ⟨t0, t1, t2, t3, t4, g0, g1, g2, g3, g4⟩ := blk5 hT
  have hTl := lt_blk hT
  have hSl := lt_blk hS
  have hT' := Aside0.mk hT
  have hX' := Aside0.mk hX
  clear hS hT hX
  go_quiet (fail)
  go_wp2_with fail
  have hBn : Below w.heap.size w (W.drewN nq) := below_drewN hB nq
  have hkc := rkick_len 0 (l := l) (by rw [HL.out]; rfl) A c ⟨l, true, nx⟩ base (W.drewN nq) (Kd.R_below HR.out hBn) (Nat.le_trans HB.out hBn.size) (by omega)
  rw [← HRK.out, ← HKO.out] at hkc
  refine hkc.mono ?_
  clear hkc
  rintro e w1 ⟨v, vo, rfl, hv, hvo, hB1⟩
  have hT1 := blk_below (w := W) hT'.out (below_then (below_drewN (Below.refl _ _) nq) hB1)
  have hX1 := blk_below (w := W) hX'.out (below_then (below_drewN (Below.refl _ _) nq) hB1)
  have hC1 := below_then hBn hB1
  clear s0 s1 s2 s3 s4 x0 x1 x2 t0 t1 t2 t3 t4 g0 g1 g2 g3 g4 hB1
  obtain ⟨A1, c1, rfl, -, -⟩ := Kd.R_reads hv
  obtain ⟨A2, c2, rfl, -, -⟩ := Kd.R_reads hvo
  obtain ⟨x0, x1, x2, -, -, -⟩ := blk3 hX1
  obtain ⟨t0, t1, t2, t3, t4, g0, g1, g2, g3, g4⟩ := blk5 hT1
  have hTl1 := lt_blk hT1
  have hXl1 := lt_blk hX1
  have HT1 := Aside0.mk hT1
  have HV := Aside0.mk hv
  have HVO := Aside0.mk hvo
  clear hv hvo hT1 hX1 hTl hSl
  go_wp2
  refine bodyPost_ret (v := .tuple #[.agg #[.slice A1 rk.l.length c1, .bool true, .int .i64 x.s, .int .i64 x.g, .int .u64 x.t], .slice A2 ko.length c2, .int .i64 0]) (by simp [results, Try.results41, go_sem, hTl1, t0, t1, t2, t3, t4]) rfl ⟨_, _, rfl, ?_, ?_, ?_⟩
  · refine R_keepT (HV.out) HT1.out (by decide) ?_
    exact (by repeat (first | (with_reducible exact Keep.refl _ _) | (with_reducible refine Keep.drewN ?_ _) | (with_reducible refine Keep.drew ?_) | (with_reducible refine Keep.setCell ?_ _ _ (by first | (right; with_reducible rfl) | (left; simp; done) | (left; simp; omega) | (right; simp; done) | (right; assumption))) | (with_reducible refine Keep.alloc ?_ _)))
  · refine R_keepT (Kd.R_lower HVO.out hBn.size) HT1.out (by decide) ?_
    exact (by repeat (first | (with_reducible exact Keep.refl _ _) | (with_reducible refine Keep.drewN ?_ _) | (with_reducible refine Keep.drew ?_) | (with_reducible refine Keep.setCell ?_ _ _ (by first | (right; with_reducible rfl) | (left; simp; done) | (left; simp; omega) | (right; simp; done) | (right; assumption))) | (with_reducible refine Keep.alloc ?_ _)))
  · exact (by repeat (first | (with_reducible exact hC1) | (with_reducible refine Below.drew ?_) | (with_reducible refine below_drewN ?_ _) | (with_reducible refine below_al ?_ _) | (with_reducible refine Below.alloc ?_ (by first | exact Nat.le_refl _ | omega | (simp; done) | (simp; omega)) _) | (with_reducible refine Below.setCell ?_ (by first | (simp only []; omega) | (simp; done) | (simp; omega)) _)))
set_option maxHeartbeats 4000000 in
theorem rready_sgpg (A : Option Addr) (c m : Nat) (l : List Wt) (nx x z : Wt) (base : Nat) (w : World) (hR : kW.R 27 w base (fun _ => True) (.slice A (m + 1) c) l) (hb : base ≤ w.heap.size) (hl : m + 1 ≤ 64) (hz : l[m]? = some z) (h1 : ¬ x.t ≤ z.t) :
    Calls Try.prog 41 #[.agg #[.slice A (m + 1) c, .bool false, .int .i64 nx.s, .int .i64 nx.g, .int .u64 nx.t], (.agg #[.int .i64 x.s, .int .i64 x.g, .int .u64 x.t])] w fun e w' => ∃ v vo, e = .returned (.tuple #[.agg #[v, .bool true, .int .i64 x.s, .int .i64 x.g, .int .u64 x.t], vo, .int .i64 0]) ∧ kW.R 27 w' base (fun _ => True) v (kickR ⟨l, false, nx⟩).l ∧ kW.R 27 w' w.heap.size (fun _ => True) vo (kickOut ⟨l, false, nx⟩) ∧ Below w.heap.size w w' := by
  have HR := Aside0.mk hR
  have HB := Aside0.mk hb
  obtain ⟨rk, hrk⟩ : ∃ rk, rk = kickR ⟨l, false, nx⟩ := ⟨_, rfl⟩
  obtain ⟨ko, hko⟩ : ∃ ko, ko = kickOut ⟨l, false, nx⟩ := ⟨_, rfl⟩
  rw [← hrk, ← hko]
  have HRK := Aside0.mk hrk
  have HKO := Aside0.mk hko
  clear hrk hko
  obtain ⟨has, hhas⟩ : ∃ has : Bool, has = false := ⟨_, rfl⟩
  rw [← hhas]
  have hC := (Kd.R_reads' hR).2.2
  have hlen := (Kd.R_reads' hR).1
  obtain ⟨ab, off, rfl, hab⟩ := C_form hC (by omega) (by decide)
  obtain ⟨z', hz', -, -, c2⟩ := wt_at hC m (by omega)
  obtain rfl : z = z' := by rw [hz] at hz'; exact Option.some.inj hz'
  subst hhas
  have hB : Below w.heap.size w (((w.alloc (.cells #[.slice (some ⟨ab, off, none⟩) (m + 1) c, .bool false, .int .i64 nx.s, .int .i64 nx.g, .int .u64 nx.t] 29)).alloc (.cells #[.int .i64 x.s, .int .i64 x.g, .int .u64 x.t] 27)).alloc (.cells #[.slice none 0 0, .bool false, .int .i64 0, .int .i64 0, .int .u64 0] 29)) := (by repeat (first | (with_reducible exact Below.refl _ _) | (with_reducible refine Below.drew ?_) | (with_reducible refine below_drewN ?_ _) | (with_reducible refine below_al ?_ _) | (with_reducible refine Below.alloc ?_ (by first | exact Nat.le_refl _ | omega | (simp; done) | (simp; omega)) _) | (with_reducible refine Below.setCell ?_ (by first | (simp only []; omega) | (simp; done) | (simp; omega)) _)))
  have hS : (((w.alloc (.cells #[.slice (some ⟨ab, off, none⟩) (m + 1) c, .bool false, .int .i64 nx.s, .int .i64 nx.g, .int .u64 nx.t] 29)).alloc (.cells #[.int .i64 x.s, .int .i64 x.g, .int .u64 x.t] 27)).alloc (.cells #[.slice none 0 0, .bool false, .int .i64 0, .int .i64 0, .int .u64 0] 29)).heap[w.heap.size]? = some (.cells #[.slice (some ⟨ab, off, none⟩) (m + 1) c, .bool false, .int .i64 nx.s, .int .i64 nx.g, .int .u64 nx.t] 29 (0, 0)) := blk_alloc (blk_alloc (blk_new _ _))
  have hX : (((w.alloc (.cells #[.slice (some ⟨ab, off, none⟩) (m + 1) c, .bool false, .int .i64 nx.s, .int .i64 nx.g, .int .u64 nx.t] 29)).alloc (.cells #[.int .i64 x.s, .int .i64 x.g, .int .u64 x.t] 27)).alloc (.cells #[.slice none 0 0, .bool false, .int .i64 0, .int .i64 0, .int .u64 0] 29)).heap[w.heap.size + 1]? = some (.cells #[.int .i64 x.s, .int .i64 x.g, .int .u64 x.t] 27 (0, 0)) := blk_alloc (blk_new1 _ _ _)
  have hT : (((w.alloc (.cells #[.slice (some ⟨ab, off, none⟩) (m + 1) c, .bool false, .int .i64 nx.s, .int .i64 nx.g, .int .u64 nx.t] 29)).alloc (.cells #[.int .i64 x.s, .int .i64 x.g, .int .u64 x.t] 27)).alloc (.cells #[.slice none 0 0, .bool false, .int .i64 0, .int .i64 0, .int .u64 0] 29)).heap[w.heap.size + 1 + 1]? = some (.cells #[.slice none 0 0, .bool false, .int .i64 0, .int .i64 0, .int .u64 0] 29 (0, 0)) := by simpa using blk_new2 w _ _ _
  have k2 := (hB.cell (p := ⟨ab, off + m * 3 + 2, none⟩) hab).trans c2
  have habw := Nat.lt_of_lt_of_le hab hB.size
  have d1 : decide (x.t ≤ z.t) = false := by simpa using h1
  have hws := hB.size
  clear hR hb hz hz' hC h1 c2
  have HLEN := Aside0.mk hlen
  clear hlen
  go_enter Try.func41, Try.ntmps41
  go_wp2_with fail
  generalize (((w.alloc (.cells #[.slice (some ⟨ab, off, none⟩) (m + 1) c, .bool false, .int .i64 nx.s, .int .i64 nx.g, .int .u64 nx.t] 29)).alloc (.cells #[.int .i64 x.s, .int .i64 x.g, .int .u64 x.t] 27)).alloc (.cells #[.slice none 0 0, .bool false, .int .i64 0, .int .i64 0, .int .u64 0] 29)) = W at *
  obtain ⟨s0, s1, s2, s3, s4, -, -, -, -, -⟩ := blk5 hS
  obtain ⟨x0, x1, x2, -, -, -⟩ := blk3 hX
  obtain ⟨t0, t1, t2, t3, t4, g0, g1, g2, g3, g4⟩ := blk5 hT
  have hTl := lt_blk hT
  have hSl := lt_blk hS
  have hT' := Aside0.mk hT
  have hX' := Aside0.mk hX
  clear hS hT hX
  go_quiet (fail)
  go_wp2_with fail
  have hBn : Below w.heap.size w (W.drewN nq) := below_drewN hB nq
  have hkc := rkick_len (m + 1) (l := l) HLEN.out.symm (some ⟨ab, off, none⟩) c ⟨l, false, nx⟩ base (W.drewN nq) (Kd.R_below HR.out hBn) (Nat.le_trans HB.out hBn.size) (by omega)
  rw [← HRK.out, ← HKO.out] at hkc
  refine hkc.mono ?_
  clear hkc
  rintro e w1 ⟨v, vo, rfl, hv, hvo, hB1⟩
  have hT1 := blk_below (w := W) hT'.out (below_then (below_drewN (Below.refl _ _) nq) hB1)
  have hX1 := blk_below (w := W) hX'.out (below_then (below_drewN (Below.refl _ _) nq) hB1)
  have hC1 := below_then hBn hB1
  clear s0 s1 s2 s3 s4 x0 x1 x2 t0 t1 t2 t3 t4 g0 g1 g2 g3 g4 k2 hB1
  obtain ⟨A1, c1, rfl, -, -⟩ := Kd.R_reads hv
  obtain ⟨A2, c2, rfl, -, -⟩ := Kd.R_reads hvo
  obtain ⟨x0, x1, x2, -, -, -⟩ := blk3 hX1
  obtain ⟨t0, t1, t2, t3, t4, g0, g1, g2, g3, g4⟩ := blk5 hT1
  have hTl1 := lt_blk hT1
  have hXl1 := lt_blk hX1
  have HT1 := Aside0.mk hT1
  have HV := Aside0.mk hv
  have HVO := Aside0.mk hvo
  clear hv hvo hT1 hX1 hTl hSl
  go_wp2
  refine bodyPost_ret (v := .tuple #[.agg #[.slice A1 rk.l.length c1, .bool true, .int .i64 x.s, .int .i64 x.g, .int .u64 x.t], .slice A2 ko.length c2, .int .i64 0]) (by simp [results, Try.results41, go_sem, hTl1, t0, t1, t2, t3, t4]) rfl ⟨_, _, rfl, ?_, ?_, ?_⟩
  · refine R_keepT (HV.out) HT1.out (by decide) ?_
    exact (by repeat (first | (with_reducible exact Keep.refl _ _) | (with_reducible refine Keep.drewN ?_ _) | (with_reducible refine Keep.drew ?_) | (with_reducible refine Keep.setCell ?_ _ _ (by first | (right; with_reducible rfl) | (left; simp; done) | (left; simp; omega) | (right; simp; done) | (right; assumption))) | (with_reducible refine Keep.alloc ?_ _)))
  · refine R_keepT (Kd.R_lower HVO.out hBn.size) HT1.out (by decide) ?_
    exact (by repeat (first | (with_reducible exact Keep.refl _ _) | (with_reducible refine Keep.drewN ?_ _) | (with_reducible refine Keep.drew ?_) | (with_reducible refine Keep.setCell ?_ _ _ (by first | (right; with_reducible rfl) | (left; simp; done) | (left; simp; omega) | (right; simp; done) | (right; assumption))) | (with_reducible refine Keep.alloc ?_ _)))
  · exact (by repeat (first | (with_reducible exact hC1) | (with_reducible refine Below.drew ?_) | (with_reducible refine below_drewN ?_ _) | (with_reducible refine below_al ?_ _) | (with_reducible refine Below.alloc ?_ (by first | exact Nat.le_refl _ | omega | (simp; done) | (simp; omega)) _) | (with_reducible refine Below.setCell ?_ (by first | (simp only []; omega) | (simp; done) | (simp; omega)) _)))
set_option maxHeartbeats 4000000 in
theorem rready_sghb (A : Option Addr) (c m : Nat) (l : List Wt) (nx x z : Wt) (base : Nat) (w : World) (hR : kW.R 27 w base (fun _ => True) (.slice A (m + 1) c) l) (hb : base ≤ w.heap.size) (hl : m + 1 ≤ 64) (hz : l[m]? = some z) (h1 : ¬ x.t ≤ z.t) (h2 : x.t ≤ nx.t) :
    Calls Try.prog 41 #[.agg #[.slice A (m + 1) c, .bool true, .int .i64 nx.s, .int .i64 nx.g, .int .u64 nx.t], (.agg #[.int .i64 x.s, .int .i64 x.g, .int .u64 x.t])] w fun e w' => e = .returned (.tuple #[.agg #[.slice A (m + 1) c, .bool true, .int .i64 nx.s, .int .i64 nx.g, .int .u64 nx.t], .slice none 0 0, .int .i64 20]) ∧ kW.R 27 w' base (fun _ => True) (.slice A (m + 1) c) l ∧ Below w.heap.size w w' := by
  have HR := Aside0.mk hR
  have HB := Aside0.mk hb
  obtain ⟨has, hhas⟩ : ∃ has : Bool, has = true := ⟨_, rfl⟩
  rw [← hhas]
  have hC := (Kd.R_reads' hR).2.2
  have hlen := (Kd.R_reads' hR).1
  obtain ⟨ab, off, rfl, hab⟩ := C_form hC (by omega) (by decide)
  obtain ⟨z', hz', -, -, c2⟩ := wt_at hC m (by omega)
  obtain rfl : z = z' := by rw [hz] at hz'; exact Option.some.inj hz'
  subst hhas
  have hB : Below w.heap.size w (((w.alloc (.cells #[.slice (some ⟨ab, off, none⟩) (m + 1) c, .bool true, .int .i64 nx.s, .int .i64 nx.g, .int .u64 nx.t] 29)).alloc (.cells #[.int .i64 x.s, .int .i64 x.g, .int .u64 x.t] 27)).alloc (.cells #[.slice none 0 0, .bool false, .int .i64 0, .int .i64 0, .int .u64 0] 29)) := (by repeat (first | (with_reducible exact Below.refl _ _) | (with_reducible refine Below.drew ?_) | (with_reducible refine below_drewN ?_ _) | (with_reducible refine below_al ?_ _) | (with_reducible refine Below.alloc ?_ (by first | exact Nat.le_refl _ | omega | (simp; done) | (simp; omega)) _) | (with_reducible refine Below.setCell ?_ (by first | (simp only []; omega) | (simp; done) | (simp; omega)) _)))
  have hS : (((w.alloc (.cells #[.slice (some ⟨ab, off, none⟩) (m + 1) c, .bool true, .int .i64 nx.s, .int .i64 nx.g, .int .u64 nx.t] 29)).alloc (.cells #[.int .i64 x.s, .int .i64 x.g, .int .u64 x.t] 27)).alloc (.cells #[.slice none 0 0, .bool false, .int .i64 0, .int .i64 0, .int .u64 0] 29)).heap[w.heap.size]? = some (.cells #[.slice (some ⟨ab, off, none⟩) (m + 1) c, .bool true, .int .i64 nx.s, .int .i64 nx.g, .int .u64 nx.t] 29 (0, 0)) := blk_alloc (blk_alloc (blk_new _ _))
  have hX : (((w.alloc (.cells #[.slice (some ⟨ab, off, none⟩) (m + 1) c, .bool true, .int .i64 nx.s, .int .i64 nx.g, .int .u64 nx.t] 29)).alloc (.cells #[.int .i64 x.s, .int .i64 x.g, .int .u64 x.t] 27)).alloc (.cells #[.slice none 0 0, .bool false, .int .i64 0, .int .i64 0, .int .u64 0] 29)).heap[w.heap.size + 1]? = some (.cells #[.int .i64 x.s, .int .i64 x.g, .int .u64 x.t] 27 (0, 0)) := blk_alloc (blk_new1 _ _ _)
  have hT : (((w.alloc (.cells #[.slice (some ⟨ab, off, none⟩) (m + 1) c, .bool true, .int .i64 nx.s, .int .i64 nx.g, .int .u64 nx.t] 29)).alloc (.cells #[.int .i64 x.s, .int .i64 x.g, .int .u64 x.t] 27)).alloc (.cells #[.slice none 0 0, .bool false, .int .i64 0, .int .i64 0, .int .u64 0] 29)).heap[w.heap.size + 1 + 1]? = some (.cells #[.slice none 0 0, .bool false, .int .i64 0, .int .i64 0, .int .u64 0] 29 (0, 0)) := by simpa using blk_new2 w _ _ _
  have k2 := (hB.cell (p := ⟨ab, off + m * 3 + 2, none⟩) hab).trans c2
  have habw := Nat.lt_of_lt_of_le hab hB.size
  have d1 : decide (x.t ≤ z.t) = false := by simpa using h1
  have d2 : decide (x.t ≤ nx.t) = true := by simpa using h2
  have hws := hB.size
  clear hR hb hz hz' hC h1 c2 h2
  have HLEN := Aside0.mk hlen
  clear hlen
  go_enter Try.func41, Try.ntmps41
  go_wp2_with fail
  generalize (((w.alloc (.cells #[.slice (some ⟨ab, off, none⟩) (m + 1) c, .bool true, .int .i64 nx.s, .int .i64 nx.g, .int .u64 nx.t] 29)).alloc (.cells #[.int .i64 x.s, .int .i64 x.g, .int .u64 x.t] 27)).alloc (.cells #[.slice none 0 0, .bool false, .int .i64 0, .int .i64 0, .int .u64 0] 29)) = W at *
  obtain ⟨s0, s1, s2, s3, s4, -, -, -, -, -⟩ := blk5 hS
  obtain ⟨x0, x1, x2, -, -, -⟩ := blk3 hX
  obtain ⟨t0, t1, t2, t3, t4, g0, g1, g2, g3, g4⟩ := blk5 hT
  have hTl := lt_blk hT
  have hSl := lt_blk hS
  have hT' := Aside0.mk hT
  have hX' := Aside0.mk hX
  clear hS hT hX
  go_quiet (fail)
  go_wp2
  refine bodyPost_ret (v := .tuple #[.agg #[.slice (some ⟨ab, off, none⟩) (m + 1) c, .bool true, .int .i64 nx.s, .int .i64 nx.g, .int .u64 nx.t], .slice none 0 0, .int .i64 20]) (by simp [results, Try.results41, go_sem, hTl, t0, t1, t2, t3, t4]) rfl ⟨rfl, ?_, ?_⟩
  · refine R_keepT (Kd.R_below HR.out hB) hT'.out (by decide) ?_
    exact (by repeat (first | (with_reducible exact Keep.refl _ _) | (with_reducible refine Keep.drewN ?_ _) | (with_reducible refine Keep.drew ?_) | (with_reducible refine Keep.setCell ?_ _ _ (by first | (right; with_reducible rfl) | (left; simp; done) | (left; simp; omega) | (right; simp; done) | (right; assumption))) | (with_reducible refine Keep.alloc ?_ _)))
  · exact (by repeat (first | (with_reducible exact hB) | (with_reducible refine Below.drew ?_) | (with_reducible refine below_drewN ?_ _) | (with_reducible refine below_al ?_ _) | (with_reducible refine Below.alloc ?_ (by first | exact Nat.le_refl _ | omega | (simp; done) | (simp; omega)) _) | (with_reducible refine Below.setCell ?_ (by first | (simp only []; omega) | (simp; done) | (simp; omega)) _)))
set_option maxHeartbeats 4000000 in
theorem rready_sghg (A : Option Addr) (c m : Nat) (l : List Wt) (nx x z : Wt) (base : Nat) (w : World) (hR : kW.R 27 w base (fun _ => True) (.slice A (m + 1) c) l) (hb : base ≤ w.heap.size) (hl : m + 1 ≤ 64) (hz : l[m]? = some z) (h1 : ¬ x.t ≤ z.t) (h2 : ¬ x.t ≤ nx.t) :
    Calls Try.prog 41 #[.agg #[.slice A (m + 1) c, .bool true, .int .i64 nx.s, .int .i64 nx.g, .int .u64 nx.t], (.agg #[.int .i64 x.s, .int .i64 x.g, .int .u64 x.t])] w fun e w' => ∃ v vo, e = .returned (.tuple #[.agg #[v, .bool true, .int .i64 x.s, .int .i64 x.g, .int .u64 x.t], vo, .int .i64 0]) ∧ kW.R 27 w' base (fun _ => True) v (kickR ⟨l, true, nx⟩).l ∧ kW.R 27 w' w.heap.size (fun _ => True) vo (kickOut ⟨l, true, nx⟩) ∧ Below w.heap.size w w' := by
  have HR := Aside0.mk hR
  have HB := Aside0.mk hb
  obtain ⟨rk, hrk⟩ : ∃ rk, rk = kickR ⟨l, true, nx⟩ := ⟨_, rfl⟩
  obtain ⟨ko, hko⟩ : ∃ ko, ko = kickOut ⟨l, true, nx⟩ := ⟨_, rfl⟩
  rw [← hrk, ← hko]
  have HRK := Aside0.mk hrk
  have HKO := Aside0.mk hko
  clear hrk hko
  obtain ⟨has, hhas⟩ : ∃ has : Bool, has = true := ⟨_, rfl⟩
  rw [← hhas]
  have hC := (Kd.R_reads' hR).2.2
  have hlen := (Kd.R_reads' hR).1
  obtain ⟨ab, off, rfl, hab⟩ := C_form hC (by omega) (by decide)
  obtain ⟨z', hz', -, -, c2⟩ := wt_at hC m (by omega)
  obtain rfl : z = z' := by rw [hz] at hz'; exact Option.some.inj hz'
  subst hhas
  have hB : Below w.heap.size w (((w.alloc (.cells #[.slice (some ⟨ab, off, none⟩) (m + 1) c, .bool true, .int .i64 nx.s, .int .i64 nx.g, .int .u64 nx.t] 29)).alloc (.cells #[.int .i64 x.s, .int .i64 x.g, .int .u64 x.t] 27)).alloc (.cells #[.slice none 0 0, .bool false, .int .i64 0, .int .i64 0, .int .u64 0] 29)) := (by repeat (first | (with_reducible exact Below.refl _ _) | (with_reducible refine Below.drew ?_) | (with_reducible refine below_drewN ?_ _) | (with_reducible refine below_al ?_ _) | (with_reducible refine Below.alloc ?_ (by first | exact Nat.le_refl _ | omega | (simp; done) | (simp; omega)) _) | (with_reducible refine Below.setCell ?_ (by first | (simp only []; omega) | (simp; done) | (simp; omega)) _)))
  have hS : (((w.alloc (.cells #[.slice (some ⟨ab, off, none⟩) (m + 1) c, .bool true, .int .i64 nx.s, .int .i64 nx.g, .int .u64 nx.t] 29)).alloc (.cells #[.int .i64 x.s, .int .i64 x.g, .int .u64 x.t] 27)).alloc (.cells #[.slice none 0 0, .bool false, .int .i64 0, .int .i64 0, .int .u64 0] 29)).heap[w.heap.size]? = some (.cells #[.slice (some ⟨ab, off, none⟩) (m + 1) c, .bool true, .int .i64 nx.s, .int .i64 nx.g, .int .u64 nx.t] 29 (0, 0)) := blk_alloc (blk_alloc (blk_new _ _))
  have hX : (((w.alloc (.cells #[.slice (some ⟨ab, off, none⟩) (m + 1) c, .bool true, .int .i64 nx.s, .int .i64 nx.g, .int .u64 nx.t] 29)).alloc (.cells #[.int .i64 x.s, .int .i64 x.g, .int .u64 x.t] 27)).alloc (.cells #[.slice none 0 0, .bool false, .int .i64 0, .int .i64 0, .int .u64 0] 29)).heap[w.heap.size + 1]? = some (.cells #[.int .i64 x.s, .int .i64 x.g, .int .u64 x.t] 27 (0, 0)) := blk_alloc (blk_new1 _ _ _)
  have hT : (((w.alloc (.cells #[.slice (some ⟨ab, off, none⟩) (m + 1) c, .bool true, .int .i64 nx.s, .int .i64 nx.g, .int .u64 nx.t] 29)).alloc (.cells #[.int .i64 x.s, .int .i64 x.g, .int .u64 x.t] 27)).alloc (.cells #[.slice none 0 0, .bool false, .int .i64 0, .int .i64 0, .int .u64 0] 29)).heap[w.heap.size + 1 + 1]? = some (.cells #[.slice none 0 0, .bool false, .int .i64 0, .int .i64 0, .int .u64 0] 29 (0, 0)) := by simpa using blk_new2 w _ _ _
  have k2 := (hB.cell (p := ⟨ab, off + m * 3 + 2, none⟩) hab).trans c2
  have habw := Nat.lt_of_lt_of_le hab hB.size
  have d1 : decide (x.t ≤ z.t) = false := by simpa using h1
  have d2 : decide (x.t ≤ nx.t) = false := by simpa using h2
  have hws := hB.size
  clear hR hb hz hz' hC h1 c2 h2
  have HLEN := Aside0.mk hlen
  clear hlen
  go_enter Try.func41, Try.ntmps41
  go_wp2_with fail
  generalize (((w.alloc (.cells #[.slice (some ⟨ab, off, none⟩) (m + 1) c, .bool true, .int .i64 nx.s, .int .i64 nx.g, .int .u64 nx.t] 29)).alloc (.cells #[.int .i64 x.s, .int .i64 x.g, .int .u64 x.t] 27)).alloc (.cells #[.slice none 0 0, .bool false, .int .i64 0, .int .i64 0, .int .u64 0] 29)) = W at *
  obtain ⟨s0, s1, s2, s3, s4, -, -, -, -, -⟩ := blk5 hS
  obtain ⟨x0, x1, x2, -, -, -⟩ := blk3 hX
  obtain ⟨t0, t1, t2, t3, t4, g0, g1, g2, g3, g4⟩ := blk5 hT
  have hTl := lt_blk hT
  have hSl := lt_blk hS
  have hT' := Aside0.mk hT
  have hX' := Aside0.mk hX
  clear hS hT hX
  go_quiet (fail)
  go_wp2_with fail
  have hBn : Below w.heap.size w (W.drewN nq) := below_drewN hB nq
  have hkc := rkick_len (m + 1) (l := l) HLEN.out.symm (some ⟨ab, off, none⟩) c ⟨l, true, nx⟩ base (W.drewN nq) (Kd.R_below HR.out hBn) (Nat.le_trans HB.out hBn.size) (by omega)
  rw [← HRK.out, ← HKO.out] at hkc
  refine hkc.mono ?_
  clear hkc
  rintro e w1 ⟨v, vo, rfl, hv, hvo, hB1⟩
  have hT1 := blk_below (w := W) hT'.out (below_then (below_drewN (Below.refl _ _) nq) hB1)
  have hX1 := blk_below (w := W) hX'.out (below_then (below_drewN (Below.refl _ _) nq) hB1)
  have hC1 := below_then hBn hB1
  clear s0 s1 s2 s3 s4 x0 x1 x2 t0 t1 t2 t3 t4 g0 g1 g2 g3 g4 k2 hB1
  obtain ⟨A1, c1, rfl, -, -⟩ := Kd.R_reads hv
  obtain ⟨A2, c2, rfl, -, -⟩ := Kd.R_reads hvo
  obtain ⟨x0, x1, x2, -, -, -⟩ := blk3 hX1
  obtain ⟨t0, t1, t2, t3, t4, g0, g1, g2, g3, g4⟩ := blk5 hT1
  have hTl1 := lt_blk hT1
  have hXl1 := lt_blk hX1
  have HT1 := Aside0.mk hT1
  have HV := Aside0.mk hv
  have HVO := Aside0.mk hvo
  clear hv hvo hT1 hX1 hTl hSl
  go_wp2
  refine bodyPost_ret (v := .tuple #[.agg #[.slice A1 rk.l.length c1, .bool true, .int .i64 x.s, .int .i64 x.g, .int .u64 x.t], .slice A2 ko.length c2, .int .i64 0]) (by simp [results, Try.results41, go_sem, hTl1, t0, t1, t2, t3, t4]) rfl ⟨_, _, rfl, ?_, ?_, ?_⟩
  · refine R_keepT (HV.out) HT1.out (by decide) ?_
    exact (by repeat (first | (with_reducible exact Keep.refl _ _) | (with_reducible refine Keep.drewN ?_ _) | (with_reducible refine Keep.drew ?_) | (with_reducible refine Keep.setCell ?_ _ _ (by first | (right; with_reducible rfl) | (left; simp; done) | (left; simp; omega) | (right; simp; done) | (right; assumption))) | (with_reducible refine Keep.alloc ?_ _)))
  · refine R_keepT (Kd.R_lower HVO.out hBn.size) HT1.out (by decide) ?_
    exact (by repeat (first | (with_reducible exact Keep.refl _ _) | (with_reducible refine Keep.drewN ?_ _) | (with_reducible refine Keep.drew ?_) | (with_reducible refine Keep.setCell ?_ _ _ (by first | (right; with_reducible rfl) | (left; simp; done) | (left; simp; omega) | (right; simp; done) | (right; assumption))) | (with_reducible refine Keep.alloc ?_ _)))
  · exact (by repeat (first | (with_reducible exact hC1) | (with_reducible refine Below.drew ?_) | (with_reducible refine below_drewN ?_ _) | (with_reducible refine below_al ?_ _) | (with_reducible refine Below.alloc ?_ (by first | exact Nat.le_refl _ | omega | (simp; done) | (simp; omega)) _) | (with_reducible refine Below.setCell ?_ (by first | (simp only []; omega) | (simp; done) | (simp; omega)) _)))
theorem rput_any (A : Option Addr) (c : Nat) (r : Rg) (x : Wt) (base : Nat) (w : World) (hR : kW.R 27 w base (fun _ => True) (.slice A r.l.length c) r.l) (hb : base ≤ w.heap.size) (hl : r.l.length ≤ 64) :
    Calls Try.prog 40 #[.agg #[.slice A r.l.length c, .bool r.has, .int .i64 r.nx.s, .int .i64 r.nx.g, .int .u64 r.nx.t], (.agg #[.int .i64 x.s, .int .i64 x.g, .int .u64 x.t])] w fun e w' => ∃ v vo, e = .returned (.tuple #[.agg #[v, .bool (putR r x).has, .int .i64 (putR r x).nx.s, .int .i64 (putR r x).nx.g, .int .u64 (putR r x).nx.t], vo, .int .i64 (putE r x)]) ∧ kW.R 27 w' base (fun _ => True) v (putR r x).l ∧ kW.R 27 w' w.heap.size (fun _ => True) vo (putOut r x) ∧ Below w.heap.size w w' := by
  obtain ⟨l, has, nx⟩ := r
  have hl0 : l.length ≤ 64 := hl
  clear hl
  have hR0 : kW.R 27 w base (fun _ => True) (.slice A l.length c) l := hR
  clear hR
  have hbad : ∀ b, putBad ⟨l, has, nx⟩ x = b → putR ⟨l, has, nx⟩ x = (if b then ⟨l, has, nx⟩ else { (⟨l, has, nx⟩ : Rg) with l := pushL l x }) ∧ putE ⟨l, has, nx⟩ x = (if b then 20 else 0) ∧ putOut ⟨l, has, nx⟩ x = (if b then [] else pushOut l x) := by
    intro b hb
    unfold putR putE putOut
    rw [hb]
    exact ⟨rfl, rfl, rfl⟩
  have hq : putBad ⟨l, has, nx⟩ x = (badT l x.t || (has && decide (nx.t ≤ x.t))) := rfl
  have bad : putBad ⟨l, has, nx⟩ x = true → (∀ P : Prop, P → P) → Calls Try.prog 40 #[.agg #[.slice A l.length c, .bool has, .int .i64 nx.s, .int .i64 nx.g, .int .u64 nx.t], (.agg #[.int .i64 x.s, .int .i64 x.g, .int .u64 x.t])] w (fun e w' => e = .returned (.tuple #[.agg #[.slice A l.length c, .bool has, .int .i64 nx.s, .int .i64 nx.g, .int .u64 nx.t], .slice none 0 0, .int .i64 20]) ∧ kW.R 27 w' base (fun _ => True) (.slice A l.length c) l ∧ Below w.heap.size w w') → Calls Try.prog 40 #[.agg #[.slice A l.length c, .bool has, .int .i64 nx.s, .int .i64 nx.g, .int .u64 nx.t], (.agg #[.int .i64 x.s, .int .i64 x.g, .int .u64 x.t])] w fun e w' => ∃ v vo, e = .returned (.tuple #[.agg #[v, .bool (putR ⟨l, has, nx⟩ x).has, .int .i64 (putR ⟨l, has, nx⟩ x).nx.s, .int .i64 (putR ⟨l, has, nx⟩ x).nx.g, .int .u64 (putR ⟨l, has, nx⟩ x).nx.t], vo, .int .i64 (putE ⟨l, has, nx⟩ x)]) ∧ kW.R 27 w' base (fun _ => True) v (putR ⟨l, has, nx⟩ x).l ∧ kW.R 27 w' w.heap.size (fun _ => True) vo (putOut ⟨l, has, nx⟩ x) ∧ Below w.heap.size w w' := by
    intro hb _ h
    obtain ⟨e1, e2, e3⟩ := hbad true hb
    rw [e1, e2, e3]
    exact h.mono fun e w' ⟨he, hr, hB⟩ => ⟨_, _, he, hr, Kd.R_nil _ _ _ _ _, hB⟩
  show Calls Try.prog 40 #[.agg #[.slice A l.length c, .bool has, .int .i64 nx.s, .int .i64 nx.g, .int .u64 nx.t], (.agg #[.int .i64 x.s, .int .i64 x.g, .int .u64 x.t])] w _
  rcases concat_or l with rfl | ⟨l', z, rfl⟩
  · have hq1 : badT [] x.t = false := rfl
    cases has with
    | false =>
      obtain ⟨e1, e2, e3⟩ := hbad false (by rw [hq, hq1]; rfl)
      rw [e1, e2, e3]
      exact rput_ngpg A c [] nx x base w hR0 hb rfl
    | true =>
      by_cases h2 : nx.t ≤ x.t
      · exact bad (by rw [hq, hq1, decide_eq_true h2]; rfl) (fun _ h => h) (rput_nghb A c [] nx x base w hR0 hb rfl h2)
      · obtain ⟨e1, e2, e3⟩ := hbad false (by rw [hq, hq1, decide_eq_false h2]; rfl)
        rw [e1, e2, e3]
        exact rput_nghg A c [] nx x base w hR0 hb rfl h2
  · have hm : (l' ++ [z]).length = l'.length + 1 := by simp
    have hz : (l' ++ [z])[l'.length]? = some z := by simp
    have hq1 : badT (l' ++ [z]) x.t = decide (x.t ≤ z.t) := by rw [badT, lastP_concat]; rfl
    generalize l' ++ [z] = l at *
    rw [hm] at hR0 hl0 bad ⊢
    by_cases h1 : x.t ≤ z.t
    · rw [decide_eq_true h1] at hq1
      exact bad (by rw [hq, hq1]; rfl) (fun _ h => h) (rput_sbpg A c l'.length l has nx x z base w hR0 hb hl0 hz h1)
    · rw [decide_eq_false h1] at hq1
      cases has with
      | false =>
        obtain ⟨e1, e2, e3⟩ := hbad false (by rw [hq, hq1]; rfl)
        rw [e1, e2, e3]
        exact rput_sgpg A c l'.length l nx x z base w hR0 hb hl0 hz h1
      | true =>
        by_cases h2 : nx.t ≤ x.t
        · exact bad (by rw [hq, hq1, decide_eq_true h2]; rfl) (fun _ h => h) (rput_sghb A c l'.length l nx x z base w hR0 hb hl0 hz h1 h2)
        · obtain ⟨e1, e2, e3⟩ := hbad false (by rw [hq, hq1, decide_eq_false h2]; rfl)
          rw [e1, e2, e3]
          exact rput_sghg A c l'.length l nx x z base w hR0 hb hl0 hz h1 h2
theorem rrdy_any (A : Option Addr) (c : Nat) (r : Rg) (x : Wt) (base : Nat) (w : World) (hR : kW.R 27 w base (fun _ => True) (.slice A r.l.length c) r.l) (hb : base ≤ w.heap.size) (hl : r.l.length ≤ 64) :
    Calls Try.prog 41 #[.agg #[.slice A r.l.length c, .bool r.has, .int .i64 r.nx.s, .int .i64 r.nx.g, .int .u64 r.nx.t], (.agg #[.int .i64 x.s, .int .i64 x.g, .int .u64 x.t])] w fun e w' => ∃ v vo, e = .returned (.tuple #[.agg #[v, .bool (rdyR r x).has, .int .i64 (rdyR r x).nx.s, .int .i64 (rdyR r x).nx.g, .int .u64 (rdyR r x).nx.t], vo, .int .i64 (rdyE r x)]) ∧ kW.R 27 w' base (fun _ => True) v (rdyR r x).l ∧ kW.R 27 w' w.heap.size (fun _ => True) vo (rdyOut r x) ∧ Below w.heap.size w w' := by
  obtain ⟨l, has, nx⟩ := r
  have hl0 : l.length ≤ 64 := hl
  clear hl
  have hR0 : kW.R 27 w base (fun _ => True) (.slice A l.length c) l := hR
  clear hR
  have hbad : ∀ b, rdyBad ⟨l, has, nx⟩ x = b → rdyR ⟨l, has, nx⟩ x = (if b then ⟨l, has, nx⟩ else { kickR ⟨l, has, nx⟩ with has := true, nx := x }) ∧ rdyE ⟨l, has, nx⟩ x = (if b then 20 else 0) ∧ rdyOut ⟨l, has, nx⟩ x = (if b then [] else kickOut ⟨l, has, nx⟩) := by
    intro b hb
    unfold rdyR rdyE rdyOut
    rw [hb]
    exact ⟨rfl, rfl, rfl⟩
  have hq : rdyBad ⟨l, has, nx⟩ x = (badT l x.t || (has && decide (x.t ≤ nx.t))) := rfl
  have bad : rdyBad ⟨l, has, nx⟩ x = true → (∀ P : Prop, P → P) → Calls Try.prog 41 #[.agg #[.slice A l.length c, .bool has, .int .i64 nx.s, .int .i64 nx.g, .int .u64 nx.t], (.agg #[.int .i64 x.s, .int .i64 x.g, .int .u64 x.t])] w (fun e w' => e = .returned (.tuple #[.agg #[.slice A l.length c, .bool has, .int .i64 nx.s, .int .i64 nx.g, .int .u64 nx.t], .slice none 0 0, .int .i64 20]) ∧ kW.R 27 w' base (fun _ => True) (.slice A l.length c) l ∧ Below w.heap.size w w') → Calls Try.prog 41 #[.agg #[.slice A l.length c, .bool has, .int .i64 nx.s, .int .i64 nx.g, .int .u64 nx.t], (.agg #[.int .i64 x.s, .int .i64 x.g, .int .u64 x.t])] w fun e w' => ∃ v vo, e = .returned (.tuple #[.agg #[v, .bool (rdyR ⟨l, has, nx⟩ x).has, .int .i64 (rdyR ⟨l, has, nx⟩ x).nx.s, .int .i64 (rdyR ⟨l, has, nx⟩ x).nx.g, .int .u64 (rdyR ⟨l, has, nx⟩ x).nx.t], vo, .int .i64 (rdyE ⟨l, has, nx⟩ x)]) ∧ kW.R 27 w' base (fun _ => True) v (rdyR ⟨l, has, nx⟩ x).l ∧ kW.R 27 w' w.heap.size (fun _ => True) vo (rdyOut ⟨l, has, nx⟩ x) ∧ Below w.heap.size w w' := by
    intro hb _ h
    obtain ⟨e1, e2, e3⟩ := hbad true hb
    rw [e1, e2, e3]
    exact h.mono fun e w' ⟨he, hr, hB⟩ => ⟨_, _, he, hr, Kd.R_nil _ _ _ _ _, hB⟩
  show Calls Try.prog 41 #[.agg #[.slice A l.length c, .bool has, .int .i64 nx.s, .int .i64 nx.g, .int .u64 nx.t], (.agg #[.int .i64 x.s, .int .i64 x.g, .int .u64 x.t])] w _
  rcases concat_or l with rfl | ⟨l', z, rfl⟩
  · have hq1 : badT [] x.t = false := rfl
    cases has with
    | false =>
      obtain ⟨e1, e2, e3⟩ := hbad false (by rw [hq, hq1]; rfl)
      rw [e1, e2, e3]
      exact rready_ngpg A c [] nx x base w hR0 hb rfl
    | true =>
      by_cases h2 : x.t ≤ nx.t
      · exact bad (by rw [hq, hq1, decide_eq_true h2]; rfl) (fun _ h => h) (rready_nghb A c [] nx x base w hR0 hb rfl h2)
      · obtain ⟨e1, e2, e3⟩ := hbad false (by rw [hq, hq1, decide_eq_false h2]; rfl)
        rw [e1, e2, e3]
        exact rready_nghg A c [] nx x base w hR0 hb rfl h2
  · have hm : (l' ++ [z]).length = l'.length + 1 := by simp
    have hz : (l' ++ [z])[l'.length]? = some z := by simp
    have hq1 : badT (l' ++ [z]) x.t = decide (x.t ≤ z.t) := by rw [badT, lastP_concat]; rfl
    generalize l' ++ [z] = l at *
    rw [hm] at hR0 hl0 bad ⊢
    by_cases h1 : x.t ≤ z.t
    · rw [decide_eq_true h1] at hq1
      exact bad (by rw [hq, hq1]; rfl) (fun _ h => h) (rready_sbpg A c l'.length l has nx x z base w hR0 hb hl0 hz h1)
    · rw [decide_eq_false h1] at hq1
      cases has with
      | false =>
        obtain ⟨e1, e2, e3⟩ := hbad false (by rw [hq, hq1]; rfl)
        rw [e1, e2, e3]
        exact rready_sgpg A c l'.length l nx x z base w hR0 hb hl0 hz h1
      | true =>
        by_cases h2 : x.t ≤ nx.t
        · exact bad (by rw [hq, hq1, decide_eq_true h2]; rfl) (fun _ h => h) (rready_sghb A c l'.length l nx x z base w hR0 hb hl0 hz h1 h2)
        · obtain ⟨e1, e2, e3⟩ := hbad false (by rw [hq, hq1, decide_eq_false h2]; rfl)
          rw [e1, e2, e3]
          exact rready_sghg A c l'.length l nx x z base w hR0 hb hl0 hz h1 h2
end Go.Proofs.Ytjjdojnnomokaaa
