import Derived.Test.YtjjdojnnomokaaaRRefC
import Derived.Deep.RegionHeld3
set_option linter.unusedSimpArgs false
set_option linter.unusedVariables false
namespace Go.Proofs.Ytjjdojnnomokaaa
open Go.RowKit Go.ChangeShapes Go.WideShapes Go.ChangeAt Go.Proofs.YtjjdojnnomokaaaW.PrintWords Go.Proofs.YtjjdojnnomokaaaW.PrintMore Go.Proofs.YtjjdojnnomokaaaW.PrintLast Go.Proofs.Ytjjdojnnomokaaa.PRingLoads
/-! The document's Take and Steal: printed by gen02t.py. -/
theorem wt_from (w : World) (A : Option Addr) (n c m : Nat) (l : List Wt) (hC : kW.C w A l.length l) (hn : l.length = n) (hc : n ≤ c) (hm : m ≤ n) :
    ∃ A', (∀ W, (Instr.slice 22 (.slice A n c) (some (.int .i64 (m : Int))) none none).run Try.prog W = .ok (.slice A' (n - m) (c - m)) W) ∧ kW.C w A' (l.drop m).length (l.drop m) := by
  subst hn
  obtain ⟨i, hi, hz⟩ := Option.map_eq_some_iff.1 infoW
  have hsz : i.size = 3 := by injection hz with h1 h2; injection h2
  refine ⟨_, fun W => ?_, Kd.C_drop (c := c) hC hm hc⟩
  have h := cut_from (P := Try.prog) 22 27 .i64 Try.underlying22 hi 3 hsz A l.length c (m : Int) (by omega) (by omega) W
  rw [h]
  rfl
theorem wt_mid (w : World) (A : Option Addr) (n c lo hi : Nat) (l : List Wt) (hC : kW.C w A l.length l) (hn : l.length = n) (hc : n ≤ c) (h1 : lo ≤ hi) (h2 : hi ≤ n) :
    ∃ A', (∀ W, (Instr.slice 22 (.slice A n c) (some (.int .i64 (lo : Int))) (some (.int .i64 (hi : Int))) none).run Try.prog W = .ok (.slice A' (hi - lo) (c - lo)) W) ∧ kW.C w A' ((l.take hi).drop lo).length ((l.take hi).drop lo) := by
  subst hn
  obtain ⟨i, hi', hz⟩ := Option.map_eq_some_iff.1 infoW
  have hsz : i.size = 3 := by injection hz with h1 h2; injection h2
  refine ⟨_, fun W => ?_, Kd.C_mid (c := c) hC h1 h2 hc⟩
  have h := cut_mid (P := Try.prog) 22 27 .i64 .i64 Try.underlying22 hi' 3 hsz A l.length c (lo : Int) (hi : Int) (by omega) (by omega) (by omega) (by omega) W
  rw [h]
  rfl
def TakeP (r : Rg) (base : Nat) (ok : Nat → Prop) (w : World) (e : Ending) (w' : World) : Prop := ∃ v, e = .returned (.tuple #[.agg #[v, .bool (takeR r).has, .int .i64 (takeR r).nx.s, .int .i64 (takeR r).nx.g, .int .u64 (takeR r).nx.t], (.agg #[.int .i64 (takeW r).s, .int .i64 (takeW r).g, .int .u64 (takeW r).t]), .bool r.has, .int .i64 (takeE r)]) ∧ kW.R 27 w' base (fun k => ok k ∨ w.heap.size ≤ k) v (takeR r).l ∧ Below w.heap.size w w'
set_option maxHeartbeats 8000000 in
theorem rtake_any (A : Option Addr) (c : Nat) (r : Rg) (base : Nat) (ok : Nat → Prop) (w : World) (hR : kW.R 27 w base ok (.slice A r.l.length c) r.l) (hb : base ≤ w.heap.size) (hl : r.l.length ≤ 64) :
    Calls Try.prog 43 #[.agg #[.slice A r.l.length c, .bool r.has, .int .i64 r.nx.s, .int .i64 r.nx.g, .int .u64 r.nx.t]] w (TakeP r base ok w) := by
  have HR := Aside0.mk hR
  have HB := Aside0.mk hb
  clear hR hb
  obtain ⟨l, has, nx⟩ := r
  have hl0 : l.length ≤ 64 := hl
  clear hl
  simp only at HR
  cases has with
  | true =>
    have hW : Below w.heap.size w ((((w.alloc (.cells #[.slice A l.length c, .bool false, .int .i64 0, .int .i64 0, .int .u64 0] 29)).alloc (.cells #[.slice none 0 0, .bool false, .int .i64 0, .int .i64 0, .int .u64 0] 29)).alloc (.cells #[.int .i64 0, .int .i64 0, .int .u64 0] 27)).alloc (.cells #[.int .i64 nx.s, .int .i64 nx.g, .int .u64 nx.t] 27)) := (by repeat (first | (with_reducible exact Below.refl _ _) | (with_reducible refine Below.drew ?_) | (with_reducible refine below_drewN ?_ _) | (with_reducible refine below_al ?_ _) | (with_reducible refine Below.alloc ?_ (by first | exact Nat.le_refl _ | omega | (simp; done) | (simp; omega)) _) | (with_reducible refine Below.setCell ?_ (by first | (simp only []; omega) | (simp; done) | (simp; omega)) _)))
    have hS : ((((w.alloc (.cells #[.slice A l.length c, .bool false, .int .i64 0, .int .i64 0, .int .u64 0] 29)).alloc (.cells #[.slice none 0 0, .bool false, .int .i64 0, .int .i64 0, .int .u64 0] 29)).alloc (.cells #[.int .i64 0, .int .i64 0, .int .u64 0] 27)).alloc (.cells #[.int .i64 nx.s, .int .i64 nx.g, .int .u64 nx.t] 27)).heap[w.heap.size]? = some (.cells #[.slice A l.length c, .bool false, .int .i64 0, .int .i64 0, .int .u64 0] 29 (0, 0)) := blk_alloc (blk_alloc (blk_alloc (blk_new _ _)))
    have hT : ((((w.alloc (.cells #[.slice A l.length c, .bool false, .int .i64 0, .int .i64 0, .int .u64 0] 29)).alloc (.cells #[.slice none 0 0, .bool false, .int .i64 0, .int .i64 0, .int .u64 0] 29)).alloc (.cells #[.int .i64 0, .int .i64 0, .int .u64 0] 27)).alloc (.cells #[.int .i64 nx.s, .int .i64 nx.g, .int .u64 nx.t] 27)).heap[w.heap.size + 1]? = some (.cells #[.slice none 0 0, .bool false, .int .i64 0, .int .i64 0, .int .u64 0] 29 (0, 0)) := blk_alloc (blk_alloc ((by simpa using blk_new (w.alloc (.cells #[.slice A l.length c, .bool false, .int .i64 0, .int .i64 0, .int .u64 0] 29)) (.cells #[.slice none 0 0, .bool false, .int .i64 0, .int .i64 0, .int .u64 0] 29))))
    have hU : ((((w.alloc (.cells #[.slice A l.length c, .bool false, .int .i64 0, .int .i64 0, .int .u64 0] 29)).alloc (.cells #[.slice none 0 0, .bool false, .int .i64 0, .int .i64 0, .int .u64 0] 29)).alloc (.cells #[.int .i64 0, .int .i64 0, .int .u64 0] 27)).alloc (.cells #[.int .i64 nx.s, .int .i64 nx.g, .int .u64 nx.t] 27)).heap[w.heap.size + 1 + 1]? = some (.cells #[.int .i64 0, .int .i64 0, .int .u64 0] 27 (0, 0)) := blk_alloc ((by simpa using blk_new ((w.alloc (.cells #[.slice A l.length c, .bool false, .int .i64 0, .int .i64 0, .int .u64 0] 29)).alloc (.cells #[.slice none 0 0, .bool false, .int .i64 0, .int .i64 0, .int .u64 0] 29)) (.cells #[.int .i64 0, .int .i64 0, .int .u64 0] 27)))
    have hX : ((((w.alloc (.cells #[.slice A l.length c, .bool false, .int .i64 0, .int .i64 0, .int .u64 0] 29)).alloc (.cells #[.slice none 0 0, .bool false, .int .i64 0, .int .i64 0, .int .u64 0] 29)).alloc (.cells #[.int .i64 0, .int .i64 0, .int .u64 0] 27)).alloc (.cells #[.int .i64 nx.s, .int .i64 nx.g, .int .u64 nx.t] 27)).heap[w.heap.size + 1 + 1 + 1]? = some (.cells #[.int .i64 nx.s, .int .i64 nx.g, .int .u64 nx.t] 27 (0, 0)) := (by simpa using blk_new (((w.alloc (.cells #[.slice A l.length c, .bool false, .int .i64 0, .int .i64 0, .int .u64 0] 29)).alloc (.cells #[.slice none 0 0, .bool false, .int .i64 0, .int .i64 0, .int .u64 0] 29)).alloc (.cells #[.int .i64 0, .int .i64 0, .int .u64 0] 27)) (.cells #[.int .i64 nx.s, .int .i64 nx.g, .int .u64 nx.t] 27))
    go_enter Try.func43, Try.ntmps43
    go_wp2_with fail
    generalize ((((w.alloc (.cells #[.slice A l.length c, .bool false, .int .i64 0, .int .i64 0, .int .u64 0] 29)).alloc (.cells #[.slice none 0 0, .bool false, .int .i64 0, .int .i64 0, .int .u64 0] 29)).alloc (.cells #[.int .i64 0, .int .i64 0, .int .u64 0] 27)).alloc (.cells #[.int .i64 nx.s, .int .i64 nx.g, .int .u64 nx.t] 27)) = W at *
    obtain ⟨s0, s1, s2, s3, s4, -, -, -, -, -⟩ := blk5 hS
    obtain ⟨t0, t1, t2, t3, t4, g0, g1, g2, g3, g4⟩ := blk5 hT
    obtain ⟨u0, u1, u2, h0, h1, h2⟩ := blk3 hU
    obtain ⟨x0, x1, x2, -, -, -⟩ := blk3 hX
    have hSl := lt_blk hS
    have hTl := lt_blk hT
    have hUl := lt_blk hU
    have hXl := lt_blk hX
    clear hS hT hU hX
    go_region
    go_wp2
    refine bodyPost_ret (v := .tuple #[.agg #[.slice A l.length c, .bool false, .int .i64 0, .int .i64 0, .int .u64 0], (.agg #[.int .i64 nx.s, .int .i64 nx.g, .int .u64 nx.t]), .bool true, .int .i64 0]) (by simp [results, Try.results43, go_sem, t0, t1, t2, t3, t4, u0, u1, u2]) rfl ⟨_, rfl, Kd.R_mono (Kd.R_below HR.out (by repeat (first | (with_reducible exact hW) | (with_reducible refine Below.drew ?_) | (with_reducible refine below_drewN ?_ _) | (with_reducible refine below_al ?_ _) | (with_reducible refine Below.alloc ?_ (by first | exact Nat.le_refl _ | omega | (simp; done) | (simp; omega)) _) | (with_reducible refine Below.setCell ?_ (by first | (simp only []; omega) | (simp; done) | (simp; omega)) _)))) (fun _ h => .inl h), (by repeat (first | (with_reducible exact hW) | (with_reducible refine Below.drew ?_) | (with_reducible refine below_drewN ?_ _) | (with_reducible refine below_al ?_ _) | (with_reducible refine Below.alloc ?_ (by first | exact Nat.le_refl _ | omega | (simp; done) | (simp; omega)) _) | (with_reducible refine Below.setCell ?_ (by first | (simp only []; omega) | (simp; done) | (simp; omega)) _)))⟩
  | false =>
    cases l with
    | nil =>
      go_enter Try.func43, Try.ntmps43
      go_wp2
      refine bodyPost_ret (v := .tuple #[.agg #[.slice A 0 c, .bool false, .int .i64 nx.s, .int .i64 nx.g, .int .u64 nx.t], (.agg #[.int .i64 Wt.zero.s, .int .i64 Wt.zero.g, .int .u64 Wt.zero.t]), .bool false, .int .i64 21]) (by simp [results, Try.results43, go_sem, Wt.zero]) rfl ⟨_, rfl, Kd.R_mono (Kd.R_below HR.out (by repeat (first | (with_reducible exact Below.refl _ _) | (with_reducible refine Below.drew ?_) | (with_reducible refine below_drewN ?_ _) | (with_reducible refine below_al ?_ _) | (with_reducible refine Below.alloc ?_ (by first | exact Nat.le_refl _ | omega | (simp; done) | (simp; omega)) _) | (with_reducible refine Below.setCell ?_ (by first | (simp only []; omega) | (simp; done) | (simp; omega)) _)))) (fun _ h => .inl h), (by repeat (first | (with_reducible exact Below.refl _ _) | (with_reducible refine Below.drew ?_) | (with_reducible refine below_drewN ?_ _) | (with_reducible refine below_al ?_ _) | (with_reducible refine Below.alloc ?_ (by first | exact Nat.le_refl _ | omega | (simp; done) | (simp; omega)) _) | (with_reducible refine Below.setCell ?_ (by first | (simp only []; omega) | (simp; done) | (simp; omega)) _)))⟩
    | cons x l =>
      have HR : Aside0 (kW.R 27 w base ok (.slice A (l.length + 1) c) (x :: l)) := HR
      have hl1 : l.length + 1 ≤ 64 := hl0
      clear hl0
      have hC := (Kd.R_reads' HR.out).2.2
      have hc := (Kd.R_reads' HR.out).2.1
      obtain ⟨A', hcut, hC'⟩ := wt_from w A (l.length + 1) c 1 (x :: l) hC rfl hc (by omega)
      have hcut : ∀ W, (Instr.slice 22 (.slice A (l.length + 1) c) (some (.int .i64 1)) none none).run Try.prog W = .ok (.slice A' l.length (c - 1)) W := hcut
      have HC' : Aside0 (kW.C w A' l.length l) := ⟨hC'⟩
      obtain ⟨ab, off, rfl, hab⟩ := C_form hC (by simp) (by decide)
      obtain ⟨y, hy, k0, k1, k2⟩ := wt_at hC 0 (by simp)
      obtain rfl : x = y := by simpa using hy
      have hW : Below w.heap.size w (((w.alloc (.cells #[.slice (some ⟨ab, off, none⟩) (l.length + 1) c, .bool false, .int .i64 nx.s, .int .i64 nx.g, .int .u64 nx.t] 29)).alloc (.cells #[.slice none 0 0, .bool false, .int .i64 0, .int .i64 0, .int .u64 0] 29)).alloc (.cells #[.int .i64 0, .int .i64 0, .int .u64 0] 27)) := (by repeat (first | (with_reducible exact Below.refl _ _) | (with_reducible refine Below.drew ?_) | (with_reducible refine below_drewN ?_ _) | (with_reducible refine below_al ?_ _) | (with_reducible refine Below.alloc ?_ (by first | exact Nat.le_refl _ | omega | (simp; done) | (simp; omega)) _) | (with_reducible refine Below.setCell ?_ (by first | (simp only []; omega) | (simp; done) | (simp; omega)) _)))
      have hS : (((w.alloc (.cells #[.slice (some ⟨ab, off, none⟩) (l.length + 1) c, .bool false, .int .i64 nx.s, .int .i64 nx.g, .int .u64 nx.t] 29)).alloc (.cells #[.slice none 0 0, .bool false, .int .i64 0, .int .i64 0, .int .u64 0] 29)).alloc (.cells #[.int .i64 0, .int .i64 0, .int .u64 0] 27)).heap[w.heap.size]? = some (.cells #[.slice (some ⟨ab, off, none⟩) (l.length + 1) c, .bool false, .int .i64 nx.s, .int .i64 nx.g, .int .u64 nx.t] 29 (0, 0)) := blk_alloc (blk_alloc (blk_new _ _))
      have hT : (((w.alloc (.cells #[.slice (some ⟨ab, off, none⟩) (l.length + 1) c, .bool false, .int .i64 nx.s, .int .i64 nx.g, .int .u64 nx.t] 29)).alloc (.cells #[.slice none 0 0, .bool false, .int .i64 0, .int .i64 0, .int .u64 0] 29)).alloc (.cells #[.int .i64 0, .int .i64 0, .int .u64 0] 27)).heap[w.heap.size + 1]? = some (.cells #[.slice none 0 0, .bool false, .int .i64 0, .int .i64 0, .int .u64 0] 29 (0, 0)) := blk_alloc ((by simpa using blk_new (w.alloc (.cells #[.slice (some ⟨ab, off, none⟩) (l.length + 1) c, .bool false, .int .i64 nx.s, .int .i64 nx.g, .int .u64 nx.t] 29)) (.cells #[.slice none 0 0, .bool false, .int .i64 0, .int .i64 0, .int .u64 0] 29)))
      have hU : (((w.alloc (.cells #[.slice (some ⟨ab, off, none⟩) (l.length + 1) c, .bool false, .int .i64 nx.s, .int .i64 nx.g, .int .u64 nx.t] 29)).alloc (.cells #[.slice none 0 0, .bool false, .int .i64 0, .int .i64 0, .int .u64 0] 29)).alloc (.cells #[.int .i64 0, .int .i64 0, .int .u64 0] 27)).heap[w.heap.size + 1 + 1]? = some (.cells #[.int .i64 0, .int .i64 0, .int .u64 0] 27 (0, 0)) := (by simpa using blk_new ((w.alloc (.cells #[.slice (some ⟨ab, off, none⟩) (l.length + 1) c, .bool false, .int .i64 nx.s, .int .i64 nx.g, .int .u64 nx.t] 29)).alloc (.cells #[.slice none 0 0, .bool false, .int .i64 0, .int .i64 0, .int .u64 0] 29)) (.cells #[.int .i64 0, .int .i64 0, .int .u64 0] 27))
      have y0 := (hW.cell (p := ⟨ab, off + 0 * 3, none⟩) hab).trans k0
      have y1 := (hW.cell (p := ⟨ab, off + 0 * 3 + 1, none⟩) hab).trans k1
      have y2 := (hW.cell (p := ⟨ab, off + 0 * 3 + 2, none⟩) hab).trans k2
      simp only [Nat.zero_mul, Nat.add_zero] at y0 y1 y2
      have habW := Nat.lt_of_lt_of_le hab hW.size
      clear hC hC' hy k0 k1 k2
      have hn0 : ((l.length : Int) + 1 == 0) = false := by simp; omega
      have hBX : Below w.heap.size w ((((w.alloc (.cells #[.slice (some ⟨ab, off, none⟩) (l.length + 1) c, .bool false, .int .i64 nx.s, .int .i64 nx.g, .int .u64 nx.t] 29)).alloc (.cells #[.slice none 0 0, .bool false, .int .i64 0, .int .i64 0, .int .u64 0] 29)).alloc (.cells #[.int .i64 0, .int .i64 0, .int .u64 0] 27)).alloc (.cells #[.int .i64 x.s, .int .i64 x.g, .int .u64 x.t] 27)) := (by repeat (first | (with_reducible exact Below.refl _ _) | (with_reducible refine Below.drew ?_) | (with_reducible refine below_drewN ?_ _) | (with_reducible refine below_al ?_ _) | (with_reducible refine Below.alloc ?_ (by first | exact Nat.le_refl _ | omega | (simp; done) | (simp; omega)) _) | (with_reducible refine Below.setCell ?_ (by first | (simp only []; omega) | (simp; done) | (simp; omega)) _)))
      have hS4 : ((((w.alloc (.cells #[.slice (some ⟨ab, off, none⟩) (l.length + 1) c, .bool false, .int .i64 nx.s, .int .i64 nx.g, .int .u64 nx.t] 29)).alloc (.cells #[.slice none 0 0, .bool false, .int .i64 0, .int .i64 0, .int .u64 0] 29)).alloc (.cells #[.int .i64 0, .int .i64 0, .int .u64 0] 27)).alloc (.cells #[.int .i64 x.s, .int .i64 x.g, .int .u64 x.t] 27)).heap[w.heap.size]? = some (.cells #[.slice (some ⟨ab, off, none⟩) (l.length + 1) c, .bool false, .int .i64 nx.s, .int .i64 nx.g, .int .u64 nx.t] 29 (0, 0)) := blk_alloc hS
      have hT4 : ((((w.alloc (.cells #[.slice (some ⟨ab, off, none⟩) (l.length + 1) c, .bool false, .int .i64 nx.s, .int .i64 nx.g, .int .u64 nx.t] 29)).alloc (.cells #[.slice none 0 0, .bool false, .int .i64 0, .int .i64 0, .int .u64 0] 29)).alloc (.cells #[.int .i64 0, .int .i64 0, .int .u64 0] 27)).alloc (.cells #[.int .i64 x.s, .int .i64 x.g, .int .u64 x.t] 27)).heap[w.heap.size + 1]? = some (.cells #[.slice none 0 0, .bool false, .int .i64 0, .int .i64 0, .int .u64 0] 29 (0, 0)) := blk_alloc hT
      have hU4 : ((((w.alloc (.cells #[.slice (some ⟨ab, off, none⟩) (l.length + 1) c, .bool false, .int .i64 nx.s, .int .i64 nx.g, .int .u64 nx.t] 29)).alloc (.cells #[.slice none 0 0, .bool false, .int .i64 0, .int .i64 0, .int .u64 0] 29)).alloc (.cells #[.int .i64 0, .int .i64 0, .int .u64 0] 27)).alloc (.cells #[.int .i64 x.s, .int .i64 x.g, .int .u64 x.t] 27)).heap[w.heap.size + 1 + 1]? = some (.cells #[.int .i64 0, .int .i64 0, .int .u64 0] 27 (0, 0)) := blk_alloc hU
      have hX4 : ((((w.alloc (.cells #[.slice (some ⟨ab, off, none⟩) (l.length + 1) c, .bool false, .int .i64 nx.s, .int .i64 nx.g, .int .u64 nx.t] 29)).alloc (.cells #[.slice none 0 0, .bool false, .int .i64 0, .int .i64 0, .int .u64 0] 29)).alloc (.cells #[.int .i64 0, .int .i64 0, .int .u64 0] 27)).alloc (.cells #[.int .i64 x.s, .int .i64 x.g, .int .u64 x.t] 27)).heap[w.heap.size + 1 + 1 + 1]? = some (.cells #[.int .i64 x.s, .int .i64 x.g, .int .u64 x.t] 27 (0, 0)) := by simpa using blk_new (((w.alloc (.cells #[.slice (some ⟨ab, off, none⟩) (l.length + 1) c, .bool false, .int .i64 nx.s, .int .i64 nx.g, .int .u64 nx.t] 29)).alloc (.cells #[.slice none 0 0, .bool false, .int .i64 0, .int .i64 0, .int .u64 0] 29)).alloc (.cells #[.int .i64 0, .int .i64 0, .int .u64 0] 27)) (.cells #[.int .i64 x.s, .int .i64 x.g, .int .u64 x.t] 27)
      have HS4 := Aside0.mk hS4
      have HT4 := Aside0.mk hT4
      have HU4 := Aside0.mk hU4
      have HX4 := Aside0.mk hX4
      have HC4 := Aside0.mk (Kd.C_below HC'.out hBX)
      have hz4 : ((((w.alloc (.cells #[.slice (some ⟨ab, off, none⟩) (l.length + 1) c, .bool false, .int .i64 nx.s, .int .i64 nx.g, .int .u64 nx.t] 29)).alloc (.cells #[.slice none 0 0, .bool false, .int .i64 0, .int .i64 0, .int .u64 0] 29)).alloc (.cells #[.int .i64 0, .int .i64 0, .int .u64 0] 27)).alloc (.cells #[.int .i64 x.s, .int .i64 x.g, .int .u64 x.t] 27)).heap.size = w.heap.size + 1 + 1 + 1 + 1 := by simp
      clear hS4 hT4 hU4 hX4
      go_enter Try.func43, Try.ntmps43
      go_wp2_with (first | ((with_reducible refine gate_builtin (b := .append) (xs := #[.tmp 28, .tmp 31]) rfl ?_); at_builtin; refine Kd.R_append_rows kW (Rr := kW.K ((((w.alloc (.cells #[.slice (some ⟨ab, off, none⟩) (l.length + 1) c, .bool false, .int .i64 nx.s, .int .i64 nx.g, .int .u64 nx.t] 29)).alloc (.cells #[.slice none 0 0, .bool false, .int .i64 0, .int .i64 0, .int .u64 0] 29)).alloc (.cells #[.int .i64 0, .int .i64 0, .int .u64 0] 27)).alloc (.cells #[.int .i64 x.s, .int .i64 x.g, .int .u64 x.t] 27))) (w0 := ((((w.alloc (.cells #[.slice (some ⟨ab, off, none⟩) (l.length + 1) c, .bool false, .int .i64 nx.s, .int .i64 nx.g, .int .u64 nx.t] 29)).alloc (.cells #[.slice none 0 0, .bool false, .int .i64 0, .int .i64 0, .int .u64 0] 29)).alloc (.cells #[.int .i64 0, .int .i64 0, .int .u64 0] 27)).alloc (.cells #[.int .i64 x.s, .int .i64 x.g, .int .u64 x.t] 27))) ((((w.alloc (.cells #[.slice (some ⟨ab, off, none⟩) (l.length + 1) c, .bool false, .int .i64 nx.s, .int .i64 nx.g, .int .u64 nx.t] 29)).alloc (.cells #[.slice none 0 0, .bool false, .int .i64 0, .int .i64 0, .int .u64 0] 29)).alloc (.cells #[.int .i64 0, .int .i64 0, .int .u64 0] 27)).alloc (.cells #[.int .i64 x.s, .int .i64 x.g, .int .u64 x.t] 27)).heap.size rfl (.tmp 28) (.tmp 31) 22 27 (.agg #[.int .i64 0, .int .i64 0, .int .u64 0]) 24 rfl Try.underlying22 infoW rfl (by decide) (by omega) (.slice none 0 0) ([] : List Wt) l A' _ (c - 1) (fun _ => True) (fun _ => False) rfl rfl ?aO ?aR (fun x cs h => kW_KM x cs h) (fun _ h => h.elim) ?aF ?aB ?aS ?aL ?_; (case aO => exact (Kd.R_nil _ _ _ _ _)); (case aR => exact HC4.out); (case aF => exact fun _ _ => trivial); (case aB => exact Below.refl _ _); (case aS => first | assumption | omega); (case aL => first | omega | (simp; omega)); intro v1 w5 ho5 hb5 hg hat; obtain ⟨A3, c3, rfl, hc3, -⟩ := Kd.R_reads ho5; have hS5 := blk_below HS4.out hb5; have hT5 := blk_below HT4.out hb5; have hU5 := blk_below HU4.out hb5; have hX5 := blk_below HX4.out hb5; have HO5 := Aside0.mk ho5; have hB5 := below_then hBX hb5; obtain ⟨s0, s1, s2, s3, s4, f0, -, -, -, -⟩ := blk5 hS5; have hSl := lt_blk hS5; clear ho5 hb5 hg hat y0 y1 y2 hS hT hU habW))
      have hK5 : Keep (fun i => i = w.heap.size) w5 (w5.setCell ⟨w.heap.size, 0, none⟩ (.slice A3 ([] ++ l).length c3)) := (Keep.refl _ _).setCell _ _ (.inr rfl)
      have hO6 := R_keepT HO5.out hS5 (by decide) hK5
      have hS6 : (w5.setCell ⟨w.heap.size, 0, none⟩ (.slice A3 ([] ++ l).length c3)).heap[w.heap.size]? = some (.cells #[.slice A3 ([] ++ l).length c3, .bool false, .int .i64 nx.s, .int .i64 nx.g, .int .u64 nx.t] 29 (0, 0)) := blk_set hS5
      have hT := blk_keep hT5 hK5 (by omega)
      have hU := blk_keep hU5 hK5 (by omega)
      have hX := blk_keep hX5 hK5 (by omega)
      have hW := below_then_keep hB5 hB5.size hK5 (fun i hi => by omega)
      have hS := hS6
      rw [List.nil_append] at hO6 hS hT hU hX hW
      have HO6 := Aside0.mk hO6
      have hsz := HB.out
      clear hK5 hS6 hS5 hT5 hU5 hX5 hB5 s0 s1 s2 s3 s4 f0 hSl HO5 hO6 HS4 HT4 HU4 HX4 HC4 HC' hcut hBX
      generalize (w5.setCell ⟨w.heap.size, 0, none⟩ (.slice A3 l.length c3)) = W at *
      obtain ⟨s0, s1, s2, s3, s4, -, -, -, -, -⟩ := blk5 hS
      obtain ⟨t0, t1, t2, t3, t4, g0, g1, g2, g3, g4⟩ := blk5 hT
      obtain ⟨u0, u1, u2, h0, h1, h2⟩ := blk3 hU
      obtain ⟨x0, x1, x2, -, -, -⟩ := blk3 hX
      have hSl := lt_blk hS
      have hTl := lt_blk hT
      have hUl := lt_blk hU
      have hXl := lt_blk hX
      clear hS hT hU hX
      go_region
      go_wp2
      refine bodyPost_ret (v := .tuple #[.agg #[.slice A3 l.length c3, .bool false, .int .i64 nx.s, .int .i64 nx.g, .int .u64 nx.t], (.agg #[.int .i64 x.s, .int .i64 x.g, .int .u64 x.t]), .bool false, .int .i64 0]) (by simp [results, Try.results43, go_sem, t0, t1, t2, t3, t4, u0, u1, u2]) rfl ⟨_, rfl, Kd.R_lower (Kd.R_mono (Kd.R_bound (R_keepB HO6.out (F := fun i => i = w.heap.size + 1 ∨ i = w.heap.size + 1 + 1) (by repeat (first | (with_reducible exact Keep.refl _ _) | (with_reducible refine Keep.drewN ?_ _) | (with_reducible refine Keep.drew ?_) | (with_reducible refine Keep.setCell ?_ _ _ (by first | (right; with_reducible rfl) | (left; simp; done) | (left; simp; omega) | (right; simp; done) | (right; assumption))) | (with_reducible refine Keep.alloc ?_ _))) (fun i hi => by rw [hz4]; omega))) (fun k hk => .inr (by have := hk.2.1; rw [hz4] at this; omega))) (by rw [hz4]; omega), (by repeat (first | (with_reducible exact hW) | (with_reducible refine Below.drew ?_) | (with_reducible refine below_drewN ?_ _) | (with_reducible refine below_al ?_ _) | (with_reducible refine Below.alloc ?_ (by first | exact Nat.le_refl _ | omega | (simp; done) | (simp; omega)) _) | (with_reducible refine Below.setCell ?_ (by first | (simp only []; omega) | (simp; done) | (simp; omega)) _)))⟩
def StealP (rf rt : Rg) (base : Nat) (ok : Nat → Prop) (w : World) (e : Ending) (w' : World) : Prop := ∃ vf vt, e = .returned (.tuple #[.agg #[vf, .bool (stealF rf rt).has, .int .i64 (stealF rf rt).nx.s, .int .i64 (stealF rf rt).nx.g, .int .u64 (stealF rf rt).nx.t], .agg #[vt, .bool (stealT rf rt).has, .int .i64 (stealT rf rt).nx.s, .int .i64 (stealT rf rt).nx.g, .int .u64 (stealT rf rt).nx.t], (.agg #[.int .i64 (stealW rf rt).s, .int .i64 (stealW rf rt).g, .int .u64 (stealW rf rt).t]), .int .i64 (stealE rf rt)]) ∧ kW.R 27 w' base (fun k => ok k ∨ w.heap.size ≤ k) vf (stealF rf rt).l ∧ kW.R 27 w' base (fun k => ok k ∨ w.heap.size ≤ k) vt (stealT rf rt).l ∧ Below w.heap.size w w'
set_option maxHeartbeats 8000000 in
theorem rsteal_busy (A : Option Addr) (c : Nat) (A2 : Option Addr) (c2 : Nat) (rf rt : Rg) (base : Nat) (ok : Nat → Prop) (w : World) (hR : kW.R 27 w base ok (.slice A rf.l.length c) rf.l) (hR2 : kW.R 27 w base ok (.slice A2 rt.l.length c2) rt.l) (hb : base ≤ w.heap.size) (hl : rf.l.length ≤ 64) (hl2 : rt.l.length ≤ 64) (hbusy : lenR rt > 0) :
    Calls Try.prog 44 #[.agg #[.slice A rf.l.length c, .bool rf.has, .int .i64 rf.nx.s, .int .i64 rf.nx.g, .int .u64 rf.nx.t], .agg #[.slice A2 rt.l.length c2, .bool rt.has, .int .i64 rt.nx.s, .int .i64 rt.nx.g, .int .u64 rt.nx.t]] w (StealP rf rt base ok w) := by
  have HR := Aside0.mk hR
  have HR2 := Aside0.mk hR2
  have HB := Aside0.mk hb
  clear hR hR2 hb
  have hW : Below w.heap.size w (((((w.alloc (.cells #[.slice A rf.l.length c, .bool rf.has, .int .i64 rf.nx.s, .int .i64 rf.nx.g, .int .u64 rf.nx.t] 29)).alloc (.cells #[.slice A2 rt.l.length c2, .bool rt.has, .int .i64 rt.nx.s, .int .i64 rt.nx.g, .int .u64 rt.nx.t] 29)).alloc (.cells #[.slice none 0 0, .bool false, .int .i64 0, .int .i64 0, .int .u64 0] 29)).alloc (.cells #[.slice none 0 0, .bool false, .int .i64 0, .int .i64 0, .int .u64 0] 29)).alloc (.cells #[.int .i64 0, .int .i64 0, .int .u64 0] 27)) := (by repeat (first | (with_reducible exact Below.refl _ _) | (with_reducible refine Below.drew ?_) | (with_reducible refine below_drewN ?_ _) | (with_reducible refine below_al ?_ _) | (with_reducible refine Below.alloc ?_ (by first | exact Nat.le_refl _ | omega | (simp; done) | (simp; omega)) _) | (with_reducible refine Below.setCell ?_ (by first | (simp only []; omega) | (simp; done) | (simp; omega)) _)))
  have hF : (((((w.alloc (.cells #[.slice A rf.l.length c, .bool rf.has, .int .i64 rf.nx.s, .int .i64 rf.nx.g, .int .u64 rf.nx.t] 29)).alloc (.cells #[.slice A2 rt.l.length c2, .bool rt.has, .int .i64 rt.nx.s, .int .i64 rt.nx.g, .int .u64 rt.nx.t] 29)).alloc (.cells #[.slice none 0 0, .bool false, .int .i64 0, .int .i64 0, .int .u64 0] 29)).alloc (.cells #[.slice none 0 0, .bool false, .int .i64 0, .int .i64 0, .int .u64 0] 29)).alloc (.cells #[.int .i64 0, .int .i64 0, .int .u64 0] 27)).heap[w.heap.size]? = some (.cells #[.slice A rf.l.length c, .bool rf.has, .int .i64 rf.nx.s, .int .i64 rf.nx.g, .int .u64 rf.nx.t] 29 (0, 0)) := blk_alloc (blk_alloc (blk_alloc (blk_alloc (blk_new _ _))))
  have hT : (((((w.alloc (.cells #[.slice A rf.l.length c, .bool rf.has, .int .i64 rf.nx.s, .int .i64 rf.nx.g, .int .u64 rf.nx.t] 29)).alloc (.cells #[.slice A2 rt.l.length c2, .bool rt.has, .int .i64 rt.nx.s, .int .i64 rt.nx.g, .int .u64 rt.nx.t] 29)).alloc (.cells #[.slice none 0 0, .bool false, .int .i64 0, .int .i64 0, .int .u64 0] 29)).alloc (.cells #[.slice none 0 0, .bool false, .int .i64 0, .int .i64 0, .int .u64 0] 29)).alloc (.cells #[.int .i64 0, .int .i64 0, .int .u64 0] 27)).heap[w.heap.size + 1]? = some (.cells #[.slice A2 rt.l.length c2, .bool rt.has, .int .i64 rt.nx.s, .int .i64 rt.nx.g, .int .u64 rt.nx.t] 29 (0, 0)) := blk_alloc (blk_alloc (blk_alloc ((by simpa using blk_new (w.alloc (.cells #[.slice A rf.l.length c, .bool rf.has, .int .i64 rf.nx.s, .int .i64 rf.nx.g, .int .u64 rf.nx.t] 29)) (.cells #[.slice A2 rt.l.length c2, .bool rt.has, .int .i64 rt.nx.s, .int .i64 rt.nx.g, .int .u64 rt.nx.t] 29)))))
  have hU : (((((w.alloc (.cells #[.slice A rf.l.length c, .bool rf.has, .int .i64 rf.nx.s, .int .i64 rf.nx.g, .int .u64 rf.nx.t] 29)).alloc (.cells #[.slice A2 rt.l.length c2, .bool rt.has, .int .i64 rt.nx.s, .int .i64 rt.nx.g, .int .u64 rt.nx.t] 29)).alloc (.cells #[.slice none 0 0, .bool false, .int .i64 0, .int .i64 0, .int .u64 0] 29)).alloc (.cells #[.slice none 0 0, .bool false, .int .i64 0, .int .i64 0, .int .u64 0] 29)).alloc (.cells #[.int .i64 0, .int .i64 0, .int .u64 0] 27)).heap[w.heap.size + 1 + 1]? = some (.cells #[.slice none 0 0, .bool false, .int .i64 0, .int .i64 0, .int .u64 0] 29 (0, 0)) := blk_alloc (blk_alloc ((by simpa using blk_new ((w.alloc (.cells #[.slice A rf.l.length c, .bool rf.has, .int .i64 rf.nx.s, .int .i64 rf.nx.g, .int .u64 rf.nx.t] 29)).alloc (.cells #[.slice A2 rt.l.length c2, .bool rt.has, .int .i64 rt.nx.s, .int .i64 rt.nx.g, .int .u64 rt.nx.t] 29)) (.cells #[.slice none 0 0, .bool false, .int .i64 0, .int .i64 0, .int .u64 0] 29))))
  have hV : (((((w.alloc (.cells #[.slice A rf.l.length c, .bool rf.has, .int .i64 rf.nx.s, .int .i64 rf.nx.g, .int .u64 rf.nx.t] 29)).alloc (.cells #[.slice A2 rt.l.length c2, .bool rt.has, .int .i64 rt.nx.s, .int .i64 rt.nx.g, .int .u64 rt.nx.t] 29)).alloc (.cells #[.slice none 0 0, .bool false, .int .i64 0, .int .i64 0, .int .u64 0] 29)).alloc (.cells #[.slice none 0 0, .bool false, .int .i64 0, .int .i64 0, .int .u64 0] 29)).alloc (.cells #[.int .i64 0, .int .i64 0, .int .u64 0] 27)).heap[w.heap.size + 1 + 1 + 1]? = some (.cells #[.slice none 0 0, .bool false, .int .i64 0, .int .i64 0, .int .u64 0] 29 (0, 0)) := blk_alloc ((by simpa using blk_new (((w.alloc (.cells #[.slice A rf.l.length c, .bool rf.has, .int .i64 rf.nx.s, .int .i64 rf.nx.g, .int .u64 rf.nx.t] 29)).alloc (.cells #[.slice A2 rt.l.length c2, .bool rt.has, .int .i64 rt.nx.s, .int .i64 rt.nx.g, .int .u64 rt.nx.t] 29)).alloc (.cells #[.slice none 0 0, .bool false, .int .i64 0, .int .i64 0, .int .u64 0] 29)) (.cells #[.slice none 0 0, .bool false, .int .i64 0, .int .i64 0, .int .u64 0] 29)))
  have hX : (((((w.alloc (.cells #[.slice A rf.l.length c, .bool rf.has, .int .i64 rf.nx.s, .int .i64 rf.nx.g, .int .u64 rf.nx.t] 29)).alloc (.cells #[.slice A2 rt.l.length c2, .bool rt.has, .int .i64 rt.nx.s, .int .i64 rt.nx.g, .int .u64 rt.nx.t] 29)).alloc (.cells #[.slice none 0 0, .bool false, .int .i64 0, .int .i64 0, .int .u64 0] 29)).alloc (.cells #[.slice none 0 0, .bool false, .int .i64 0, .int .i64 0, .int .u64 0] 29)).alloc (.cells #[.int .i64 0, .int .i64 0, .int .u64 0] 27)).heap[w.heap.size + 1 + 1 + 1 + 1]? = some (.cells #[.int .i64 0, .int .i64 0, .int .u64 0] 27 (0, 0)) := (by simpa using blk_new ((((w.alloc (.cells #[.slice A rf.l.length c, .bool rf.has, .int .i64 rf.nx.s, .int .i64 rf.nx.g, .int .u64 rf.nx.t] 29)).alloc (.cells #[.slice A2 rt.l.length c2, .bool rt.has, .int .i64 rt.nx.s, .int .i64 rt.nx.g, .int .u64 rt.nx.t] 29)).alloc (.cells #[.slice none 0 0, .bool false, .int .i64 0, .int .i64 0, .int .u64 0] 29)).alloc (.cells #[.slice none 0 0, .bool false, .int .i64 0, .int .i64 0, .int .u64 0] 29)) (.cells #[.int .i64 0, .int .i64 0, .int .u64 0] 27))
  have hlen := Aside0.mk (rlen_any A2 c2 rt (((((w.alloc (.cells #[.slice A rf.l.length c, .bool rf.has, .int .i64 rf.nx.s, .int .i64 rf.nx.g, .int .u64 rf.nx.t] 29)).alloc (.cells #[.slice A2 rt.l.length c2, .bool rt.has, .int .i64 rt.nx.s, .int .i64 rt.nx.g, .int .u64 rt.nx.t] 29)).alloc (.cells #[.slice none 0 0, .bool false, .int .i64 0, .int .i64 0, .int .u64 0] 29)).alloc (.cells #[.slice none 0 0, .bool false, .int .i64 0, .int .i64 0, .int .u64 0] 29)).alloc (.cells #[.int .i64 0, .int .i64 0, .int .u64 0] 27)) (Kd.R_reads' (Kd.R_below HR2.out hW)).2.2 (Kd.R_reads' HR2.out).2.1 (by omega))
  have hF := Aside0.mk hF
  have hT := Aside0.mk hT
  have hU := Aside0.mk hU
  have hV := Aside0.mk hV
  have hX := Aside0.mk hX
  have hE : stealE rf rt = 22 := by rw [stealE, if_pos hbusy]
  have e1 : stealW rf rt = Wt.zero := by rw [stealW, hE, if_neg (by decide)]
  have e2 : stealF rf rt = rf := by rw [stealF, hE, if_neg (by decide)]
  have e3 : stealT rf rt = rt := by rw [stealT, hE, if_neg (by decide)]
  unfold StealP
  rw [hE, e1, e2, e3]
  clear hE e1 e2 e3
  generalize lenR rt = m at *
  have hbd : decide (m > 0) = true := by simpa using hbusy
  go_enter Try.func44, Try.ntmps44
  go_wp2_with fail
  generalize (((((w.alloc (.cells #[.slice A rf.l.length c, .bool rf.has, .int .i64 rf.nx.s, .int .i64 rf.nx.g, .int .u64 rf.nx.t] 29)).alloc (.cells #[.slice A2 rt.l.length c2, .bool rt.has, .int .i64 rt.nx.s, .int .i64 rt.nx.g, .int .u64 rt.nx.t] 29)).alloc (.cells #[.slice none 0 0, .bool false, .int .i64 0, .int .i64 0, .int .u64 0] 29)).alloc (.cells #[.slice none 0 0, .bool false, .int .i64 0, .int .i64 0, .int .u64 0] 29)).alloc (.cells #[.int .i64 0, .int .i64 0, .int .u64 0] 27)) = W at *
  refine hlen.out.mono ?_
  rintro e w1 ⟨rfl, hB1⟩
  have hW1 := below_then hW hB1
  have hF1 := blk_below hF.out hB1
  have hT1 := blk_below hT.out hB1
  have hU1 := blk_below hU.out hB1
  have hV1 := blk_below hV.out hB1
  have hX1 := blk_below hX.out hB1
  clear hlen hF hT hU hV hX hB1 hW
  obtain ⟨s0, s1, s2, s3, s4, f0, -, -, -, -⟩ := blk5 hF1
  obtain ⟨y0, y1, y2, y3, y4, e0, -, -, -, -⟩ := blk5 hT1
  obtain ⟨t0, t1, t2, t3, t4, g0, g1, g2, g3, g4⟩ := blk5 hU1
  obtain ⟨v0, v1, v2, v3, v4, j0, j1, j2, j3, j4⟩ := blk5 hV1
  obtain ⟨u0, u1, u2, h0, h1, h2⟩ := blk3 hX1
  have hFl := lt_blk hF1
  have hTl := lt_blk hT1
  have hUl := lt_blk hU1
  have hVl := lt_blk hV1
  have hXl := lt_blk hX1
  clear hF1 hT1 hU1 hV1 hX1
  go_wp2_with fail
  go_region
  go_wp2
  refine bodyPost_ret (v := .tuple #[.agg #[.slice A rf.l.length c, .bool rf.has, .int .i64 rf.nx.s, .int .i64 rf.nx.g, .int .u64 rf.nx.t], .agg #[.slice A2 rt.l.length c2, .bool rt.has, .int .i64 rt.nx.s, .int .i64 rt.nx.g, .int .u64 rt.nx.t], (.agg #[.int .i64 Wt.zero.s, .int .i64 Wt.zero.g, .int .u64 Wt.zero.t]), .int .i64 22]) (by simp [results, Try.results44, go_sem, t0, t1, t2, t3, t4, v0, v1, v2, v3, v4, u0, u1, u2, hUl, hVl, hXl, Wt.zero]) rfl ⟨_, _, rfl, Kd.R_mono (Kd.R_below HR.out (by repeat (first | (with_reducible exact hW1) | (with_reducible refine Below.drew ?_) | (with_reducible refine below_drewN ?_ _) | (with_reducible refine below_al ?_ _) | (with_reducible refine Below.alloc ?_ (by first | exact Nat.le_refl _ | omega | (simp; done) | (simp; omega)) _) | (with_reducible refine Below.setCell ?_ (by first | (simp only []; omega) | (simp; done) | (simp; omega)) _)))) (fun _ h => .inl h), Kd.R_mono (Kd.R_below HR2.out (by repeat (first | (with_reducible exact hW1) | (with_reducible refine Below.drew ?_) | (with_reducible refine below_drewN ?_ _) | (with_reducible refine below_al ?_ _) | (with_reducible refine Below.alloc ?_ (by first | exact Nat.le_refl _ | omega | (simp; done) | (simp; omega)) _) | (with_reducible refine Below.setCell ?_ (by first | (simp only []; omega) | (simp; done) | (simp; omega)) _)))) (fun _ h => .inl h), (by repeat (first | (with_reducible exact hW1) | (with_reducible refine Below.drew ?_) | (with_reducible refine below_drewN ?_ _) | (with_reducible refine below_al ?_ _) | (with_reducible refine Below.alloc ?_ (by first | exact Nat.le_refl _ | omega | (simp; done) | (simp; omega)) _) | (with_reducible refine Below.setCell ?_ (by first | (simp only []; omega) | (simp; done) | (simp; omega)) _)))⟩
set_option maxHeartbeats 8000000 in
theorem rsteal_none (A : Option Addr) (c : Nat) (A2 : Option Addr) (c2 : Nat) (rf rt : Rg) (base : Nat) (ok : Nat → Prop) (w : World) (hR : kW.R 27 w base ok (.slice A rf.l.length c) rf.l) (hR2 : kW.R 27 w base ok (.slice A2 rt.l.length c2) rt.l) (hb : base ≤ w.heap.size) (hl : rf.l.length ≤ 64) (hl2 : rt.l.length ≤ 64) (hz : lenR rt = 0) (hnil : rf.l = []) :
    Calls Try.prog 44 #[.agg #[.slice A rf.l.length c, .bool rf.has, .int .i64 rf.nx.s, .int .i64 rf.nx.g, .int .u64 rf.nx.t], .agg #[.slice A2 rt.l.length c2, .bool rt.has, .int .i64 rt.nx.s, .int .i64 rt.nx.g, .int .u64 rt.nx.t]] w (StealP rf rt base ok w) := by
  have HR := Aside0.mk hR
  have HR2 := Aside0.mk hR2
  have HB := Aside0.mk hb
  clear hR hR2 hb
  have hW : Below w.heap.size w (((((w.alloc (.cells #[.slice A rf.l.length c, .bool rf.has, .int .i64 rf.nx.s, .int .i64 rf.nx.g, .int .u64 rf.nx.t] 29)).alloc (.cells #[.slice A2 rt.l.length c2, .bool rt.has, .int .i64 rt.nx.s, .int .i64 rt.nx.g, .int .u64 rt.nx.t] 29)).alloc (.cells #[.slice none 0 0, .bool false, .int .i64 0, .int .i64 0, .int .u64 0] 29)).alloc (.cells #[.slice none 0 0, .bool false, .int .i64 0, .int .i64 0, .int .u64 0] 29)).alloc (.cells #[.int .i64 0, .int .i64 0, .int .u64 0] 27)) := (by repeat (first | (with_reducible exact Below.refl _ _) | (with_reducible refine Below.drew ?_) | (with_reducible refine below_drewN ?_ _) | (with_reducible refine below_al ?_ _) | (with_reducible refine Below.alloc ?_ (by first | exact Nat.le_refl _ | omega | (simp; done) | (simp; omega)) _) | (with_reducible refine Below.setCell ?_ (by first | (simp only []; omega) | (simp; done) | (simp; omega)) _)))
  have hF : (((((w.alloc (.cells #[.slice A rf.l.length c, .bool rf.has, .int .i64 rf.nx.s, .int .i64 rf.nx.g, .int .u64 rf.nx.t] 29)).alloc (.cells #[.slice A2 rt.l.length c2, .bool rt.has, .int .i64 rt.nx.s, .int .i64 rt.nx.g, .int .u64 rt.nx.t] 29)).alloc (.cells #[.slice none 0 0, .bool false, .int .i64 0, .int .i64 0, .int .u64 0] 29)).alloc (.cells #[.slice none 0 0, .bool false, .int .i64 0, .int .i64 0, .int .u64 0] 29)).alloc (.cells #[.int .i64 0, .int .i64 0, .int .u64 0] 27)).heap[w.heap.size]? = some (.cells #[.slice A rf.l.length c, .bool rf.has, .int .i64 rf.nx.s, .int .i64 rf.nx.g, .int .u64 rf.nx.t] 29 (0, 0)) := blk_alloc (blk_alloc (blk_alloc (blk_alloc (blk_new _ _))))
  have hT : (((((w.alloc (.cells #[.slice A rf.l.length c, .bool rf.has, .int .i64 rf.nx.s, .int .i64 rf.nx.g, .int .u64 rf.nx.t] 29)).alloc (.cells #[.slice A2 rt.l.length c2, .bool rt.has, .int .i64 rt.nx.s, .int .i64 rt.nx.g, .int .u64 rt.nx.t] 29)).alloc (.cells #[.slice none 0 0, .bool false, .int .i64 0, .int .i64 0, .int .u64 0] 29)).alloc (.cells #[.slice none 0 0, .bool false, .int .i64 0, .int .i64 0, .int .u64 0] 29)).alloc (.cells #[.int .i64 0, .int .i64 0, .int .u64 0] 27)).heap[w.heap.size + 1]? = some (.cells #[.slice A2 rt.l.length c2, .bool rt.has, .int .i64 rt.nx.s, .int .i64 rt.nx.g, .int .u64 rt.nx.t] 29 (0, 0)) := blk_alloc (blk_alloc (blk_alloc ((by simpa using blk_new (w.alloc (.cells #[.slice A rf.l.length c, .bool rf.has, .int .i64 rf.nx.s, .int .i64 rf.nx.g, .int .u64 rf.nx.t] 29)) (.cells #[.slice A2 rt.l.length c2, .bool rt.has, .int .i64 rt.nx.s, .int .i64 rt.nx.g, .int .u64 rt.nx.t] 29)))))
  have hU : (((((w.alloc (.cells #[.slice A rf.l.length c, .bool rf.has, .int .i64 rf.nx.s, .int .i64 rf.nx.g, .int .u64 rf.nx.t] 29)).alloc (.cells #[.slice A2 rt.l.length c2, .bool rt.has, .int .i64 rt.nx.s, .int .i64 rt.nx.g, .int .u64 rt.nx.t] 29)).alloc (.cells #[.slice none 0 0, .bool false, .int .i64 0, .int .i64 0, .int .u64 0] 29)).alloc (.cells #[.slice none 0 0, .bool false, .int .i64 0, .int .i64 0, .int .u64 0] 29)).alloc (.cells #[.int .i64 0, .int .i64 0, .int .u64 0] 27)).heap[w.heap.size + 1 + 1]? = some (.cells #[.slice none 0 0, .bool false, .int .i64 0, .int .i64 0, .int .u64 0] 29 (0, 0)) := blk_alloc (blk_alloc ((by simpa using blk_new ((w.alloc (.cells #[.slice A rf.l.length c, .bool rf.has, .int .i64 rf.nx.s, .int .i64 rf.nx.g, .int .u64 rf.nx.t] 29)).alloc (.cells #[.slice A2 rt.l.length c2, .bool rt.has, .int .i64 rt.nx.s, .int .i64 rt.nx.g, .int .u64 rt.nx.t] 29)) (.cells #[.slice none 0 0, .bool false, .int .i64 0, .int .i64 0, .int .u64 0] 29))))
  have hV : (((((w.alloc (.cells #[.slice A rf.l.length c, .bool rf.has, .int .i64 rf.nx.s, .int .i64 rf.nx.g, .int .u64 rf.nx.t] 29)).alloc (.cells #[.slice A2 rt.l.length c2, .bool rt.has, .int .i64 rt.nx.s, .int .i64 rt.nx.g, .int .u64 rt.nx.t] 29)).alloc (.cells #[.slice none 0 0, .bool false, .int .i64 0, .int .i64 0, .int .u64 0] 29)).alloc (.cells #[.slice none 0 0, .bool false, .int .i64 0, .int .i64 0, .int .u64 0] 29)).alloc (.cells #[.int .i64 0, .int .i64 0, .int .u64 0] 27)).heap[w.heap.size + 1 + 1 + 1]? = some (.cells #[.slice none 0 0, .bool false, .int .i64 0, .int .i64 0, .int .u64 0] 29 (0, 0)) := blk_alloc ((by simpa using blk_new (((w.alloc (.cells #[.slice A rf.l.length c, .bool rf.has, .int .i64 rf.nx.s, .int .i64 rf.nx.g, .int .u64 rf.nx.t] 29)).alloc (.cells #[.slice A2 rt.l.length c2, .bool rt.has, .int .i64 rt.nx.s, .int .i64 rt.nx.g, .int .u64 rt.nx.t] 29)).alloc (.cells #[.slice none 0 0, .bool false, .int .i64 0, .int .i64 0, .int .u64 0] 29)) (.cells #[.slice none 0 0, .bool false, .int .i64 0, .int .i64 0, .int .u64 0] 29)))
  have hX : (((((w.alloc (.cells #[.slice A rf.l.length c, .bool rf.has, .int .i64 rf.nx.s, .int .i64 rf.nx.g, .int .u64 rf.nx.t] 29)).alloc (.cells #[.slice A2 rt.l.length c2, .bool rt.has, .int .i64 rt.nx.s, .int .i64 rt.nx.g, .int .u64 rt.nx.t] 29)).alloc (.cells #[.slice none 0 0, .bool false, .int .i64 0, .int .i64 0, .int .u64 0] 29)).alloc (.cells #[.slice none 0 0, .bool false, .int .i64 0, .int .i64 0, .int .u64 0] 29)).alloc (.cells #[.int .i64 0, .int .i64 0, .int .u64 0] 27)).heap[w.heap.size + 1 + 1 + 1 + 1]? = some (.cells #[.int .i64 0, .int .i64 0, .int .u64 0] 27 (0, 0)) := (by simpa using blk_new ((((w.alloc (.cells #[.slice A rf.l.length c, .bool rf.has, .int .i64 rf.nx.s, .int .i64 rf.nx.g, .int .u64 rf.nx.t] 29)).alloc (.cells #[.slice A2 rt.l.length c2, .bool rt.has, .int .i64 rt.nx.s, .int .i64 rt.nx.g, .int .u64 rt.nx.t] 29)).alloc (.cells #[.slice none 0 0, .bool false, .int .i64 0, .int .i64 0, .int .u64 0] 29)).alloc (.cells #[.slice none 0 0, .bool false, .int .i64 0, .int .i64 0, .int .u64 0] 29)) (.cells #[.int .i64 0, .int .i64 0, .int .u64 0] 27))
  have hlen := Aside0.mk (rlen_any A2 c2 rt (((((w.alloc (.cells #[.slice A rf.l.length c, .bool rf.has, .int .i64 rf.nx.s, .int .i64 rf.nx.g, .int .u64 rf.nx.t] 29)).alloc (.cells #[.slice A2 rt.l.length c2, .bool rt.has, .int .i64 rt.nx.s, .int .i64 rt.nx.g, .int .u64 rt.nx.t] 29)).alloc (.cells #[.slice none 0 0, .bool false, .int .i64 0, .int .i64 0, .int .u64 0] 29)).alloc (.cells #[.slice none 0 0, .bool false, .int .i64 0, .int .i64 0, .int .u64 0] 29)).alloc (.cells #[.int .i64 0, .int .i64 0, .int .u64 0] 27)) (Kd.R_reads' (Kd.R_below HR2.out hW)).2.2 (Kd.R_reads' HR2.out).2.1 (by omega))
  have hF := Aside0.mk hF
  have hT := Aside0.mk hT
  have hU := Aside0.mk hU
  have hV := Aside0.mk hV
  have hX := Aside0.mk hX
  have q1 : stealE rf rt = takeE rf := by
    rw [stealE, hz, if_neg (by decide), takeE, lenR, hnil]
    cases rf.has <;> simp
  have q2 : stealF rf rt = takeR rf := by
    rw [stealF, q1, takeE, takeR, hnil]
    obtain ⟨l, has, nx⟩ := rf
    simp only at hnil
    subst hnil
    cases has <;> simp
  have q3 : stealT rf rt = rt := by rw [stealT, hnil]; simp
  have q4 : stealW rf rt = takeW rf := by
    rw [stealW, q1, takeE, takeW, hnil]
    cases rf.has <;> simp
  unfold StealP
  rw [q1, q2, q3, q4]
  obtain ⟨rk, hrk⟩ : ∃ rk, rk = takeR rf := ⟨_, rfl⟩
  obtain ⟨wk, hwk⟩ : ∃ wk, wk = takeW rf := ⟨_, rfl⟩
  obtain ⟨ek, hek⟩ : ∃ ek, ek = takeE rf := ⟨_, rfl⟩
  rw [← hrk, ← hwk, ← hek]
  have HRK := Aside0.mk hrk
  have HWK := Aside0.mk hwk
  have HEK := Aside0.mk hek
  clear q1 q2 q3 q4 hrk hwk hek
  rw [hz] at hlen
  have HN := Aside0.mk hnil
  have hn0 : Aside0 (rf.l.length = 0) := ⟨by rw [hnil]; rfl⟩
  clear hz hnil
  have hTK := Aside0.mk (fun (w1 : World) (h1 : Below w.heap.size w w1) => rtake_any A c rf base (fun k => ok k ∧ k < w.heap.size) w1 (Kd.R_below (Kd.R_mono (Kd.R_bound HR.out) (fun _ h => ⟨h.1, h.2.2.1⟩)) h1) (Nat.le_trans HB.out h1.size) hl)
  go_enter Try.func44, Try.ntmps44
  go_wp2_with fail
  generalize (((((w.alloc (.cells #[.slice A rf.l.length c, .bool rf.has, .int .i64 rf.nx.s, .int .i64 rf.nx.g, .int .u64 rf.nx.t] 29)).alloc (.cells #[.slice A2 rt.l.length c2, .bool rt.has, .int .i64 rt.nx.s, .int .i64 rt.nx.g, .int .u64 rt.nx.t] 29)).alloc (.cells #[.slice none 0 0, .bool false, .int .i64 0, .int .i64 0, .int .u64 0] 29)).alloc (.cells #[.slice none 0 0, .bool false, .int .i64 0, .int .i64 0, .int .u64 0] 29)).alloc (.cells #[.int .i64 0, .int .i64 0, .int .u64 0] 27)) = W at *
  refine hlen.out.mono ?_
  rintro e w1 ⟨rfl, hB1⟩
  have hW1 := below_then hW hB1
  have hF1 := blk_below hF.out hB1
  have hT1 := blk_below hT.out hB1
  have hU1 := blk_below hU.out hB1
  have hV1 := blk_below hV.out hB1
  have hX1 := blk_below hX.out hB1
  clear hlen hF hT hU hV hX hB1 hW
  obtain ⟨s0, s1, s2, s3, s4, f0, -, -, -, -⟩ := blk5 hF1
  obtain ⟨y0, y1, y2, y3, y4, e0, -, -, -, -⟩ := blk5 hT1
  obtain ⟨t0, t1, t2, t3, t4, g0, g1, g2, g3, g4⟩ := blk5 hU1
  obtain ⟨v0, v1, v2, v3, v4, j0, j1, j2, j3, j4⟩ := blk5 hV1
  obtain ⟨u0, u1, u2, h0, h1, h2⟩ := blk3 hX1
  have hFl := lt_blk hF1
  have hTl := lt_blk hT1
  have hUl := lt_blk hU1
  have hVl := lt_blk hV1
  have hXl := lt_blk hX1
  have hU1' := Aside0.mk hU1
  have hV1' := Aside0.mk hV1
  have hX1' := Aside0.mk hX1
  have hT1' := Aside0.mk hT1
  clear hF1 hT1 hU1 hV1 hX1
  rw [hn0.out] at s0
  go_wp2_with fail
  have htk := hTK.out w1 hW1
  unfold TakeP at htk
  rw [hn0.out, ← HRK.out, ← HWK.out, ← HEK.out] at htk
  refine htk.mono ?_
  clear htk hTK
  have hw01 := Aside0.mk hW1.size
  rintro e w2 ⟨v, rfl, hv, hB2⟩
  have hT2 := blk_below hT1'.out hB2
  have hs1 := hXl
  have hU2 := blk_below hU1'.out hB2
  have hV2 := blk_below hV1'.out hB2
  have hX2 := blk_below hX1'.out hB2
  have hW2 := below_then hW1 hB2
  obtain ⟨A3, c3, rfl, -, -⟩ := Kd.R_reads hv
  have HV := Aside0.mk hv
  clear hv hB2 hW1 hT1' hU1' hV1' hX1' s0 s1 s2 s3 s4 f0 y0 y1 y2 y3 y4 e0 t0 t1 t2 t3 t4 g0 g1 g2 g3 g4 v0 v1 v2 v3 v4 j0 j1 j2 j3 j4 u0 u1 u2 h0 h1 h2 hFl hTl hUl hVl hXl
  go_wp2_with fail
  have hA2 : Below w2.heap.size w2 ((w2.alloc (.cells #[.slice A3 rk.l.length c3, .bool rk.has, .int .i64 rk.nx.s, .int .i64 rk.nx.g, .int .u64 rk.nx.t] 29)).alloc (.cells #[.int .i64 wk.s, .int .i64 wk.g, .int .u64 wk.t] 27)) := (by repeat (first | (with_reducible exact Below.refl _ _) | (with_reducible refine Below.drew ?_) | (with_reducible refine below_drewN ?_ _) | (with_reducible refine below_al ?_ _) | (with_reducible refine Below.alloc ?_ (by first | exact Nat.le_refl _ | omega | (simp; done) | (simp; omega)) _) | (with_reducible refine Below.setCell ?_ (by first | (simp only []; omega) | (simp; done) | (simp; omega)) _)))
  have hT3 := blk_below hT2 hA2
  have hU3 := blk_below hU2 hA2
  have hV3 := blk_below hV2 hA2
  have hX3 := blk_below hX2 hA2
  have hG3 : ((w2.alloc (.cells #[.slice A3 rk.l.length c3, .bool rk.has, .int .i64 rk.nx.s, .int .i64 rk.nx.g, .int .u64 rk.nx.t] 29)).alloc (.cells #[.int .i64 wk.s, .int .i64 wk.g, .int .u64 wk.t] 27)).heap[w2.heap.size]? = some (.cells #[.slice A3 rk.l.length c3, .bool rk.has, .int .i64 rk.nx.s, .int .i64 rk.nx.g, .int .u64 rk.nx.t] 29 (0, 0)) := blk_alloc (blk_new _ _)
  have hY3 : ((w2.alloc (.cells #[.slice A3 rk.l.length c3, .bool rk.has, .int .i64 rk.nx.s, .int .i64 rk.nx.g, .int .u64 rk.nx.t] 29)).alloc (.cells #[.int .i64 wk.s, .int .i64 wk.g, .int .u64 wk.t] 27)).heap[w2.heap.size + 1]? = some (.cells #[.int .i64 wk.s, .int .i64 wk.g, .int .u64 wk.t] 27 (0, 0)) := (by simpa using blk_new (w2.alloc (.cells #[.slice A3 rk.l.length c3, .bool rk.has, .int .i64 rk.nx.s, .int .i64 rk.nx.g, .int .u64 rk.nx.t] 29)) (.cells #[.int .i64 wk.s, .int .i64 wk.g, .int .u64 wk.t] 27))
  have hW3 := below_then hW2 hA2
  have HV3 := Kd.R_below HV.out hA2
  have HV4 := Aside0.mk HV3
  have hs2 := lt_blk hX2
  have hs1u : w.heap.size + 1 + 1 < w1.heap.size := by omega
  have hs1v : w.heap.size + 1 + 1 + 1 < w1.heap.size := by omega
  clear hT2 hU2 hV2 hX2 hA2 hW2 HV HV3
  generalize ((w2.alloc (.cells #[.slice A3 rk.l.length c3, .bool rk.has, .int .i64 rk.nx.s, .int .i64 rk.nx.g, .int .u64 rk.nx.t] 29)).alloc (.cells #[.int .i64 wk.s, .int .i64 wk.g, .int .u64 wk.t] 27)) = W3 at *
  have lowU : w.heap.size ≤ w.heap.size + 1 + 1 := by omega
  have neUY : ¬ w.heap.size + 1 + 1 = w2.heap.size + 1 := by omega
  have neYU : ¬ w2.heap.size + 1 = w.heap.size + 1 + 1 := by omega
  have neUG : ¬ w.heap.size + 1 + 1 = w2.heap.size := by omega
  have neGU : ¬ w2.heap.size = w.heap.size + 1 + 1 := by omega
  have neUX : ¬ w.heap.size + 1 + 1 = w.heap.size + 1 + 1 + 1 + 1 := by omega
  have neXU : ¬ w.heap.size + 1 + 1 + 1 + 1 = w.heap.size + 1 + 1 := by omega
  have neUV : ¬ w.heap.size + 1 + 1 = w.heap.size + 1 + 1 + 1 := by omega
  have neVU : ¬ w.heap.size + 1 + 1 + 1 = w.heap.size + 1 + 1 := by omega
  have neUT : ¬ w.heap.size + 1 + 1 = w.heap.size + 1 := by omega
  have neTU : ¬ w.heap.size + 1 = w.heap.size + 1 + 1 := by omega
  have lowV : w.heap.size ≤ w.heap.size + 1 + 1 + 1 := by omega
  have neVY : ¬ w.heap.size + 1 + 1 + 1 = w2.heap.size + 1 := by omega
  have neYV : ¬ w2.heap.size + 1 = w.heap.size + 1 + 1 + 1 := by omega
  have neVG : ¬ w.heap.size + 1 + 1 + 1 = w2.heap.size := by omega
  have neGV : ¬ w2.heap.size = w.heap.size + 1 + 1 + 1 := by omega
  have neVX : ¬ w.heap.size + 1 + 1 + 1 = w.heap.size + 1 + 1 + 1 + 1 := by omega
  have neXV : ¬ w.heap.size + 1 + 1 + 1 + 1 = w.heap.size + 1 + 1 + 1 := by omega
  have neVT : ¬ w.heap.size + 1 + 1 + 1 = w.heap.size + 1 := by omega
  have neTV : ¬ w.heap.size + 1 = w.heap.size + 1 + 1 + 1 := by omega
  have lowX : w.heap.size ≤ w.heap.size + 1 + 1 + 1 + 1 := by omega
  have neXY : ¬ w.heap.size + 1 + 1 + 1 + 1 = w2.heap.size + 1 := by omega
  have neYX : ¬ w2.heap.size + 1 = w.heap.size + 1 + 1 + 1 + 1 := by omega
  have neXG : ¬ w.heap.size + 1 + 1 + 1 + 1 = w2.heap.size := by omega
  have neGX : ¬ w2.heap.size = w.heap.size + 1 + 1 + 1 + 1 := by omega
  have neXT : ¬ w.heap.size + 1 + 1 + 1 + 1 = w.heap.size + 1 := by omega
  have neTX : ¬ w.heap.size + 1 = w.heap.size + 1 + 1 + 1 + 1 := by omega
  generalize w2.heap.size + 1 = Y at *
  generalize w2.heap.size = G at *
  generalize w.heap.size + 1 + 1 + 1 + 1 = X at *
  generalize w.heap.size + 1 + 1 + 1 = V at *
  generalize w.heap.size + 1 + 1 = U at *
  generalize w.heap.size + 1 = T at *
  obtain ⟨a0, a1, a2, a3, a4, -, -, -, -, -⟩ := blk5 hG3
  obtain ⟨b0, b1, b2, -, -, -⟩ := blk3 hY3
  obtain ⟨y0, y1, y2, y3, y4, -, -, -, -, -⟩ := blk5 hT3
  obtain ⟨t0, t1, t2, t3, t4, g0, g1, g2, g3, g4⟩ := blk5 hU3
  obtain ⟨v0, v1, v2, v3, v4, j0, j1, j2, j3, j4⟩ := blk5 hV3
  obtain ⟨u0, u1, u2, h0, h1, h2⟩ := blk3 hX3
  have hGl := lt_blk hG3
  have hYl := lt_blk hY3
  have hTl := lt_blk hT3
  have hUl := lt_blk hU3
  have hVl := lt_blk hV3
  have hXl := lt_blk hX3
  clear hG3 hY3 hT3 hU3 hV3 hX3
  go_region
  go_wp2
  refine bodyPost_ret (v := .tuple #[.agg #[.slice A3 rk.l.length c3, .bool rk.has, .int .i64 rk.nx.s, .int .i64 rk.nx.g, .int .u64 rk.nx.t], .agg #[.slice A2 rt.l.length c2, .bool rt.has, .int .i64 rt.nx.s, .int .i64 rt.nx.g, .int .u64 rt.nx.t], (.agg #[.int .i64 wk.s, .int .i64 wk.g, .int .u64 wk.t]), .int .i64 ek]) (by simp [results, Try.results44, go_sem, t0, t1, t2, t3, t4, v0, v1, v2, v3, v4, u0, u1, u2, hUl, hVl, hXl]) rfl ⟨_, _, rfl, ?_, Kd.R_mono (Kd.R_below HR2.out (by repeat (first | (with_reducible exact hW3) | (with_reducible refine Below.drew ?_) | (with_reducible refine below_drewN ?_ _) | (with_reducible refine below_al ?_ _) | (with_reducible refine Below.alloc ?_ (by first | exact Nat.le_refl _ | omega | (simp; done) | (simp; omega)) _) | (with_reducible refine Below.setCell ?_ (by first | (simp only []; omega) | (simp; done) | (simp; omega)) _)))) (fun _ h => .inl h), (by repeat (first | (with_reducible exact hW3) | (with_reducible refine Below.drew ?_) | (with_reducible refine below_drewN ?_ _) | (with_reducible refine below_al ?_ _) | (with_reducible refine Below.alloc ?_ (by first | exact Nat.le_refl _ | omega | (simp; done) | (simp; omega)) _) | (with_reducible refine Below.setCell ?_ (by first | (simp only []; omega) | (simp; done) | (simp; omega)) _)))⟩
  have hww := hw01.out
  refine Kd.R_mono (Kd.R_step HV4.out (fun k hk hlt => ?_)) (fun k hk => (show (ok k ∧ k < w.heap.size) ∨ w1.heap.size ≤ k from hk).elim (fun h => .inl h.1) (fun h => .inr (Nat.le_trans hww h)))
  refine Keep.block (F := fun i => i = U ∨ i = V ∨ i = X) (w := W3) ?_ k hlt (by have hk : (ok k ∧ k < w.heap.size) ∨ w1.heap.size ≤ k := hk; rcases hk with ⟨_, hk⟩ | hk <;> omega)
  exact (by repeat (first | (with_reducible exact Keep.refl _ _) | (with_reducible refine Keep.drewN ?_ _) | (with_reducible refine Keep.drew ?_) | (with_reducible refine Keep.setCell ?_ _ _ (by first | (right; with_reducible rfl) | (left; simp; done) | (left; simp; omega) | (right; simp; done) | (right; assumption))) | (with_reducible refine Keep.alloc ?_ _)))
set_option maxHeartbeats 8000000 in
theorem rsteal_some (ab off : Nat) (c : Nat) (A2 : Option Addr) (c2 : Nat) (rf rt : Rg) (base : Nat) (ok : Nat → Prop) (w : World) (hR : kW.R 27 w base ok (.slice (some ⟨ab, off, none⟩) rf.l.length c) rf.l) (hR2 : kW.R 27 w base ok (.slice A2 rt.l.length c2) rt.l) (hb : base ≤ w.heap.size) (hl : rf.l.length ≤ 64) (hl2 : rt.l.length ≤ 64) (x : Wt) (l : List Wt) (m : Nat) (hz : lenR rt = 0) (hcons : rf.l = x :: l) (hm : half (l.length + 1) = m + 1) :
    Calls Try.prog 44 #[.agg #[.slice (some ⟨ab, off, none⟩) rf.l.length c, .bool rf.has, .int .i64 rf.nx.s, .int .i64 rf.nx.g, .int .u64 rf.nx.t], .agg #[.slice A2 rt.l.length c2, .bool rt.has, .int .i64 rt.nx.s, .int .i64 rt.nx.g, .int .u64 rt.nx.t]] w (StealP rf rt base ok w) := by
  have HR := Aside0.mk hR
  have HR2 := Aside0.mk hR2
  have HB := Aside0.mk hb
  clear hR hR2 hb
  have hW : Below w.heap.size w (((((w.alloc (.cells #[.slice (some ⟨ab, off, none⟩) rf.l.length c, .bool rf.has, .int .i64 rf.nx.s, .int .i64 rf.nx.g, .int .u64 rf.nx.t] 29)).alloc (.cells #[.slice A2 rt.l.length c2, .bool rt.has, .int .i64 rt.nx.s, .int .i64 rt.nx.g, .int .u64 rt.nx.t] 29)).alloc (.cells #[.slice none 0 0, .bool false, .int .i64 0, .int .i64 0, .int .u64 0] 29)).alloc (.cells #[.slice none 0 0, .bool false, .int .i64 0, .int .i64 0, .int .u64 0] 29)).alloc (.cells #[.int .i64 0, .int .i64 0, .int .u64 0] 27)) := (by repeat (first | (with_reducible exact Below.refl _ _) | (with_reducible refine Below.drew ?_) | (with_reducible refine below_drewN ?_ _) | (with_reducible refine below_al ?_ _) | (with_reducible refine Below.alloc ?_ (by first | exact Nat.le_refl _ | omega | (simp; done) | (simp; omega)) _) | (with_reducible refine Below.setCell ?_ (by first | (simp only []; omega) | (simp; done) | (simp; omega)) _)))
  have hF : (((((w.alloc (.cells #[.slice (some ⟨ab, off, none⟩) rf.l.length c, .bool rf.has, .int .i64 rf.nx.s, .int .i64 rf.nx.g, .int .u64 rf.nx.t] 29)).alloc (.cells #[.slice A2 rt.l.length c2, .bool rt.has, .int .i64 rt.nx.s, .int .i64 rt.nx.g, .int .u64 rt.nx.t] 29)).alloc (.cells #[.slice none 0 0, .bool false, .int .i64 0, .int .i64 0, .int .u64 0] 29)).alloc (.cells #[.slice none 0 0, .bool false, .int .i64 0, .int .i64 0, .int .u64 0] 29)).alloc (.cells #[.int .i64 0, .int .i64 0, .int .u64 0] 27)).heap[w.heap.size]? = some (.cells #[.slice (some ⟨ab, off, none⟩) rf.l.length c, .bool rf.has, .int .i64 rf.nx.s, .int .i64 rf.nx.g, .int .u64 rf.nx.t] 29 (0, 0)) := blk_alloc (blk_alloc (blk_alloc (blk_alloc (blk_new _ _))))
  have hT : (((((w.alloc (.cells #[.slice (some ⟨ab, off, none⟩) rf.l.length c, .bool rf.has, .int .i64 rf.nx.s, .int .i64 rf.nx.g, .int .u64 rf.nx.t] 29)).alloc (.cells #[.slice A2 rt.l.length c2, .bool rt.has, .int .i64 rt.nx.s, .int .i64 rt.nx.g, .int .u64 rt.nx.t] 29)).alloc (.cells #[.slice none 0 0, .bool false, .int .i64 0, .int .i64 0, .int .u64 0] 29)).alloc (.cells #[.slice none 0 0, .bool false, .int .i64 0, .int .i64 0, .int .u64 0] 29)).alloc (.cells #[.int .i64 0, .int .i64 0, .int .u64 0] 27)).heap[w.heap.size + 1]? = some (.cells #[.slice A2 rt.l.length c2, .bool rt.has, .int .i64 rt.nx.s, .int .i64 rt.nx.g, .int .u64 rt.nx.t] 29 (0, 0)) := blk_alloc (blk_alloc (blk_alloc ((by simpa using blk_new (w.alloc (.cells #[.slice (some ⟨ab, off, none⟩) rf.l.length c, .bool rf.has, .int .i64 rf.nx.s, .int .i64 rf.nx.g, .int .u64 rf.nx.t] 29)) (.cells #[.slice A2 rt.l.length c2, .bool rt.has, .int .i64 rt.nx.s, .int .i64 rt.nx.g, .int .u64 rt.nx.t] 29)))))
  have hU : (((((w.alloc (.cells #[.slice (some ⟨ab, off, none⟩) rf.l.length c, .bool rf.has, .int .i64 rf.nx.s, .int .i64 rf.nx.g, .int .u64 rf.nx.t] 29)).alloc (.cells #[.slice A2 rt.l.length c2, .bool rt.has, .int .i64 rt.nx.s, .int .i64 rt.nx.g, .int .u64 rt.nx.t] 29)).alloc (.cells #[.slice none 0 0, .bool false, .int .i64 0, .int .i64 0, .int .u64 0] 29)).alloc (.cells #[.slice none 0 0, .bool false, .int .i64 0, .int .i64 0, .int .u64 0] 29)).alloc (.cells #[.int .i64 0, .int .i64 0, .int .u64 0] 27)).heap[w.heap.size + 1 + 1]? = some (.cells #[.slice none 0 0, .bool false, .int .i64 0, .int .i64 0, .int .u64 0] 29 (0, 0)) := blk_alloc (blk_alloc ((by simpa using blk_new ((w.alloc (.cells #[.slice (some ⟨ab, off, none⟩) rf.l.length c, .bool rf.has, .int .i64 rf.nx.s, .int .i64 rf.nx.g, .int .u64 rf.nx.t] 29)).alloc (.cells #[.slice A2 rt.l.length c2, .bool rt.has, .int .i64 rt.nx.s, .int .i64 rt.nx.g, .int .u64 rt.nx.t] 29)) (.cells #[.slice none 0 0, .bool false, .int .i64 0, .int .i64 0, .int .u64 0] 29))))
  have hV : (((((w.alloc (.cells #[.slice (some ⟨ab, off, none⟩) rf.l.length c, .bool rf.has, .int .i64 rf.nx.s, .int .i64 rf.nx.g, .int .u64 rf.nx.t] 29)).alloc (.cells #[.slice A2 rt.l.length c2, .bool rt.has, .int .i64 rt.nx.s, .int .i64 rt.nx.g, .int .u64 rt.nx.t] 29)).alloc (.cells #[.slice none 0 0, .bool false, .int .i64 0, .int .i64 0, .int .u64 0] 29)).alloc (.cells #[.slice none 0 0, .bool false, .int .i64 0, .int .i64 0, .int .u64 0] 29)).alloc (.cells #[.int .i64 0, .int .i64 0, .int .u64 0] 27)).heap[w.heap.size + 1 + 1 + 1]? = some (.cells #[.slice none 0 0, .bool false, .int .i64 0, .int .i64 0, .int .u64 0] 29 (0, 0)) := blk_alloc ((by simpa using blk_new (((w.alloc (.cells #[.slice (some ⟨ab, off, none⟩) rf.l.length c, .bool rf.has, .int .i64 rf.nx.s, .int .i64 rf.nx.g, .int .u64 rf.nx.t] 29)).alloc (.cells #[.slice A2 rt.l.length c2, .bool rt.has, .int .i64 rt.nx.s, .int .i64 rt.nx.g, .int .u64 rt.nx.t] 29)).alloc (.cells #[.slice none 0 0, .bool false, .int .i64 0, .int .i64 0, .int .u64 0] 29)) (.cells #[.slice none 0 0, .bool false, .int .i64 0, .int .i64 0, .int .u64 0] 29)))
  have hX : (((((w.alloc (.cells #[.slice (some ⟨ab, off, none⟩) rf.l.length c, .bool rf.has, .int .i64 rf.nx.s, .int .i64 rf.nx.g, .int .u64 rf.nx.t] 29)).alloc (.cells #[.slice A2 rt.l.length c2, .bool rt.has, .int .i64 rt.nx.s, .int .i64 rt.nx.g, .int .u64 rt.nx.t] 29)).alloc (.cells #[.slice none 0 0, .bool false, .int .i64 0, .int .i64 0, .int .u64 0] 29)).alloc (.cells #[.slice none 0 0, .bool false, .int .i64 0, .int .i64 0, .int .u64 0] 29)).alloc (.cells #[.int .i64 0, .int .i64 0, .int .u64 0] 27)).heap[w.heap.size + 1 + 1 + 1 + 1]? = some (.cells #[.int .i64 0, .int .i64 0, .int .u64 0] 27 (0, 0)) := (by simpa using blk_new ((((w.alloc (.cells #[.slice (some ⟨ab, off, none⟩) rf.l.length c, .bool rf.has, .int .i64 rf.nx.s, .int .i64 rf.nx.g, .int .u64 rf.nx.t] 29)).alloc (.cells #[.slice A2 rt.l.length c2, .bool rt.has, .int .i64 rt.nx.s, .int .i64 rt.nx.g, .int .u64 rt.nx.t] 29)).alloc (.cells #[.slice none 0 0, .bool false, .int .i64 0, .int .i64 0, .int .u64 0] 29)).alloc (.cells #[.slice none 0 0, .bool false, .int .i64 0, .int .i64 0, .int .u64 0] 29)) (.cells #[.int .i64 0, .int .i64 0, .int .u64 0] 27))
  have hlen := Aside0.mk (rlen_any A2 c2 rt (((((w.alloc (.cells #[.slice (some ⟨ab, off, none⟩) rf.l.length c, .bool rf.has, .int .i64 rf.nx.s, .int .i64 rf.nx.g, .int .u64 rf.nx.t] 29)).alloc (.cells #[.slice A2 rt.l.length c2, .bool rt.has, .int .i64 rt.nx.s, .int .i64 rt.nx.g, .int .u64 rt.nx.t] 29)).alloc (.cells #[.slice none 0 0, .bool false, .int .i64 0, .int .i64 0, .int .u64 0] 29)).alloc (.cells #[.slice none 0 0, .bool false, .int .i64 0, .int .i64 0, .int .u64 0] 29)).alloc (.cells #[.int .i64 0, .int .i64 0, .int .u64 0] 27)) (Kd.R_reads' (Kd.R_below HR2.out hW)).2.2 (Kd.R_reads' HR2.out).2.1 (by omega))
  have hF := Aside0.mk hF
  have hT := Aside0.mk hT
  have hU := Aside0.mk hU
  have hV := Aside0.mk hV
  have hX := Aside0.mk hX
  have hne : lenR rf ≠ 0 := by
    rw [lenR, hcons]
    cases rf.has <;> simp <;> omega
  have hE : stealE rf rt = 0 := by rw [stealE, hz, if_neg (by decide), if_neg hne]
  have hnn : ¬ rf.l = [] := by rw [hcons]; simp
  have hlen1 : rf.l.length = l.length + 1 := by rw [hcons]; rfl
  have q2 : stealF rf rt = { rf with l := l.drop m } := by rw [stealF, hE, if_pos rfl, if_neg hnn, hlen1, hm, hcons]; rfl
  have q3 : stealT rf rt = { rt with l := l.take m } := by rw [stealT, hE, if_pos rfl, if_neg hnn, hlen1, hm, hcons]; rfl
  have q4 : stealW rf rt = x := by rw [stealW, hE, if_pos rfl, if_neg hnn, hcons]; rfl
  unfold StealP
  rw [hE, q2, q3, q4]
  clear hE q2 q3 q4 hne hnn
  rw [hz] at hlen
  have hml : m ≤ l.length := by unfold half at hm; omega
  have hk : ((l.length : Int) + 1) - ((l.length : Int) + 1) / 2 = (m : Int) + 1 := by unfold half at hm; omega
  have hk2 : ((l.length + 1 : Nat) : Int) = (l.length : Int) + 1 := rfl
  have hn0 : ((l.length : Int) + 1 == 0) = false := by simp; omega
  have hl64 : l.length + 1 ≤ 64 := by omega
  have hc := (Kd.R_reads' HR.out).2.1
  rw [hlen1] at hc
  have hCC : kW.C w (some ⟨ab, off, none⟩) (x :: l).length (x :: l) := by rw [← hcons]; exact (Kd.R_reads' HR.out).2.2
  obtain ⟨A1, hcut1, hC1⟩ := wt_mid w (some ⟨ab, off, none⟩) (l.length + 1) c 1 (m + 1) (x :: l) hCC rfl hc (by omega) (by omega)
  obtain ⟨A0, hcut2, hC2⟩ := wt_from w (some ⟨ab, off, none⟩) (l.length + 1) c (m + 1) (x :: l) hCC rfl hc (by omega)
  have hcut1 : ∀ W, (Instr.slice 22 (.slice (some ⟨ab, off, none⟩) (l.length + 1) c) (some (.int .i64 1)) (some (.int .i64 ((m : Int) + 1))) none).run Try.prog W = .ok (.slice A1 m (c - 1)) W := hcut1
  have hcut2 : ∀ W, (Instr.slice 22 (.slice (some ⟨ab, off, none⟩) (l.length + 1) c) (some (.int .i64 ((m : Int) + 1))) none none).run Try.prog W = .ok (.slice A0 (l.length - m) (c - (m + 1))) W := fun W => by
    have h := hcut2 W
    rw [Nat.add_sub_add_right] at h
    exact h
  have HC1 : Aside0 (kW.C w A1 (l.take m).length (l.take m)) := ⟨by simpa using hC1⟩
  have HC2 : Aside0 (kW.C w A0 (l.drop m).length (l.drop m)) := ⟨by simpa using hC2⟩
  have hab : ab < w.heap.size := by
    obtain ⟨ab', off', hA, hab⟩ := C_form hCC (by simp) (by decide)
    injection hA with hA
    injection hA with h1 h2
    rw [h1]; exact hab
  obtain ⟨y, hy, k0, k1, k2⟩ := wt_at hCC 0 (by simp)
  obtain rfl : x = y := by simpa using hy
  simp only [Nat.zero_mul, Nat.add_zero] at k0 k1 k2
  have htk : (l.take m).length = m := by rw [List.length_take]; omega
  have hdr : (l.drop m).length = l.length - m := List.length_drop
  have HTK := Aside0.mk htk
  have HDR := Aside0.mk hdr
  have HL1 := Aside0.mk hlen1
  have K0 := Aside0.mk k0
  have K1 := Aside0.mk k1
  have K2 := Aside0.mk k2
  have HK2 := Aside0.mk hk2
  clear hz hcons hm hlen1 hCC hC1 hC2 hy k0 k1 k2 htk hdr hk2
  rw [HTK.out] at HC1
  rw [HDR.out] at HC2
  go_enter Try.func44, Try.ntmps44
  go_wp2_with fail
  generalize (((((w.alloc (.cells #[.slice (some ⟨ab, off, none⟩) rf.l.length c, .bool rf.has, .int .i64 rf.nx.s, .int .i64 rf.nx.g, .int .u64 rf.nx.t] 29)).alloc (.cells #[.slice A2 rt.l.length c2, .bool rt.has, .int .i64 rt.nx.s, .int .i64 rt.nx.g, .int .u64 rt.nx.t] 29)).alloc (.cells #[.slice none 0 0, .bool false, .int .i64 0, .int .i64 0, .int .u64 0] 29)).alloc (.cells #[.slice none 0 0, .bool false, .int .i64 0, .int .i64 0, .int .u64 0] 29)).alloc (.cells #[.int .i64 0, .int .i64 0, .int .u64 0] 27)) = W at *
  refine hlen.out.mono ?_
  rintro e w1 ⟨rfl, hB1⟩
  have hW1 := below_then hW hB1
  have hF1 := blk_below hF.out hB1
  have hT1 := blk_below hT.out hB1
  have hU1 := blk_below hU.out hB1
  have hV1 := blk_below hV.out hB1
  have hX1 := blk_below hX.out hB1
  clear hlen hF hT hU hV hX hB1 hW
  obtain ⟨s0, s1, s2, s3, s4, f0, -, -, -, -⟩ := blk5 hF1
  obtain ⟨y0, y1, y2, y3, y4, e0, -, -, -, -⟩ := blk5 hT1
  obtain ⟨t0, t1, t2, t3, t4, g0, g1, g2, g3, g4⟩ := blk5 hU1
  obtain ⟨v0, v1, v2, v3, v4, j0, j1, j2, j3, j4⟩ := blk5 hV1
  obtain ⟨u0, u1, u2, h0, h1, h2⟩ := blk3 hX1
  have hFl := lt_blk hF1
  have hTl := lt_blk hT1
  have hUl := lt_blk hU1
  have hVl := lt_blk hV1
  have hXl := lt_blk hX1
  rw [HL1.out] at s0 hF1
  have HF1 := Aside0.mk hF1
  have HT1 := Aside0.mk hT1
  have HU1 := Aside0.mk hU1
  have HV1 := Aside0.mk hV1
  have HX1 := Aside0.mk hX1
  have HC1' := Aside0.mk (Kd.C_below HC1.out hW1)
  have HC2' := Aside0.mk (Kd.C_below HC2.out hW1)
  clear hF1 hT1 hU1 hV1 hX1 HC1 HC2 t0 t1 t2 t3 t4 g0 g1 g2 g3 g4 v0 v1 v2 v3 v4 j0 j1 j2 j3 j4 u0 u1 u2 h0 h1 h2
  go_wp2_with (first | ((with_reducible refine gate_builtin (b := .append) (xs := #[.tmp 43, .tmp 47]) rfl ?_); at_builtin; refine Kd.R_append_rows kW (Rr := kW.K w1) (w0 := w1) w1.heap.size rfl (.tmp 43) (.tmp 47) 22 27 (.agg #[.int .i64 0, .int .i64 0, .int .u64 0]) 24 rfl Try.underlying22 infoW rfl (by decide) (by omega) (.slice none 0 0) ([] : List Wt) (l.take m) A1 _ (c - 1) (fun _ => True) (fun _ => False) rfl rfl ?aO ?aR (fun x cs h => kW_KM x cs h) (fun _ h => h.elim) ?aF ?aB ?aS ?aL ?_; (case aO => exact (Kd.R_nil _ _ _ _ _)); (case aR => exact HC1'.out); (case aF => exact fun _ _ => trivial); (case aB => exact Below.refl _ _); (case aS => first | assumption | omega); (case aL => first | omega | (simp; omega)); intro v1 w5 ho5 hb5 hg hat; obtain ⟨A3, c3, rfl, hc3, -⟩ := Kd.R_reads ho5; have hF5 := blk_below HF1.out hb5; obtain ⟨s0, s1, s2, s3, s4, f0, -, -, -, -⟩ := blk5 hF5; have hFl := lt_blk hF5; have HB5 := Aside0.mk hb5; have HO5 := Aside0.mk ho5; have HC5 := Aside0.mk (Kd.C_below HC2'.out hb5); clear ho5 hb5 hg hat) | ((with_reducible refine gate_builtin (b := .append) (xs := #[.tmp 49, .tmp 53]) rfl ?_); at_builtin; refine Kd.R_append_rows kW (Rr := kW.K w5) (w0 := w5) w5.heap.size rfl (.tmp 49) (.tmp 53) 22 27 (.agg #[.int .i64 0, .int .i64 0, .int .u64 0]) 24 rfl Try.underlying22 infoW rfl (by decide) (by omega) (.slice none 0 0) ([] : List Wt) (l.drop m) A0 _ (c - (m + 1)) (fun _ => True) (fun _ => False) rfl rfl ?aO ?aR (fun x cs h => kW_KM x cs h) (fun _ h => h.elim) ?aF ?aB ?aS ?aL ?_; (case aO => exact (Kd.R_nil _ _ _ _ _)); (case aR => exact HC5.out); (case aF => exact fun _ _ => trivial); (case aB => exact Below.refl _ _); (case aS => first | assumption | omega); (case aL => first | omega | (simp; omega)); intro v2 w6 ho5 hb5 hg hat; obtain ⟨A4, c4, rfl, hc4, -⟩ := Kd.R_reads ho5; have hF6 := blk_below hF5 hb5; have hT6 := blk_below (blk_below HT1.out HB5.out) hb5; obtain ⟨s0, s1, s2, s3, s4, f0, -, -, -, -⟩ := blk5 hF6; obtain ⟨y0, y1, y2, y3, y4, e0, -, -, -, -⟩ := blk5 hT6; have hFl := lt_blk hF6; have hTl := lt_blk hT6; have hB6 := below_then HB5.out hb5; have hW6 := below_then hW1 hB6; have k0 := (hW6.cell (p := ⟨ab, off, none⟩) hab).trans K0.out; have k1 := (hW6.cell (p := ⟨ab, off + 1, none⟩) hab).trans K1.out; have k2 := (hW6.cell (p := ⟨ab, off + 2, none⟩) hab).trans K2.out; have hab6 := Nat.lt_of_lt_of_le hab hW6.size; have HB6 := Aside0.mk hB6; have HO6 := Aside0.mk (Kd.R_below HO5.out hb5); have HO7 := Aside0.mk ho5; have HS5 := Aside0.mk HB5.out.size; clear ho5 hb5 hg hat hF5))
  have hs16 := HB6.out.size
  have hU6 := blk_below HU1.out HB6.out
  have hV6 := blk_below HV1.out HB6.out
  have hX6 := blk_below HX1.out HB6.out
  have hF7 : (((w6.setCell ⟨w.heap.size, 0, none⟩ (.slice A4 (l.length - m) c4)).setCell ⟨w.heap.size + 1, 0, none⟩ (.slice A3 m c3)).alloc (.cells #[.int .i64 x.s, .int .i64 x.g, .int .u64 x.t] 27)).heap[w.heap.size]? = some (.cells #[.slice A4 (l.length - m) c4, .bool rf.has, .int .i64 rf.nx.s, .int .i64 rf.nx.g, .int .u64 rf.nx.t] 29 (0, 0)) := blk_alloc (blk_set_ne (p := ⟨w.heap.size + 1, 0, none⟩) (blk_set hF6) (by simp))
  have hT7 : (((w6.setCell ⟨w.heap.size, 0, none⟩ (.slice A4 (l.length - m) c4)).setCell ⟨w.heap.size + 1, 0, none⟩ (.slice A3 m c3)).alloc (.cells #[.int .i64 x.s, .int .i64 x.g, .int .u64 x.t] 27)).heap[w.heap.size + 1]? = some (.cells #[.slice A3 m c3, .bool rt.has, .int .i64 rt.nx.s, .int .i64 rt.nx.g, .int .u64 rt.nx.t] 29 (0, 0)) := blk_alloc (blk_set (blk_set_ne (p := ⟨w.heap.size, 0, none⟩) hT6 (by simp)))
  have hU7 : (((w6.setCell ⟨w.heap.size, 0, none⟩ (.slice A4 (l.length - m) c4)).setCell ⟨w.heap.size + 1, 0, none⟩ (.slice A3 m c3)).alloc (.cells #[.int .i64 x.s, .int .i64 x.g, .int .u64 x.t] 27)).heap[w.heap.size + 1 + 1]? = some (.cells #[.slice none 0 0, .bool false, .int .i64 0, .int .i64 0, .int .u64 0] 29 (0, 0)) := blk_alloc (blk_set_ne (p := ⟨w.heap.size + 1, 0, none⟩) (blk_set_ne (p := ⟨w.heap.size, 0, none⟩) hU6 (by simp; omega)) (by simp))
  have hV7 : (((w6.setCell ⟨w.heap.size, 0, none⟩ (.slice A4 (l.length - m) c4)).setCell ⟨w.heap.size + 1, 0, none⟩ (.slice A3 m c3)).alloc (.cells #[.int .i64 x.s, .int .i64 x.g, .int .u64 x.t] 27)).heap[w.heap.size + 1 + 1 + 1]? = some (.cells #[.slice none 0 0, .bool false, .int .i64 0, .int .i64 0, .int .u64 0] 29 (0, 0)) := blk_alloc (blk_set_ne (p := ⟨w.heap.size + 1, 0, none⟩) (blk_set_ne (p := ⟨w.heap.size, 0, none⟩) hV6 (by simp; omega)) (by simp; omega))
  have hX7 : (((w6.setCell ⟨w.heap.size, 0, none⟩ (.slice A4 (l.length - m) c4)).setCell ⟨w.heap.size + 1, 0, none⟩ (.slice A3 m c3)).alloc (.cells #[.int .i64 x.s, .int .i64 x.g, .int .u64 x.t] 27)).heap[w.heap.size + 1 + 1 + 1 + 1]? = some (.cells #[.int .i64 0, .int .i64 0, .int .u64 0] 27 (0, 0)) := blk_alloc (blk_set_ne (p := ⟨w.heap.size + 1, 0, none⟩) (blk_set_ne (p := ⟨w.heap.size, 0, none⟩) hX6 (by simp; omega)) (by simp; omega))
  have hZ7 : (((w6.setCell ⟨w.heap.size, 0, none⟩ (.slice A4 (l.length - m) c4)).setCell ⟨w.heap.size + 1, 0, none⟩ (.slice A3 m c3)).alloc (.cells #[.int .i64 x.s, .int .i64 x.g, .int .u64 x.t] 27)).heap[w6.heap.size]? = some (.cells #[.int .i64 x.s, .int .i64 x.g, .int .u64 x.t] 27 (0, 0)) := by simpa using blk_new ((w6.setCell ⟨w.heap.size, 0, none⟩ (.slice A4 (l.length - m) c4)).setCell ⟨w.heap.size + 1, 0, none⟩ (.slice A3 m c3)) (.cells #[.int .i64 x.s, .int .i64 x.g, .int .u64 x.t] 27)
  have hK7 : Keep (fun i => i = w.heap.size ∨ i = w.heap.size + 1) w6 (((w6.setCell ⟨w.heap.size, 0, none⟩ (.slice A4 (l.length - m) c4)).setCell ⟨w.heap.size + 1, 0, none⟩ (.slice A3 m c3)).alloc (.cells #[.int .i64 x.s, .int .i64 x.g, .int .u64 x.t] 27)) := (by repeat (first | (with_reducible exact Keep.refl _ _) | (with_reducible refine Keep.drewN ?_ _) | (with_reducible refine Keep.drew ?_) | (with_reducible refine Keep.setCell ?_ _ _ (by first | (right; with_reducible rfl) | (left; simp; done) | (left; simp; omega) | (right; simp; done) | (right; assumption))) | (with_reducible refine Keep.alloc ?_ _)))
  have hW7 : Below w.heap.size w (((w6.setCell ⟨w.heap.size, 0, none⟩ (.slice A4 (l.length - m) c4)).setCell ⟨w.heap.size + 1, 0, none⟩ (.slice A3 m c3)).alloc (.cells #[.int .i64 x.s, .int .i64 x.g, .int .u64 x.t] 27)) := below_then_keep hW6 hW6.size hK7 (fun i hi => by omega)
  have O6 := R_keepB HO6.out hK7 (fun i hi => by omega)
  have O7 := R_keepB HO7.out hK7 (fun i hi => by have := HS5.out; omega)
  rw [List.nil_append, HTK.out] at O6
  rw [List.nil_append, HDR.out] at O7
  have HO6 := Aside0.mk O6
  have HO7 := Aside0.mk O7
  have hzl : (((w6.setCell ⟨w.heap.size, 0, none⟩ (.slice A4 (l.length - m) c4)).setCell ⟨w.heap.size + 1, 0, none⟩ (.slice A3 m c3)).alloc (.cells #[.int .i64 x.s, .int .i64 x.g, .int .u64 x.t] 27)).heap.size = w6.heap.size + 1 := by simp
  have hs15 := HS5.out
  have hbb := HB.out
  have hmw : w.heap.size ≤ w1.heap.size := hW1.size
  clear hU6 hV6 hX6 hF6 hT6 hK7 hW6 O6 O7 k0 k1 k2 hab6 s0 s1 s2 s3 s4 f0 y0 y1 y2 y3 y4 e0 hFl hTl hc3 hc4 HC5 HB5 HB6 HC1' HC2' HF1 HT1 HU1 HV1 HX1 hcut1 hcut2 hab K0 K1 K2 HK2 hW1 hk hn0
  generalize (((w6.setCell ⟨w.heap.size, 0, none⟩ (.slice A4 (l.length - m) c4)).setCell ⟨w.heap.size + 1, 0, none⟩ (.slice A3 m c3)).alloc (.cells #[.int .i64 x.s, .int .i64 x.g, .int .u64 x.t] 27)) = W7 at *
  have lowU : w.heap.size ≤ w.heap.size + 1 + 1 := by omega
  have neUZ : ¬ w.heap.size + 1 + 1 = w6.heap.size := by omega
  have neZU : ¬ w6.heap.size = w.heap.size + 1 + 1 := by omega
  have neUX : ¬ w.heap.size + 1 + 1 = w.heap.size + 1 + 1 + 1 + 1 := by omega
  have neXU : ¬ w.heap.size + 1 + 1 + 1 + 1 = w.heap.size + 1 + 1 := by omega
  have neUV : ¬ w.heap.size + 1 + 1 = w.heap.size + 1 + 1 + 1 := by omega
  have neVU : ¬ w.heap.size + 1 + 1 + 1 = w.heap.size + 1 + 1 := by omega
  have neUT : ¬ w.heap.size + 1 + 1 = w.heap.size + 1 := by omega
  have neTU : ¬ w.heap.size + 1 = w.heap.size + 1 + 1 := by omega
  have lowV : w.heap.size ≤ w.heap.size + 1 + 1 + 1 := by omega
  have neVZ : ¬ w.heap.size + 1 + 1 + 1 = w6.heap.size := by omega
  have neZV : ¬ w6.heap.size = w.heap.size + 1 + 1 + 1 := by omega
  have neVX : ¬ w.heap.size + 1 + 1 + 1 = w.heap.size + 1 + 1 + 1 + 1 := by omega
  have neXV : ¬ w.heap.size + 1 + 1 + 1 + 1 = w.heap.size + 1 + 1 + 1 := by omega
  have neVT : ¬ w.heap.size + 1 + 1 + 1 = w.heap.size + 1 := by omega
  have neTV : ¬ w.heap.size + 1 = w.heap.size + 1 + 1 + 1 := by omega
  have lowX : w.heap.size ≤ w.heap.size + 1 + 1 + 1 + 1 := by omega
  have neXZ : ¬ w.heap.size + 1 + 1 + 1 + 1 = w6.heap.size := by omega
  have neZX : ¬ w6.heap.size = w.heap.size + 1 + 1 + 1 + 1 := by omega
  have neXT : ¬ w.heap.size + 1 + 1 + 1 + 1 = w.heap.size + 1 := by omega
  have neTX : ¬ w.heap.size + 1 = w.heap.size + 1 + 1 + 1 + 1 := by omega
  generalize w6.heap.size = Z at *
  generalize w.heap.size + 1 + 1 + 1 + 1 = X at *
  generalize w.heap.size + 1 + 1 + 1 = V at *
  generalize w.heap.size + 1 + 1 = U at *
  generalize w.heap.size + 1 = T at *
  obtain ⟨a0, a1, a2, a3, a4, -, -, -, -, -⟩ := blk5 hF7
  obtain ⟨b0, b1, b2, -, -, -⟩ := blk3 hZ7
  obtain ⟨y0, y1, y2, y3, y4, -, -, -, -, -⟩ := blk5 hT7
  obtain ⟨t0, t1, t2, t3, t4, g0, g1, g2, g3, g4⟩ := blk5 hU7
  obtain ⟨v0, v1, v2, v3, v4, j0, j1, j2, j3, j4⟩ := blk5 hV7
  obtain ⟨u0, u1, u2, h0, h1, h2⟩ := blk3 hX7
  have hFl := lt_blk hF7
  have hZl := lt_blk hZ7
  have hTl := lt_blk hT7
  have hUl := lt_blk hU7
  have hVl := lt_blk hV7
  have hXl := lt_blk hX7
  clear hF7 hZ7 hT7 hU7 hV7 hX7
  go_region
  go_wp2
  refine bodyPost_ret (v := .tuple #[.agg #[.slice A4 (l.length - m) c4, .bool rf.has, .int .i64 rf.nx.s, .int .i64 rf.nx.g, .int .u64 rf.nx.t], .agg #[.slice A3 m c3, .bool rt.has, .int .i64 rt.nx.s, .int .i64 rt.nx.g, .int .u64 rt.nx.t], (.agg #[.int .i64 x.s, .int .i64 x.g, .int .u64 x.t]), .int .i64 0]) (by simp [results, Try.results44, go_sem, t0, t1, t2, t3, t4, v0, v1, v2, v3, v4, u0, u1, u2, hUl, hVl, hXl]) rfl ⟨_, _, rfl, Kd.R_lower (Kd.R_mono (Kd.R_bound (R_keepB HO7.out (F := fun i => i = U ∨ i = V ∨ i = X) (by repeat (first | (with_reducible exact Keep.refl _ _) | (with_reducible refine Keep.drewN ?_ _) | (with_reducible refine Keep.drew ?_) | (with_reducible refine Keep.setCell ?_ _ _ (by first | (right; with_reducible rfl) | (left; simp; done) | (left; simp; omega) | (right; simp; done) | (right; assumption))) | (with_reducible refine Keep.alloc ?_ _))) (fun i hi => by omega))) (fun k hk => .inr (by have := hk.2.1; omega))) (by omega), Kd.R_lower (Kd.R_mono (Kd.R_bound (R_keepB HO6.out (F := fun i => i = U ∨ i = V ∨ i = X) (by repeat (first | (with_reducible exact Keep.refl _ _) | (with_reducible refine Keep.drewN ?_ _) | (with_reducible refine Keep.drew ?_) | (with_reducible refine Keep.setCell ?_ _ _ (by first | (right; with_reducible rfl) | (left; simp; done) | (left; simp; omega) | (right; simp; done) | (right; assumption))) | (with_reducible refine Keep.alloc ?_ _))) (fun i hi => by omega))) (fun k hk => .inr (by have := hk.2.1; omega))) (by omega), (by repeat (first | (with_reducible exact hW7) | (with_reducible refine Below.drew ?_) | (with_reducible refine below_drewN ?_ _) | (with_reducible refine below_al ?_ _) | (with_reducible refine Below.alloc ?_ (by first | exact Nat.le_refl _ | omega | (simp; done) | (simp; omega)) _) | (with_reducible refine Below.setCell ?_ (by first | (simp only []; omega) | (simp; done) | (simp; omega)) _)))⟩
theorem rsteal_any (A : Option Addr) (c : Nat) (A2 : Option Addr) (c2 : Nat) (rf rt : Rg) (base : Nat) (ok : Nat → Prop) (w : World) (hR : kW.R 27 w base ok (.slice A rf.l.length c) rf.l) (hR2 : kW.R 27 w base ok (.slice A2 rt.l.length c2) rt.l) (hb : base ≤ w.heap.size) (hl : rf.l.length ≤ 64) (hl2 : rt.l.length ≤ 64) :
    Calls Try.prog 44 #[.agg #[.slice A rf.l.length c, .bool rf.has, .int .i64 rf.nx.s, .int .i64 rf.nx.g, .int .u64 rf.nx.t], .agg #[.slice A2 rt.l.length c2, .bool rt.has, .int .i64 rt.nx.s, .int .i64 rt.nx.g, .int .u64 rt.nx.t]] w (StealP rf rt base ok w) := by
  by_cases h1 : lenR rt > 0
  · exact rsteal_busy A c A2 c2 rf rt base ok w hR hR2 hb hl hl2 h1
  · have hz : lenR rt = 0 := by have := lenR_nonneg rt; omega
    cases hl0 : rf.l with
    | nil =>
      have h := rsteal_none A c A2 c2 rf rt base ok w hR hR2 hb hl hl2 hz hl0
      rwa [hl0] at h
    | cons x l =>
      obtain ⟨m, hm⟩ : ∃ m, half (l.length + 1) = m + 1 := ⟨half (l.length + 1) - 1, by unfold half; omega⟩
      have hC := (Kd.R_reads' hR).2.2
      obtain ⟨ab, off, rfl, hab⟩ := C_form hC (by rw [hl0]; simp) (by decide)
      have h := rsteal_some ab off c A2 c2 rf rt base ok w hR hR2 hb hl hl2 x l m hz hl0 hm
      rwa [hl0] at h
end Go.Proofs.Ytjjdojnnomokaaa
