import Derived.Test.YtjjdojnnomokaaaRingG
import Derived.Deep.RegionLaw
import Derived.Test.YtjjdojnnomokaaaWLast
set_option linter.unusedSimpArgs false
set_option linter.unusedVariables false
namespace Go.Proofs.Ytjjdojnnomokaaa
open Go.RowKit Go.Proofs.YtjjdojnnomokaaaW.PrintWords Go.Proofs.YtjjdojnnomokaaaW.PrintMore Go.Proofs.YtjjdojnnomokaaaW.PrintLast
/-! State. -/
theorem blk5 {W : World} {R t : Nat} {a0 a1 a2 a3 a4 : Value} (h : W.heap[R]? = some (.cells #[a0, a1, a2, a3, a4] t (0, 0))) : W.cell? ⟨R, 0, none⟩ = some a0 ∧ W.cell? ⟨R, 1, none⟩ = some a1 ∧ W.cell? ⟨R, 2, none⟩ = some a2 ∧ W.cell? ⟨R, 3, none⟩ = some a3 ∧ W.cell? ⟨R, 4, none⟩ = some a4 ∧ W.frozen? ⟨R, 0, none⟩ = false ∧ W.frozen? ⟨R, 1, none⟩ = false ∧ W.frozen? ⟨R, 2, none⟩ = false ∧ W.frozen? ⟨R, 3, none⟩ = false ∧ W.frozen? ⟨R, 4, none⟩ = false :=
  ⟨cell_blk h 0, cell_blk h 1, cell_blk h 2, cell_blk h 3, cell_blk h 4, frozen_blk h 0, frozen_blk h 1, frozen_blk h 2, frozen_blk h 3, frozen_blk h 4⟩
set_option maxHeartbeats 4000000 in
theorem state_any (b : Nat) (r : Rg) (w : World) (hR : IsRing w b r) :
    Calls Try.prog 20 #[.pointer (some ⟨b, 0, none⟩)] w fun e w' => ∃ v, e = .returned (.agg #[v, .bool r.has, .int .i64 r.nx.s, .int .i64 r.nx.g, .int .u64 r.nx.t]) ∧ Kd.R kW 27 w' w.heap.size (fun _ => True) v r.l ∧ Below w.heap.size w w' := by
  have hbl := hR.lt
  have hlen := hR.len
  obtain ⟨l, has, nx⟩ := r
  simp only at hlen
  have hW : Below w.heap.size w (w.alloc (.cells #[.slice none 0 0, .bool false, .int .i64 0, .int .i64 0, .int .u64 0] 29)) := below_al (Below.refl _ _) _
  have hRR : (w.alloc (.cells #[.slice none 0 0, .bool false, .int .i64 0, .int .i64 0, .int .u64 0] 29)).heap[w.heap.size]? = some (.cells #[.slice none 0 0, .bool false, .int .i64 0, .int .i64 0, .int .u64 0] 29 (0, 0)) := blk_new _ _
  have hF := hR.below hW
  have HF := Aside0.mk hF
  obtain ⟨f, cs, h⟩ := id hF
  obtain ⟨-, k1, k2, k3, k4, k5⟩ := h.cells
  have hbW := hF.lt
  simp only at k1 k2 k3 k4 k5
  clear h hF hR
  go_enter Try.func20, Try.ntmps20
  go_wp2_with fail
  have hRW := lt_blk hRR
  generalize w.alloc (.cells #[.slice none 0 0, .bool false, .int .i64 0, .int .i64 0, .int .u64 0] 29) = W at *
  go_region
  go_wp2
  go_loopw [21] (fun i wr => ∃ (k : Nat) (A : Option Addr) (c : Nat), k ≤ l.length ∧ i = .int .i64 k ∧ Aside0 (Below W.heap.size W wr) ∧ Aside0 (wr.heap[W.heap.size]? = some (.cells #[.slice A k c, .bool has, .int .i64 nx.s, .int .i64 nx.g, .int .u64 nx.t] 29 (0, 0))) ∧ Aside0 (Kd.R kW 27 wr W.heap.size (fun _ => True) (.slice A k c) (l.take k))) (fun i _ => l.length - (intOf i).toNat)
  case atStart => exact ⟨0, none, 0, by omega, rfl, ⟨(by repeat (first | (with_reducible exact Below.refl _ _) | (with_reducible refine Below.drew ?_) | (with_reducible refine below_drewN ?_ _) | (with_reducible refine below_al ?_ _) | (with_reducible refine Below.alloc ?_ (by first | exact Nat.le_refl _ | omega | (simp; done) | (simp; omega)) _) | (with_reducible refine Below.setCell ?_ (by first | (simp only []; omega) | (simp; done) | (simp; omega)) _)))⟩, ⟨blk_new _ _⟩, ⟨Kd.R_nil _ _ _ _ _⟩⟩
  case round =>
    obtain ⟨k, A, c, hk, rfl, HB, HG, HV⟩ := hrel
    have hGl := lt_blk HG.out
    have g0 := cell_blk HG.out 0
    have f0 := frozen_blk HG.out 0
    simp at g0
    by_cases hlt : k < l.length
    · obtain ⟨y, hy⟩ : ∃ y, l[k]? = some y := ⟨_, List.getElem?_eq_getElem hlt⟩
      have HT := Aside0.mk (take_snoc hy)
      have HY := Aside0.mk hy
      have HI := Aside0.mk (HF.out.below HB.out)
      have htl : (l.take k).length = k := by rw [List.length_take]; omega
      have HTL := Aside0.mk htl
      have hk64 : k ≤ 64 := by omega
      have hsz := HB.out.size
      clear hy htl
      generalize l.take k = acc at *
      go_wp2
      go_region_law (first | (refine goes_ (f := 39) Try.func39 (by kernel_rfl) rfl #[.pointer (some ⟨b, 0, none⟩), .int .i64 k] (by rfl) rfl rfl (by simp only [List.map_toArray, List.map_cons, List.map_nil]; rfl) ?_; refine (at_any b ⟨l, has, nx⟩ k y _ (HI.out.below (Below.refl _ _).drew) HY.out).mono ?_; rintro e w1 ⟨rfl, hBx⟩; refine ⟨_, rfl, ?_⟩; have hB1 : Below wr.heap.size wr w1 := below_then (Below.refl _ _).drew hBx; have hG1 := blk_below HG.out hB1; have g1 : w1.cell? ⟨W.heap.size, 0, none⟩ = some (.slice A k c) := cell_blk hG1 0; have hG1l := lt_blk hG1; clear hBx) | ((refine Kd.R_append_step kW (w0 := wr) W.heap.size (by rfl) (.tmp 25) (.tmp 29) 22 27 (.agg #[.int .i64 0, .int .i64 0, .int .u64 0]) 24 rfl Try.underlying22 infoW rfl (by decide) (by omega) (.slice A k c) acc y [.int .i64 y.s, .int .i64 y.g, .int .u64 y.t] (fun _ => True) (fun _ => False) rfl rfl (kW_mkM _ _ _ _) (fun _ h => h.elim) (fun _ _ => trivial) (Kd.R_below HV.out hB1) (hB1.mono hsz) (Nat.le_trans hsz hB1.size) (by rw [HTL.out]; omega) ?_); intro v1 w5 ho5 hb5 hg hat; have hG5 := blk_grown hG1 hg (Kd.R_ne (Kd.R_below HV.out hB1) hG1 (by decide)); have hk5 := hg.size; have hf5 := frozen_blk hG5 0; have g5 : w5.cell? ⟨W.heap.size, 0, none⟩ = some (.slice A k c) := cell_blk hG5 0; obtain ⟨A1, c1, he1⟩ := Kd.R_slice ho5; rw [List.length_append, HTL.out] at he1; have he2 : v1 = .slice A1 (k + 1) c1 := he1; clear he1; subst he2))
      all_goals
        have HV5 : Aside0 (Kd.R kW 27 w5 W.heap.size (fun _ => True) (.slice A1 (k + 1) c1) (l.take (k + 1))) := ⟨by rw [HT.out]; exact ho5⟩
        have HB5 := Aside0.mk (HB.out.trans hb5)
        have HG5 := Aside0.mk hG5
        have hne := Kd.R_ne HV5.out hG5 (by decide)
        go_wp2
        go_roundw
        case rel => exact ⟨k + 1, A1, c1, by omega, by go_num, ⟨(by repeat (first | (with_reducible exact HB5.out) | (with_reducible refine Below.drew ?_) | (with_reducible refine below_drewN ?_ _) | (with_reducible refine below_al ?_ _) | (with_reducible refine Below.alloc ?_ (by first | exact Nat.le_refl _ | omega | (simp; done) | (simp; omega)) _) | (with_reducible refine Below.setCell ?_ (by first | (simp only []; omega) | (simp; done) | (simp; omega)) _)))⟩, ⟨blk_set HG5.out⟩, ⟨Kd.R_mono (Kd.R_far (p := ⟨W.heap.size, 0, none⟩) (Kd.R_types HV5.out HG5.out (by decide)) (fun _ hk => hk.2) _) (fun _ _ => trivial)⟩⟩
        case measure => simp [intOf]; omega
    · obtain rfl : k = l.length := by omega
      have hv := HV.out
      rw [List.take_length] at hv
      have HV2 := Aside0.mk hv
      obtain ⟨g0, g1, g2, g3, g4, -⟩ := blk5 HG.out
      have hR2 := blk_below hRR HB.out
      obtain ⟨r0, r1, r2, r3, r4, q0, q1, q2, q3, q4⟩ := blk5 hR2
      have hR2l := lt_blk hR2
      have hne : W.heap.size ≠ w.heap.size := by omega
      have HR2 := Aside0.mk hR2
      clear hv hR2 HV
      go_wp2
      exact bodyPost_ret (v := .agg #[.slice A l.length c, .bool has, .int .i64 nx.s, .int .i64 nx.g, .int .u64 nx.t]) (by simp [results, Try.results20, go_sem, r0, r1, r2, r3, r4]) rfl ⟨_, rfl, Kd.R_lower (R_keepB HV2.out (F := fun i => i = w.heap.size) (by repeat (first | (with_reducible exact Keep.refl _ _) | (with_reducible refine Keep.drewN ?_ _) | (with_reducible refine Keep.drew ?_) | (with_reducible refine Keep.setCell ?_ _ _ (by first | (right; with_reducible rfl) | (left; simp; done) | (left; simp; omega) | (right; simp; done) | (right; assumption))) | (with_reducible refine Keep.alloc ?_ _))) (fun i hi => by subst hi; exact hRW)) hW.size, (by repeat (first | (with_reducible exact hW.trans (HB.out.mono hW.size)) | (with_reducible refine Below.drew ?_) | (with_reducible refine below_drewN ?_ _) | (with_reducible refine below_al ?_ _) | (with_reducible refine Below.alloc ?_ (by first | exact Nat.le_refl _ | omega | (simp; done) | (simp; omega)) _) | (with_reducible refine Below.setCell ?_ (by first | (simp only []; omega) | (simp; done) | (simp; omega)) _)))⟩
end Go.Proofs.Ytjjdojnnomokaaa
