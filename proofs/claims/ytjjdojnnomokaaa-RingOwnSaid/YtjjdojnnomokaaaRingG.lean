import Derived.Test.YtjjdojnnomokaaaRingE
import Derived.Deep.LoopGhost
import Derived.Deep.RegionWith
import Derived.Deep.RegionLaw
set_option linter.unusedSimpArgs false
set_option linter.unusedVariables false
namespace Go.Proofs.Ytjjdojnnomokaaa
open Go.RowKit Go.Proofs.YtjjdojnnomokaaaW.PrintWords Go.Proofs.YtjjdojnnomokaaaW.PrintMore
/-! Drain, State. -/
def drainOut (r : Rg) : List Wt := if r.has then r.l ++ [r.nx] else r.l
def drainR (r : Rg) : Rg := if r.has then ⟨[], false, Wt.zero⟩ else ⟨[], r.has, r.nx⟩
theorem IsRing.at3 {w : World} {b : Nat} {has : Bool} {nx : Wt} (h : IsRing w b ⟨[], has, nx⟩) : w.cell? ⟨b, 193, none⟩ = some (.int .i64 0) := by
  obtain ⟨f, cs, h⟩ := h
  exact h.cells.2.1
set_option maxHeartbeats 4000000 in
theorem drain_any (b : Nat) (r : Rg) (w : World) (hR : IsRing w b r) :
    Calls Try.prog 25 #[.pointer (some ⟨b, 0, none⟩)] w fun e w' => ∃ v, e = .returned v ∧ Kd.R kW 27 w' w.heap.size (fun _ => True) v (drainOut r) ∧ IsRing w' b (drainR r) ∧ Keep (fun k => k = b) w w' := by
  have hbl := hR.lt
  have hlen := hR.len
  obtain ⟨l, has, nx⟩ := r
  simp only at hlen
  have HR := Aside0.mk hR
  clear hR
  obtain ⟨o', ho'⟩ : ∃ o', o' = drainOut ⟨l, has, nx⟩ := ⟨_, rfl⟩
  obtain ⟨r', hr'⟩ : ∃ r', r' = drainR ⟨l, has, nx⟩ := ⟨_, rfl⟩
  rw [← ho', ← hr']
  unfold drainOut at ho'
  unfold drainR at hr'
  have HO := Aside0.mk ho'
  have HQ := Aside0.mk hr'
  clear ho' hr'
  go_enter Try.func25, Try.ntmps25
  go_wp2
  go_loopg [3] l.length (fun g v wr => g ≤ l.length ∧ Aside0 (IsRing wr b ⟨l.drop (l.length - g), has, nx⟩) ∧ Aside0 (Keep (fun k => k = b) w wr) ∧ Aside0 (Kd.R kW 27 wr w.heap.size (fun _ => True) v (l.take (l.length - g))))
  case atStart => exact ⟨Nat.le_refl _, ⟨by rw [Nat.sub_self]; exact HR.out⟩, ⟨Keep.refl _ _⟩, ⟨by rw [Nat.sub_self]; exact Kd.R_nil _ _ _ _ _⟩⟩
  case round =>
    obtain ⟨hg, HI0, HK, HV0⟩ := hrel
    have hbw := HI0.out.lt
    have hsz := HK.out.size
    obtain ⟨f, cs, hF⟩ := id HI0.out
    obtain ⟨-, k1, k2, k3, k4, k5⟩ := hF.cells
    simp only [List.length_drop] at k1
    by_cases hlt : 0 < gk
    · obtain ⟨m, hm⟩ : ∃ m, l.length - gk = m := ⟨_, rfl⟩
      obtain ⟨y, hy⟩ : ∃ y, l[m]? = some y := ⟨_, List.getElem?_eq_getElem (by omega)⟩
      have hpop := (pop_any b ⟨l.drop m, has, nx⟩ y (l.drop (m + 1)) wr (by rw [← hm]; exact HI0.out) (drop_cons hy))
      have hgg : l.length - (l.length - gk) = gk := by omega
      rw [hgg] at k1
      have HT := Aside0.mk (take_snoc hy)
      have HV := HV0
      rw [hm] at HV
      have htl : (l.take m).length ≤ 64 := by rw [List.length_take]; omega
      have hd : decide ((gk : Int) > 0) = true := by simp; omega
      have hd' : decide (0 < gk) = true := by simp; omega
      have hmm : Aside0 (l.length - (gk - 1) = m + 1) := ⟨by omega⟩
      generalize l.take m = acc at *
      clear hy hF k2 k3 k4 k5 hgg hm
      go_wp2_with fail
      refine hpop.mono ?_
      clear hpop
      rintro e w1 ⟨rfl, hI1, hK1⟩
      have HI1 := Aside0.mk hI1
      have HV1 := Aside0.mk (R_keepB HV.out hK1 (fun i hi => by subst hi; exact hbl))
      have HK1 := Aside0.mk (HK.out.trans hK1)
      have hsz := HK1.out.size
      clear hI1 hK1 HI0 HV0 HV HK k1
      go_wp2_with (first | ((with_reducible refine gate_builtin (b := .append) (xs := #[.tmp 11, .tmp 14]) rfl ?_); at_builtin; refine Kd.R_append kW (w0 := w1) w.heap.size rfl (.tmp 11) (.tmp 14) 22 27 (.agg #[.int .i64 0, .int .i64 0, .int .u64 0]) 24 rfl Try.underlying22 infoW rfl (by decide) (by omega) u3 acc y [.int .i64 y.s, .int .i64 y.g, .int .u64 y.t] (fun _ => True) (fun _ => False) rfl ?aX ?aM (fun _ h => h.elim) ?aF ?aO ?aB ?aS ?aL ?_; (case aX => first | rfl | exact congrArg (fun n => Value.slice (some ⟨n, 0, none⟩) 1 1) (by simp)); (case aM => exact kW_mkM _ _ _ _); (case aF => exact fun _ _ => trivial); (case aO => exact HV1.out); (case aB => exact Below.refl _ _); (case aS => first | assumption | omega); (case aL => first | omega | (simp; omega)); intro v1 w5 ho5 hb5 hg hat))
      go_roundg (gk - 1)
      case measure => omega
      case rel => exact ⟨by omega, ⟨by rw [hmm.out]; exact HI1.out.base hb5 hbl⟩, ⟨HK1.out.thenB hb5⟩, ⟨by rw [hmm.out, HT.out]; exact ho5⟩⟩
    · obtain rfl : gk = 0 := by omega
      rw [Nat.sub_zero, Nat.sub_self] at k1
      have hI := HI0.out
      have hv := HV0.out
      rw [Nat.sub_zero, List.drop_length] at hI
      rw [Nat.sub_zero, List.take_length] at hv
      rw [Nat.sub_zero, List.drop_length] at hF
      have HI := Aside0.mk hI
      have HV := Aside0.mk hv
      have f2 := hF.frozen 194
      have f3 := hF.frozen 195
      have f4 := hF.frozen 196
      have f5 := hF.frozen 197
      have HB := Aside0.mk hF.blk
      have HC := Aside0.mk hF.cs.unnexted
      clear hI hv hF hlt hg HI0 HV0
      clear k1
      cases has with
      | false =>
        have h1 := HO.out
        have h2 := HQ.out
        simp only [Bool.false_eq_true, if_false] at h1 h2
        subst o' r'
        clear HO HQ
        have hd : decide ((0 : Int) > 0) = false := by decide
        have k1 := HI.out.at3
        go_wp2
        go_ret
        exact ⟨_, rfl, HV.out, HI.out, HK.out⟩
      | true =>
        have h1 := HO.out
        have h2 := HQ.out
        simp only [if_true] at h1 h2
        subst o' r'
        clear HO HQ
        have k1 := HI.out.at3
        go_wp2_with (first | ((with_reducible refine gate_builtin (b := .append) (xs := #[.tmp 20, .tmp 25]) rfl ?_); at_builtin; refine Kd.R_append kW (w0 := wr) w.heap.size rfl (.tmp 20) (.tmp 25) 22 27 (.agg #[.int .i64 0, .int .i64 0, .int .u64 0]) 24 rfl Try.underlying22 infoW rfl (by decide) (by omega) u3 l nx [.int .i64 nx.s, .int .i64 nx.g, .int .u64 nx.t] (fun _ => True) (fun _ => False) rfl ?aX ?aM (fun _ h => h.elim) ?aF ?aO ?aB ?aS ?aL ?_; (case aX => first | rfl | exact congrArg (fun n => Value.slice (some ⟨n, 0, none⟩) 1 1) (by simp)); (case aM => exact kW_mkM _ _ _ _); (case aF => exact fun _ _ => trivial); (case aO => exact HV.out); (case aB => exact Below.refl _ _); (case aS => first | assumption | omega); (case aL => first | omega | (simp; omega)); intro v1 w5 ho5 hb5 hg hat; have hI5 := HI.out.base hb5 hbl; obtain ⟨f, cs, hF⟩ := id hI5; obtain ⟨-, k1, k2, k3, k4, k5⟩ := hF.cells; have f2 := hF.frozen 194; have f3 := hF.frozen 195; have f4 := hF.frozen 196; have f5 := hF.frozen 197; have hb5' := lt_blk hF.blk; have HB := Aside0.mk hF.blk; have HC := Aside0.mk hF.cs.unnexted; have HK5 := Aside0.mk (HK.out.thenB hb5); have HV5 := Aside0.mk ho5; clear hF hI5 hb5 ho5 hg hat))
        go_ret
        exact ⟨_, rfl, R_keepB HV5.out (F := fun k => k = b) (by repeat (first | (with_reducible exact Keep.refl _ _) | (with_reducible refine Keep.drewN ?_ _) | (with_reducible refine Keep.drew ?_) | (with_reducible refine Keep.setCell ?_ _ _ (by first | (right; with_reducible rfl) | (left; simp; done) | (left; simp; omega) | (right; simp; done) | (right; assumption))) | (with_reducible refine Keep.alloc ?_ _))) (fun i hi => by subst hi; exact hbl), ⟨f, _, ⟨by repeat (first | (with_reducible exact HB.out) | (with_reducible refine blk_set ?_) | (with_reducible refine blk_set_ne ?_ (by first | assumption | (with_reducible rfl) | (simp; done) | (simp; omega) | omega)) | (with_reducible refine blk_drewN ?_ _) | (with_reducible refine blk_drew ?_) | (with_reducible refine blk_alloc ?_)), HC.out⟩⟩, (by repeat (first | (with_reducible exact HK5.out) | (with_reducible refine Keep.drewN ?_ _) | (with_reducible refine Keep.drew ?_) | (with_reducible refine Keep.setCell ?_ _ _ (by first | (right; with_reducible rfl) | (left; simp; done) | (left; simp; omega) | (right; simp; done) | (right; assumption))) | (with_reducible refine Keep.alloc ?_ _)))⟩
end Go.Proofs.Ytjjdojnnomokaaa
