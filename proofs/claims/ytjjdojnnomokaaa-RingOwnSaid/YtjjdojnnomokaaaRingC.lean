import Derived.Test.YtjjdojnnomokaaaRingB
import Derived.Test.YtjjdojnnomokaaaWMore
set_option linter.unusedSimpArgs false
set_option linter.unusedVariables false
namespace Go.Proofs.Ytjjdojnnomokaaa
open Go.RowKit Go.Proofs.YtjjdojnnomokaaaW.PrintWords Go.Proofs.YtjjdojnnomokaaaW.PrintMore
/-! push, New, Len, Kick, Take, Put, Ready, Drain. -/
def kW : Kd Wt := Kd.iso (Kd.pair (Kd.pair (Kd.int .i64) (Kd.int .i64)) (Kd.int .u64)) (fun x : Wt => ((x.s, x.g), x.t))
theorem kW_open {w : World} {x : Wt} {cs : List Value} (h : kW.K w x cs) : cs = [.int .i64 x.s, .int .i64 x.g, .int .u64 x.t] := by
  obtain ⟨_, _, rfl, ⟨_, _, rfl, rfl, rfl⟩, rfl⟩ := h
  rfl
theorem kW_mkM (w : World) (base : Nat) (ok : Nat → Prop) (x : Wt) : kW.M w base ok x [.int .i64 x.s, .int .i64 x.g, .int .u64 x.t] := ⟨[.int .i64 x.s, .int .i64 x.g], [.int .u64 x.t], rfl, ⟨[.int .i64 x.s], [.int .i64 x.g], rfl, rfl, rfl⟩, rfl⟩
theorem infoW : (Try.prog.info? 27).map (fun i => (i.zero, i.size, i.bytes)) = some (some (.agg #[.int .i64 0, .int .i64 0, .int .u64 0]), 3, 24) := by kernel_rfl
theorem R_keepB {α : Type} {d : Kd α} {e : Nat} {w w1 : World} {base : Nat} {ok : Nat → Prop} {v : Value} {xs : List α} {F : Nat → Prop} (h : d.R e w base ok v xs) (k : Keep F w w1) (hF : ∀ i, F i → i < base) : d.R e w1 base ok v xs :=
  Kd.R_mono (Kd.R_step (Kd.R_bound h) (fun i ho hlt => k.block i hlt (fun f => by have := hF i f; have := ho.2.1; omega))) (fun _ h => h.1)
theorem Keep.thenB {F : Nat → Prop} {w W w1 : World} (h : Keep F w W) (k : Below w.heap.size W w1) : Keep F w w1 :=
  ⟨k.os.trans h.os, k.tape.trans h.tape, k.output.trans h.output, Nat.le_trans h.size k.size, fun i hi hf => (k.block i hi).trans (h.block i hi hf)⟩
theorem IsRing.base {W w1 : World} {b base : Nat} {r : Rg} (h : IsRing W b r) (k : Below base W w1) (hb : b < base) : IsRing w1 b r := by
  obtain ⟨f, cs, h⟩ := h
  exact ⟨f, cs, ⟨(k.block b hb).trans h.blk, h.cs⟩⟩
theorem take_snoc {l : List Wt} {k : Nat} {x : Wt} (h : l[k]? = some x) : l.take (k + 1) = l.take k ++ [x] := by
  rw [List.take_add_one, h]; rfl
theorem drop_cons {l : List Wt} {k : Nat} {x : Wt} (h : l[k]? = some x) : l.drop k = x :: l.drop (k + 1) := by
  obtain ⟨hk, rfl⟩ := List.getElem?_eq_some_iff.1 h
  exact List.drop_eq_getElem_cons hk
/-- Those that leave where one more is put; the ring behind it. -/
def pushOut (l : List Wt) (x : Wt) : List Wt := if l.length < 64 then [] else l.take 32 ++ [x]
def pushL (l : List Wt) (x : Wt) : List Wt := if l.length < 64 then l ++ [x] else l.drop 32
set_option maxHeartbeats 4000000 in
theorem push_any (b : Nat) (r : Rg) (x : Wt) (w : World) (hR : IsRing w b r) :
    Calls Try.prog 37 #[.pointer (some ⟨b, 0, none⟩), (.agg #[.int .i64 x.s, .int .i64 x.g, .int .u64 x.t])] w fun e w' => ∃ v, e = .returned v ∧ Kd.R kW 27 w' w.heap.size (fun _ => True) v (pushOut r.l x) ∧ IsRing w' b { r with l := pushL r.l x } ∧ Keep (fun k => k = b) w w' := by
  have hW : Below w.heap.size w (w.alloc (.cells #[.int .i64 x.s, .int .i64 x.g, .int .u64 x.t] 27)) := below_al (Below.refl _ _) _
  have hRR : (w.alloc (.cells #[.int .i64 x.s, .int .i64 x.g, .int .u64 x.t] 27)).heap[w.heap.size]? = some (.cells #[.int .i64 x.s, .int .i64 x.g, .int .u64 x.t] 27 (0, 0)) := blk_new _ _
  have hbl := hR.lt
  by_cases hl : r.l.length < 64
  · obtain ⟨f, cs, h⟩ := hR
    have hf := h.cs.flt
    have hF := h.below hW
    obtain ⟨k0, k1, -, -, -, -⟩ := hF.cells
    have e3 := pl_lt f r.l.length
    obtain ⟨o0, p0⟩ := hF.any (i := pl f r.l.length * 3) (by omega)
    obtain ⟨o1, p1⟩ := hF.any (i := pl f r.l.length * 3 + 1) (by omega)
    obtain ⟨o2, p2⟩ := hF.any (i := pl f r.l.length * 3 + 2) (by omega)
    have f0 := hF.frozen (pl f r.l.length * 3)
    have f1 := hF.frozen (pl f r.l.length * 3 + 1)
    have f2 := hF.frozen (pl f r.l.length * 3 + 2)
    have f3 := hF.frozen 193
    have hP := Aside0.mk (hF.cs.pushed x hl)
    have hB := Aside0.mk hF.blk
    have e1 : IntKind.i64.wrap ((f : Int) + (r.l.length : Int)) = (f : Int) + (r.l.length : Int) := IntWalk.i64_in _ (by omega)
    have e2 := pl_tmod f r.l.length
    have e4 : ((pl f r.l.length : Nat) : Int) < 64 := by omega
    have e5 : pl f r.l.length * 3 + 2 < 192 := by omega
    have hpl : pushL r.l x = r.l ++ [x] := by rw [pushL, if_pos hl]
    have hpo : pushOut r.l x = [] := by rw [pushOut, if_pos hl]
    rw [hpl, hpo]
    have hlc : decide ((r.l.length : Int) < 64) = true := by simp; omega
    unfold put3 at hP
    obtain ⟨n, hn⟩ : ∃ n, n = r.l.length := ⟨_, rfl⟩
    rw [← hn] at *
    have HN := Aside0.mk hn
    clear hn
    generalize pl f n = q at *
    clear h hF hpl hpo
    go_enter Try.func37, Try.ntmps37
    go_wp2_with fail
    obtain ⟨r0, r1, r2, g0, g1, g2⟩ := blk3 hRR
    have hRW := lt_blk hRR
    have hbW := lt_blk hB.out
    generalize w.alloc (.cells #[.int .i64 x.s, .int .i64 x.g, .int .u64 x.t] 27) = W at *
    go_still_tail 15, (by kernel_rfl)
    go_wp2
    go_ret
    refine ⟨_, rfl, Kd.R_nil _ _ _ _ _, ⟨f, _, ⟨?_, hP.out⟩⟩, (by repeat (first | (with_reducible exact Keep.of_below hW) | (with_reducible refine Keep.drewN ?_ _) | (with_reducible refine Keep.drew ?_) | (with_reducible refine Keep.setCell ?_ _ _ (by first | (right; with_reducible rfl) | (left; simp; done) | (left; simp; omega) | (right; simp; done) | (right; assumption))) | (with_reducible refine Keep.alloc ?_ _)))⟩
    repeat (first | (with_reducible exact hB.out) | (with_reducible refine blk_set ?_) | (with_reducible refine blk_set_ne ?_ (by first | assumption | (with_reducible rfl) | (simp; done) | (simp; omega) | omega)) | (with_reducible refine blk_drewN ?_ _) | (with_reducible refine blk_drew ?_) | (with_reducible refine blk_alloc ?_))
  · have hll : r.l.length = 64 := by have := hR.len; omega
    have hpl : pushL r.l x = r.l.drop 32 := by rw [pushL, if_neg hl]
    have hpo : pushOut r.l x = r.l.take 32 ++ [x] := by rw [pushOut, if_neg hl]
    rw [hpl, hpo]
    have HLL := Aside0.mk hll
    have hF := hR.below hW
    obtain ⟨f, cs, h⟩ := id hF
    obtain ⟨-, k1, -, -, -, -⟩ := h.cells
    rw [hll] at k1
    have HF := Aside0.mk hF
    clear hl hll hpl hpo h hR hF
    go_enter Try.func37, Try.ntmps37
    go_wp2_with fail
    have hRW := lt_blk hRR
    have hbW := HF.out.lt
    generalize w.alloc (.cells #[.int .i64 x.s, .int .i64 x.g, .int .u64 x.t] 27) = W at *
    go_loopw [5, 33] (fun v i wr => ∃ k : Nat, k ≤ 32 ∧ i = .int .i64 k ∧ Aside0 (IsRing wr b { r with l := r.l.drop k }) ∧ Aside0 (Keep (fun k => k = b) W wr) ∧ Aside0 (Kd.R kW 27 wr W.heap.size (fun _ => True) v (r.l.take k))) (fun _ i _ => 32 - (intOf i).toNat)
    case atStart => exact ⟨0, by omega, rfl, HF, ⟨Keep.refl _ _⟩, ⟨Kd.R_nil _ _ _ _ _⟩⟩
    case round =>
      obtain ⟨k, hk, rfl, HI, HK, HR⟩ := hrel
      by_cases hlt : k < 32
      · obtain ⟨y, hy⟩ : ∃ y, r.l[k]? = some y := ⟨_, List.getElem?_eq_getElem (by rw [HLL.out]; omega)⟩
        have HY := Aside0.mk hy
        have hpop := (pop_any b { r with l := r.l.drop k } y (r.l.drop (k + 1)) wr HI.out (drop_cons hy))
        have HT := Aside0.mk (take_snoc hy)
        have htl : (r.l.take k).length ≤ 64 := by rw [List.length_take]; omega
        generalize r.l.take k = acc at *
        clear hy
        go_wp2_with fail
        refine hpop.mono ?_
        clear hpop
        rintro e w1 ⟨rfl, hI1, hK1⟩
        have HI1 := Aside0.mk hI1
        have HR1 := Aside0.mk (R_keepB HR.out hK1 (fun i hi => by subst hi; exact hbW))
        have HK1 := Aside0.mk (HK.out.trans hK1)
        have hsz := HK1.out.size
        clear hI1 hK1 HI HR HK
        go_wp2_with (first | ((with_reducible refine gate_builtin (b := .append) (xs := #[.tmp 35, .tmp 38]) rfl ?_); at_builtin; refine Kd.R_append kW (w0 := w1) W.heap.size rfl (.tmp 35) (.tmp 38) 22 27 (.agg #[.int .i64 0, .int .i64 0, .int .u64 0]) 24 rfl Try.underlying22 infoW rfl (by decide) (by omega) u5 acc y [.int .i64 y.s, .int .i64 y.g, .int .u64 y.t] (fun _ => True) (fun _ => False) rfl ?aX ?aM (fun _ h => h.elim) ?aF ?aO ?aB ?aS ?aL ?_; (case aX => first | rfl | exact congrArg (fun n => Value.slice (some ⟨n, 0, none⟩) 1 1) (by simp)); (case aM => exact kW_mkM _ _ _ _); (case aF => exact fun _ _ => trivial); (case aO => exact HR1.out); (case aB => exact Below.refl _ _); (case aS => first | assumption | omega); (case aL => first | omega | (simp; omega)); intro v1 w5 ho5 hb5 hg hat))
        go_roundw
        case rel => exact ⟨k + 1, by omega, by go_num, ⟨HI1.out.base hb5 hbW⟩, ⟨HK1.out.thenB hb5⟩, ⟨by rw [HT.out]; exact ho5⟩⟩
        case measure => simp [intOf]; omega
      · obtain rfl : k = 32 := by omega
        have hbox := blk_keep hRR HK.out (by omega)
        obtain ⟨r0, r1, r2, -, -, -⟩ := blk3 hbox
        have hsz := HK.out.size
        have htl : (r.l.take 32).length ≤ 64 := by rw [List.length_take]; omega
        have hlb := lt_blk hbox
        obtain ⟨acc, hacc⟩ : ∃ acc, acc = r.l.take 32 := ⟨_, rfl⟩
        rw [← hacc] at HR htl
        have HA := Aside0.mk hacc
        clear hacc
        go_wp2_with (first | ((with_reducible refine gate_builtin (b := .append) (xs := #[.tmp 41, .tmp 43]) rfl ?_); at_builtin; refine Kd.R_append kW (w0 := wr) W.heap.size rfl (.tmp 41) (.tmp 43) 22 27 (.agg #[.int .i64 0, .int .i64 0, .int .u64 0]) 24 rfl Try.underlying22 infoW rfl (by decide) (by omega) u5 acc x [.int .i64 x.s, .int .i64 x.g, .int .u64 x.t] (fun _ => True) (fun _ => False) rfl ?aX ?aM (fun _ h => h.elim) ?aF ?aO ?aB ?aS ?aL ?_; (case aX => first | rfl | exact congrArg (fun n => Value.slice (some ⟨n, 0, none⟩) 1 1) (by simp)); (case aM => exact kW_mkM _ _ _ _); (case aF => exact fun _ _ => trivial); (case aO => exact HR.out); (case aB => exact Below.refl _ _); (case aS => first | assumption | omega); (case aL => first | omega | (simp; omega)); intro v1 w5 ho5 hb5 hg hat))
        go_ret
        exact ⟨v1, rfl, by rw [← HA.out]; exact Kd.R_lower ho5 hW.size, HI.out.base hb5 hbW, (Keep.of_below hW).trans' (HK.out.thenB hb5) (fun _ _ h => h)⟩
end Go.Proofs.Ytjjdojnnomokaaa
