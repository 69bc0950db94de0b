import Derived.Test.YtikoonomhojlkaaFqL
import Derived.Test.YtikoonomhojlkaaOpen
import Derived.Test.YtikoonomhojlkaaFqY
set_option linter.unusedSimpArgs false
set_option linter.unusedVariables false
namespace Go.Proofs.Ytikoonomhojlkaa
open Go.RowKit Go.ChangeShapes Go.WideShapes Go.ChangeAt Go.Proofs.YtikoonomhojlkaaW.PrintWords Go.Proofs.YtikoonomhojlkaaW.PrintMore Go.Proofs.YtikoonomhojlkaaW.PrintLast
/-! Those that wait, as data. -/
theorem opensG : Op.Opens Try.prog PFifoLoads.k29 29 (fun _ => True) (fun _ => 1) :=
  Op.opens_mono (Op.opens_struct Try.underlying29 (by kernel_rfl) (Op.opens_isoF (Op.opensF_cons rfl (by kernel_rfl) (by decide) (Op.opens_int Try.underlying3) (Op.opensF_last rfl (by kernel_rfl) (Op.opens_int Try.underlying3))) _ (fun t : Int × Int => (⟨t.1, t.2⟩ : PFifoLoads.S29)) (fun _ => rfl))) (fun _ _ => trivial) (fun _ => by simp)
theorem opensW : Op.Opens Try.prog kW 32 (fun _ => True) (fun _ => 1) :=
  Op.opens_mono (Op.opens_struct Try.underlying32 (by kernel_rfl) (Op.opens_isoF (Op.opensF_cons rfl (by kernel_rfl) (by decide) opensG (Op.opensF_last rfl (by kernel_rfl) (Op.opens_int Try.underlying30))) _ (fun t : PFifoLoads.S29 × Int => (⟨t.1, t.2⟩ : Wt)) (fun _ => rfl))) (fun _ _ => trivial) (fun _ => by simp)
end Go.Proofs.Ytikoonomhojlkaa
set_option linter.unusedSimpArgs false
set_option linter.unusedVariables false
namespace Go.Proofs.Ytikoonomhojlkaa
open Go.RowKit Go.ChangeShapes Go.WideShapes Go.ChangeAt Go.Proofs.YtikoonomhojlkaaW.PrintWords Go.Proofs.YtikoonomhojlkaaW.PrintMore Go.Proofs.YtikoonomhojlkaaW.PrintLast
/-! Acts as data; the queue and the list from round to round. -/
end Go.Proofs.Ytikoonomhojlkaa
set_option linter.unusedSimpArgs false
set_option linter.unusedVariables false
namespace Go.Proofs.Ytikoonomhojlkaa
open Go.RowKit Go.Proofs.YtikoonomhojlkaaW.PrintWords Go.Proofs.YtikoonomhojlkaaW.PrintMore Go.Proofs.YtikoonomhojlkaaW.PrintLast PFifoLoads
/-! fifo.Load. -/
def QloadP (w : World) (r : List Wt × Int) (e : Ending) (w' : World) : Prop := Below w.heap.size w w' ∧ ((r.2 = 0 ∧ ∃ b, e = .returned (.tuple #[.pointer (some ⟨b, 0, none⟩), .int .i64 0]) ∧ QueE w b r.1 w') ∨ (r.2 ≠ 0 ∧ e = .returned (.tuple #[.pointer none, .int .i64 r.2])))
set_option maxHeartbeats 4000000 in
set_option maxRecDepth 100000 in
theorem qload_any (w : World) (A : Option Addr) (c : Nat) (l : List Wt) (hC : kW.C w A l.length l) (hc : l.length ≤ c) (hl : l.length ≤ 8796093022208) : Calls Try.prog 14 #[.slice A l.length c] w (QloadP w (loadF l [])) := by
  have HC := Aside0.mk hC
  have hN := que_new w
  clear hC
  unfold QloadP
  go_enter Try.func14, Try.ntmps14
  go_wp2_with fail
  refine hN.mono ?_
  clear hN
  rintro e w1 ⟨b, rfl, hQ1⟩
  have H1 := Aside0.mk hQ1
  clear hQ1
  go_wp2_with fail
  go_loopw [11] (fun i wr => ∃ (k : Nat) (Q : List Wt), k ≤ l.length ∧ i = .int .i64 k ∧ Aside0 (QueE w b Q wr) ∧ Aside0 (loadF l [] = loadF (l.drop k) Q)) (fun i _ => l.length - (intOf i).toNat)
  case atStart => exact ⟨0, [], by omega, rfl, H1, ⟨by rw [List.drop_zero]⟩⟩
  case round =>
    clear H1
    obtain ⟨k, Q, hk, rfl, HQ, HF⟩ := hrel
    by_cases hlt : k < l.length
    · obtain ⟨ab, off, rfl, hab⟩ := C_form HC.out (by omega) (by decide)
      obtain ⟨x, hx, e0, e1, e2⟩ := waits_at HC.out k hlt
      have HB := Aside0.mk HQ.out.below
      have e0 := (HB.out.cell (p := ⟨ab, off + k * 3, none⟩) hab).trans e0
      have e1 := (HB.out.cell (p := ⟨ab, off + k * 3 + 1, none⟩) hab).trans e1
      have e2 := (HB.out.cell (p := ⟨ab, off + k * 3 + 2, none⟩) hab).trans e2
      have hki : (0 : Int) ≤ (k : Int) := by omega
      have hkl : (k : Int) < (l.length : Int) := by omega
      obtain ⟨ok, v, hQ⟩ := HQ.out
      have hP := que_put x (hQ.then (w' := wr.alloc (.cells #[.int .i64 x.f0.f0, .int .i64 x.f0.f1, .int .u64 x.f1] TW)) (below_al (Below.refl _ _) _))
      have HX := Aside0.mk (drop_cons hx)
      clear hx hQ
      go_wp2_with fail
      refine hP.mono ?_
      clear hP e0 e1 e2
      rintro e w3 ⟨rfl, ⟨v3, hQ3⟩, -⟩
      have H3 := Aside0.mk (show QueE w b (putL Q x).1 w3 from ⟨_, _, hQ3⟩)
      have hF2 : loadF l [] = if (putL Q x).2 = 0 then loadF (l.drop (k + 1)) (putL Q x).1 else ([], (putL Q x).2) := by rw [HF.out, HX.out, loadF]
      have HF2 := Aside0.mk hF2
      clear hQ3 hF2
      generalize putL Q x = r at *
      obtain ⟨r1, r2⟩ := r
      simp only at H3 HF2 ⊢
      by_cases hr : r2 = 0
      · subst hr
        go_wp2
        go_roundw
        case rel => exact ⟨k + 1, r1, by omega, by go_num, H3, ⟨by rw [HF2.out, if_pos rfl]⟩⟩
        case measure => simp [intOf]; omega
      · have hrb : (r2 == 0) = false := by simpa using hr
        have hrn : (r2 != 0) = true := by simpa using hr
        go_wp2
        go_ret2
        rw [HF2.out, if_neg hr]
        exact ⟨H3.out.below, .inr ⟨hr, rfl⟩⟩
    · obtain rfl : k = l.length := by omega
      have HF2 : Aside0 (loadF l [] = (Q, 0)) := ⟨by rw [HF.out, List.drop_length, loadF]⟩
      go_wp2
      go_ret2
      rw [HF2.out]
      exact ⟨HQ.out.below, .inl ⟨rfl, b, rfl, HQ.out⟩⟩
theorem rload_any (w : World) (A : Option Addr) (c : Nat) (l : List Wt) (hC : kW.C w A l.length l) (hc : l.length ≤ c) (hl : l.length ≤ 8796093022208) : Calls Try.prog 15 #[.slice A l.length c] w fun e w' => ∃ v', e = .returned (.tuple #[v', .int .i64 (loadF l []).2]) ∧ Kd.R kW TW w' w.heap.size (fun _ => True) v' (loadF l []).1 ∧ Below w.heap.size w w' :=
  rotaref03_Load.calls _ A c l _ _ w hC hc (load_ok l hl)
end Go.Proofs.Ytikoonomhojlkaa
set_option linter.unusedSimpArgs false
set_option linter.unusedVariables false
namespace Go.Proofs.Ytikoonomhojlkaa
open Go.RowKit Go.ChangeShapes Go.WideShapes Go.ChangeAt Go.Proofs.YtikoonomhojlkaaW.PrintWords Go.Proofs.YtikoonomhojlkaaW.PrintMore Go.Proofs.YtikoonomhojlkaaW.PrintLast PFifoLoads
/-! Rows of one's own, spoilt. -/
/-- A row in a block of its own. -/
def OR (B : Nat) (w : World) (v : Value) (xs : List Wt) : Prop := Kd.R kW TW w B (fun k => v.ownBlock = some k) v xs
section
variable {w w1 w' W0 : World} {B g c : Nat} {v v0 v1 : Value} {xs : List Wt} {F ok : Nat → Prop}
theorem OR.of (h : Kd.R kW TW w B ok v xs) : OR B w v xs := (flat_R flatW).2 ⟨fun _ h => h, ((flat_R flatW).1 h).2⟩
theorem OR.z (h : OR B w v xs) (k : Nat) (e : v.ownBlock = some k) : B ≤ k ∧ k < w.heap.size := by
  have := (Kd.R_bound h).1 k e
  exact ⟨this.2.1, this.2.2.1⟩
theorem OR.below (h : OR B w v xs) (hB : Below w.heap.size w w') : OR B w' v xs := Kd.R_below h hB
theorem OR.far (h : OR B w v xs) (hk : Keep F w w') (hF : ∀ k, F k → ¬ v.ownBlock = some k) : OR B w' v xs := R_away h hk hF
theorem OR.lower {B' : Nat} (h : OR B w v xs) (hB : B' ≤ B) : OR B' w v xs := Kd.R_lower h hB
theorem Que.far {b : Nat} {l : List Wt} (h : Que W0 b l ok v w) (hk : Keep F w w') (hF : ∀ k, F k → W0.heap.size ≤ k ∧ ¬ ok k) : Que W0 b l ok v w' :=
  ⟨below_then_keep h.below h.below.size hk (fun i hi => (hF i hi).1), h.q.keep hk (fun k f => (hF k f).2), h.g⟩
theorem Que.lower {b : Nat} {l : List Wt} (h : Que w b l ok v w1) (hB : Below W0.heap.size W0 w) : Que W0 b l ok v w1 ∧ ∀ k, ok k → w.heap.size ≤ k :=
  ⟨⟨below_then hB h.below, ⟨fun k hk => ⟨Nat.le_trans hB.size (h.q.z k hk).1, (h.q.z k hk).2⟩, h.q.hb, h.q.blk, Kd.R_lower h.q.r hB.size⟩, h.g⟩, fun k hk => (h.q.z k hk).1⟩
theorem OR.form (h : OR B w v xs) : (v = .slice none 0 0 ∧ xs.length = 0) ∨ ∃ g c, v = .slice (some ⟨g, 0, none⟩) xs.length c ∧ xs.length ≤ c := by
  rcases ((flat_R flatW).1 h).2.2 with ⟨rfl, h0⟩ | ⟨g, cap, cur, rfl, hg, hh, hc, hm, hs, ht⟩
  · exact .inl ⟨rfl, h0⟩
  · exact .inr ⟨g, cap, rfl, hc⟩
/-- The cells of an element. -/
theorem OR.cells {n : Nat} (h : OR B w (.slice (some ⟨g, 0, none⟩) n c) xs) (i : Nat) (hi : i < n) : ∃ y : Wt, w.cell? ⟨g, i * 3, none⟩ = some (.int .i64 y.f0.f0) ∧ w.cell? ⟨g, i * 3 + 1, none⟩ = some (.int .i64 y.f0.f1) ∧ w.cell? ⟨g, i * 3 + 2, none⟩ = some (.int .u64 y.f1) ∧ (∀ j, w.frozen? ⟨g, j, none⟩ = false) ∧ g < w.heap.size := by
  obtain ⟨A', c', he, hc', hC⟩ := Kd.R_reads h
  injection he with e1 e2 e3
  subst e1
  subst e2
  obtain ⟨y, hy, e0, e1, e2⟩ := waits_at hC i hi
  rw [Nat.zero_add] at e0 e1 e2
  obtain ⟨cs, hb⟩ := R_typed' h g (by simp [Value.ownBlock])
  exact ⟨y, e0, e1, e2, fun j => frozen_blk hb j, lt_blk hb⟩
/-- One element of a row is written. -/
theorem OR.set {n : Nat} (h : OR B w (.slice (some ⟨g, 0, none⟩) n c) xs) (i : Nat) (hi : i < n) (x : Wt) :
    OR B (((w.setCell ⟨g, i * 3, none⟩ (.int .i64 x.f0.f0)).setCell ⟨g, i * 3 + 1, none⟩ (.int .i64 x.f0.f1)).setCell ⟨g, i * 3 + 2, none⟩ (.int .u64 x.f1)) (.slice (some ⟨g, 0, none⟩) n c) (xs.set i x) ∧ Keep (fun k => k = g) w (((w.setCell ⟨g, i * 3, none⟩ (.int .i64 x.f0.f0)).setCell ⟨g, i * 3 + 1, none⟩ (.int .i64 x.f0.f1)).setCell ⟨g, i * 3 + 2, none⟩ (.int .u64 x.f1)) := by
  obtain ⟨A', c', he, hc', hC⟩ := Kd.R_reads h
  injection he with e1 e2 e3
  subst e1
  subst e2
  obtain ⟨y, hy, e0, e1, e2⟩ := waits_at hC i hi
  rw [Nat.zero_add] at e0 e1 e2
  have hs := Kd.R_seg (okp := fun _ => False) h (i : Int) (by omega) (by omega) (c := [.int .i64 y.f0.f0, .int .i64 y.f0.f1, .int .u64 y.f1]) (seg := [.int .i64 x.f0.f0, .int .i64 x.f0.f1, .int .u64 x.f1]) (j := 0) rfl (fun j u hj => by
    rw [Int.toNat_natCast]
    match j, hj with
    | 0, hj => simp only [List.getElem?_cons_zero] at hj; injection hj with hj; subst hj; exact e0
    | 1, hj => simp only [List.getElem?_cons_succ, List.getElem?_cons_zero] at hj; injection hj with hj; subst hj; exact e1
    | 2, hj => simp only [List.getElem?_cons_succ, List.getElem?_cons_zero] at hj; injection hj with hj; subst hj; exact e2
    | j + 3, hj => simp at hj) (Nat.le_refl 3) (x' := x) (kW_mkM _ _ _ _) (fun k h => h.elim)
  rw [Int.toNat_natCast] at hs
  exact ⟨hs.1, (by repeat (first | (with_reducible exact Keep.refl _ _) | (with_reducible refine Keep.drewN ?_ _) | (with_reducible refine Keep.drew ?_) | (with_reducible refine Keep.setCell ?_ _ _ (by first | (right; with_reducible rfl) | (left; simp; done) | (left; simp; omega) | (right; simp; done) | (right; assumption))) | (with_reducible refine Keep.alloc ?_ _)))⟩
/-- A row from round to round: as long, and nothing else has turned. -/
structure Sp (W0 : World) (B : Nat) (v0 : Value) (v : Value) (n : Nat) (w : World) : Prop where
  r : ∃ xs, xs.length = n ∧ OR B w v xs
  k : Keep (fun k => v0.ownBlock = some k) W0 w
  o : ∀ k, v.ownBlock = some k → v0.ownBlock = some k ∨ W0.heap.size ≤ k
theorem Sp.start (h : OR B W0 v xs) : Sp W0 B v v xs.length W0 := ⟨⟨xs, rfl, h⟩, Keep.refl _ _, fun _ h => .inl h⟩
theorem Sp.set {n : Nat} (h : Sp W0 B v0 (.slice (some ⟨g, 0, none⟩) n c) n w) (i : Nat) (hi : i < n) (x : Wt) : Sp W0 B v0 (.slice (some ⟨g, 0, none⟩) n c) n (((w.setCell ⟨g, i * 3, none⟩ (.int .i64 x.f0.f0)).setCell ⟨g, i * 3 + 1, none⟩ (.int .i64 x.f0.f1)).setCell ⟨g, i * 3 + 2, none⟩ (.int .u64 x.f1)) := by
  obtain ⟨xs, hx, hr⟩ := h.r
  obtain ⟨h1, h2⟩ := hr.set i hi x
  exact ⟨⟨_, by rw [List.length_set, hx], h1⟩, h.k.trans' h2 (fun k hk e => by subst e; exact (h.o _ (by simp [Value.ownBlock])).elim id (fun h => by omega)), h.o⟩
theorem Sp.app {n : Nat} {xs : List Wt} {y : Wt} (h : Sp W0 B v0 v n w) (hx : xs.length = n) (ho : Kd.R kW TW w1 B ok v1 (xs ++ [y])) (hok : ∀ k, ok k → v.ownBlock = some k ∨ w.heap.size ≤ k) (hg : w.grownBy w1 v.ownBlock) : Sp W0 B v0 v1 (n + 1) w1 :=
  ⟨⟨_, by rw [List.length_append, hx]; rfl, OR.of ho⟩, h.k.trans' (grown_keep hg) (fun k hk e => (h.o k e).elim id (fun h => by omega)), fun k e => (hok k (ho.1 k e)).elim (h.o k) (fun h' => .inr (Nat.le_trans h.k.size h'))⟩
theorem Sp.then (h : Sp W0 B v0 v xs.length w) : Sp w B v v xs.length w := by
  obtain ⟨ys, hy, hr⟩ := h.r
  rw [← hy]
  exact Sp.start hr
end
/-- What is in the row while it is filled. -/
def fillW (l : List Wt) (k : Nat) : List Wt := l.take k ++ List.replicate (l.length - k) zWt
theorem fill_set {l : List Wt} {k : Nat} {x : Wt} (hx : l[k]? = some x) : (fillW l k).set k x = fillW l (k + 1) := by
  have hk : k < l.length := (List.getElem?_eq_some_iff.1 hx).1
  have h1 : (l.take k).length = k := by rw [List.length_take]; omega
  unfold fillW
  rw [take_snoc hx, List.set_append_right _ _ (by omega), h1, Nat.sub_self, show l.length - k = (l.length - (k + 1)) + 1 by omega, List.replicate_succ]
  simp
theorem fill_end (l : List Wt) : fillW l l.length = l := by simp [fillW]
theorem same_C {w : World} {A A' : Option Addr} {c c' : Nat} {l : List Wt} (h : kW.C w A l.length l) (hc : l.length ≤ c) (h' : kW.C w A' l.length l) (hc' : l.length ≤ c') (hl : l.length ≤ 8796093022208) : Calls Try.prog 16 #[.slice A l.length c, .slice A' l.length c'] w fun e w' => e = .returned (.bool true) ∧ Below w.heap.size w w' :=
  (rotalaw03_same.calls (l.length + 1) A c l A' c' l _ w h hc h' hc' (same_ok l hl)).mono fun e w' ⟨he, hd⟩ => ⟨he, hd.below⟩
section
variable {w w0 w1 w2 w3 wr w' : World} {b : Nat} {L L' B : List Wt} {v v' vm va u vr : Value} {ok P : Nat → Prop}
theorem own_load (hB0 : Below w.heap.size w w1) (hQ : QueE w1 b L w2) (hR : Kd.R kW TW w3 w2.heap.size (fun _ => True) vm L) (hB : Below w2.heap.size w2 w3) : ∃ v ok, DQ w b L L v vm ok (fun k => vm.ownBlock = some k) w3 ∧ ∀ k, (ok k ∨ vm.ownBlock = some k) → w1.heap.size ≤ k := by
  obtain ⟨ok, v, h⟩ := hQ
  have hz := h.below.size
  have hz0 := hB0.size
  have hM := OR.of hR
  obtain ⟨h1, h2⟩ := h.lower hB0
  refine ⟨v, ok, ⟨h1.then hB, hM.lower (by omega), fun k hk => ?_⟩, fun k hk => hk.elim (h2 k) (fun e => by have := hM.z k e; omega)⟩
  have := hM.z k hk
  exact ⟨by omega, this.2, fun ho => by have := (h.q.z k ho).2; omega⟩
theorem new_row {xs : List Wt} (h : DQ w0 b L L v vm ok P wr) (hR : Kd.R kW TW w' wr.heap.size (fun _ => True) va xs) : OR w0.heap.size w' va xs ∧ ∀ k, va.ownBlock = some k → wr.heap.size ≤ k ∧ w0.heap.size ≤ k ∧ ¬ ok k ∧ ¬ P k := by
  have hz := h.q.below.size
  have hM := OR.of hR
  refine ⟨hM.lower hz, fun k e => ?_⟩
  have := hM.z k e
  exact ⟨this.1, by omega, fun ho => by have := (h.q.q.z k ho).2; omega, fun hp => by have := (h.zp k hp).2.1; omega⟩
theorem own_batched (h : DQ w0 b L L v vm ok P wr) (hq : QB w' w0.heap.size (Ex ok wr w') b L' v') (hu : Kd.R kW TW w' wr.heap.size (fun _ => True) u B) (hd : ∀ k, u.ownBlock = some k → ¬ v'.ownBlock = some k) (hk : Keep ok wr w') (hg : GoodQ L') : ∃ ok', Que w0 b L' ok' v' w' ∧ OR w0.heap.size w' u B ∧ (∀ k, u.ownBlock = some k → wr.heap.size ≤ k ∧ w0.heap.size ≤ k ∧ ¬ ok' k) ∧ Kd.R kW TW w' w0.heap.size P vm L := by
  have hz := h.q.below.size
  have hM := OR.of hu
  have hin : ∀ k, (k = b ∨ v'.ownBlock = some k) → Ex ok wr w' k := fun k h1 => h1.elim (fun e => by subst e; exact hq.hb) (fun e => hq.r.1 k e)
  have hbz := (h.q.q.z b h.q.q.hb).2
  refine ⟨fun k => k = b ∨ v'.ownBlock = some k, ⟨below_then_keep h.q.below hz hk (fun i hi => (h.q.q.z i hi).1), ⟨fun k h1 => hq.z k (hin k h1), .inl rfl, hq.blk, (OR.of hq.r) |> fun h => Kd.R_mono h (fun _ h => .inr h)⟩, hg⟩, hM.lower hz, fun k e => ?_, Kd.R_step h.r (fun k hp hl => hk.block k hl (fun ho => (h.zp k hp).2.2 ho))⟩
  have := hM.z k e
  exact ⟨this.1, by omega, fun h2 => h2.elim (fun e => by omega) (fun e' => hd k e e')⟩
end
end Go.Proofs.Ytikoonomhojlkaa
