import Derived.Test.YtikoonomhojlkaaFqG
set_option linter.unusedSimpArgs false
set_option linter.unusedVariables false
namespace Go.Proofs.Ytikoonomhojlkaa
open Go.RowKit Go.Proofs.YtikoonomhojlkaaW.PrintWords Go.Proofs.YtikoonomhojlkaaW.PrintMore Go.Proofs.YtikoonomhojlkaaW.PrintLast
/-! Take, Drop, Has, Len, All. -/
def zWt : Wt := ⟨⟨0, 0⟩, 0⟩
def takeL (l : List Wt) : List Wt × Wt × Int := match l with
  | [] => ([], zWt, 31)
  | y :: r => (r, y, 0)
theorem blk_set3 {w : World} {b t : Nat} {a0 a1 a2 u0 u1 u2 : Value} (h : w.heap[b]? = some (.cells #[a0, a1, a2] t (0, 0))) : (((w.setCell ⟨b, 0, none⟩ u0).setCell ⟨b, 1, none⟩ u1).setCell ⟨b, 2, none⟩ u2).heap[b]? = some (.cells #[u0, u1, u2] t (0, 0)) := by
  have h1 := blk_set (i := 2) (u := u2) (blk_set (i := 1) (u := u1) (blk_set (i := 0) (u := u0) h))
  simpa using h1
theorem cells3 {w : World} {b t : Nat} {a0 a1 a2 : Value} (h : w.heap[b]? = some (.cells #[a0, a1, a2] t (0, 0))) : w.cell? ⟨b, 0, none⟩ = some a0 ∧ w.cell? ⟨b, 1, none⟩ = some a1 ∧ w.cell? ⟨b, 2, none⟩ = some a2 := ⟨cell_blk h 0, cell_blk h 1, cell_blk h 2⟩
theorem froz3 {w : World} {b t : Nat} {cs : Array Value} (h : w.heap[b]? = some (.cells cs t (0, 0))) : w.frozen? ⟨b, 0, none⟩ = false ∧ w.frozen? ⟨b, 1, none⟩ = false ∧ w.frozen? ⟨b, 2, none⟩ = false := ⟨frozen_blk h 0, frozen_blk h 1, frozen_blk h 2⟩
theorem set3_keep (w : World) (b : Nat) (u0 u1 u2 : Value) : Keep (fun k => k = b) w (((w.setCell ⟨b, 0, none⟩ u0).setCell ⟨b, 1, none⟩ u1).setCell ⟨b, 2, none⟩ u2) := (by repeat (first | (with_reducible exact Keep.refl _ _) | (with_reducible refine Keep.drewN ?_ _) | (with_reducible refine Keep.drew ?_) | (with_reducible refine Keep.setCell ?_ _ _ (by first | (right; with_reducible rfl) | (left; simp; done) | (left; simp; omega) | (right; simp; done) | (right; assumption))) | (with_reducible refine Keep.alloc ?_ _)))
/-- A shorter list is stored, in the same memory. -/
theorem QB.less {w0 w1 : World} {base b : Nat} {ok : Nat → Prop} {v v1 : Value} {l l1 : List Wt} (h : QB w0 base ok b l v) (hk1 : Keep (fun k => v.ownBlock = some k) w0 w1) (hr : Kd.R kW TW w1 base ok v1 l1) :
    QB (w1.setCell ⟨b, 0, none⟩ v1) base ok b l1 v1 ∧ Keep ok w0 (w1.setCell ⟨b, 0, none⟩ v1) := by
  have hb1 := blk_keep h.blk hk1 (R_blk h.r h.blk (by decide))
  have hS : Keep (fun k => k = b) w1 (w1.setCell ⟨b, 0, none⟩ v1) := (by repeat (first | (with_reducible exact Keep.refl _ _) | (with_reducible refine Keep.drewN ?_ _) | (with_reducible refine Keep.drew ?_) | (with_reducible refine Keep.setCell ?_ _ _ (by first | (right; with_reducible rfl) | (left; simp; done) | (left; simp; omega) | (right; simp; done) | (right; assumption))) | (with_reducible refine Keep.alloc ?_ _)))
  have hKK : Keep ok w0 (w1.setCell ⟨b, 0, none⟩ v1) := (hk1.mono (fun k _ e => h.r.1 k e)).trans (hS.mono (fun k _ e => by subst e; exact h.hb))
  refine ⟨⟨fun k hk => by have := h.z k hk; have := hKK.size; omega, h.hb, ?_, ?_⟩, hKK⟩
  · have := blk_set (i := 0) (u := v1) hb1
    simpa using this
  · exact R_keepT hr rfl hb1 (by decide) hS
theorem QB.ex {w w' : World} {base b : Nat} {ok : Nat → Prop} {l : List Wt} {v : Value} (h : QB w' base ok b l v) (hb : base ≤ w.heap.size) : QB w' base (Ex ok w w') b l v :=
  h.mono (fun k hk => .inl hk) (fun k hk => hk.elim (h.z k) (fun h' => by omega))
def TakeP (w : World) (base : Nat) (ok : Nat → Prop) (b : Nat) (r : List Wt × Wt × Int) (e : Ending) (w' : World) : Prop := e = .returned (.tuple #[.agg #[.int .i64 r.2.1.f0.f0, .int .i64 r.2.1.f0.f1, .int .u64 r.2.1.f1], .int .i64 r.2.2]) ∧ (∃ v', QB w' base (Ex ok w w') b r.1 v') ∧ Keep ok w w'
set_option maxHeartbeats 4000000 in
set_option maxRecDepth 100000 in
theorem take_any {w : World} {base b : Nat} {ok : Nat → Prop} {l : List Wt} {v : Value} (h : QB w base ok b l v) (hl : l.length ≤ 4096) : Calls Try.prog 12 #[.pointer (some ⟨b, 0, none⟩)] w (TakeP w base ok b (takeL l)) := by
  obtain ⟨A, c, rfl, hc, hC⟩ := h.reads
  have hb := cell_blk h.blk 0
  have hbf := frozen_blk h.blk 0
  simp only [List.getElem?_toArray, List.getElem?_cons_zero] at hb
  have hbl := lt_blk h.blk
  have HQ := Aside0.mk h
  have hbw := h.lt
  cases l with
  | nil =>
    have HP : Aside0 (takeL [] = ([], zWt, 31)) := ⟨rfl⟩
    have hB : Below w.heap.size w (w.alloc (.cells #[.int .i64 0, .int .i64 0, .int .u64 0] TW)) := below_al (Below.refl _ _) _
    have HQ9 := Aside0.mk (h.far hbw hB)
    have HB := Aside0.mk hB
    clear hC h hB
    unfold TakeP
    simp only [List.length_nil] at hb
    go_enter Try.func12, Try.ntmps12
    go_wp2_with fail
    have h5 := blk_new w (.cells #[.int .i64 0, .int .i64 0, .int .u64 0] TW)
    obtain ⟨z0, z1, z2⟩ := cells3 h5
    refine bodyPost_ret (v := .tuple #[.agg #[.int .i64 0, .int .i64 0, .int .u64 0], .int .i64 31]) (by simp [results, Try.results12, go_sem, z0, z1, z2]) rfl ⟨rfl, ⟨_, HQ9.out⟩, Keep.of_below HB.out⟩
  | cons y r =>
    obtain ⟨ab, off, rfl, hab⟩ := C_form hC (by rw [List.length_cons]; omega) (by decide)
    obtain ⟨y', hy, e0, e1, e2⟩ := waits_at hC 0 (by rw [List.length_cons]; omega)
    obtain rfl : y = y' := by simpa using hy
    simp only [Nat.zero_mul, Nat.add_zero] at e0 e1 e2
    have hB : Below w.heap.size w ((w.alloc (.cells #[.int .i64 0, .int .i64 0, .int .u64 0] TW)).alloc (.cells #[.int .i64 y.f0.f0, .int .i64 y.f0.f1, .int .u64 y.f1] TW)) := (by repeat (first | (with_reducible exact Below.refl _ _) | (with_reducible refine Below.drew ?_) | (with_reducible refine below_drewN ?_ _) | (with_reducible refine below_al ?_ _) | (with_reducible refine Below.alloc ?_ (by first | exact Nat.le_refl _ | omega | (simp; done) | (simp; omega)) _) | (with_reducible refine Below.setCell ?_ (by first | (simp only []; omega) | (simp; done) | (simp; omega)) _)))
    have hZ : ((w.alloc (.cells #[.int .i64 0, .int .i64 0, .int .u64 0] TW)).alloc (.cells #[.int .i64 y.f0.f0, .int .i64 y.f0.f1, .int .u64 y.f1] TW)).heap[w.heap.size]? = some (.cells #[.int .i64 0, .int .i64 0, .int .u64 0] TW (0, 0)) := blk_alloc (blk_new _ _)
    have hY : ((w.alloc (.cells #[.int .i64 0, .int .i64 0, .int .u64 0] TW)).alloc (.cells #[.int .i64 y.f0.f0, .int .i64 y.f0.f1, .int .u64 y.f1] TW)).heap[w.heap.size + 1]? = some (.cells #[.int .i64 y.f0.f0, .int .i64 y.f0.f1, .int .u64 y.f1] TW (0, 0)) := blk_new1 _ _ _
    have HZ := Aside0.mk hZ
    have HY := Aside0.mk hY
    have HB := Aside0.mk hB
    have HQ2 := Aside0.mk (h.below hB)
    have HD : Aside0 (Calls Try.prog 27 #[.slice (some ⟨ab, off, none⟩) (y :: r).length c, .int .i64 0, .int .i64 1] _ _) := ⟨del_wt _ base ok _ (y :: r) 0 1 HQ2.out.r (by omega) (by rw [List.length_cons]; omega)⟩
    simp only [List.length_cons] at hb hl HD
    have hpos : (0 : Int) < ((r.length + 1 : Nat) : Int) := by omega
    clear hC h hB hZ hY hy
    unfold TakeP
    go_enter Try.func12, Try.ntmps12
    go_wp2_with fail
    generalize ((w.alloc (.cells #[.int .i64 0, .int .i64 0, .int .u64 0] TW)).alloc (.cells #[.int .i64 y.f0.f0, .int .i64 y.f0.f1, .int .u64 y.f1] TW)) = W at *
    refine HD.out.mono ?_
    clear HD
    rintro e w1 ⟨v1, rfl, hr1, hk1, -⟩
    have hr1 : Kd.R kW TW w1 base ok v1 r := hr1
    have hno : ∀ k, w.heap.size ≤ k → ¬ (Value.slice (some ⟨ab, off, none⟩) (y :: r).length c).ownBlock = some k := fun k hk e => by have := HQ.out.z k (HQ2.out.r.1 k e); omega
    have hZ1 := blk_keep HZ.out hk1 (hno _ (Nat.le_refl _))
    have hY1 := blk_keep HY.out hk1 (hno _ (by omega))
    have hb1 := blk_keep HQ2.out.blk hk1 (R_blk HQ2.out.r HQ2.out.blk (by decide))
    have h3 := HQ2.out.less hk1 hr1
    obtain ⟨A1, c1, rfl, -, -⟩ := Kd.R_reads hr1
    have H3 := Aside0.mk h3
    have HZ1 := Aside0.mk hZ1
    have q0 := cell_blk hb1 0
    have q1 := frozen_blk hb1 0
    have q2 := lt_blk hb1
    obtain ⟨y0, y1, y2⟩ := cells3 hY1
    obtain ⟨z0, z1, z2⟩ := cells3 hZ1
    obtain ⟨u0, u1, u2⟩ := froz3 hZ1
    have hzl := lt_blk hZ1
    have hne : ¬ w.heap.size = b := by omega
    have hne2 : ¬ w.heap.size + 1 = b := by omega
    simp only [List.getElem?_toArray, List.getElem?_cons_zero] at q0
    clear hr1 hk1 hno hY1 hb1 h3 hZ1 HZ HY HQ2 hb hbf e0 e1 e2
    go_wp2_with fail
    have hZ4 : (w1.setCell ⟨b, 0, none⟩ (.slice A1 r.length c1)).heap[w.heap.size]? = some (.cells #[.int .i64 0, .int .i64 0, .int .u64 0] TW (0, 0)) := blk_set_ne HZ1.out hne
    have h5 := blk_set3 (u0 := .int .i64 y.f0.f0) (u1 := .int .i64 y.f0.f1) (u2 := .int .u64 y.f1) hZ4
    have hk5 := set3_keep (w1.setCell ⟨b, 0, none⟩ (.slice A1 r.length c1)) w.heap.size (.int .i64 y.f0.f0) (.int .i64 y.f0.f1) (.int .u64 y.f1)
    obtain ⟨t0, t1, t2⟩ := cells3 h5
    have hok : ¬ ok w.heap.size := fun h => by have := (HQ.out.z _ h).2; omega
    refine bodyPost_ret (v := .tuple #[.agg #[.int .i64 y.f0.f0, .int .i64 y.f0.f1, .int .u64 y.f1], .int .i64 0]) (by simp [results, Try.results12, go_sem, t0, t1, t2]) rfl ⟨rfl, ⟨_, (H3.out.1.keep hk5 (fun k e => by subst e; exact hok)).ex hbw⟩, ((Keep.of_below HB.out).trans H3.out.2).trans' hk5 (fun i hi e => by omega)⟩
end Go.Proofs.Ytikoonomhojlkaa
