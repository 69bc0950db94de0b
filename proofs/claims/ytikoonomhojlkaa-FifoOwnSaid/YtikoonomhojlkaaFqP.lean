import Derived.Test.YtikoonomhojlkaaFqH
set_option linter.unusedSimpArgs false
set_option linter.unusedVariables false
namespace Go.Proofs.Ytikoonomhojlkaa
open Go.RowKit Go.Proofs.YtikoonomhojlkaaW.PrintWords Go.Proofs.YtikoonomhojlkaaW.PrintMore Go.Proofs.YtikoonomhojlkaaW.PrintLast
/-! Take, Drop, Has, Len, All. -/
def zWt : Wt := ⟨⟨0, 0⟩, 0⟩
def takeL (l : List Wt) : List Wt × Wt × Int := match l with
  | [] => ([], zWt, 31)
  | y :: r => (r, y, 0)
theorem blk_set3 {w : World} {b t : Nat} {a0 a1 a2 u0 u1 u2 : Value} (h : w.heap[b]? = some (.cells #[a0, a1, a2] t (0, 0))) : (((w.setCell ⟨b, 0, none⟩ u0).setCell ⟨b, 1, none⟩ u1).setCell ⟨b, 2, none⟩ u2).heap[b]? = some (.cells #[u0, u1, u2] t (0, 0)) := by
  have h1 := blk_set (i := 2) (u := u2) (blk_set (i := 1) (u := u1) (blk_set (i := 0) (u := u0) h))
  simpa using h1
theorem cells3 {w : World} {b t : Nat} {a0 a1 a2 : Value} (h : w.heap[b]? = some (.cells #[a0, a1, a2] t (0, 0))) : w.cell? ⟨b, 0, none⟩ = some a0 ∧ w.cell? ⟨b, 1, none⟩ = some a1 ∧ w.cell? ⟨b, 2, none⟩ = some a2 := ⟨cell_blk h 0, cell_blk h 1, cell_blk h 2⟩
theorem froz3 {w : World} {b t : Nat} {cs : Array Value} (h : w.heap[b]? = some (.cells cs t (0, 0))) : w.frozen? ⟨b, 0, none⟩ = false ∧ w.frozen? ⟨b, 1, none⟩ = false ∧ w.frozen? ⟨b, 2, none⟩ = false := ⟨frozen_blk h 0, frozen_blk h 1, frozen_blk h 2⟩
theorem set3_keep (w : World) (b : Nat) (u0 u1 u2 : Value) : Keep (fun k => k = b) w (((w.setCell ⟨b, 0, none⟩ u0).setCell ⟨b, 1, none⟩ u1).setCell ⟨b, 2, none⟩ u2) := (by repeat (first | (with_reducible exact Keep.refl _ _) | (with_reducible refine Keep.drewN ?_ _) | (with_reducible refine Keep.drew ?_) | (with_reducible refine Keep.setCell ?_ _ _ (by first | (right; with_reducible rfl) | (left; simp; done) | (left; simp; omega) | (right; simp; done) | (right; assumption))) | (with_reducible refine Keep.alloc ?_ _)))
/-- A shorter list is stored, in the same memory. -/
theorem QB.less {w0 w1 : World} {base b : Nat} {ok : Nat → Prop} {v v1 : Value} {l l1 : List Wt} (h : QB w0 base ok b l v) (hk1 : Keep (fun k => v.ownBlock = some k) w0 w1) (hr : Kd.R kW TW w1 base ok v1 l1) :
    QB (w1.setCell ⟨b, 0, none⟩ v1) base ok b l1 v1 ∧ Keep ok w0 (w1.setCell ⟨b, 0, none⟩ v1) := by
  have hb1 := blk_keep h.blk hk1 (R_blk h.r h.blk (by decide))
  have hS : Keep (fun k => k = b) w1 (w1.setCell ⟨b, 0, none⟩ v1) := (by repeat (first | (with_reducible exact Keep.refl _ _) | (with_reducible refine Keep.drewN ?_ _) | (with_reducible refine Keep.drew ?_) | (with_reducible refine Keep.setCell ?_ _ _ (by first | (right; with_reducible rfl) | (left; simp; done) | (left; simp; omega) | (right; simp; done) | (right; assumption))) | (with_reducible refine Keep.alloc ?_ _)))
  have hKK : Keep ok w0 (w1.setCell ⟨b, 0, none⟩ v1) := (hk1.mono (fun k _ e => h.r.1 k e)).trans (hS.mono (fun k _ e => by subst e; exact h.hb))
  refine ⟨⟨fun k hk => by have := h.z k hk; have := hKK.size; omega, h.hb, ?_, ?_⟩, hKK⟩
  · have := blk_set (i := 0) (u := v1) hb1
    simpa using this
  · exact R_keepT hr rfl hb1 (by decide) hS
theorem QB.ex {w w' : World} {base b : Nat} {ok : Nat → Prop} {l : List Wt} {v : Value} (h : QB w' base ok b l v) (hb : base ≤ w.heap.size) : QB w' base (Ex ok w w') b l v :=
  h.mono (fun k hk => .inl hk) (fun k hk => hk.elim (h.z k) (fun h' => by omega))
def TakeP (w : World) (base : Nat) (ok : Nat → Prop) (b : Nat) (r : List Wt × Wt × Int) (e : Ending) (w' : World) : Prop := e = .returned (.tuple #[.agg #[.int .i64 r.2.1.f0.f0, .int .i64 r.2.1.f0.f1, .int .u64 r.2.1.f1], .int .i64 r.2.2]) ∧ (∃ v', QB w' base (Ex ok w w') b r.1 v') ∧ Keep ok w w'
set_option maxHeartbeats 4000000 in
set_option maxRecDepth 100000 in
theorem take_any {w : World} {base b : Nat} {ok : Nat → Prop} {l : List Wt} {v : Value} (h : QB w base ok b l v) (hl : l.length ≤ 4096) : Calls Try.prog 12 #[.pointer (some ⟨b, 0, none⟩)] w (TakeP w base ok b (takeL l)) := by
  obtain ⟨A, c, rfl, hc, hC⟩ := h.reads
  have hb := cell_blk h.blk 0
  have hbf := frozen_blk h.blk 0
  simp only [List.getElem?_toArray, List.getElem?_cons_zero] at hb
  have hbl := lt_blk h.blk
  have HQ := Aside0.mk h
  have hbw := h.lt
  cases l with
  | nil =>
    have HP : Aside0 (takeL [] = ([], zWt, 31)) := ⟨rfl⟩
    have hB : Below w.heap.size w (w.alloc (.cells #[.int .i64 0, .int .i64 0, .int .u64 0] TW)) := below_al (Below.refl _ _) _
    have HQ9 := Aside0.mk (h.far hbw hB)
    have HB := Aside0.mk hB
    clear hC h hB
    unfold TakeP
    simp only [List.length_nil] at hb
    go_enter Try.func12, Try.ntmps12
    go_wp2_with fail
    have h5 := blk_new w (.cells #[.int .i64 0, .int .i64 0, .int .u64 0] TW)
    obtain ⟨z0, z1, z2⟩ := cells3 h5
    refine bodyPost_ret (v := .tuple #[.agg #[.int .i64 0, .int .i64 0, .int .u64 0], .int .i64 31]) (by simp [results, Try.results12, go_sem, z0, z1, z2]) rfl ⟨rfl, ⟨_, HQ9.out⟩, Keep.of_below HB.out⟩
  | cons y r =>
    obtain ⟨ab, off, rfl, hab⟩ := C_form hC (by rw [List.length_cons]; omega) (by decide)
    obtain ⟨y', hy, e0, e1, e2⟩ := waits_at hC 0 (by rw [List.length_cons]; omega)
    obtain rfl : y = y' := by simpa using hy
    simp only [Nat.zero_mul, Nat.add_zero] at e0 e1 e2
    have hB : Below w.heap.size w ((w.alloc (.cells #[.int .i64 0, .int .i64 0, .int .u64 0] TW)).alloc (.cells #[.int .i64 y.f0.f0, .int .i64 y.f0.f1, .int .u64 y.f1] TW)) := (by repeat (first | (with_reducible exact Below.refl _ _) | (with_reducible refine Below.drew ?_) | (with_reducible refine below_drewN ?_ _) | (with_reducible refine below_al ?_ _) | (with_reducible refine Below.alloc ?_ (by first | exact Nat.le_refl _ | omega | (simp; done) | (simp; omega)) _) | (with_reducible refine Below.setCell ?_ (by first | (simp only []; omega) | (simp; done) | (simp; omega)) _)))
    have hZ : ((w.alloc (.cells #[.int .i64 0, .int .i64 0, .int .u64 0] TW)).alloc (.cells #[.int .i64 y.f0.f0, .int .i64 y.f0.f1, .int .u64 y.f1] TW)).heap[w.heap.size]? = some (.cells #[.int .i64 0, .int .i64 0, .int .u64 0] TW (0, 0)) := blk_alloc (blk_new _ _)
    have hY : ((w.alloc (.cells #[.int .i64 0, .int .i64 0, .int .u64 0] TW)).alloc (.cells #[.int .i64 y.f0.f0, .int .i64 y.f0.f1, .int .u64 y.f1] TW)).heap[w.heap.size + 1]? = some (.cells #[.int .i64 y.f0.f0, .int .i64 y.f0.f1, .int .u64 y.f1] TW (0, 0)) := blk_new1 _ _ _
    have HZ := Aside0.mk hZ
    have HY := Aside0.mk hY
    have HB := Aside0.mk hB
    have HQ2 := Aside0.mk (h.below hB)
    have HD : Aside0 (Calls Try.prog 27 #[.slice (some ⟨ab, off, none⟩) (y :: r).length c, .int .i64 0, .int .i64 1] _ _) := ⟨del_wt _ base ok _ (y :: r) 0 1 HQ2.out.r (by omega) (by rw [List.length_cons]; omega)⟩
    simp only [List.length_cons] at hb hl HD
    have hpos : (0 : Int) < ((r.length + 1 : Nat) : Int) := by omega
    clear hC h hB hZ hY hy
    unfold TakeP
    go_enter Try.func12, Try.ntmps12
    go_wp2_with fail
    generalize ((w.alloc (.cells #[.int .i64 0, .int .i64 0, .int .u64 0] TW)).alloc (.cells #[.int .i64 y.f0.f0, .int .i64 y.f0.f1, .int .u64 y.f1] TW)) = W at *
    refine HD.out.mono ?_
    clear HD
    rintro e w1 ⟨v1, rfl, hr1, hk1, -⟩
    have hr1 : Kd.R kW TW w1 base ok v1 r := hr1
    have hno : ∀ k, w.heap.size ≤ k → ¬ (Value.slice (some ⟨ab, off, none⟩) (y :: r).length c).ownBlock = some k := fun k hk e => by have := HQ.out.z k (HQ2.out.r.1 k e); omega
    have hZ1 := blk_keep HZ.out hk1 (hno _ (Nat.le_refl _))
    have hY1 := blk_keep HY.out hk1 (hno _ (by omega))
    have hb1 := blk_keep HQ2.out.blk hk1 (R_blk HQ2.out.r HQ2.out.blk (by decide))
    have h3 := HQ2.out.less hk1 hr1
    obtain ⟨A1, c1, rfl, -, -⟩ := Kd.R_reads hr1
    have H3 := Aside0.mk h3
    have HZ1 := Aside0.mk hZ1
    have q0 := cell_blk hb1 0
    have q1 := frozen_blk hb1 0
    have q2 := lt_blk hb1
    obtain ⟨y0, y1, y2⟩ := cells3 hY1
    obtain ⟨z0, z1, z2⟩ := cells3 hZ1
    obtain ⟨u0, u1, u2⟩ := froz3 hZ1
    have hzl := lt_blk hZ1
    have hne : ¬ w.heap.size = b := by omega
    have hne2 : ¬ w.heap.size + 1 = b := by omega
    simp only [List.getElem?_toArray, List.getElem?_cons_zero] at q0
    clear hr1 hk1 hno hY1 hb1 h3 hZ1 HZ HY HQ2 hb hbf e0 e1 e2
    go_wp2_with fail
    have hZ4 : (w1.setCell ⟨b, 0, none⟩ (.slice A1 r.length c1)).heap[w.heap.size]? = some (.cells #[.int .i64 0, .int .i64 0, .int .u64 0] TW (0, 0)) := blk_set_ne HZ1.out hne
    have h5 := blk_set3 (u0 := .int .i64 y.f0.f0) (u1 := .int .i64 y.f0.f1) (u2 := .int .u64 y.f1) hZ4
    have hk5 := set3_keep (w1.setCell ⟨b, 0, none⟩ (.slice A1 r.length c1)) w.heap.size (.int .i64 y.f0.f0) (.int .i64 y.f0.f1) (.int .u64 y.f1)
    obtain ⟨t0, t1, t2⟩ := cells3 h5
    have hok : ¬ ok w.heap.size := fun h => by have := (HQ.out.z _ h).2; omega
    refine bodyPost_ret (v := .tuple #[.agg #[.int .i64 y.f0.f0, .int .i64 y.f0.f1, .int .u64 y.f1], .int .i64 0]) (by simp [results, Try.results12, go_sem, t0, t1, t2]) rfl ⟨rfl, ⟨_, (H3.out.1.keep hk5 (fun k e => by subst e; exact hok)).ex hbw⟩, ((Keep.of_below HB.out).trans H3.out.2).trans' hk5 (fun i hi e => by omega)⟩
end Go.Proofs.Ytikoonomhojlkaa
set_option linter.unusedSimpArgs false
set_option linter.unusedVariables false
namespace Go.Proofs.Ytikoonomhojlkaa
open Go.RowKit Go.Proofs.YtikoonomhojlkaaW.PrintWords Go.Proofs.YtikoonomhojlkaaW.PrintMore Go.Proofs.YtikoonomhojlkaaW.PrintLast
/-! New, Has, Len, All. -/
theorem new_any (w : World) : Calls Try.prog 9 #[] w fun e w' => e = .returned (.pointer (some ⟨w.heap.size, 0, none⟩)) ∧ QB w' w.heap.size (fun k => k = w.heap.size) w.heap.size [] (.slice none 0 0) ∧ Below w.heap.size w w' := by
  have hB : Below w.heap.size w (w.alloc (.cells #[.slice none 0 0] TQ)) := below_al (Below.refl _ _) _
  have HQ : Aside0 (QB (w.alloc (.cells #[.slice none 0 0] TQ)) w.heap.size (fun k => k = w.heap.size) w.heap.size [] (.slice none 0 0)) := ⟨⟨fun k hk => by subst hk; simp, rfl, blk_new _ _, Kd.R_nil _ _ _ _ _⟩⟩
  have HB := Aside0.mk hB
  clear hB
  go_enter Try.func9, Try.ntmps9
  go_wp2
  go_ret
  exact ⟨rfl, HQ.out, HB.out⟩
theorem len_any {w : World} {base b : Nat} {ok : Nat → Prop} {l : List Wt} {v : Value} (h : QB w base ok b l v) : Calls Try.prog 23 #[.pointer (some ⟨b, 0, none⟩)] w fun e w' => e = .returned (.int .i64 l.length) ∧ w = w' := by
  obtain ⟨A, c, rfl, -, -⟩ := h.reads
  have hb := cell_blk h.blk 0
  simp only [List.getElem?_toArray, List.getElem?_cons_zero] at hb
  clear h
  go_enter Try.func23, Try.ntmps23
  go_wp2
  go_ret
  exact ⟨rfl, rfl⟩
theorem all_any {w : World} {base b : Nat} {ok : Nat → Prop} {l : List Wt} {v : Value} (h : QB w base ok b l v) (hl : l.length ≤ 4096) : Calls Try.prog 17 #[.pointer (some ⟨b, 0, none⟩)] w fun e w' => ∃ v', e = .returned v' ∧ Kd.R kW TW w' w.heap.size (fun _ => True) v' l ∧ Below w.heap.size w w' := by
  obtain ⟨A, c, rfl, -, hC⟩ := h.reads
  have hb := cell_blk h.blk 0
  simp only [List.getElem?_toArray, List.getElem?_cons_zero] at hb
  have HL := Aside0.mk (cloneW_any A c l w hC (by omega))
  clear h hC
  go_enter Try.func17, Try.ntmps17
  go_wp2_with fail
  refine HL.out.mono ?_
  clear HL
  rintro e w1 ⟨v1, rfl, hR, hB1⟩
  have HR := Aside0.mk (And.intro hR hB1)
  clear hR hB1
  go_wp2
  go_ret
  exact ⟨v1, rfl, HR.out⟩
end Go.Proofs.Ytikoonomhojlkaa
set_option linter.unusedSimpArgs false
set_option linter.unusedVariables false
namespace Go.Proofs.Ytikoonomhojlkaa
open Go.RowKit Go.Proofs.YtikoonomhojlkaaW.PrintWords Go.Proofs.YtikoonomhojlkaaW.PrintMore Go.Proofs.YtikoonomhojlkaaW.PrintLast
/-! Batch. -/
set_option maxHeartbeats 2000000 in
set_option maxRecDepth 100000 in
theorem del_zero (w : World) (A : Option Addr) (n c : Nat) (hc : n ≤ c) (hA : A = none → n = 0 ∧ c = 0) : Calls Try.prog 27 #[.slice A n c, .int .i64 0, .int .i64 0] w fun e w' => e = .returned (.slice A n c) ∧ w = w' := by
  cases A with
  | none =>
    obtain ⟨rfl, rfl⟩ := hA rfl
    go_enter Try.func27, Try.ntmps27
    go_wp2
    go_ret
    exact ⟨rfl, rfl⟩
  | some a =>
    obtain ⟨ab, off, sp⟩ := a
    clear hA
    have h1 : (0 : Int) ≤ (n : Int) := by omega
    have h2 : (n : Int) ≤ (c : Int) := by omega
    go_enter Try.func27, Try.ntmps27
    go_wp2
    all_goals go_ret
    all_goals exact ⟨rfl, rfl⟩
theorem del_front (w : World) (base : Nat) (ok : Nat → Prop) (v : Value) (l : List Wt) (m : Nat) (h : Kd.R kW TW w base ok v l) (hm : m ≤ l.length) : Calls Try.prog 27 #[v, .int .i64 0, .int .i64 m] w fun e w' => ∃ v', e = .returned v' ∧ Kd.R kW TW w' base ok v' (l.drop m) ∧ Keep (fun k => v.ownBlock = some k) w w' ∧ v'.ownBlock = v.ownBlock := by
  by_cases h0 : m = 0
  · subst h0
    obtain ⟨hok, ho⟩ := (flat_R flatW).1 h
    rcases ho.2 with ⟨rfl, hl⟩ | ⟨g, cap, cur, rfl, hg, hh, hc, hmx, hs, ht⟩
    · exact (del_zero w none 0 0 (Nat.le_refl _) (fun _ => ⟨rfl, rfl⟩)).mono fun e w' ⟨he, hw⟩ => ⟨_, he, by subst hw; exact h, by subst hw; exact Keep.refl _ _, rfl⟩
    · exact (del_zero w (some ⟨g, 0, none⟩) l.length cap hc (fun e => by cases e)).mono fun e w' ⟨he, hw⟩ => ⟨_, he, by subst hw; exact h, by subst hw; exact Keep.refl _ _, rfl⟩
  · exact (del_wt w base ok v l 0 m h (by omega) hm).mono fun e w' ⟨v', he, hr, hk, ho⟩ => ⟨v', he, by simpa using hr, hk, ho⟩
def batchN (n : Nat) (procs room : Int) : Int := min (min (n : Int) room) ((n : Int) / procs + 1)
def batchL (l : List Wt) (procs room : Int) : List Wt × List Wt × Int := if procs < 1 ∨ room < 0 then (l, [], 1) else (l.drop (batchN l.length procs room).toNat, l.take (batchN l.length procs room).toNat, 0)
theorem C_take {w : World} {A : Option Addr} {l : List Wt} {m : Nat} (h : kW.C w A l.length l) (hm : m ≤ l.length) : kW.C w A (l.take m).length (l.take m) := by
  obtain ⟨h1, h2, h3⟩ := h
  refine ⟨rfl, by rw [List.length_take]; omega, fun h0 => ?_⟩
  rw [List.length_take] at h0
  obtain ⟨ad, he, hat⟩ := h3 (by omega)
  refine ⟨ad, he, fun i x hx => ?_⟩
  rw [List.getElem?_take] at hx
  split at hx
  · exact hat i x hx
  · cases hx
theorem batch_n {n : Nat} {procs room : Int} (hn : n ≤ 4096) (hp : 1 ≤ procs) (hr : 0 ≤ room) : ∃ m : Nat, m ≤ n ∧ (batchN n procs room).toNat = m ∧ (if wrap64 (wrap64 ((n : Int) / procs) + 1) < (if room < (n : Int) then room else (n : Int)) then wrap64 (wrap64 ((n : Int) / procs) + 1) else (if room < (n : Int) then room else (n : Int))) = (m : Int) := by
  have h1 : 0 ≤ (n : Int) / procs := Int.ediv_nonneg (by omega) (by omega)
  have h2 : (n : Int) / procs ≤ n := Int.ediv_le_self _ (by omega)
  unfold batchN
  generalize (n : Int) / procs = q at *
  have hw : wrap64 (wrap64 q + 1) = q + 1 := by unfold wrap64; omega
  rw [hw]
  refine ⟨(min (min (n : Int) room) (q + 1)).toNat, by omega, rfl, ?_⟩
  split <;> split <;> omega
def BatchP (w : World) (base : Nat) (ok : Nat → Prop) (b : Nat) (r : List Wt × List Wt × Int) (e : Ending) (w' : World) : Prop := ∃ v' u, e = .returned (.tuple #[u, .int .i64 r.2.2]) ∧ QB w' base (Ex ok w w') b r.1 v' ∧ Kd.R kW TW w' w.heap.size (fun _ => True) u r.2.1 ∧ (∀ k, u.ownBlock = some k → ¬ v'.ownBlock = some k) ∧ Keep ok w w'
set_option maxHeartbeats 4000000 in
set_option maxRecDepth 100000 in
theorem batch_any {w : World} {base b : Nat} {ok : Nat → Prop} {l : List Wt} {v : Value} (procs room : Int) (h : QB w base ok b l v) (hl : l.length ≤ 4096) : Calls Try.prog 18 #[.pointer (some ⟨b, 0, none⟩), .int .i64 procs, .int .i64 room] w (BatchP w base ok b (batchL l procs room)) := by
  obtain ⟨A, c, rfl, hc, hC⟩ := h.reads
  have hb := cell_blk h.blk 0
  have hbf := frozen_blk h.blk 0
  simp only [List.getElem?_toArray, List.getElem?_cons_zero] at hb
  have hbl := lt_blk h.blk
  have HQ := Aside0.mk h
  have HC := Aside0.mk hC
  have hbw := h.lt
  clear hC h
  unfold BatchP
  by_cases hp : procs < 1
  · have HP : Aside0 (batchL l procs room = (l, [], 1)) := ⟨by rw [batchL, if_pos (.inl hp)]⟩
    go_enter Try.func18, Try.ntmps18
    go_wp2
    go_ret2
    rw [HP.out]
    exact ⟨_, _, rfl, HQ.out.ex hbw, Kd.R_nil _ _ _ _ _, fun k h1 => by simp [Value.ownBlock] at h1, Keep.refl _ _⟩
  · by_cases hr : room < 0
    · have HP : Aside0 (batchL l procs room = (l, [], 1)) := ⟨by rw [batchL, if_pos (.inr hr)]⟩
      go_enter Try.func18, Try.ntmps18
      go_wp2
      go_ret2
      rw [HP.out]
      exact ⟨_, _, rfl, HQ.out.ex hbw, Kd.R_nil _ _ _ _ _, fun k h1 => by simp [Value.ownBlock] at h1, Keep.refl _ _⟩
    · have HP : Aside0 (batchL l procs room = (l.drop (batchN l.length procs room).toNat, l.take (batchN l.length procs room).toNat, 0)) := ⟨by rw [batchL, if_neg (by omega)]⟩
      have hp0 : ¬ procs = 0 := by omega
      have hp1 : (procs == 0) = false := by simpa using hp0
      go_enter Try.func18, Try.ntmps18
      go_wp2_with fail
      go_region
      obtain ⟨m, hm, hmN, hmI⟩ := batch_n (procs := procs) (room := room) hl (by omega) (by omega)
      rw [hmN] at HP
      rw [hmI]
      clear hmN hmI
      have hB1 : Below w.heap.size w w.drew := (Below.refl _ _).drew
      have HB1 := Aside0.mk hB1
      have HQ1 := Aside0.mk (HQ.out.below hB1)
      have hb : w.drew.cell? ⟨b, 0, none⟩ = some (.slice A l.length c) := hb
      have hbf : w.drew.frozen? ⟨b, 0, none⟩ = false := hbf
      have hbl : b < w.drew.heap.size := hbl
      have HCl := Aside0.mk (cloneW_any A c (l.take m) w.drew (C_take (Kd.C_below HC.out hB1) hm) (by rw [List.length_take]; omega))
      have hWz : w.drew.heap.size = w.heap.size := rfl
      have HWz := Aside0.mk hWz
      clear hWz
      rw [List.length_take, Nat.min_eq_left hm] at HCl
      have hmz : (0 : Int) ≤ (m : Int) := by omega
      have hml : (m : Int) ≤ (l.length : Int) := by omega
      have hmc : (m : Int) ≤ (c : Int) := by omega
      clear hB1
      generalize w.drew = W at *
      go_wp2_with fail
      refine HCl.out.mono ?_
      clear HCl
      rintro e w1 ⟨u, rfl, hRu, hB2⟩
      have HB2 := Aside0.mk (HB1.out.trans (hB2.mono HB1.out.size))
      have HQ2 := Aside0.mk (HQ1.out.below hB2)
      have HRu := Aside0.mk hRu
      have hb := cell_blk HQ2.out.blk 0
      simp only [List.getElem?_toArray, List.getElem?_cons_zero] at hb
      have hbl := lt_blk HQ2.out.blk
      have HD := Aside0.mk (del_front w1 base ok _ l m HQ2.out.r hm)
      clear hRu hB2 HQ1 HB1
      go_wp2_with fail
      refine HD.out.mono ?_
      clear HD
      rintro e w2 ⟨v2, rfl, hr2, hk2, ho2⟩
      generalize l.drop m = l2 at *
      have hb2 := blk_keep HQ2.out.blk hk2 (R_blk HQ2.out.r HQ2.out.blk (by decide))
      have h3 := HQ2.out.less hk2 hr2
      obtain ⟨A2, c2, rfl, -, -⟩ := Kd.R_reads hr2
      have q0 := cell_blk hb2 0
      have q1 := frozen_blk hb2 0
      have q2 := lt_blk hb2
      simp only [List.getElem?_toArray, List.getElem?_cons_zero] at q0
      have hK := h3.2
      have HF := Aside0.mk (And.intro h3.1 h3.2)
      have HO := Aside0.mk ho2
      clear hr2 hk2 hb2 h3 hK ho2 hb hbl
      go_wp2
      go_ret2
      have hRu := Kd.R_bound HRu.out
      have hub : ∀ k, u.ownBlock = some k → w.heap.size ≤ k := fun k e => by have := (hRu.1 k e).2.1; have := HWz.out; omega
      have hvb : ∀ k, (Value.slice A l.length c).ownBlock = some k → k < w.heap.size := fun k e => (HQ.out.z k (HQ.out.r.1 k e)).2
      rw [HP.out]
      refine ⟨_, u, rfl, HF.out.1.ex hbw, ?_, fun k h1 h2 => by rw [HO.out] at h2; have := hub k h1; have := hvb k h2; omega, (Keep.of_below HB2.out).trans HF.out.2⟩
      rw [← HWz.out]
      exact Kd.R_mono (Kd.R_step hRu (fun k ho hl => HF.out.2.block k hl (fun h => by have := (HQ.out.z k h).2; have := ho.2.1; have := HWz.out; omega))) (fun _ _ => trivial)
end Go.Proofs.Ytikoonomhojlkaa
set_option linter.unusedSimpArgs false
set_option linter.unusedVariables false
namespace Go.Proofs.Ytikoonomhojlkaa
open Go.RowKit Go.Proofs.YtikoonomhojlkaaW.PrintWords Go.Proofs.YtikoonomhojlkaaW.PrintMore Go.Proofs.YtikoonomhojlkaaW.PrintLast
/-! What puts and takes leave in order. -/
theorem rises_pw {l : List Wt} : Rises l ↔ l.Pairwise (fun y z => y.f1 < z.f1) := by
  rw [List.pairwise_iff_getElem]
  constructor
  · intro h i j hi hj hij
    exact h i j _ _ hij (List.getElem?_eq_getElem hi) (List.getElem?_eq_getElem hj)
  · intro h i j y z hij hy hz
    obtain ⟨h1, rfl⟩ := List.getElem?_eq_some_iff.1 hy
    obtain ⟨h2, rfl⟩ := List.getElem?_eq_some_iff.1 hz
    exact h i j h1 h2 hij
theorem ins_perm (l : List Wt) (x : Wt) : (insL l x).Perm (x :: l) := by
  have h : (l.takeWhile (ltT x.f1) ++ l.dropWhile (ltT x.f1)) = l := List.takeWhile_append_dropWhile
  have := List.perm_middle (a := x) (l₁ := l.takeWhile (ltT x.f1)) (l₂ := l.dropWhile (ltT x.f1))
  rw [h] at this
  exact this
theorem drop_ge {t : Int} : ∀ {l : List Wt}, l.Pairwise (fun y z => y.f1 < z.f1) → (∀ y ∈ l, y.f1 ≠ t) → ∀ z ∈ l.dropWhile (ltT t), t < z.f1
  | [], _, _, z, hz => by simp at hz
  | y :: l, hp, hn, z, hz => by
    rw [List.dropWhile_cons] at hz
    have h1 := List.pairwise_cons.1 hp
    by_cases h : ltT t y = true
    · rw [if_pos h] at hz
      exact drop_ge h1.2 (fun y' hy' => hn y' (List.mem_cons_of_mem _ hy')) z hz
    · rw [if_neg h] at hz
      have hy : t < y.f1 := by
        have h2 : ¬ y.f1 < t := by simpa [ltT] using h
        have h3 := hn y (List.mem_cons_self)
        omega
      rcases List.mem_cons.1 hz with rfl | hz
      · exact hy
      · have := h1.1 z hz
        omega
theorem take_lt {t : Int} : ∀ {l : List Wt}, ∀ y ∈ l.takeWhile (ltT t), y.f1 < t
  | [], y, hy => by simp at hy
  | z :: l, y, hy => by
    rw [List.takeWhile_cons] at hy
    by_cases h : ltT t z = true
    · rw [if_pos h] at hy
      rcases List.mem_cons.1 hy with rfl | hy
      · simpa [ltT] using h
      · exact take_lt y hy
    · rw [if_neg h] at hy
      simp at hy
theorem ins_pw {l : List Wt} {x : Wt} (h : l.Pairwise (fun y z => y.f1 < z.f1)) (hn : ∀ y ∈ l, y.f1 ≠ x.f1) : (insL l x).Pairwise (fun y z => y.f1 < z.f1) := by
  have hd := drop_ge h hn
  have ht : ∀ y ∈ l.takeWhile (ltT x.f1), y.f1 < x.f1 := fun y hy => take_lt y hy
  rw [insL, List.pairwise_append]
  refine ⟨h.sublist (List.takeWhile_sublist _), List.pairwise_cons.2 ⟨hd, h.sublist (List.dropWhile_sublist _)⟩, fun y hy z hz => ?_⟩
  rcases List.mem_cons.1 hz with rfl | hz
  · exact ht y hy
  · have := ht y hy
    have := hd z hz
    omega
theorem putL_good {l : List Wt} (x : Wt) (h : GoodQ l) : GoodQ (putL l x).1 := by
  unfold putL
  split
  · exact h
  · rename_i hno
    split
    · exact h
    · rename_i hlen
      have hno : (l.any (isB x.f0.f0 x.f0.f1) || l.any (eqT x.f1)) = false := by simpa using hno
      rw [Bool.or_eq_false_iff] at hno
      refine ⟨rises_pw.2 (ins_pw (rises_pw.1 h.rises) (fun y hy he => ?_)), ?_, ?_⟩
      · have := List.any_eq_false.1 hno.2 y hy
        exact this (by simp [eqT, he])
      · rw [(ins_perm l x).length_eq, List.length_cons]; omega
      · rw [((ins_perm l x).map gidOf).nodup_iff, List.map_cons, List.nodup_cons]
        refine ⟨fun hm => ?_, h.apart⟩
        obtain ⟨y, hy, he⟩ := List.mem_map.1 hm
        have := List.any_eq_false.1 hno.1 y hy
        refine this ?_
        unfold gidOf at he
        injection he with h1 h2
        simp [isB, h1, h2]
theorem nil_good : GoodQ [] := ⟨fun i j y z _ h => by simp at h, by simp, by simp⟩
theorem tail_good {y : Wt} {l : List Wt} (h : GoodQ (y :: l)) : GoodQ l :=
  ⟨rises_pw.2 (List.pairwise_cons.1 (rises_pw.1 h.rises)).2, by have := h.len; rw [List.length_cons] at this; omega, by have := h.apart; rw [List.map_cons, List.nodup_cons] at this; exact this.2⟩
/-- What a put leaves: what was there, and perhaps the one. -/
theorem putL_len (l : List Wt) (x : Wt) : ((putL l x).2 = 0 ∧ (putL l x).1.length = l.length + 1) ∨ ((putL l x).2 ≠ 0 ∧ (putL l x).1 = l) := by
  unfold putL
  split
  · exact .inr ⟨by simp, rfl⟩
  · split
    · exact .inr ⟨by simp, rfl⟩
    · exact .inl ⟨rfl, by rw [(ins_perm l x).length_eq, List.length_cons]⟩
end Go.Proofs.Ytikoonomhojlkaa
