import Derived.Test.YtjjdojnnomokaaaRingC
set_option linter.unusedSimpArgs false
set_option linter.unusedVariables false
namespace Go.Proofs.Ytjjdojnnomokaaa
open Go.RowKit Go.Proofs.YtjjdojnnomokaaaW.PrintWords Go.Proofs.YtjjdojnnomokaaaW.PrintMore
/-! New, Len, Kick, Take. -/
def ringZ : Array Value := ((List.replicate 64 [Value.int .i64 0, Value.int .i64 0, Value.int .u64 0]).flatten ++ [Value.int .i64 0, Value.int .i64 0, Value.bool false, Value.int .i64 0, Value.int .i64 0, Value.int .u64 0]).toArray
theorem ringZ_zero : ∀ w : World, (zeroValue 71).run Try.prog w = .ok (.agg ringZ) w := fun _ => by kernel_rfl
theorem ringZ_new : RingCs ringZ 0 Rg.new :=
  ⟨by kernel_rfl, by decide, by decide, by kernel_rfl, by kernel_rfl, by kernel_rfl, by kernel_rfl, by kernel_rfl, by kernel_rfl, fun i x h => by simp [Rg.new] at h⟩
set_option maxRecDepth 100000 in
set_option maxHeartbeats 2000000 in
theorem new_any (w : World) : Calls Try.prog 16 #[] w fun e w' => ∃ b, e = .returned (.pointer (some ⟨b, 0, none⟩)) ∧ w.heap.size ≤ b ∧ IsRing w' b Rg.new ∧ Below w.heap.size w w' := by
  have hz := ringZ_zero
  go_enter Try.func16, Try.ntmps16
  go_wp2
  go_ret
  exact ⟨_, rfl, Nat.le_refl _, ⟨0, ringZ, ⟨blk_new _ _, ringZ_new⟩⟩, (by repeat (first | (with_reducible exact Below.refl _ _) | (with_reducible refine Below.drew ?_) | (with_reducible refine below_drewN ?_ _) | (with_reducible refine below_al ?_ _) | (with_reducible refine Below.alloc ?_ (by first | exact Nat.le_refl _ | omega | (simp; done) | (simp; omega)) _) | (with_reducible refine Below.setCell ?_ (by first | (simp only []; omega) | (simp; done) | (simp; omega)) _)))⟩
def lenR (r : Rg) : Int := if r.has then (r.l.length : Int) + 1 else r.l.length
set_option maxHeartbeats 1000000 in
theorem len_any (b : Nat) (r : Rg) (w : World) (hR : IsRing w b r) :
    Calls Try.prog 21 #[.pointer (some ⟨b, 0, none⟩)] w fun e w' => e = .returned (.int .i64 (lenR r)) ∧ w = w' := by
  have hlen := hR.len
  obtain ⟨f, cs, h⟩ := hR
  obtain ⟨-, k1, k2, -, -, -⟩ := h.cells
  unfold lenR
  clear h
  cases hh : r.has with
  | true =>
    rw [hh] at k2
    clear hh
    go_enter Try.func21, Try.ntmps21
    go_wp2
    go_ret
    exact ⟨rfl, rfl⟩
  | false =>
    rw [hh] at k2
    clear hh
    go_enter Try.func21, Try.ntmps21
    go_wp2
    go_ret
    exact ⟨rfl, rfl⟩
def kickR (r : Rg) : Rg := if r.has then ⟨pushL r.l r.nx, false, Wt.zero⟩ else r
def kickOut (r : Rg) : List Wt := if r.has then pushOut r.l r.nx else []
theorem RingCs.unnexted {cs : Array Value} {f : Nat} {r : Rg} (h : RingCs cs f r) : RingCs ((((cs.setIfInBounds 194 (.bool false)).setIfInBounds 195 (.int .i64 0)).setIfInBounds 196 (.int .i64 0)).setIfInBounds 197 (.int .u64 0)) f { r with has := false, nx := Wt.zero } := h.nexted false Wt.zero
/-- The next one leaves its place. -/
theorem IsRing.unnext {w : World} {b : Nat} {r : Rg} (h : IsRing w b r) : IsRing ((((w.setCell ⟨b, 194, none⟩ (.bool false)).setCell ⟨b, 195, none⟩ (.int .i64 0)).setCell ⟨b, 196, none⟩ (.int .i64 0)).setCell ⟨b, 197, none⟩ (.int .u64 0)) b { r with has := false, nx := Wt.zero } := by
  obtain ⟨f, cs, h⟩ := h
  have h1 := h.cs.nexted false Wt.zero
  unfold put3 at h1
  exact ⟨f, _, ⟨blk_set (blk_set (blk_set (blk_set h.blk))), h1⟩⟩
set_option maxHeartbeats 2000000 in
theorem kick_any (b : Nat) (r : Rg) (w : World) (hR : IsRing w b r) :
    Calls Try.prog 33 #[.pointer (some ⟨b, 0, none⟩)] w fun e w' => ∃ v, e = .returned v ∧ Kd.R kW 27 w' w.heap.size (fun _ => True) v (kickOut r) ∧ IsRing w' b (kickR r) ∧ Keep (fun k => k = b) w w' := by
  have hbl := hR.lt
  cases hh : r.has with
  | false =>
    have h1 : kickR r = r := by rw [kickR, hh]; rfl
    have h2 : kickOut r = [] := by rw [kickOut, hh]; rfl
    rw [h1, h2]
    have HR := Aside0.mk hR
    obtain ⟨f, cs, h⟩ := hR
    obtain ⟨-, k1, k2, -, -, -⟩ := h.cells
    rw [hh] at k2
    clear hh h1 h2 h
    go_enter Try.func33, Try.ntmps33
    go_wp2
    go_ret
    exact ⟨_, rfl, Kd.R_nil _ _ _ _ _, HR.out, Keep.refl _ _⟩
  | true =>
    have h1 : kickR r = ⟨pushL r.l r.nx, false, Wt.zero⟩ := by rw [kickR, hh]; rfl
    have h2 : kickOut r = pushOut r.l r.nx := by rw [kickOut, hh]; rfl
    rw [h1, h2]
    have HR := Aside0.mk hR
    obtain ⟨f, cs, h⟩ := hR
    obtain ⟨-, k1, k2, k3, k4, k5⟩ := h.cells
    have f2 := h.frozen 194
    have f3 := h.frozen 195
    have f4 := h.frozen 196
    have f5 := h.frozen 197
    rw [hh] at k2
    obtain ⟨l, has, nx⟩ := r
    simp only at k1 k3 k4 k5
    have hW : Below w.heap.size w (w.alloc (.cells #[.int .i64 nx.s, .int .i64 nx.g, .int .u64 nx.t] 27)) := below_al (Below.refl _ _) _
    have hRR : (w.alloc (.cells #[.int .i64 nx.s, .int .i64 nx.g, .int .u64 nx.t] 27)).heap[w.heap.size]? = some (.cells #[.int .i64 nx.s, .int .i64 nx.g, .int .u64 nx.t] 27 (0, 0)) := blk_new _ _
    clear hh h1 h2 h
    go_enter Try.func33, Try.ntmps33
    go_wp2_with fail
    have hI := HR.out.unnext
    have hK : Keep (fun k => k = b) w ((((w.setCell ⟨b, 194, none⟩ (.bool false)).setCell ⟨b, 195, none⟩ (.int .i64 0)).setCell ⟨b, 196, none⟩ (.int .i64 0)).setCell ⟨b, 197, none⟩ (.int .u64 0)) := (by repeat (first | (with_reducible exact Keep.refl _ _) | (with_reducible refine Keep.drewN ?_ _) | (with_reducible refine Keep.drew ?_) | (with_reducible refine Keep.setCell ?_ _ _ (by first | (right; with_reducible rfl) | (left; simp; done) | (left; simp; omega) | (right; simp; done) | (right; assumption))) | (with_reducible refine Keep.alloc ?_ _)))
    have hs : ((((w.setCell ⟨b, 194, none⟩ (.bool false)).setCell ⟨b, 195, none⟩ (.int .i64 0)).setCell ⟨b, 196, none⟩ (.int .i64 0)).setCell ⟨b, 197, none⟩ (.int .u64 0)).heap.size = w.heap.size := by simp
    generalize ((((w.setCell ⟨b, 194, none⟩ (.bool false)).setCell ⟨b, 195, none⟩ (.int .i64 0)).setCell ⟨b, 196, none⟩ (.int .i64 0)).setCell ⟨b, 197, none⟩ (.int .u64 0)) = W at *
    have hB := below_al (Below.refl W.heap.size W) (.cells #[.int .i64 nx.s, .int .i64 nx.g, .int .u64 nx.t] 27)
    refine (push_any b _ nx _ (hI.below hB)).mono ?_
    rintro e w2 ⟨v, rfl, hv, hI2, hK2⟩
    go_wp2
    go_ret
    exact ⟨_, rfl, Kd.R_lower hv (by simp; omega), hI2, hK.trans ((Keep.of_below hB).trans hK2)⟩
def takeR (r : Rg) : Rg := if r.has then ⟨r.l, false, Wt.zero⟩ else ⟨r.l.tail, r.has, r.nx⟩
def takeW (r : Rg) : Wt := if r.has then r.nx else r.l.headD Wt.zero
def takeE (r : Rg) : Int := if r.has then 0 else if r.l = [] then 21 else 0
set_option maxHeartbeats 4000000 in
theorem take_any (b : Nat) (r : Rg) (w : World) (hR : IsRing w b r) :
    Calls Try.prog 14 #[.pointer (some ⟨b, 0, none⟩)] w fun e w' => e = .returned (.tuple #[(.agg #[.int .i64 (takeW r).s, .int .i64 (takeW r).g, .int .u64 (takeW r).t]), .bool r.has, .int .i64 (takeE r)]) ∧ IsRing w' b (takeR r) ∧ Keep (fun k => k = b) w w' := by
  have hbl := hR.lt
  have hlen := hR.len
  have HR := Aside0.mk hR
  obtain ⟨f, cs, h⟩ := hR
  obtain ⟨-, k1, k2, k3, k4, k5⟩ := h.cells
  have f2 := h.frozen 194
  have f3 := h.frozen 195
  have f4 := h.frozen 196
  have f5 := h.frozen 197
  obtain ⟨l, has, nx⟩ := r
  simp only at k1 k2 k3 k4 k5 hlen
  clear h
  cases has with
  | true =>
    simp only [takeW, takeE, takeR, if_true]
    go_enter Try.func14, Try.ntmps14
    go_wp2
    obtain ⟨f, cs, h⟩ := HR.out
    refine bodyPost_ret (v := .tuple #[(.agg #[.int .i64 nx.s, .int .i64 nx.g, .int .u64 nx.t]), .bool true, .int .i64 0]) (by simp [results, Try.results14, go_sem]) rfl ⟨rfl, ⟨f, _, ⟨?_, h.cs.unnexted⟩⟩, (by repeat (first | (with_reducible exact Keep.refl _ _) | (with_reducible refine Keep.drewN ?_ _) | (with_reducible refine Keep.drew ?_) | (with_reducible refine Keep.setCell ?_ _ _ (by first | (right; with_reducible rfl) | (left; simp; done) | (left; simp; omega) | (right; simp; done) | (right; assumption))) | (with_reducible refine Keep.alloc ?_ _)))⟩
    repeat (first | (with_reducible exact h.blk) | (with_reducible refine blk_set ?_) | (with_reducible refine blk_set_ne ?_ (by first | assumption | (with_reducible rfl) | (simp; done) | (simp; omega) | omega)) | (with_reducible refine blk_drewN ?_ _) | (with_reducible refine blk_drew ?_) | (with_reducible refine blk_alloc ?_))
  | false =>
    cases l with
    | nil =>
      simp only [takeW, takeE, takeR, if_true, Bool.false_eq_true, if_false, List.headD_nil, List.tail_nil, Wt.zero]
      go_enter Try.func14, Try.ntmps14
      go_wp2
      refine bodyPost_ret (v := .tuple #[.agg #[.int .i64 0, .int .i64 0, .int .u64 0], .bool false, .int .i64 21]) (by simp [results, Try.results14, go_sem]) rfl ⟨rfl, HR.out.below (by repeat (first | (with_reducible exact Below.refl _ _) | (with_reducible refine Below.drew ?_) | (with_reducible refine below_drewN ?_ _) | (with_reducible refine below_al ?_ _) | (with_reducible refine Below.alloc ?_ (by first | exact Nat.le_refl _ | omega | (simp; done) | (simp; omega)) _) | (with_reducible refine Below.setCell ?_ (by first | (simp only []; omega) | (simp; done) | (simp; omega)) _))), (by repeat (first | (with_reducible exact Keep.refl _ _) | (with_reducible refine Keep.drewN ?_ _) | (with_reducible refine Keep.drew ?_) | (with_reducible refine Keep.setCell ?_ _ _ (by first | (right; with_reducible rfl) | (left; simp; done) | (left; simp; omega) | (right; simp; done) | (right; assumption))) | (with_reducible refine Keep.alloc ?_ _)))⟩
    | cons x l =>
      simp only [takeW, takeE, takeR, if_true, Bool.false_eq_true, if_false, List.headD_cons, List.tail_cons, reduceCtorEq]
      have hn : (((x :: l).length : Int) == 0) = false := by simp; omega
      go_enter Try.func14, Try.ntmps14
      go_wp2_with fail
      have hW : Below w.heap.size w (w.alloc (.cells #[.int .i64 0, .int .i64 0, .int .u64 0] 27)) := below_al (Below.refl _ _) _
      have hRR : (w.alloc (.cells #[.int .i64 0, .int .i64 0, .int .u64 0] 27)).heap[w.heap.size]? = some (.cells #[.int .i64 0, .int .i64 0, .int .u64 0] 27 (0, 0)) := blk_new _ _
      refine (pop_any b _ x l _ (HR.out.below hW) rfl).mono ?_
      rintro e w2 ⟨rfl, hI2, hK2⟩
      have hR2 := blk_keep hRR hK2 (by omega)
      obtain ⟨r0, r1, r2, g0, g1, g2⟩ := blk3 hR2
      have hRW := lt_blk hR2
      have hI := Aside0.mk hI2
      have hK := Aside0.mk ((Keep.of_below hW).trans' hK2 (fun _ _ h => h))
      clear hI2 hK2 hW hRR hR2 k1 k2 k3 k4 k5 f2 f3 f4 f5
      go_wp2
      refine bodyPost_ret (v := .tuple #[(.agg #[.int .i64 x.s, .int .i64 x.g, .int .u64 x.t]), .bool false, .int .i64 0]) (by simp [results, Try.results14, go_sem, r0, r1, r2]) rfl ⟨rfl, hI.out.keep (F := fun k => k = w.heap.size) (by repeat (first | (with_reducible exact Keep.refl _ _) | (with_reducible refine Keep.drewN ?_ _) | (with_reducible refine Keep.drew ?_) | (with_reducible refine Keep.setCell ?_ _ _ (by first | (right; with_reducible rfl) | (left; simp; done) | (left; simp; omega) | (right; simp; done) | (right; assumption))) | (with_reducible refine Keep.alloc ?_ _))) (by omega), (by repeat (first | (with_reducible exact hK.out) | (with_reducible refine Keep.drewN ?_ _) | (with_reducible refine Keep.drew ?_) | (with_reducible refine Keep.setCell ?_ _ _ (by first | (right; with_reducible rfl) | (left; simp; done) | (left; simp; omega) | (right; simp; done) | (right; assumption))) | (with_reducible refine Keep.alloc ?_ _)))⟩
end Go.Proofs.Ytjjdojnnomokaaa
