import Derived.Test.YtnglgjegkjfnaaaSlX
import Derived.Deep.DrawnRows
set_option linter.unusedSimpArgs false
set_option linter.unusedVariables false
namespace Go.Proofs.Ytnglgjegkjfnaaa
open Go.RowKit Go.Proofs.YtnglgjegkjfnaaaW.PrintWords Go.Proofs.YtnglgjegkjfnaaaW.PrintMore Go.Proofs.YtnglgjegkjfnaaaW.PrintLast
/-! slot: printed by gen04b.py. -/
def SlotP (base b : Nat) (col : Nat → Nat) (w : World) (r : Sl × Option Int) (e : Ending) (w' : World) : Prop := ∃ col', e = .returned (.tuple #[.int .i64 (r.2.getD 0), .bool r.2.isSome]) ∧ IsSlab TS w' base b col' r.1 ∧ Nx w col w' col'
theorem getD_some {α : Type} {l : List α} {i : Nat} {x d : α} (h : l[i]? = some x) : l.getD i d = x := by rw [List.getD_eq_getElem?_getD, h]; rfl
set_option maxRecDepth 100000 in
set_option maxHeartbeats 8000000 in
theorem slot_pop {b p : Nat} {s : Sl} {base : Nat} {col : Nat → Nat} (w : World) (hb : base ≤ w.heap.size) (h : IsSlab TS w base b col s) (hO : Ok s) (hp : p < s.caches.length) (y : List Int) (x : Int) (hy : s.caches[p]? = some (y ++ [x])) : Calls Try.prog 38 #[.pointer (some ⟨b, 0, none⟩), .int .i64 p] w (SlotP base b col w (slotS s p)) := by
  have hgd : s.caches.getD p [] = y ++ [x] := getD_some hy
  have hS : slotS s p = (popS s p, some x) := by
    have h1 : fillS s p = s := by rw [fillS, if_neg (by rw [hgd]; simp)]
    rw [slotS, h1, slotT, hgd, List.getLast?_concat]
  have hpo : popS s p = { s with caches := s.caches.set p y } := by rw [popS, hgd, List.dropLast_concat]
  rw [hS, hpo]
  have hyl : (y ++ [x]).length ≤ 64 := hO.cl _ (List.mem_of_getElem? hy)
  rw [List.length_append, List.length_singleton] at hyl
  have hc64 := hO.c1
  obtain ⟨vG, vA, vC, vF, vs, h⟩ := h
  obtain ⟨gC, oC, cC, he, hgC, hg4, hat⟩ := h.r.c.form (by rw [h.r.l]; omega)
  obtain ⟨v, hv, hvrow⟩ := h.r.v _ _ hy
  have hcell := (hat _).1 _ hv
  have hfz := (hat p).2
  obtain ⟨Av, cv, rfl, -⟩ := hvrow.slice
  subst he
  obtain ⟨-, -, -, c3, -⟩ := h.cells
  have hlt := lt_blk h.blk
  have hvl := h.r.l
  rw [hvl] at c3
  obtain ⟨gV, oV, cV, he2, hgV, -, hatV⟩ := hvrow.form (by rw [ints_len]; simp)
  injection he2 with e1 e2 e3
  subst e1; subst e3
  rw [ints_len, List.length_append, List.length_singleton] at hcell
  have hx := (hatV y.length).1 (.int .i64 x) (by rw [ints_append, List.getElem?_append_right (by rw [ints_len]; omega), ints_len, Nat.sub_self]; rfl)
  have hcv := hvrow.lens.2
  rw [ints_len, List.length_append, List.length_singleton] at hcv
  have hwr : IntKind.i64.wrap (y.length : Int) = (y.length : Int) := IntWalk.i64_in _ (by omega)
  have hin : (0 : Int) ≤ (y.length : Int) ∧ (y.length : Int) ≤ (cv : Int) := by omega
  have HVR := Aside0.mk hvrow
  have HP := Aside0.mk h
  clear h hvrow hat hatV hv
  clear hS hpo hgd hy
  have hn0 : (((y.length + 1 : Nat) : Int) == 0) = false := by simp; omega
  have hn1 : decide (((y.length + 1 : Nat) : Int) > 0) = true := by simp
  have hn2 : wrap64 (((y.length + 1 : Nat) : Int) - 1) = (y.length : Int) := by rw [show (((y.length + 1 : Nat) : Int) - 1) = y.length by omega]; unfold wrap64; omega
  go_enter Try.func38, Try.ntmps38
  go_wp2
  go_region
  go_wp2
  go_ret2
  have hk : Keep (fun k => col k = 6 + p) w w.drew := Keep.of_below (Below.refl _ _).drew
  have hr : Row w.drew base (fun k => col k = 6 + p ∨ w.heap.size ≤ k) 3 (.slice (some ⟨gV, oV, none⟩) y.length cv) (ints y) := by
    have h2 := (HVR.out.take (m := y.length) (by rw [ints_len]; simp)).below (w1 := w.drew) (Below.refl _ _).drew
    rw [← ints_take, List.take_left] at h2
    exact h2.mono fun _ _ h => .inl h
  obtain ⟨col2, hQ, hN⟩ := HP.out.cache hb rfl hp hk hr
  exact ⟨col2, rfl, ⟨_, _, _, _, _, hQ⟩, hN⟩
theorem keep_cell {F : Nat → Prop} {w w1 : World} (k : Keep F w w1) {g : Nat} (hl : g < w.heap.size) (hF : ¬ F g) (i : Nat) : w1.cell? ⟨g, i, none⟩ = w.cell? ⟨g, i, none⟩ ∧ w1.frozen? ⟨g, i, none⟩ = w.frozen? ⟨g, i, none⟩ := by
  have h := k.block g hl hF
  exact ⟨by simp [World.cell?, h], by simp [World.frozen?, h]⟩
theorem fin_fill {s : Sl} {p : Nat} {z l d : List Int} {x : Int} (hp : p < s.caches.length) (hzx : s.free.take 16 = z ++ [x]) (hl : s.free.take 16 = l) (hd : s.free.drop 16 = d) : slotT (refillS s p) p = ({ limit := s.limit, gens := s.gens, alive := s.alive, caches := (s.caches.set p l).set p z, free := d }, some x) := by
  have h1 : (refillS s p).caches.getD p [] = z ++ [x] := by
    show (s.caches.set p (s.free.take 16)).getD p [] = _
    rw [getD_some (List.getElem?_set_self hp), hzx]
  rw [slotT, h1, List.getLast?_concat]
  have h2 : (s.caches.set p (s.free.take 16)).getD p [] = z ++ [x] := h1
  simp only [popS, refillS]
  rw [h2, List.dropLast_concat, ← hl, ← hd]
set_option maxRecDepth 100000 in
set_option maxHeartbeats 16000000 in
theorem slot_fill_ge {b p : Nat} {s : Sl} {base : Nat} {col : Nat → Nat} (w : World) (hb : base ≤ w.heap.size) (h : IsSlab TS w base b col s) (hO : Ok s) (hp : p < s.caches.length) (hy : s.caches[p]? = some []) (hm : 16 ≤ s.free.length) (z : List Int) (x : Int) (hzx : s.free.take 16 = z ++ [x]) : Calls Try.prog 38 #[.pointer (some ⟨b, 0, none⟩), .int .i64 p] w (SlotP base b col w (slotS s p)) := by
  have hgd : s.caches.getD p [] = [] := getD_some hy
  have hS : slotS s p = slotT (refillS s p) p := by rw [slotS, fillS, if_pos hgd]
  rw [hS]
  have FIN : Aside0 (slotT (refillS s p) p = ({ limit := s.limit, gens := s.gens, alive := s.alive, caches := (s.caches.set p (s.free.take 16)).set p z, free := s.free.drop 16 }, some x)) := ⟨fin_fill hp hzx (by rfl) (by rfl)⟩
  have hc64 := hO.c1
  have hfl := hO.fl
  obtain ⟨vG, vA, vC, vF, vs, h⟩ := h
  obtain ⟨gC, oC, cC, he, hgC, hg4, hat⟩ := h.r.c.form (by rw [h.r.l]; omega)
  obtain ⟨v, hv, hvrow⟩ := h.r.v _ _ hy
  have hcell := (hat _).1 _ hv
  have hfz := (hat p).2
  obtain ⟨Av, cv, rfl, -⟩ := hvrow.slice
  subst he
  obtain ⟨gF, oF, cF, heF, hgF, hF5, hatF⟩ := h.r.f.form (by rw [ints_len]; omega)
  subst heF
  have hcF := h.r.f.lens.2
  obtain ⟨-, -, -, c3, c4⟩ := h.cells
  have hlt := lt_blk h.blk
  have hvl := h.r.l
  rw [hvl] at c3
  have hvz : (ints ([] : List Int)).length = 0 := rfl
  rw [hvz] at hcell
  rw [ints_len] at c4 hcF
  have hFc : Aside0 (∀ j u, (ints (s.free.take 16))[j]? = some u → w.drew.cell? ((⟨gF, oF, none⟩ : Addr).add j) = some u) := ⟨fun j u hj => by
    rw [ints_take, List.getElem?_take] at hj
    split at hj
    · rw [adds]; exact (hatF j).1 u hj
    · cases hj⟩
  have HVR := Aside0.mk hvrow
  have HP := Aside0.mk h
  clear h hvrow hat hv hatF
  clear hS hgd
  have hg4' := hg4
  have htk : s.free.take 16 = z ++ [x] := by rw [← hzx]
  have hzl : z.length + 1 ≤ 16 := by have := congrArg List.length hzx; rw [List.length_take, List.length_append, List.length_singleton] at this; omega
  have hmI : (16 : Int) ≤ (s.free.length : Int) := by omega
  have hmc : (0 : Int) ≤ (16 : Int) ∧ (16 : Int) ≤ (cF : Int) := by omega
  have hmw : IntKind.i64.wrap (16 : Int) = (16 : Int) := IntWalk.i64_in _ (by omega)
  go_enter Try.func38, Try.ntmps38
  go_wp2_with fail
  have hx0 : Below w.heap.size w w.drew := (Below.refl _ _).drew
  have hxw := hx0
  have HP0 := Aside0.mk (HP.out.below hx0)
  have hc0 : w.drew.cell? ⟨b, 3, none⟩ = some (.slice (some ⟨gC, oC, none⟩) s.caches.length cC) := c3
  have hc1 : w.drew.cell? ⟨gC, oC + p, none⟩ = some (.slice Av 0 cv) := hcell
  have hc2 : w.drew.cell? ⟨b, 4, none⟩ = some (.slice (some ⟨gF, oF, none⟩) s.free.length cF) := c4
  have hgCx : gC < w.drew.heap.size := hgC
  have hbx : b < w.drew.heap.size := hlt
  have hb1 : col b = 1 := HP.out.one
  have hcellx := hc1
  have hfzx : w.drew.frozen? ⟨gC, oC + p, none⟩ = false := hfz
  have hsx : w.heap.size ≤ w.drew.heap.size := hx0.size
  clear c3 hcell c4 hlt hfz hgC
  refine start_ (n := 21) (S := fun w' => w'.cell? ⟨b, 3, none⟩ = some (.slice (some ⟨gC, oC, none⟩) s.caches.length cC) ∧ w'.cell? ⟨gC, oC + p, none⟩ = some (.slice Av 0 cv) ∧ w'.cell? ⟨b, 4, none⟩ = some (.slice (some ⟨gF, oF, none⟩) s.free.length cF)) (ds := [20]) #[false, false, false, false, false, false, false, false, false, false, false, false, false, false, false, false, false, false, false, false, false] (by kernel_rfl) rfl rfl ⟨hc0, hc1, hc2⟩ (fun hHeld => ?_)
  generalize w.drew = x0 at *
  refine pure_ (i := 0) (N := some 28) (v := ?_) (a' := ?_) #[true, false, false, false, false, false, false, false, false, false, false, false, false, false, false, false, false, false, false, false, false] rfl rfl (by kernel_rfl) (fun _ _ _ h => h) (Or.inl ⟨by rfl, ?_⟩) ?_ ?_
  rotate_left
  · intro w'
    go_simp
    with_reducible rfl
  rotate_left
  · simp only [Act.put, List.setIfInBounds_toArray, List.set_cons_zero, List.set_cons_succ]
    rfl
  refine pure_ (i := 1) (N := some 29) (v := ?_) (a' := ?_) #[true, true, false, false, false, false, false, false, false, false, false, false, false, false, false, false, false, false, false, false, false] rfl rfl (by kernel_rfl) (fun _ _ _ h => h) (Or.inl ⟨by rfl, ?_⟩) ?_ ?_
  rotate_left
  · intro w'
    go_simp
    with_reducible rfl
  rotate_left
  · simp only [Act.put, List.setIfInBounds_toArray, List.set_cons_zero, List.set_cons_succ]
    rfl
  refine pure_ (i := 2) (N := some 30) (v := ?_) (a' := ?_) #[true, true, true, false, false, false, false, false, false, false, false, false, false, false, false, false, false, false, false, false, false] rfl rfl (by kernel_rfl) (fun _ _ _ h => h) (Or.inl ⟨by rfl, ?_⟩) ?_ ?_
  rotate_left
  · intro w'
    go_simp
    with_reducible rfl
  rotate_left
  · simp only [Act.put, List.setIfInBounds_toArray, List.set_cons_zero, List.set_cons_succ]
    rfl
  refine pure_ (i := 4) (N := some 32) (v := ?_) (a' := ?_) #[true, true, true, false, true, false, false, false, false, false, false, false, false, false, false, false, false, false, false, false, false] rfl rfl (by kernel_rfl) (fun _ _ _ h => h) (Or.inl ⟨by rfl, ?_⟩) ?_ ?_
  rotate_left
  · intro w'
    go_simp
    with_reducible rfl
  rotate_left
  · simp only [Act.put, List.setIfInBounds_toArray, List.set_cons_zero, List.set_cons_succ]
    rfl
  refine pure_ (i := 5) (N := some 33) (v := ?_) (a' := ?_) #[true, true, true, false, true, true, false, false, false, false, false, false, false, false, false, false, false, false, false, false, false] rfl rfl (by kernel_rfl) (fun _ _ _ h => h) (Or.inl ⟨by rfl, ?_⟩) ?_ ?_
  rotate_left
  · intro w'
    go_simp
    with_reducible rfl
  rotate_left
  · simp only [Act.put, List.setIfInBounds_toArray, List.set_cons_zero, List.set_cons_succ]
    rfl
  refine pure_ (i := 6) (N := some 34) (v := ?_) (a' := ?_) #[true, true, true, false, true, true, true, false, false, false, false, false, false, false, false, false, false, false, false, false, false] rfl rfl (by kernel_rfl) (fun _ _ _ h => h) (Or.inl ⟨by rfl, ?_⟩) ?_ ?_
  rotate_left
  · intro w'
    go_simp
    with_reducible rfl
  rotate_left
  · simp only [Act.put, List.setIfInBounds_toArray, List.set_cons_zero, List.set_cons_succ]
    rfl
  refine pure_ (i := 7) (N := some 35) (v := ?_) (a' := ?_) #[true, true, true, false, true, true, true, true, false, false, false, false, false, false, false, false, false, false, false, false, false] rfl rfl (by kernel_rfl) (fun _ _ _ h => h) (Or.inl ⟨by rfl, ?_⟩) ?_ ?_
  rotate_left
  · intro w'
    go_simp
    with_reducible rfl
  rotate_left
  · simp only [Act.put, List.setIfInBounds_toArray, List.set_cons_zero, List.set_cons_succ]
    rfl
  refine pure_ (i := 9) (N := some 37) (v := ?_) (a' := ?_) #[true, true, true, false, true, true, true, true, false, true, false, false, false, false, false, false, false, false, false, false, false] rfl rfl (by kernel_rfl) (fun _ _ _ h => h) (Or.inl ⟨by rfl, ?_⟩) ?_ ?_
  rotate_left
  · intro w'
    go_simp
    with_reducible rfl
  rotate_left
  · simp only [Act.put, List.setIfInBounds_toArray, List.set_cons_zero, List.set_cons_succ]
    rfl
  refine pure_ (i := 12) (N := some 40) (v := ?_) (a' := ?_) #[true, true, true, false, true, true, true, true, false, true, false, false, true, false, false, false, false, false, false, false, false] rfl rfl (by kernel_rfl) (fun _ _ _ h => h) (Or.inl ⟨by rfl, ?_⟩) ?_ ?_
  rotate_left
  · intro w'
    go_simp
    with_reducible rfl
  rotate_left
  · simp only [Act.put, List.setIfInBounds_toArray, List.set_cons_zero, List.set_cons_succ]
    rfl
  refine pure_ (i := 13) (N := some 41) (v := ?_) (a' := ?_) #[true, true, true, false, true, true, true, true, false, true, false, false, true, true, false, false, false, false, false, false, false] rfl rfl (by kernel_rfl) (fun _ _ _ h => h) (Or.inl ⟨by rfl, ?_⟩) ?_ ?_
  rotate_left
  · intro w'
    go_simp
    with_reducible rfl
  rotate_left
  · simp only [Act.put, List.setIfInBounds_toArray, List.set_cons_zero, List.set_cons_succ]
    rfl
  refine pure_ (i := 14) (N := some 42) (v := ?_) (a' := ?_) #[true, true, true, false, true, true, true, true, false, true, false, false, true, true, true, false, false, false, false, false, false] rfl rfl (by kernel_rfl) (fun _ _ _ h => h) (Or.inl ⟨by rfl, ?_⟩) ?_ ?_
  rotate_left
  · intro w'
    go_simp
    with_reducible rfl
  rotate_left
  · simp only [Act.put, List.setIfInBounds_toArray, List.set_cons_zero, List.set_cons_succ]
    rfl
  refine pure_ (i := 16) (N := some 44) (v := ?_) (a' := ?_) #[true, true, true, false, true, true, true, true, false, true, false, false, true, true, true, false, true, false, false, false, false] rfl rfl (by kernel_rfl) (fun _ _ _ h => h) (Or.inl ⟨by rfl, ?_⟩) ?_ ?_
  rotate_left
  · intro w'
    go_simp
    with_reducible rfl
  rotate_left
  · simp only [Act.put, List.setIfInBounds_toArray, List.set_cons_zero, List.set_cons_succ]
    rfl
  refine take_ (i := 3) (N := some 31) (v := ?_) (a' := ?_) #[true, true, true, true, true, true, true, true, false, true, false, false, true, true, true, false, true, false, false, false, false] rfl rfl (by kernel_rfl) (fun _ _ _ h => h) (Or.inl ⟨by rfl, ?_⟩) hHeld ?_ ?_
  rotate_left
  · rintro w' ⟨s0, s1, s2⟩
    go_simp
    with_reducible rfl
  rotate_left
  · simp only [Act.put, List.setIfInBounds_toArray, List.set_cons_zero, List.set_cons_succ]
    rfl
  refine take_ (i := 8) (N := some 36) (v := ?_) (a' := ?_) #[true, true, true, true, true, true, true, true, true, true, false, false, true, true, true, false, true, false, false, false, false] rfl rfl (by kernel_rfl) (fun _ _ _ h => h) (Or.inl ⟨by rfl, ?_⟩) hHeld ?_ ?_
  rotate_left
  · rintro w' ⟨s0, s1, s2⟩
    go_simp
    with_reducible rfl
  rotate_left
  · simp only [Act.put, List.setIfInBounds_toArray, List.set_cons_zero, List.set_cons_succ]
    rfl
  refine pure_ (i := 10) (N := some 38) (v := ?_) (a' := ?_) #[true, true, true, true, true, true, true, true, true, true, true, false, true, true, true, false, true, false, false, false, false] rfl rfl (by kernel_rfl) (fun _ _ _ h => h) (Or.inl ⟨by rfl, ?_⟩) ?_ ?_
  rotate_left
  · intro w'
    go_simp
    with_reducible rfl
  rotate_left
  · simp only [Act.put, List.setIfInBounds_toArray, List.set_cons_zero, List.set_cons_succ]
    rfl
  refine take_ (i := 11) (N := some 39) (v := ?_) (a' := ?_) #[true, true, true, true, true, true, true, true, true, true, true, true, true, true, true, false, true, false, false, false, false] rfl rfl (by kernel_rfl) (fun _ _ _ h => h) (Or.inl ⟨by rfl, ?_⟩) hHeld ?_ ?_
  rotate_left
  · rintro w' ⟨s0, s1, s2⟩
    go_simp
    with_reducible rfl
  rotate_left
  · simp only [Act.put, List.setIfInBounds_toArray, List.set_cons_zero, List.set_cons_succ]
    rfl
  refine take_ (i := 15) (N := some 43) (v := ?_) (a' := ?_) #[true, true, true, true, true, true, true, true, true, true, true, true, true, true, true, true, true, false, false, false, false] rfl rfl (by kernel_rfl) (fun _ _ _ h => h) (Or.inl ⟨by rfl, ?_⟩) hHeld ?_ ?_
  rotate_left
  · rintro w' ⟨s0, s1, s2⟩
    go_simp
    with_reducible rfl
  rotate_left
  · simp only [Act.put, List.setIfInBounds_toArray, List.set_cons_zero, List.set_cons_succ]
    rfl
  refine pure_ (i := 17) (N := some 45) (v := ?_) (a' := ?_) #[true, true, true, true, true, true, true, true, true, true, true, true, true, true, true, true, true, true, false, false, false] rfl rfl (by kernel_rfl) (fun _ _ _ h => h) (Or.inl ⟨by rfl, ?_⟩) ?_ ?_
  rotate_left
  · intro w'
    go_simp
    with_reducible rfl
  rotate_left
  · simp only [Act.put, List.setIfInBounds_toArray, List.set_cons_zero, List.set_cons_succ]
    rfl
  refine one_ (i := 18) (N := some 46) #[true, true, true, true, true, true, true, true, true, true, true, true, true, true, true, true, true, true, true, false, false] rfl rfl (by kernel_rfl) (by decide) (fun K hK => ?_)
  obtain ⟨v5, w5, hr5, hrow5, hg5⟩ := row_append (P := Try.prog) (t := 26) Try.underlying26 infoIn rfl (by omega) (HVR.out.below hx0) (some ⟨gF, oF, none⟩) 16 cF (ints (s.free.take 16)) (by rw [ints_len, List.length_take]; omega) (fun _ => ⟨_, rfl, hFc.out⟩) ints_one (by rw [ints_len]; simp only [List.length_nil]; omega) (by omega)
  refine app_ (.tmp 39) (.tmp 45) 26 (by rfl) rfl rfl rfl rfl hr5 ?_
  have hK5 := grown_keep hg5 (HVR.out.below hx0).own
  obtain ⟨A5, c5, he5, -⟩ := hrow5.slice
  rw [show (ints [] ++ ints (s.free.take 16)).length = 16 by rw [List.length_append, ints_len, ints_len, List.length_take]; simp only [List.length_nil]; omega] at he5
  subst he5
  rw [show ints [] ++ ints (s.free.take 16) = ints (s.free.take 16) from rfl] at hrow5
  have hcC5 := (keep_cell hK5 hgCx (by omega) (oC + p)).1.trans hcellx
  have hcf5 := (keep_cell hK5 hgCx (by omega) (oC + p)).2.trans hfzx
  have hsz5 := hK5.size
  have hcb3 := (keep_cell hK5 hbx (by omega) 3).1.trans hc0
  have hcb4 := (keep_cell hK5 hbx (by omega) 4).1.trans hc2
  refine hK.out _ _ ⟨hcb3, hcC5, hcb4⟩ (fun hHeld => ?_)
  clear hK K
  refine norm_ (a' := ?_) ?_ ?_
  rotate_left
  · show Act.put _ (some 46) _ = _
    simp only [Act.put, List.setIfInBounds_toArray, List.set_cons_zero, List.set_cons_succ]
    rfl
  refine pure_ (i := 19) (N := some 47) (v := ?_) (a' := ?_) #[true, true, true, true, true, true, true, true, true, true, true, true, true, true, true, true, true, true, true, true, false] rfl rfl (by kernel_rfl) (fun _ _ _ h => h) (Or.inl ⟨by rfl, ?_⟩) ?_ ?_
  rotate_left
  · intro w'
    go_simp
    with_reducible rfl
  rotate_left
  · simp only [Act.put, List.setIfInBounds_toArray, List.set_cons_zero, List.set_cons_succ]
    rfl
  refine last_ (i := 20) (N := none) #[true, true, true, true, true, true, true, true, true, true, true, true, true, true, true, true, true, true, true, true, true] rfl rfl (by kernel_rfl) (by decide) (fun K hK => ?_)
  refine skip_ (w1 := ?_) (by rfl) rfl ?_ ?_
  rotate_left
  · go_simp
    first | with_reducible rfl | rfl
  refine hK.out _ _ ?_
  clear hK K
  refine done_ (by kernel_rfl) ?_
  obtain ⟨col3, hQ3, hN3⟩ := HP0.out.cache (by omega) rfl hp hK5 hrow5
  have hN3' := (Nx.of_below (c := col) hxw).trans hN3
  generalize w5.setCell ⟨gC, oC + p, none⟩ (.slice A5 16 c5) = W3 at *
  have HP3 := Aside0.mk hQ3
  have HN3 := Aside0.mk hN3'
  obtain ⟨-, -, -, -, c4⟩ := hQ3.cells
  have hf4 := (froz5 hQ3.blk).2.2.2.2
  have hlt3 := lt_blk hQ3.blk
  have hsz3 := hN3'.keep.size
  rw [ints_len] at c4
  have hz : (s.caches.set p (s.free.take 16))[p]? = some (z ++ [x]) := by rw [List.getElem?_set_self hp, htk]
  clear hQ3 hN3 hN3' hK5 hrow5 hg5 hr5 hcC5 hcf5 hsz5 hgCx hcellx hfzx hHeld
  clear hc0 hc1 hc2 hcb3 hcb4 hbx HP0 hx0 hxw hFc
  obtain ⟨gC2, oC2, cC2, he, hgC2, hg42, hat⟩ := HP3.out.r.c.form (by have h0 := HP3.out.r.l; simp only [List.length_set] at h0 ⊢; omega)
  injection he with ha hb2 hc2
  injection ha with ha
  injection ha with h1 h2
  subst h1; subst h2; subst hc2
  obtain ⟨v, hv, hvrow⟩ := HP3.out.r.v _ _ hz
  have hcell := (hat _).1 _ hv
  have hfz := (hat p).2
  obtain ⟨Av2, cv2, rfl, -⟩ := hvrow.slice
  clear hb2
  have c3 := HP3.out.cells.2.2.2.1
  have hlt := lt_blk HP3.out.blk
  rw [hvl] at c3
  obtain ⟨gV, oV, cV, he2, hgV, hgV6, hatV⟩ := hvrow.form (by rw [ints_len]; simp)
  have hbv : b ≠ gV := fun e => by have := HP3.out.one; subst e; omega
  injection he2 with e1 e2 e3
  subst e1; subst e3; clear e2
  rw [ints_len, List.length_append, List.length_singleton] at hcell
  have hx := (hatV z.length).1 (.int .i64 x) (by rw [ints_append, List.getElem?_append_right (by rw [ints_len]; omega), ints_len, Nat.sub_self]; rfl)
  have hcv := hvrow.lens.2
  rw [ints_len, List.length_append, List.length_singleton] at hcv
  have hwr : IntKind.i64.wrap (z.length : Int) = (z.length : Int) := IntWalk.i64_in _ (by omega)
  have hin : (0 : Int) ≤ (z.length : Int) ∧ (z.length : Int) ≤ (cv2 : Int) := by omega
  have HVR2 := Aside0.mk hvrow
  clear hvrow hat hatV hv
  have hn0 : (((z.length + 1 : Nat) : Int) == 0) = false := by simp; omega
  have hn1 : decide (((z.length + 1 : Nat) : Int) > 0) = true := by simp
  have hn2 : wrap64 (((z.length + 1 : Nat) : Int) - 1) = (z.length : Int) := by rw [show (((z.length + 1 : Nat) : Int) - 1) = z.length by omega]; unfold wrap64; omega
  have hbg : b ≠ gC := fun e => by have := HP3.out.one; subst e; omega
  clear HVR HP
  by_cases hce : cF = 16
  · subst hce
    have hfd := HP3.out.r.f.drop (k := 16) (by rw [ints_len]; show 16 ≤ s.free.length; omega)
    rw [← ints_drop, ints_len] at hfd
    have hX : Row W3 base (fun k => col3 k = 5) 3 (.slice (some ⟨gF, oF, none⟩) 0 0) (ints (s.free.drop 16)) := by
      rw [if_pos rfl, Nat.sub_self] at hfd
      have hl0 : s.free.length - 16 = 0 := by omega
      rw [hl0] at hfd
      exact hfd
    have hK4 : Keep (fun k => k = b) W3 (W3.setCell ⟨b, 4, none⟩ (.slice (some ⟨gF, oF, none⟩) 0 0)) := (by repeat (first | (with_reducible exact Keep.refl _ _) | (with_reducible refine Keep.drewN ?_ _) | (with_reducible refine Keep.drew ?_) | (with_reducible refine Keep.setCell ?_ _ _ (by first | (right; with_reducible rfl) | (left; simp; done) | (left; simp; omega) | (right; simp; done) | (right; assumption))) | (with_reducible refine Keep.alloc ?_ _)))
    have hB4 : (W3.setCell ⟨b, 4, none⟩ (.slice (some ⟨gF, oF, none⟩) 0 0)).heap[b]? = some (.cells #[.int .i64 s.limit, vG, vA, .slice (some ⟨gC, oC, none⟩) vs.length cC, .slice (some ⟨gF, oF, none⟩) 0 0] TS (0, 0)) := by
      have := blk_set (i := 4) (u := .slice (some ⟨gF, oF, none⟩) 0 0) HP3.out.blk
      simpa using this
    have h1b := HP3.out.one
    obtain ⟨col4, hQ4, hN4⟩ := HP3.out.fields (by omega) (new := fun _ => 0) (hK4.mono (fun i _ h => Or.inl (by show col3 i = 1; rw [h]; exact h1b))) hB4
      ((HP3.out.r.g.keep hK4 (fun i h => by show ¬ col3 i = 2; rw [h]; omega)).mono (fun _ _ h => .inl h)) ((HP3.out.r.a.keep hK4 (fun i h => by show ¬ col3 i = 3; rw [h]; omega)).mono (fun _ _ h => .inl h)) ((hX.keep hK4 (fun i h => by show ¬ col3 i = 5; rw [h]; omega)).mono (fun _ _ h => .inl h))
    have HQ4 := Aside0.mk hQ4
    have HN4 := Aside0.mk (HN3.out.trans hN4)
    have hcols4 := Aside0.mk hN4.cols
    have HVR4 := Aside0.mk (((HVR2.out.keep hK4 (fun i h => by show ¬ col3 i = 6 + p; rw [h]; omega)).mono (ok' := fun k => col4 k = 6 + p) (fun k hl h => by
      rw [hcols4.out k (by have := hl; simpa [World.setCell] using this)]; exact h)))
    have hsW : (W3.setCell ⟨b, 4, none⟩ (.slice (some ⟨gF, oF, none⟩) 0 0)).heap.size = W3.heap.size := by simp [World.setCell]
    have hsz4 := HN4.out.keep.size
    have hcell4 := (keep_cell hK4 hgC2 (show ¬ gC = b from fun e => hbg e.symm) (oC + p)).1.trans hcell
    have hfz4 := (keep_cell hK4 hgC2 (show ¬ gC = b from fun e => hbg e.symm) (oC + p)).2.trans hfz
    have c34 := (keep_cell hK4 hgC2 (show ¬ gC = b from fun e => hbg e.symm) (oC + p)).1
    have hgC4 : gC < (W3.setCell ⟨b, 4, none⟩ (.slice (some ⟨gF, oF, none⟩) 0 0)).heap.size := by rw [hsW]; exact hgC2
    have hlt4 : b < (W3.setCell ⟨b, 4, none⟩ (.slice (some ⟨gF, oF, none⟩) 0 0)).heap.size := by rw [hsW]; exact hlt
    clear hfd hX hK4 hB4 hQ4 hN4 hcols4 c34
    go_wp2_with fail
    generalize W3.setCell ⟨b, 4, none⟩ (.slice (some ⟨gF, oF, none⟩) 0 0) = W4 at *
    have c34 := HQ4.out.cells.2.2.2.1
    rw [hvl] at c34
    clear c3 c4 hcell hfz hx HP3 HN3 HVR2 hf4
    have HVR2 := HVR4
    go_region
    go_wp2
    go_ret2
    have hk : Keep (fun k => col4 k = 6 + p) W4 W4.drew := Keep.of_below (Below.refl _ _).drew
    have hr : Row W4.drew base (fun k => col4 k = 6 + p ∨ W4.heap.size ≤ k) 3 (.slice (some ⟨gV, oV, none⟩) z.length cv2) (ints z) := by
      have h2 := (HVR2.out.take (m := z.length) (by rw [ints_len]; simp)).below (w1 := W4.drew) (Below.refl _ _).drew
      rw [← ints_take, List.take_left] at h2
      exact h2.mono fun _ _ h => .inl h
    obtain ⟨col9, hQ, hN⟩ := HQ4.out.cache (by omega) rfl (by simpa using hp) hk hr
    rw [FIN.out]
    exact ⟨col9, rfl, ⟨_, _, _, _, _, hQ⟩, HN4.out.trans hN⟩
  · have hfd := HP3.out.r.f.drop (k := 16) (by rw [ints_len]; show 16 ≤ s.free.length; omega)
    rw [← ints_drop, ints_len] at hfd
    have hX : Row W3 base (fun k => col3 k = 5) 3 (.slice (some ⟨gF, oF + 16, none⟩) (s.free.length - 16) (cF - 16)) (ints (s.free.drop 16)) := by
      rw [if_neg hce, Option.map_some, adds, Nat.mul_one] at hfd
      skip
      skip
      exact hfd
    have hK4 : Keep (fun k => k = b) W3 (W3.setCell ⟨b, 4, none⟩ (.slice (some ⟨gF, oF + 16, none⟩) (s.free.length - 16) (cF - 16))) := (by repeat (first | (with_reducible exact Keep.refl _ _) | (with_reducible refine Keep.drewN ?_ _) | (with_reducible refine Keep.drew ?_) | (with_reducible refine Keep.setCell ?_ _ _ (by first | (right; with_reducible rfl) | (left; simp; done) | (left; simp; omega) | (right; simp; done) | (right; assumption))) | (with_reducible refine Keep.alloc ?_ _)))
    have hB4 : (W3.setCell ⟨b, 4, none⟩ (.slice (some ⟨gF, oF + 16, none⟩) (s.free.length - 16) (cF - 16))).heap[b]? = some (.cells #[.int .i64 s.limit, vG, vA, .slice (some ⟨gC, oC, none⟩) vs.length cC, .slice (some ⟨gF, oF + 16, none⟩) (s.free.length - 16) (cF - 16)] TS (0, 0)) := by
      have := blk_set (i := 4) (u := .slice (some ⟨gF, oF + 16, none⟩) (s.free.length - 16) (cF - 16)) HP3.out.blk
      simpa using this
    have h1b := HP3.out.one
    obtain ⟨col4, hQ4, hN4⟩ := HP3.out.fields (by omega) (new := fun _ => 0) (hK4.mono (fun i _ h => Or.inl (by show col3 i = 1; rw [h]; exact h1b))) hB4
      ((HP3.out.r.g.keep hK4 (fun i h => by show ¬ col3 i = 2; rw [h]; omega)).mono (fun _ _ h => .inl h)) ((HP3.out.r.a.keep hK4 (fun i h => by show ¬ col3 i = 3; rw [h]; omega)).mono (fun _ _ h => .inl h)) ((hX.keep hK4 (fun i h => by show ¬ col3 i = 5; rw [h]; omega)).mono (fun _ _ h => .inl h))
    have HQ4 := Aside0.mk hQ4
    have HN4 := Aside0.mk (HN3.out.trans hN4)
    have hcols4 := Aside0.mk hN4.cols
    have HVR4 := Aside0.mk (((HVR2.out.keep hK4 (fun i h => by show ¬ col3 i = 6 + p; rw [h]; omega)).mono (ok' := fun k => col4 k = 6 + p) (fun k hl h => by
      rw [hcols4.out k (by have := hl; simpa [World.setCell] using this)]; exact h)))
    have hsW : (W3.setCell ⟨b, 4, none⟩ (.slice (some ⟨gF, oF + 16, none⟩) (s.free.length - 16) (cF - 16))).heap.size = W3.heap.size := by simp [World.setCell]
    have hsz4 := HN4.out.keep.size
    have hcell4 := (keep_cell hK4 hgC2 (show ¬ gC = b from fun e => hbg e.symm) (oC + p)).1.trans hcell
    have hfz4 := (keep_cell hK4 hgC2 (show ¬ gC = b from fun e => hbg e.symm) (oC + p)).2.trans hfz
    have c34 := (keep_cell hK4 hgC2 (show ¬ gC = b from fun e => hbg e.symm) (oC + p)).1
    have hgC4 : gC < (W3.setCell ⟨b, 4, none⟩ (.slice (some ⟨gF, oF + 16, none⟩) (s.free.length - 16) (cF - 16))).heap.size := by rw [hsW]; exact hgC2
    have hlt4 : b < (W3.setCell ⟨b, 4, none⟩ (.slice (some ⟨gF, oF + 16, none⟩) (s.free.length - 16) (cF - 16))).heap.size := by rw [hsW]; exact hlt
    clear hfd hX hK4 hB4 hQ4 hN4 hcols4 c34
    go_wp2_with fail
    generalize W3.setCell ⟨b, 4, none⟩ (.slice (some ⟨gF, oF + 16, none⟩) (s.free.length - 16) (cF - 16)) = W4 at *
    have c34 := HQ4.out.cells.2.2.2.1
    rw [hvl] at c34
    clear c3 c4 hcell hfz hx HP3 HN3 HVR2 hf4
    have HVR2 := HVR4
    go_region
    go_wp2
    go_ret2
    have hk : Keep (fun k => col4 k = 6 + p) W4 W4.drew := Keep.of_below (Below.refl _ _).drew
    have hr : Row W4.drew base (fun k => col4 k = 6 + p ∨ W4.heap.size ≤ k) 3 (.slice (some ⟨gV, oV, none⟩) z.length cv2) (ints z) := by
      have h2 := (HVR2.out.take (m := z.length) (by rw [ints_len]; simp)).below (w1 := W4.drew) (Below.refl _ _).drew
      rw [← ints_take, List.take_left] at h2
      exact h2.mono fun _ _ h => .inl h
    obtain ⟨col9, hQ, hN⟩ := HQ4.out.cache (by omega) rfl (by simpa using hp) hk hr
    rw [FIN.out]
    exact ⟨col9, rfl, ⟨_, _, _, _, _, hQ⟩, HN4.out.trans hN⟩
set_option maxRecDepth 100000 in
set_option maxHeartbeats 16000000 in
theorem slot_fill_lt {b p : Nat} {s : Sl} {base : Nat} {col : Nat → Nat} (w : World) (hb : base ≤ w.heap.size) (h : IsSlab TS w base b col s) (hO : Ok s) (hp : p < s.caches.length) (hy : s.caches[p]? = some []) (hm : s.free.length < 16 ∧ 0 < s.free.length) (z : List Int) (x : Int) (hzx : s.free.take 16 = z ++ [x]) : Calls Try.prog 38 #[.pointer (some ⟨b, 0, none⟩), .int .i64 p] w (SlotP base b col w (slotS s p)) := by
  have hgd : s.caches.getD p [] = [] := getD_some hy
  have hS : slotS s p = slotT (refillS s p) p := by rw [slotS, fillS, if_pos hgd]
  rw [hS]
  have FIN : Aside0 (slotT (refillS s p) p = ({ limit := s.limit, gens := s.gens, alive := s.alive, caches := (s.caches.set p (s.free.take s.free.length)).set p z, free := s.free.drop s.free.length }, some x)) := ⟨fin_fill hp hzx (by rw [List.take_of_length_le (Nat.le_refl _), List.take_of_length_le (by omega)]) (by rw [List.drop_eq_nil_of_le (Nat.le_refl _), List.drop_eq_nil_of_le (by omega)])⟩
  have hc64 := hO.c1
  have hfl := hO.fl
  obtain ⟨vG, vA, vC, vF, vs, h⟩ := h
  obtain ⟨gC, oC, cC, he, hgC, hg4, hat⟩ := h.r.c.form (by rw [h.r.l]; omega)
  obtain ⟨v, hv, hvrow⟩ := h.r.v _ _ hy
  have hcell := (hat _).1 _ hv
  have hfz := (hat p).2
  obtain ⟨Av, cv, rfl, -⟩ := hvrow.slice
  subst he
  obtain ⟨gF, oF, cF, heF, hgF, hF5, hatF⟩ := h.r.f.form (by rw [ints_len]; omega)
  subst heF
  have hcF := h.r.f.lens.2
  obtain ⟨-, -, -, c3, c4⟩ := h.cells
  have hlt := lt_blk h.blk
  have hvl := h.r.l
  rw [hvl] at c3
  have hvz : (ints ([] : List Int)).length = 0 := rfl
  rw [hvz] at hcell
  rw [ints_len] at c4 hcF
  have hFc : Aside0 (∀ j u, (ints (s.free.take s.free.length))[j]? = some u → w.drew.cell? ((⟨gF, oF, none⟩ : Addr).add j) = some u) := ⟨fun j u hj => by
    rw [ints_take, List.getElem?_take] at hj
    split at hj
    · rw [adds]; exact (hatF j).1 u hj
    · cases hj⟩
  have HVR := Aside0.mk hvrow
  have HP := Aside0.mk h
  clear h hvrow hat hv hatF
  clear hS hgd
  have hg4' := hg4
  have htk : s.free.take s.free.length = z ++ [x] := by rw [← hzx]; rw [List.take_of_length_le (Nat.le_refl _), List.take_of_length_le (by omega)]
  have hzl : z.length + 1 ≤ 16 := by have := congrArg List.length hzx; rw [List.length_take, List.length_append, List.length_singleton] at this; omega
  have hmI : ¬ (16 : Int) ≤ (s.free.length : Int) := by omega
  have hmc : (0 : Int) ≤ (s.free.length : Int) ∧ (s.free.length : Int) ≤ (cF : Int) := by omega
  have hmw : IntKind.i64.wrap (s.free.length : Int) = (s.free.length : Int) := IntWalk.i64_in _ (by omega)
  go_enter Try.func38, Try.ntmps38
  go_wp2_with fail
  have hx0 : Below w.heap.size w w.drew := (Below.refl _ _).drew
  have hxw := hx0
  have HP0 := Aside0.mk (HP.out.below hx0)
  have hc0 : w.drew.cell? ⟨b, 3, none⟩ = some (.slice (some ⟨gC, oC, none⟩) s.caches.length cC) := c3
  have hc1 : w.drew.cell? ⟨gC, oC + p, none⟩ = some (.slice Av 0 cv) := hcell
  have hc2 : w.drew.cell? ⟨b, 4, none⟩ = some (.slice (some ⟨gF, oF, none⟩) s.free.length cF) := c4
  have hgCx : gC < w.drew.heap.size := hgC
  have hbx : b < w.drew.heap.size := hlt
  have hb1 : col b = 1 := HP.out.one
  have hcellx := hc1
  have hfzx : w.drew.frozen? ⟨gC, oC + p, none⟩ = false := hfz
  have hsx : w.heap.size ≤ w.drew.heap.size := hx0.size
  clear c3 hcell c4 hlt hfz hgC
  refine start_ (n := 21) (S := fun w' => w'.cell? ⟨b, 3, none⟩ = some (.slice (some ⟨gC, oC, none⟩) s.caches.length cC) ∧ w'.cell? ⟨gC, oC + p, none⟩ = some (.slice Av 0 cv) ∧ w'.cell? ⟨b, 4, none⟩ = some (.slice (some ⟨gF, oF, none⟩) s.free.length cF)) (ds := [20]) #[false, false, false, false, false, false, false, false, false, false, false, false, false, false, false, false, false, false, false, false, false] (by kernel_rfl) rfl rfl ⟨hc0, hc1, hc2⟩ (fun hHeld => ?_)
  generalize w.drew = x0 at *
  refine pure_ (i := 0) (N := some 28) (v := ?_) (a' := ?_) #[true, false, false, false, false, false, false, false, false, false, false, false, false, false, false, false, false, false, false, false, false] rfl rfl (by kernel_rfl) (fun _ _ _ h => h) (Or.inl ⟨by rfl, ?_⟩) ?_ ?_
  rotate_left
  · intro w'
    go_simp
    with_reducible rfl
  rotate_left
  · simp only [Act.put, List.setIfInBounds_toArray, List.set_cons_zero, List.set_cons_succ]
    rfl
  refine pure_ (i := 1) (N := some 29) (v := ?_) (a' := ?_) #[true, true, false, false, false, false, false, false, false, false, false, false, false, false, false, false, false, false, false, false, false] rfl rfl (by kernel_rfl) (fun _ _ _ h => h) (Or.inl ⟨by rfl, ?_⟩) ?_ ?_
  rotate_left
  · intro w'
    go_simp
    with_reducible rfl
  rotate_left
  · simp only [Act.put, List.setIfInBounds_toArray, List.set_cons_zero, List.set_cons_succ]
    rfl
  refine pure_ (i := 2) (N := some 30) (v := ?_) (a' := ?_) #[true, true, true, false, false, false, false, false, false, false, false, false, false, false, false, false, false, false, false, false, false] rfl rfl (by kernel_rfl) (fun _ _ _ h => h) (Or.inl ⟨by rfl, ?_⟩) ?_ ?_
  rotate_left
  · intro w'
    go_simp
    with_reducible rfl
  rotate_left
  · simp only [Act.put, List.setIfInBounds_toArray, List.set_cons_zero, List.set_cons_succ]
    rfl
  refine pure_ (i := 4) (N := some 32) (v := ?_) (a' := ?_) #[true, true, true, false, true, false, false, false, false, false, false, false, false, false, false, false, false, false, false, false, false] rfl rfl (by kernel_rfl) (fun _ _ _ h => h) (Or.inl ⟨by rfl, ?_⟩) ?_ ?_
  rotate_left
  · intro w'
    go_simp
    with_reducible rfl
  rotate_left
  · simp only [Act.put, List.setIfInBounds_toArray, List.set_cons_zero, List.set_cons_succ]
    rfl
  refine pure_ (i := 5) (N := some 33) (v := ?_) (a' := ?_) #[true, true, true, false, true, true, false, false, false, false, false, false, false, false, false, false, false, false, false, false, false] rfl rfl (by kernel_rfl) (fun _ _ _ h => h) (Or.inl ⟨by rfl, ?_⟩) ?_ ?_
  rotate_left
  · intro w'
    go_simp
    with_reducible rfl
  rotate_left
  · simp only [Act.put, List.setIfInBounds_toArray, List.set_cons_zero, List.set_cons_succ]
    rfl
  refine pure_ (i := 6) (N := some 34) (v := ?_) (a' := ?_) #[true, true, true, false, true, true, true, false, false, false, false, false, false, false, false, false, false, false, false, false, false] rfl rfl (by kernel_rfl) (fun _ _ _ h => h) (Or.inl ⟨by rfl, ?_⟩) ?_ ?_
  rotate_left
  · intro w'
    go_simp
    with_reducible rfl
  rotate_left
  · simp only [Act.put, List.setIfInBounds_toArray, List.set_cons_zero, List.set_cons_succ]
    rfl
  refine pure_ (i := 7) (N := some 35) (v := ?_) (a' := ?_) #[true, true, true, false, true, true, true, true, false, false, false, false, false, false, false, false, false, false, false, false, false] rfl rfl (by kernel_rfl) (fun _ _ _ h => h) (Or.inl ⟨by rfl, ?_⟩) ?_ ?_
  rotate_left
  · intro w'
    go_simp
    with_reducible rfl
  rotate_left
  · simp only [Act.put, List.setIfInBounds_toArray, List.set_cons_zero, List.set_cons_succ]
    rfl
  refine pure_ (i := 9) (N := some 37) (v := ?_) (a' := ?_) #[true, true, true, false, true, true, true, true, false, true, false, false, false, false, false, false, false, false, false, false, false] rfl rfl (by kernel_rfl) (fun _ _ _ h => h) (Or.inl ⟨by rfl, ?_⟩) ?_ ?_
  rotate_left
  · intro w'
    go_simp
    with_reducible rfl
  rotate_left
  · simp only [Act.put, List.setIfInBounds_toArray, List.set_cons_zero, List.set_cons_succ]
    rfl
  refine pure_ (i := 12) (N := some 40) (v := ?_) (a' := ?_) #[true, true, true, false, true, true, true, true, false, true, false, false, true, false, false, false, false, false, false, false, false] rfl rfl (by kernel_rfl) (fun _ _ _ h => h) (Or.inl ⟨by rfl, ?_⟩) ?_ ?_
  rotate_left
  · intro w'
    go_simp
    with_reducible rfl
  rotate_left
  · simp only [Act.put, List.setIfInBounds_toArray, List.set_cons_zero, List.set_cons_succ]
    rfl
  refine pure_ (i := 13) (N := some 41) (v := ?_) (a' := ?_) #[true, true, true, false, true, true, true, true, false, true, false, false, true, true, false, false, false, false, false, false, false] rfl rfl (by kernel_rfl) (fun _ _ _ h => h) (Or.inl ⟨by rfl, ?_⟩) ?_ ?_
  rotate_left
  · intro w'
    go_simp
    with_reducible rfl
  rotate_left
  · simp only [Act.put, List.setIfInBounds_toArray, List.set_cons_zero, List.set_cons_succ]
    rfl
  refine pure_ (i := 14) (N := some 42) (v := ?_) (a' := ?_) #[true, true, true, false, true, true, true, true, false, true, false, false, true, true, true, false, false, false, false, false, false] rfl rfl (by kernel_rfl) (fun _ _ _ h => h) (Or.inl ⟨by rfl, ?_⟩) ?_ ?_
  rotate_left
  · intro w'
    go_simp
    with_reducible rfl
  rotate_left
  · simp only [Act.put, List.setIfInBounds_toArray, List.set_cons_zero, List.set_cons_succ]
    rfl
  refine pure_ (i := 16) (N := some 44) (v := ?_) (a' := ?_) #[true, true, true, false, true, true, true, true, false, true, false, false, true, true, true, false, true, false, false, false, false] rfl rfl (by kernel_rfl) (fun _ _ _ h => h) (Or.inl ⟨by rfl, ?_⟩) ?_ ?_
  rotate_left
  · intro w'
    go_simp
    with_reducible rfl
  rotate_left
  · simp only [Act.put, List.setIfInBounds_toArray, List.set_cons_zero, List.set_cons_succ]
    rfl
  refine take_ (i := 3) (N := some 31) (v := ?_) (a' := ?_) #[true, true, true, true, true, true, true, true, false, true, false, false, true, true, true, false, true, false, false, false, false] rfl rfl (by kernel_rfl) (fun _ _ _ h => h) (Or.inl ⟨by rfl, ?_⟩) hHeld ?_ ?_
  rotate_left
  · rintro w' ⟨s0, s1, s2⟩
    go_simp
    with_reducible rfl
  rotate_left
  · simp only [Act.put, List.setIfInBounds_toArray, List.set_cons_zero, List.set_cons_succ]
    rfl
  refine take_ (i := 8) (N := some 36) (v := ?_) (a' := ?_) #[true, true, true, true, true, true, true, true, true, true, false, false, true, true, true, false, true, false, false, false, false] rfl rfl (by kernel_rfl) (fun _ _ _ h => h) (Or.inl ⟨by rfl, ?_⟩) hHeld ?_ ?_
  rotate_left
  · rintro w' ⟨s0, s1, s2⟩
    go_simp
    with_reducible rfl
  rotate_left
  · simp only [Act.put, List.setIfInBounds_toArray, List.set_cons_zero, List.set_cons_succ]
    rfl
  refine pure_ (i := 10) (N := some 38) (v := ?_) (a' := ?_) #[true, true, true, true, true, true, true, true, true, true, true, false, true, true, true, false, true, false, false, false, false] rfl rfl (by kernel_rfl) (fun _ _ _ h => h) (Or.inl ⟨by rfl, ?_⟩) ?_ ?_
  rotate_left
  · intro w'
    go_simp
    with_reducible rfl
  rotate_left
  · simp only [Act.put, List.setIfInBounds_toArray, List.set_cons_zero, List.set_cons_succ]
    rfl
  refine take_ (i := 11) (N := some 39) (v := ?_) (a' := ?_) #[true, true, true, true, true, true, true, true, true, true, true, true, true, true, true, false, true, false, false, false, false] rfl rfl (by kernel_rfl) (fun _ _ _ h => h) (Or.inl ⟨by rfl, ?_⟩) hHeld ?_ ?_
  rotate_left
  · rintro w' ⟨s0, s1, s2⟩
    go_simp
    with_reducible rfl
  rotate_left
  · simp only [Act.put, List.setIfInBounds_toArray, List.set_cons_zero, List.set_cons_succ]
    rfl
  refine take_ (i := 15) (N := some 43) (v := ?_) (a' := ?_) #[true, true, true, true, true, true, true, true, true, true, true, true, true, true, true, true, true, false, false, false, false] rfl rfl (by kernel_rfl) (fun _ _ _ h => h) (Or.inl ⟨by rfl, ?_⟩) hHeld ?_ ?_
  rotate_left
  · rintro w' ⟨s0, s1, s2⟩
    go_simp
    with_reducible rfl
  rotate_left
  · simp only [Act.put, List.setIfInBounds_toArray, List.set_cons_zero, List.set_cons_succ]
    rfl
  refine pure_ (i := 17) (N := some 45) (v := ?_) (a' := ?_) #[true, true, true, true, true, true, true, true, true, true, true, true, true, true, true, true, true, true, false, false, false] rfl rfl (by kernel_rfl) (fun _ _ _ h => h) (Or.inl ⟨by rfl, ?_⟩) ?_ ?_
  rotate_left
  · intro w'
    go_simp
    with_reducible rfl
  rotate_left
  · simp only [Act.put, List.setIfInBounds_toArray, List.set_cons_zero, List.set_cons_succ]
    rfl
  refine one_ (i := 18) (N := some 46) #[true, true, true, true, true, true, true, true, true, true, true, true, true, true, true, true, true, true, true, false, false] rfl rfl (by kernel_rfl) (by decide) (fun K hK => ?_)
  obtain ⟨v5, w5, hr5, hrow5, hg5⟩ := row_append (P := Try.prog) (t := 26) Try.underlying26 infoIn rfl (by omega) (HVR.out.below hx0) (some ⟨gF, oF, none⟩) s.free.length cF (ints (s.free.take s.free.length)) (by rw [ints_len, List.length_take]; omega) (fun _ => ⟨_, rfl, hFc.out⟩) ints_one (by rw [ints_len]; simp only [List.length_nil]; omega) (by omega)
  refine app_ (.tmp 39) (.tmp 45) 26 (by rfl) rfl rfl rfl rfl hr5 ?_
  have hK5 := grown_keep hg5 (HVR.out.below hx0).own
  obtain ⟨A5, c5, he5, -⟩ := hrow5.slice
  rw [show (ints [] ++ ints (s.free.take s.free.length)).length = s.free.length by rw [List.length_append, ints_len, ints_len, List.length_take]; simp only [List.length_nil]; omega] at he5
  subst he5
  rw [show ints [] ++ ints (s.free.take s.free.length) = ints (s.free.take s.free.length) from rfl] at hrow5
  have hcC5 := (keep_cell hK5 hgCx (by omega) (oC + p)).1.trans hcellx
  have hcf5 := (keep_cell hK5 hgCx (by omega) (oC + p)).2.trans hfzx
  have hsz5 := hK5.size
  have hcb3 := (keep_cell hK5 hbx (by omega) 3).1.trans hc0
  have hcb4 := (keep_cell hK5 hbx (by omega) 4).1.trans hc2
  refine hK.out _ _ ⟨hcb3, hcC5, hcb4⟩ (fun hHeld => ?_)
  clear hK K
  refine norm_ (a' := ?_) ?_ ?_
  rotate_left
  · show Act.put _ (some 46) _ = _
    simp only [Act.put, List.setIfInBounds_toArray, List.set_cons_zero, List.set_cons_succ]
    rfl
  refine pure_ (i := 19) (N := some 47) (v := ?_) (a' := ?_) #[true, true, true, true, true, true, true, true, true, true, true, true, true, true, true, true, true, true, true, true, false] rfl rfl (by kernel_rfl) (fun _ _ _ h => h) (Or.inl ⟨by rfl, ?_⟩) ?_ ?_
  rotate_left
  · intro w'
    go_simp
    with_reducible rfl
  rotate_left
  · simp only [Act.put, List.setIfInBounds_toArray, List.set_cons_zero, List.set_cons_succ]
    rfl
  refine last_ (i := 20) (N := none) #[true, true, true, true, true, true, true, true, true, true, true, true, true, true, true, true, true, true, true, true, true] rfl rfl (by kernel_rfl) (by decide) (fun K hK => ?_)
  refine skip_ (w1 := ?_) (by rfl) rfl ?_ ?_
  rotate_left
  · go_simp
    first | with_reducible rfl | rfl
  refine hK.out _ _ ?_
  clear hK K
  refine done_ (by kernel_rfl) ?_
  obtain ⟨col3, hQ3, hN3⟩ := HP0.out.cache (by omega) rfl hp hK5 hrow5
  have hN3' := (Nx.of_below (c := col) hxw).trans hN3
  generalize w5.setCell ⟨gC, oC + p, none⟩ (.slice A5 s.free.length c5) = W3 at *
  have HP3 := Aside0.mk hQ3
  have HN3 := Aside0.mk hN3'
  obtain ⟨-, -, -, -, c4⟩ := hQ3.cells
  have hf4 := (froz5 hQ3.blk).2.2.2.2
  have hlt3 := lt_blk hQ3.blk
  have hsz3 := hN3'.keep.size
  rw [ints_len] at c4
  have hz : (s.caches.set p (s.free.take s.free.length))[p]? = some (z ++ [x]) := by rw [List.getElem?_set_self hp, htk]
  clear hQ3 hN3 hN3' hK5 hrow5 hg5 hr5 hcC5 hcf5 hsz5 hgCx hcellx hfzx hHeld
  clear hc0 hc1 hc2 hcb3 hcb4 hbx HP0 hx0 hxw hFc
  obtain ⟨gC2, oC2, cC2, he, hgC2, hg42, hat⟩ := HP3.out.r.c.form (by have h0 := HP3.out.r.l; simp only [List.length_set] at h0 ⊢; omega)
  injection he with ha hb2 hc2
  injection ha with ha
  injection ha with h1 h2
  subst h1; subst h2; subst hc2
  obtain ⟨v, hv, hvrow⟩ := HP3.out.r.v _ _ hz
  have hcell := (hat _).1 _ hv
  have hfz := (hat p).2
  obtain ⟨Av2, cv2, rfl, -⟩ := hvrow.slice
  clear hb2
  have c3 := HP3.out.cells.2.2.2.1
  have hlt := lt_blk HP3.out.blk
  rw [hvl] at c3
  obtain ⟨gV, oV, cV, he2, hgV, hgV6, hatV⟩ := hvrow.form (by rw [ints_len]; simp)
  have hbv : b ≠ gV := fun e => by have := HP3.out.one; subst e; omega
  injection he2 with e1 e2 e3
  subst e1; subst e3; clear e2
  rw [ints_len, List.length_append, List.length_singleton] at hcell
  have hx := (hatV z.length).1 (.int .i64 x) (by rw [ints_append, List.getElem?_append_right (by rw [ints_len]; omega), ints_len, Nat.sub_self]; rfl)
  have hcv := hvrow.lens.2
  rw [ints_len, List.length_append, List.length_singleton] at hcv
  have hwr : IntKind.i64.wrap (z.length : Int) = (z.length : Int) := IntWalk.i64_in _ (by omega)
  have hin : (0 : Int) ≤ (z.length : Int) ∧ (z.length : Int) ≤ (cv2 : Int) := by omega
  have HVR2 := Aside0.mk hvrow
  clear hvrow hat hatV hv
  have hn0 : (((z.length + 1 : Nat) : Int) == 0) = false := by simp; omega
  have hn1 : decide (((z.length + 1 : Nat) : Int) > 0) = true := by simp
  have hn2 : wrap64 (((z.length + 1 : Nat) : Int) - 1) = (z.length : Int) := by rw [show (((z.length + 1 : Nat) : Int) - 1) = z.length by omega]; unfold wrap64; omega
  have hbg : b ≠ gC := fun e => by have := HP3.out.one; subst e; omega
  clear HVR HP
  by_cases hce : cF = s.free.length
  · subst hce
    have hfd := HP3.out.r.f.drop (k := s.free.length) (by rw [ints_len]; show s.free.length ≤ s.free.length; omega)
    rw [← ints_drop, ints_len] at hfd
    have hX : Row W3 base (fun k => col3 k = 5) 3 (.slice (some ⟨gF, oF, none⟩) 0 0) (ints (s.free.drop s.free.length)) := by
      rw [if_pos rfl, Nat.sub_self] at hfd
      skip
      skip
      exact hfd
    have hK4 : Keep (fun k => k = b) W3 (W3.setCell ⟨b, 4, none⟩ (.slice (some ⟨gF, oF, none⟩) 0 0)) := (by repeat (first | (with_reducible exact Keep.refl _ _) | (with_reducible refine Keep.drewN ?_ _) | (with_reducible refine Keep.drew ?_) | (with_reducible refine Keep.setCell ?_ _ _ (by first | (right; with_reducible rfl) | (left; simp; done) | (left; simp; omega) | (right; simp; done) | (right; assumption))) | (with_reducible refine Keep.alloc ?_ _)))
    have hB4 : (W3.setCell ⟨b, 4, none⟩ (.slice (some ⟨gF, oF, none⟩) 0 0)).heap[b]? = some (.cells #[.int .i64 s.limit, vG, vA, .slice (some ⟨gC, oC, none⟩) vs.length cC, .slice (some ⟨gF, oF, none⟩) 0 0] TS (0, 0)) := by
      have := blk_set (i := 4) (u := .slice (some ⟨gF, oF, none⟩) 0 0) HP3.out.blk
      simpa using this
    have h1b := HP3.out.one
    obtain ⟨col4, hQ4, hN4⟩ := HP3.out.fields (by omega) (new := fun _ => 0) (hK4.mono (fun i _ h => Or.inl (by show col3 i = 1; rw [h]; exact h1b))) hB4
      ((HP3.out.r.g.keep hK4 (fun i h => by show ¬ col3 i = 2; rw [h]; omega)).mono (fun _ _ h => .inl h)) ((HP3.out.r.a.keep hK4 (fun i h => by show ¬ col3 i = 3; rw [h]; omega)).mono (fun _ _ h => .inl h)) ((hX.keep hK4 (fun i h => by show ¬ col3 i = 5; rw [h]; omega)).mono (fun _ _ h => .inl h))
    have HQ4 := Aside0.mk hQ4
    have HN4 := Aside0.mk (HN3.out.trans hN4)
    have hcols4 := Aside0.mk hN4.cols
    have HVR4 := Aside0.mk (((HVR2.out.keep hK4 (fun i h => by show ¬ col3 i = 6 + p; rw [h]; omega)).mono (ok' := fun k => col4 k = 6 + p) (fun k hl h => by
      rw [hcols4.out k (by have := hl; simpa [World.setCell] using this)]; exact h)))
    have hsW : (W3.setCell ⟨b, 4, none⟩ (.slice (some ⟨gF, oF, none⟩) 0 0)).heap.size = W3.heap.size := by simp [World.setCell]
    have hsz4 := HN4.out.keep.size
    have hcell4 := (keep_cell hK4 hgC2 (show ¬ gC = b from fun e => hbg e.symm) (oC + p)).1.trans hcell
    have hfz4 := (keep_cell hK4 hgC2 (show ¬ gC = b from fun e => hbg e.symm) (oC + p)).2.trans hfz
    have c34 := (keep_cell hK4 hgC2 (show ¬ gC = b from fun e => hbg e.symm) (oC + p)).1
    have hgC4 : gC < (W3.setCell ⟨b, 4, none⟩ (.slice (some ⟨gF, oF, none⟩) 0 0)).heap.size := by rw [hsW]; exact hgC2
    have hlt4 : b < (W3.setCell ⟨b, 4, none⟩ (.slice (some ⟨gF, oF, none⟩) 0 0)).heap.size := by rw [hsW]; exact hlt
    clear hfd hX hK4 hB4 hQ4 hN4 hcols4 c34
    go_wp2_with fail
    generalize W3.setCell ⟨b, 4, none⟩ (.slice (some ⟨gF, oF, none⟩) 0 0) = W4 at *
    have c34 := HQ4.out.cells.2.2.2.1
    rw [hvl] at c34
    clear c3 c4 hcell hfz hx HP3 HN3 HVR2 hf4
    have HVR2 := HVR4
    go_region
    go_wp2
    go_ret2
    have hk : Keep (fun k => col4 k = 6 + p) W4 W4.drew := Keep.of_below (Below.refl _ _).drew
    have hr : Row W4.drew base (fun k => col4 k = 6 + p ∨ W4.heap.size ≤ k) 3 (.slice (some ⟨gV, oV, none⟩) z.length cv2) (ints z) := by
      have h2 := (HVR2.out.take (m := z.length) (by rw [ints_len]; simp)).below (w1 := W4.drew) (Below.refl _ _).drew
      rw [← ints_take, List.take_left] at h2
      exact h2.mono fun _ _ h => .inl h
    obtain ⟨col9, hQ, hN⟩ := HQ4.out.cache (by omega) rfl (by simpa using hp) hk hr
    rw [FIN.out]
    exact ⟨col9, rfl, ⟨_, _, _, _, _, hQ⟩, HN4.out.trans hN⟩
  · have hfd := HP3.out.r.f.drop (k := s.free.length) (by rw [ints_len]; show s.free.length ≤ s.free.length; omega)
    rw [← ints_drop, ints_len] at hfd
    have hX : Row W3 base (fun k => col3 k = 5) 3 (.slice (some ⟨gF, oF + s.free.length, none⟩) 0 (cF - s.free.length)) (ints (s.free.drop s.free.length)) := by
      rw [if_neg hce, Option.map_some, adds, Nat.mul_one] at hfd
      skip
      rw [Nat.sub_self] at hfd
      exact hfd
    have hK4 : Keep (fun k => k = b) W3 (W3.setCell ⟨b, 4, none⟩ (.slice (some ⟨gF, oF + s.free.length, none⟩) 0 (cF - s.free.length))) := (by repeat (first | (with_reducible exact Keep.refl _ _) | (with_reducible refine Keep.drewN ?_ _) | (with_reducible refine Keep.drew ?_) | (with_reducible refine Keep.setCell ?_ _ _ (by first | (right; with_reducible rfl) | (left; simp; done) | (left; simp; omega) | (right; simp; done) | (right; assumption))) | (with_reducible refine Keep.alloc ?_ _)))
    have hB4 : (W3.setCell ⟨b, 4, none⟩ (.slice (some ⟨gF, oF + s.free.length, none⟩) 0 (cF - s.free.length))).heap[b]? = some (.cells #[.int .i64 s.limit, vG, vA, .slice (some ⟨gC, oC, none⟩) vs.length cC, .slice (some ⟨gF, oF + s.free.length, none⟩) 0 (cF - s.free.length)] TS (0, 0)) := by
      have := blk_set (i := 4) (u := .slice (some ⟨gF, oF + s.free.length, none⟩) 0 (cF - s.free.length)) HP3.out.blk
      simpa using this
    have h1b := HP3.out.one
    obtain ⟨col4, hQ4, hN4⟩ := HP3.out.fields (by omega) (new := fun _ => 0) (hK4.mono (fun i _ h => Or.inl (by show col3 i = 1; rw [h]; exact h1b))) hB4
      ((HP3.out.r.g.keep hK4 (fun i h => by show ¬ col3 i = 2; rw [h]; omega)).mono (fun _ _ h => .inl h)) ((HP3.out.r.a.keep hK4 (fun i h => by show ¬ col3 i = 3; rw [h]; omega)).mono (fun _ _ h => .inl h)) ((hX.keep hK4 (fun i h => by show ¬ col3 i = 5; rw [h]; omega)).mono (fun _ _ h => .inl h))
    have HQ4 := Aside0.mk hQ4
    have HN4 := Aside0.mk (HN3.out.trans hN4)
    have hcols4 := Aside0.mk hN4.cols
    have HVR4 := Aside0.mk (((HVR2.out.keep hK4 (fun i h => by show ¬ col3 i = 6 + p; rw [h]; omega)).mono (ok' := fun k => col4 k = 6 + p) (fun k hl h => by
      rw [hcols4.out k (by have := hl; simpa [World.setCell] using this)]; exact h)))
    have hsW : (W3.setCell ⟨b, 4, none⟩ (.slice (some ⟨gF, oF + s.free.length, none⟩) 0 (cF - s.free.length))).heap.size = W3.heap.size := by simp [World.setCell]
    have hsz4 := HN4.out.keep.size
    have hcell4 := (keep_cell hK4 hgC2 (show ¬ gC = b from fun e => hbg e.symm) (oC + p)).1.trans hcell
    have hfz4 := (keep_cell hK4 hgC2 (show ¬ gC = b from fun e => hbg e.symm) (oC + p)).2.trans hfz
    have c34 := (keep_cell hK4 hgC2 (show ¬ gC = b from fun e => hbg e.symm) (oC + p)).1
    have hgC4 : gC < (W3.setCell ⟨b, 4, none⟩ (.slice (some ⟨gF, oF + s.free.length, none⟩) 0 (cF - s.free.length))).heap.size := by rw [hsW]; exact hgC2
    have hlt4 : b < (W3.setCell ⟨b, 4, none⟩ (.slice (some ⟨gF, oF + s.free.length, none⟩) 0 (cF - s.free.length))).heap.size := by rw [hsW]; exact hlt
    clear hfd hX hK4 hB4 hQ4 hN4 hcols4 c34
    go_wp2_with fail
    generalize W3.setCell ⟨b, 4, none⟩ (.slice (some ⟨gF, oF + s.free.length, none⟩) 0 (cF - s.free.length)) = W4 at *
    have c34 := HQ4.out.cells.2.2.2.1
    rw [hvl] at c34
    clear c3 c4 hcell hfz hx HP3 HN3 HVR2 hf4
    have HVR2 := HVR4
    go_region
    go_wp2
    go_ret2
    have hk : Keep (fun k => col4 k = 6 + p) W4 W4.drew := Keep.of_below (Below.refl _ _).drew
    have hr : Row W4.drew base (fun k => col4 k = 6 + p ∨ W4.heap.size ≤ k) 3 (.slice (some ⟨gV, oV, none⟩) z.length cv2) (ints z) := by
      have h2 := (HVR2.out.take (m := z.length) (by rw [ints_len]; simp)).below (w1 := W4.drew) (Below.refl _ _).drew
      rw [← ints_take, List.take_left] at h2
      exact h2.mono fun _ _ h => .inl h
    obtain ⟨col9, hQ, hN⟩ := HQ4.out.cache (by omega) rfl (by simpa using hp) hk hr
    rw [FIN.out]
    exact ⟨col9, rfl, ⟨_, _, _, _, _, hQ⟩, HN4.out.trans hN⟩
end Go.Proofs.Ytnglgjegkjfnaaa
