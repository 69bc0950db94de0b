import Derived.Test.YtnglgjegkjfnaaaSlK
import Derived.Deep.DrawnRows
set_option linter.unusedSimpArgs false
set_option linter.unusedVariables false
namespace Go.Proofs.Ytnglgjegkjfnaaa
open Go.RowKit Go.Proofs.YtnglgjegkjfnaaaW.PrintWords Go.Proofs.YtnglgjegkjfnaaaW.PrintMore Go.Proofs.YtnglgjegkjfnaaaW.PrintLast
/-! slot that takes from another P's cache: printed by gen04d.py. -/
theorem refill_dry {s : Sl} {p : Nat} (hfr : s.free = []) (hy : s.caches[p]? = some []) : refillS s p = s := by
  obtain ⟨l, g, a, c, fr⟩ := s
  simp only at hfr hy
  subst hfr
  have : c.set p [] = c := by
    apply List.ext_getElem?
    intro i
    by_cases h : p = i
    · subst h
      rw [List.getElem?_set_self (List.getElem?_eq_some_iff.1 hy).1, hy]
    · rw [List.getElem?_set_ne h]
  simp [refillS, this]
def slotD (s : Sl) (p : Nat) : Sl × Option Int := match stealAt s p with | some q => (robS s q, some ((s.caches.getD q []).headD 0)) | none => (s, none)
theorem slot_dry {s : Sl} {p : Nat} (hfr : s.free = []) (hy : s.caches[p]? = some []) (hg : ¬ (s.gens.length : Int) < s.limit) : slotT (refillS s p) p = slotD s p := by
  rw [refill_dry hfr hy, slotT, getD_some hy]
  exact if_neg hg
theorem steal_step {s : Sl} {p k : Nat} (hk : k < s.caches.length) : stealFrom s p (s.caches.length - k) k = if s.caches.getD ((p + k) % s.caches.length) [] = [] then stealFrom s p (s.caches.length - (k + 1)) (k + 1) else some ((p + k) % s.caches.length) := by
  rw [show s.caches.length - k = (s.caches.length - (k + 1)) + 1 by omega, stealFrom]
theorem tmod_at {p k n : Nat} (hn : 0 < n) : ((p : Int) + (k : Int)).tmod (n : Int) = (((p + k) % n : Nat) : Int) := by
  rw [Int.tmod_eq_emod_of_nonneg (by omega), Int.natCast_emod, Int.natCast_add]
set_option maxRecDepth 100000 in
set_option maxHeartbeats 16000000 in
theorem slot_rob {b p : Nat} {s : Sl} {base : Nat} {col : Nat → Nat} (w : World) (hb : base ≤ w.heap.size) (h : IsSlab TS w base b col s) (hO : Ok s) (hp : p < s.caches.length) (hy : s.caches[p]? = some []) (hfr : s.free = []) (hg : ¬ (s.gens.length : Int) < s.limit) : Calls Try.prog 38 #[.pointer (some ⟨b, 0, none⟩), .int .i64 p] w (SlotP base b col w (slotS s p)) := by
  have hgd : s.caches.getD p [] = [] := getD_some hy
  have hS : slotS s p = slotT (refillS s p) p := by rw [slotS, fillS, if_pos hgd]
  rw [hS]
  have hc64 := hO.c1
  have hgl := hO.l1
  have hc0 := hO.c0
  have hgd2 : decide ((s.gens.length : Int) < s.limit) = false := by simpa using hg
  obtain ⟨vG, vA, vC, vF, vs, h⟩ := h
  obtain ⟨gC, oC, cC, he, hgC, hg4, hat⟩ := h.r.c.form (by rw [h.r.l]; omega)
  obtain ⟨v, hv, hvrow⟩ := h.r.v _ _ hy
  have hcell := (hat _).1 _ hv
  have hfz := (hat p).2
  obtain ⟨Av, cv, rfl, -⟩ := hvrow.slice
  subst he
  obtain ⟨AF, cF, rfl, -⟩ := h.r.f.slice
  obtain ⟨AG, cG, rfl, -⟩ := h.r.g.slice
  obtain ⟨AA, cA, rfl, -⟩ := h.r.a.slice
  obtain ⟨-, -, -, c3, c4⟩ := h.cells
  have hlt := lt_blk h.blk
  have hvl := h.r.l
  rw [hvl] at c3
  have hvz : (ints ([] : List Int)).length = 0 := rfl
  rw [hvz] at hcell
  rw [ints_len, show s.free.length = 0 by rw [hfr]; rfl] at c4
  have hcu := cut0 AF cF
  have hcv := cutF AF cF
  have hfz0 : (ints s.free).length = 0 := by rw [hfr]; rfl
  rw [hfz0] at h
  have HVR := Aside0.mk hvrow
  have HP := Aside0.mk h
  clear h hvrow hat hv
  clear hS hgd
  have hg4' := hg4
  go_enter Try.func38, Try.ntmps38
  go_wp2_with fail
  have hx0 : Below w.heap.size w w.drew := (Below.refl _ _).drew
  have hxw := hx0
  have HP0 := Aside0.mk (HP.out.below hx0)
  have hc0 : w.drew.cell? ⟨b, 3, none⟩ = some (.slice (some ⟨gC, oC, none⟩) s.caches.length cC) := c3
  have hc1 : w.drew.cell? ⟨gC, oC + p, none⟩ = some (.slice Av 0 cv) := hcell
  have hc2 : w.drew.cell? ⟨b, 4, none⟩ = some (.slice AF 0 cF) := c4
  have hgCx : gC < w.drew.heap.size := hgC
  have hbx : b < w.drew.heap.size := hlt
  have hb1 : col b = 1 := HP.out.one
  have hcellx := hc1
  have hfzx : w.drew.frozen? ⟨gC, oC + p, none⟩ = false := hfz
  have hsx : w.heap.size ≤ w.drew.heap.size := hx0.size
  clear c3 hcell c4 hlt hfz hgC
  refine start_ (n := 21) (S := fun w' => w'.cell? ⟨b, 3, none⟩ = some (.slice (some ⟨gC, oC, none⟩) s.caches.length cC) ∧ w'.cell? ⟨gC, oC + p, none⟩ = some (.slice Av 0 cv) ∧ w'.cell? ⟨b, 4, none⟩ = some (.slice AF 0 cF)) (ds := [20]) #[false, false, false, false, false, false, false, false, false, false, false, false, false, false, false, false, false, false, false, false, false] (by kernel_rfl) rfl rfl ⟨hc0, hc1, hc2⟩ (fun hHeld => ?_)
  generalize w.drew = x0 at *
  refine pure_ (i := 0) (N := some 28) (v := ?_) (a' := ?_) #[true, false, false, false, false, false, false, false, false, false, false, false, false, false, false, false, false, false, false, false, false] rfl rfl (by kernel_rfl) (fun _ _ _ h => h) (Or.inl ⟨by rfl, ?_⟩) ?_ ?_
  rotate_left
  · intro w'
    go_simp
    with_reducible rfl
  rotate_left
  · simp only [Act.put, List.setIfInBounds_toArray, List.set_cons_zero, List.set_cons_succ]
    rfl
  refine pure_ (i := 1) (N := some 29) (v := ?_) (a' := ?_) #[true, true, false, false, false, false, false, false, false, false, false, false, false, false, false, false, false, false, false, false, false] rfl rfl (by kernel_rfl) (fun _ _ _ h => h) (Or.inl ⟨by rfl, ?_⟩) ?_ ?_
  rotate_left
  · intro w'
    go_simp
    with_reducible rfl
  rotate_left
  · simp only [Act.put, List.setIfInBounds_toArray, List.set_cons_zero, List.set_cons_succ]
    rfl
  refine pure_ (i := 2) (N := some 30) (v := ?_) (a' := ?_) #[true, true, true, false, false, false, false, false, false, false, false, false, false, false, false, false, false, false, false, false, false] rfl rfl (by kernel_rfl) (fun _ _ _ h => h) (Or.inl ⟨by rfl, ?_⟩) ?_ ?_
  rotate_left
  · intro w'
    go_simp
    with_reducible rfl
  rotate_left
  · simp only [Act.put, List.setIfInBounds_toArray, List.set_cons_zero, List.set_cons_succ]
    rfl
  refine pure_ (i := 4) (N := some 32) (v := ?_) (a' := ?_) #[true, true, true, false, true, false, false, false, false, false, false, false, false, false, false, false, false, false, false, false, false] rfl rfl (by kernel_rfl) (fun _ _ _ h => h) (Or.inl ⟨by rfl, ?_⟩) ?_ ?_
  rotate_left
  · intro w'
    go_simp
    with_reducible rfl
  rotate_left
  · simp only [Act.put, List.setIfInBounds_toArray, List.set_cons_zero, List.set_cons_succ]
    rfl
  refine pure_ (i := 5) (N := some 33) (v := ?_) (a' := ?_) #[true, true, true, false, true, true, false, false, false, false, false, false, false, false, false, false, false, false, false, false, false] rfl rfl (by kernel_rfl) (fun _ _ _ h => h) (Or.inl ⟨by rfl, ?_⟩) ?_ ?_
  rotate_left
  · intro w'
    go_simp
    with_reducible rfl
  rotate_left
  · simp only [Act.put, List.setIfInBounds_toArray, List.set_cons_zero, List.set_cons_succ]
    rfl
  refine pure_ (i := 6) (N := some 34) (v := ?_) (a' := ?_) #[true, true, true, false, true, true, true, false, false, false, false, false, false, false, false, false, false, false, false, false, false] rfl rfl (by kernel_rfl) (fun _ _ _ h => h) (Or.inl ⟨by rfl, ?_⟩) ?_ ?_
  rotate_left
  · intro w'
    go_simp
    with_reducible rfl
  rotate_left
  · simp only [Act.put, List.setIfInBounds_toArray, List.set_cons_zero, List.set_cons_succ]
    rfl
  refine pure_ (i := 7) (N := some 35) (v := ?_) (a' := ?_) #[true, true, true, false, true, true, true, true, false, false, false, false, false, false, false, false, false, false, false, false, false] rfl rfl (by kernel_rfl) (fun _ _ _ h => h) (Or.inl ⟨by rfl, ?_⟩) ?_ ?_
  rotate_left
  · intro w'
    go_simp
    with_reducible rfl
  rotate_left
  · simp only [Act.put, List.setIfInBounds_toArray, List.set_cons_zero, List.set_cons_succ]
    rfl
  refine pure_ (i := 9) (N := some 37) (v := ?_) (a' := ?_) #[true, true, true, false, true, true, true, true, false, true, false, false, false, false, false, false, false, false, false, false, false] rfl rfl (by kernel_rfl) (fun _ _ _ h => h) (Or.inl ⟨by rfl, ?_⟩) ?_ ?_
  rotate_left
  · intro w'
    go_simp
    with_reducible rfl
  rotate_left
  · simp only [Act.put, List.setIfInBounds_toArray, List.set_cons_zero, List.set_cons_succ]
    rfl
  refine pure_ (i := 12) (N := some 40) (v := ?_) (a' := ?_) #[true, true, true, false, true, true, true, true, false, true, false, false, true, false, false, false, false, false, false, false, false] rfl rfl (by kernel_rfl) (fun _ _ _ h => h) (Or.inl ⟨by rfl, ?_⟩) ?_ ?_
  rotate_left
  · intro w'
    go_simp
    with_reducible rfl
  rotate_left
  · simp only [Act.put, List.setIfInBounds_toArray, List.set_cons_zero, List.set_cons_succ]
    rfl
  refine pure_ (i := 13) (N := some 41) (v := ?_) (a' := ?_) #[true, true, true, false, true, true, true, true, false, true, false, false, true, true, false, false, false, false, false, false, false] rfl rfl (by kernel_rfl) (fun _ _ _ h => h) (Or.inl ⟨by rfl, ?_⟩) ?_ ?_
  rotate_left
  · intro w'
    go_simp
    with_reducible rfl
  rotate_left
  · simp only [Act.put, List.setIfInBounds_toArray, List.set_cons_zero, List.set_cons_succ]
    rfl
  refine pure_ (i := 14) (N := some 42) (v := ?_) (a' := ?_) #[true, true, true, false, true, true, true, true, false, true, false, false, true, true, true, false, false, false, false, false, false] rfl rfl (by kernel_rfl) (fun _ _ _ h => h) (Or.inl ⟨by rfl, ?_⟩) ?_ ?_
  rotate_left
  · intro w'
    go_simp
    with_reducible rfl
  rotate_left
  · simp only [Act.put, List.setIfInBounds_toArray, List.set_cons_zero, List.set_cons_succ]
    rfl
  refine pure_ (i := 16) (N := some 44) (v := ?_) (a' := ?_) #[true, true, true, false, true, true, true, true, false, true, false, false, true, true, true, false, true, false, false, false, false] rfl rfl (by kernel_rfl) (fun _ _ _ h => h) (Or.inl ⟨by rfl, ?_⟩) ?_ ?_
  rotate_left
  · intro w'
    go_simp
    with_reducible rfl
  rotate_left
  · simp only [Act.put, List.setIfInBounds_toArray, List.set_cons_zero, List.set_cons_succ]
    rfl
  refine take_ (i := 3) (N := some 31) (v := ?_) (a' := ?_) #[true, true, true, true, true, true, true, true, false, true, false, false, true, true, true, false, true, false, false, false, false] rfl rfl (by kernel_rfl) (fun _ _ _ h => h) (Or.inl ⟨by rfl, ?_⟩) hHeld ?_ ?_
  rotate_left
  · rintro w' ⟨s0, s1, s2⟩
    go_simp
    with_reducible rfl
  rotate_left
  · simp only [Act.put, List.setIfInBounds_toArray, List.set_cons_zero, List.set_cons_succ]
    rfl
  refine take_ (i := 8) (N := some 36) (v := ?_) (a' := ?_) #[true, true, true, true, true, true, true, true, true, true, false, false, true, true, true, false, true, false, false, false, false] rfl rfl (by kernel_rfl) (fun _ _ _ h => h) (Or.inl ⟨by rfl, ?_⟩) hHeld ?_ ?_
  rotate_left
  · rintro w' ⟨s0, s1, s2⟩
    go_simp
    with_reducible rfl
  rotate_left
  · simp only [Act.put, List.setIfInBounds_toArray, List.set_cons_zero, List.set_cons_succ]
    rfl
  refine pure_ (i := 10) (N := some 38) (v := ?_) (a' := ?_) #[true, true, true, true, true, true, true, true, true, true, true, false, true, true, true, false, true, false, false, false, false] rfl rfl (by kernel_rfl) (fun _ _ _ h => h) (Or.inl ⟨by rfl, ?_⟩) ?_ ?_
  rotate_left
  · intro w'
    go_simp
    with_reducible rfl
  rotate_left
  · simp only [Act.put, List.setIfInBounds_toArray, List.set_cons_zero, List.set_cons_succ]
    rfl
  refine take_ (i := 11) (N := some 39) (v := ?_) (a' := ?_) #[true, true, true, true, true, true, true, true, true, true, true, true, true, true, true, false, true, false, false, false, false] rfl rfl (by kernel_rfl) (fun _ _ _ h => h) (Or.inl ⟨by rfl, ?_⟩) hHeld ?_ ?_
  rotate_left
  · rintro w' ⟨s0, s1, s2⟩
    go_simp
    with_reducible rfl
  rotate_left
  · simp only [Act.put, List.setIfInBounds_toArray, List.set_cons_zero, List.set_cons_succ]
    rfl
  refine take_ (i := 15) (N := some 43) (v := ?_) (a' := ?_) #[true, true, true, true, true, true, true, true, true, true, true, true, true, true, true, true, true, false, false, false, false] rfl rfl (by kernel_rfl) (fun _ _ _ h => h) (Or.inl ⟨by rfl, ?_⟩) hHeld ?_ ?_
  rotate_left
  · rintro w' ⟨s0, s1, s2⟩
    go_simp
    with_reducible rfl
  rotate_left
  · simp only [Act.put, List.setIfInBounds_toArray, List.set_cons_zero, List.set_cons_succ]
    rfl
  refine pure_ (i := 17) (N := some 45) (v := ?_) (a' := ?_) #[true, true, true, true, true, true, true, true, true, true, true, true, true, true, true, true, true, true, false, false, false] rfl rfl (by kernel_rfl) (fun _ _ _ h => h) (Or.inl ⟨by rfl, ?_⟩) ?_ ?_
  rotate_left
  · intro w'
    go_simp
    with_reducible rfl
  rotate_left
  · simp only [Act.put, List.setIfInBounds_toArray, List.set_cons_zero, List.set_cons_succ]
    rfl
  refine one_ (i := 18) (N := some 46) #[true, true, true, true, true, true, true, true, true, true, true, true, true, true, true, true, true, true, true, false, false] rfl rfl (by kernel_rfl) (by decide) (fun K hK => ?_)
  obtain ⟨v5, w5, hr5, hrow5, hg5⟩ := row_append (P := Try.prog) (t := 26) Try.underlying26 infoIn rfl (by omega) (HVR.out.below hx0) AF 0 cF ([] : List Value) rfl (fun h => absurd h (by omega)) (fun u hu => by cases hu) (by simp [ints]) (by omega)
  refine app_ (.tmp 39) (.tmp 45) 26 (by rfl) rfl rfl rfl rfl hr5 ?_
  have hK5 := grown_keep hg5 (HVR.out.below hx0).own
  obtain ⟨A5, c5, he5, -⟩ := hrow5.slice
  rw [show (ints ([] : List Int) ++ ([] : List Value)).length = 0 from rfl] at he5
  subst he5
  rw [show ints ([] : List Int) ++ ([] : List Value) = ints [] from rfl] at hrow5
  have hcC5 := (keep_cell hK5 hgCx (by omega) (oC + p)).1.trans hcellx
  have hcf5 := (keep_cell hK5 hgCx (by omega) (oC + p)).2.trans hfzx
  have hsz5 := hK5.size
  have hcb3 := (keep_cell hK5 hbx (by omega) 3).1.trans hc0
  have hcb4 := (keep_cell hK5 hbx (by omega) 4).1.trans hc2
  refine hK.out _ _ ⟨hcb3, hcC5, hcb4⟩ (fun hHeld => ?_)
  clear hK K
  refine norm_ (a' := ?_) ?_ ?_
  rotate_left
  · show Act.put _ (some 46) _ = _
    simp only [Act.put, List.setIfInBounds_toArray, List.set_cons_zero, List.set_cons_succ]
    rfl
  refine pure_ (i := 19) (N := some 47) (v := ?_) (a' := ?_) #[true, true, true, true, true, true, true, true, true, true, true, true, true, true, true, true, true, true, true, true, false] rfl rfl (by kernel_rfl) (fun _ _ _ h => h) (Or.inl ⟨by rfl, ?_⟩) ?_ ?_
  rotate_left
  · intro w'
    go_simp
    with_reducible rfl
  rotate_left
  · simp only [Act.put, List.setIfInBounds_toArray, List.set_cons_zero, List.set_cons_succ]
    rfl
  refine last_ (i := 20) (N := none) #[true, true, true, true, true, true, true, true, true, true, true, true, true, true, true, true, true, true, true, true, true] rfl rfl (by kernel_rfl) (by decide) (fun K hK => ?_)
  refine skip_ (w1 := ?_) (by rfl) rfl ?_ ?_
  rotate_left
  · go_simp
    first | with_reducible rfl | rfl
  refine hK.out _ _ ?_
  clear hK K
  refine done_ (by kernel_rfl) ?_
  obtain ⟨col3, hQ3, hN3⟩ := HP0.out.cache (by omega) rfl hp hK5 hrow5
  have hN3' := (Nx.of_below (c := col) hxw).trans hN3
  generalize w5.setCell ⟨gC, oC + p, none⟩ (.slice A5 0 c5) = W3 at *
  have hK4 : Keep (fun k => k = b) W3 (W3.setCell ⟨b, 4, none⟩ (.slice AF 0 cF)) := (by repeat (first | (with_reducible exact Keep.refl _ _) | (with_reducible refine Keep.drewN ?_ _) | (with_reducible refine Keep.drew ?_) | (with_reducible refine Keep.setCell ?_ _ _ (by first | (right; with_reducible rfl) | (left; simp; done) | (left; simp; omega) | (right; simp; done) | (right; assumption))) | (with_reducible refine Keep.alloc ?_ _)))
  have hB4 : (W3.setCell ⟨b, 4, none⟩ (.slice AF 0 cF)).heap[b]? = some (.cells #[.int .i64 s.limit, .slice AG (ints s.gens).length cG, .slice AA (bools s.alive).length cA, .slice (some ⟨gC, oC, none⟩) vs.length cC, .slice AF 0 cF] TS (0, 0)) := by
    have := blk_set (i := 4) (u := .slice AF 0 cF) hQ3.blk
    simpa using this
  have h1b := hQ3.one
  obtain ⟨col4, hQ4, hN4⟩ := hQ3.fields (by have := hN3'.keep.size; omega) (new := fun _ => 0) (hK4.mono (fun i _ h => Or.inl (by show col3 i = 1; rw [h]; exact h1b))) hB4
    ((hQ3.r.g.keep hK4 (fun i h => by show ¬ col3 i = 2; rw [h]; omega)).mono (fun _ _ h => .inl h)) ((hQ3.r.a.keep hK4 (fun i h => by show ¬ col3 i = 3; rw [h]; omega)).mono (fun _ _ h => .inl h)) ((hQ3.r.f.keep hK4 (fun i h => by show ¬ col3 i = 5; rw [h]; omega)).mono (fun _ _ h => .inl h))
  obtain ⟨k0, k1, k2, k3, c4⟩ := hQ3.cells
  rw [hvl] at k3
  rw [ints_len] at k1
  rw [bools_len] at k2
  have hz : (s.caches.set p ([] : List Int))[p]? = some [] := List.getElem?_set_self hp
  obtain ⟨gC2, oC2, cC2, he, hgC2, hg42, hat⟩ := hQ3.r.c.form (by have h0 := hQ3.r.l; simp only [List.length_set] at h0 ⊢; omega)
  injection he with ha hb2 hc2
  injection ha with ha
  injection ha with h1 h2
  subst h1; subst h2; subst hc2
  obtain ⟨v, hv, hvrow⟩ := hQ3.r.v _ _ hz
  have hcell := (hat _).1 _ hv
  have hfz := (hat p).2
  obtain ⟨Av2, cv2, rfl, -⟩ := hvrow.slice
  clear hb2
  rw [hvz] at hcell
  have hbg : b ≠ gC := fun e => by have := hQ3.one; subst e; omega
  clear hvrow hat hv hz
  have hf4 := (froz5 hQ3.blk).2.2.2.2
  have hlt3 := lt_blk hQ3.blk
  have hN := hN3'.trans hN4
  have hsW : (W3.setCell ⟨b, 4, none⟩ (.slice AF 0 cF)).heap.size = W3.heap.size := by simp [World.setCell]
  have hQ4' : SlB TS (W3.setCell ⟨b, 4, none⟩ (.slice AF 0 cF)) base b col4 (refillS s p) (.slice AG (ints s.gens).length cG) (.slice AA (bools s.alive).length cA) (.slice (some ⟨gC, oC, none⟩) vs.length cC) (.slice AF 0 cF) (vs.set p (.slice A5 0 c5)) := by
    have e : refillS s p = { limit := s.limit, gens := s.gens, alive := s.alive, caches := s.caches.set p [], free := s.free } := by rw [refillS, hfr]; rfl
    rw [e]
    exact hQ4
  have HQ4 := Aside0.mk hQ4'
  have HN4 := Aside0.mk hN
  clear hQ3 hN3 hN3' hK5 hrow5 hg5 hr5 hcC5 hcf5 hsz5 hgCx hcellx hfzx hHeld hK4 hB4 hQ4 hN4 hN hQ4' hc0 hc1 hc2 hcb3 hcb4 hbx HP0 hx0 hxw HVR HP h1b
  go_wp2_with fail
  have hsz4 := HN4.out.keep.size
  rw [refill_dry hfr hy] at HQ4
  rw [slot_dry hfr hy (by omega)]
  generalize W3.setCell ⟨b, 4, none⟩ (.slice AF 0 cF) = W4 at *
  clear k0 k1 k2 k3 c4 hf4 hcell hfz hgl hgd2
  go_loopw [10] (fun i wr => ∃ k : Nat, 1 ≤ k ∧ k ≤ s.caches.length ∧ i = .int .i64 k ∧ Aside0 (stealAt s p = stealFrom s p (s.caches.length - k) k) ∧ Aside0 (Below W4.heap.size W4 wr)) (fun i _ => s.caches.length - (intOf i).toNat)
  case atStart => exact ⟨1, by omega, by omega, rfl, ⟨rfl⟩, ⟨Below.refl _ _⟩⟩
  case round =>
    obtain ⟨k, hk1, hk, rfl, HST, HB⟩ := hrel
    have HQr := Aside0.mk (HQ4.out.below HB.out)
    have hbr := HB.out.size
    obtain ⟨-, -, -, k3, -⟩ := HQr.out.cells
    rw [hvl] at k3
    have hblr := lt_blk HQr.out.blk
    by_cases hlt : k < s.caches.length
    · have hmod := tmod_at (p := p) (k := k) hc0
      have hql : (p + k) % s.caches.length < s.caches.length := Nat.mod_lt _ hc0
      have hstep := steal_step (p := p) hlt
      have hnz : ((s.caches.length : Nat) : Int) ≠ 0 := by omega
      generalize (p + k) % s.caches.length = q at *
      obtain ⟨y, hyq⟩ : ∃ y, s.caches[q]? = some y := ⟨_, List.getElem?_eq_getElem hql⟩
      rw [getD_some hyq] at hstep
      have hyl := hO.cl y (List.mem_of_getElem? hyq)
      obtain ⟨gC2, oC2, cC2, he, hgC2, hg42, hat⟩ := HQr.out.r.c.form (by have h0 := HQr.out.r.l; simp only [List.length_set] at h0 ⊢; omega)
      injection he with ha hb2 hc2
      injection ha with ha
      injection ha with h1 h2
      subst h1; subst h2; subst hc2
      obtain ⟨v, hv, hvrow⟩ := HQr.out.r.v _ _ hyq
      have hcell := (hat _).1 _ hv
      have hfz := (hat q).2
      obtain ⟨Av2, cv2, rfl, -⟩ := hvrow.slice
      clear hb2
      cases y with
      | nil =>
        have HST2 : Aside0 (stealAt s p = stealFrom s p (s.caches.length - (k + 1)) (k + 1)) := ⟨by rw [HST.out, hstep, if_pos rfl]⟩
        rw [show (ints ([] : List Int)).length = 0 from rfl] at hcell
        clear hstep hvrow hat hv HST
        go_wp2
        go_roundw
        case rel => exact ⟨k + 1, by omega, by omega, by go_num, HST2, HB⟩
        case measure => simp [intOf]; omega
      | cons x t =>
        have hst : stealAt s p = some q := by rw [HST.out, hstep, if_neg (by simp)]
        have FIN : Aside0 (slotD s p = ({ s with caches := s.caches.set q t }, some x)) := ⟨by
          rw [slotD, hst]
          simp only [robS, getD_some hyq]
          rfl⟩
        rw [ints_len, List.length_cons] at hcell
        rw [List.length_cons] at hyl
        obtain ⟨gV, oV, cV, he2, hgV, hgV6, hatV⟩ := hvrow.form (by rw [ints_len]; simp)
        injection he2 with e1 e2 e3
        subst e1; subst e3; clear e2
        have hx0 := (hatV 0).1 (.int .i64 x) rfl
        have hcv := hvrow.lens.2
        rw [ints_len, List.length_cons] at hcv
        have hdr := hvrow.drop (k := 1) (by rw [ints_len]; simp)
        rw [← ints_drop, List.drop_one, List.tail_cons, ints_len, List.length_cons, Nat.add_sub_cancel] at hdr
        have hl0 : decide (((t.length + 1 : Nat) : Int) > 0) = true := by simp
        have hin : (1 : Int) ≤ (t.length : Int) + 1 := by omega
        clear hstep hat hv HST hst hyq hatV
        by_cases hc1 : cv2 = 1
        · subst hc1
          obtain rfl : t = [] := List.eq_nil_of_length_eq_zero (by omega)
          rw [if_pos rfl] at hdr
          go_wp2_with fail
          have hBu : Below W4.heap.size W4 wr.drew := HB.out.drew
          have HU0 := Aside0.mk (HQr.out.below (Below.refl wr.heap.size wr).drew)
          have hrd : Rdv wr.drew (.slice (some ⟨gV, oV, none⟩) 0 0) (ints ([] : List Int)) := (hdr.below (Below.refl wr.heap.size wr).drew).reads
          have hus : wr.heap.size ≤ wr.drew.heap.size := (Below.refl wr.heap.size wr).drew.size
          have k3 : wr.drew.cell? ⟨b, 3, none⟩ = some (.slice (some ⟨gC, oC, none⟩) s.caches.length cC) := k3
          have hcell : wr.drew.cell? ⟨gC, oC + q, none⟩ = some (.slice (some ⟨gV, oV, none⟩) 1 1) := hcell
          have hfz : wr.drew.frozen? ⟨gC, oC + q, none⟩ = false := hfz
          have hx0 : wr.drew.cell? ⟨gV, oV, none⟩ = some (.int .i64 x) := hx0
          have hgC2 : gC < wr.drew.heap.size := hgC2
          have hgV : gV < wr.drew.heap.size := hgV
          refine start_ (n := 10) (S := fun w' => w'.cell? ⟨b, 3, none⟩ = some (.slice (some ⟨gC, oC, none⟩) s.caches.length cC)) (ds := [9]) #[false, false, false, false, false, false, false, false, false, false] (by kernel_rfl) rfl rfl (k3) (fun hHeld => ?_)
          generalize wr.drew = u0 at *
          refine pure_ (i := 0) (N := some 153) (v := ?_) (a' := ?_) #[true, false, false, false, false, false, false, false, false, false] rfl rfl (by kernel_rfl) (fun _ _ _ h => h) (Or.inl ⟨by rfl, ?_⟩) ?_ ?_
          rotate_left
          · intro w'
            go_simp
            with_reducible rfl
          rotate_left
          · simp only [Act.put, List.setIfInBounds_toArray, List.set_cons_zero, List.set_cons_succ]
            rfl
          refine pure_ (i := 1) (N := some 154) (v := ?_) (a' := ?_) #[true, true, false, false, false, false, false, false, false, false] rfl rfl (by kernel_rfl) (fun _ _ _ h => h) (Or.inl ⟨by rfl, ?_⟩) ?_ ?_
          rotate_left
          · intro w'
            go_simp
            with_reducible rfl
          rotate_left
          · simp only [Act.put, List.setIfInBounds_toArray, List.set_cons_zero, List.set_cons_succ]
            rfl
          refine pure_ (i := 2) (N := some 155) (v := ?_) (a' := ?_) #[true, true, true, false, false, false, false, false, false, false] rfl rfl (by kernel_rfl) (fun _ _ _ h => h) (Or.inl ⟨by rfl, ?_⟩) ?_ ?_
          rotate_left
          · intro w'
            go_simp
            with_reducible rfl
          rotate_left
          · simp only [Act.put, List.setIfInBounds_toArray, List.set_cons_zero, List.set_cons_succ]
            rfl
          refine pure_ (i := 4) (N := some 157) (v := ?_) (a' := ?_) #[true, true, true, false, true, false, false, false, false, false] rfl rfl (by kernel_rfl) (fun _ _ _ h => h) (Or.inl ⟨by rfl, ?_⟩) ?_ ?_
          rotate_left
          · intro w'
            go_simp
            with_reducible rfl
          rotate_left
          · simp only [Act.put, List.setIfInBounds_toArray, List.set_cons_zero, List.set_cons_succ]
            rfl
          refine pure_ (i := 5) (N := some 158) (v := ?_) (a' := ?_) #[true, true, true, false, true, true, false, false, false, false] rfl rfl (by kernel_rfl) (fun _ _ _ h => h) (Or.inl ⟨by rfl, ?_⟩) ?_ ?_
          rotate_left
          · intro w'
            go_simp
            with_reducible rfl
          rotate_left
          · simp only [Act.put, List.setIfInBounds_toArray, List.set_cons_zero, List.set_cons_succ]
            rfl
          refine pure_ (i := 6) (N := some 159) (v := ?_) (a' := ?_) #[true, true, true, false, true, true, true, false, false, false] rfl rfl (by kernel_rfl) (fun _ _ _ h => h) (Or.inl ⟨by rfl, ?_⟩) ?_ ?_
          rotate_left
          · intro w'
            go_simp
            with_reducible rfl
          rotate_left
          · simp only [Act.put, List.setIfInBounds_toArray, List.set_cons_zero, List.set_cons_succ]
            rfl
          refine take_ (i := 3) (N := some 156) (v := ?_) (a' := ?_) #[true, true, true, true, true, true, true, false, false, false] rfl rfl (by kernel_rfl) (fun _ _ _ h => h) (Or.inl ⟨by rfl, ?_⟩) hHeld ?_ ?_
          rotate_left
          · intro w' s0
            go_simp
            with_reducible rfl
          rotate_left
          · simp only [Act.put, List.setIfInBounds_toArray, List.set_cons_zero, List.set_cons_succ]
            rfl
          refine one_ (i := 7) (N := some 160) #[true, true, true, true, true, true, true, true, false, false] rfl rfl (by kernel_rfl) (by decide) (fun K hK => ?_)
          refine goes_ Try.func35 (by kernel_rfl) rfl #[.slice (some ⟨gV, oV, none⟩) 0 0] (by rfl) rfl rfl (by simp only [List.map_toArray, List.map_cons, List.map_nil]; rfl) ?_
          with_reducible refine (cloneI (.slice (some ⟨gV, oV, none⟩) 0 0) (ints []) u0 hrd (by rw [ints_len]; omega)).mono ?_
          rintro e w5 ⟨ux, rfl, hRx, hSx⟩
          refine ⟨_, rfl, ?_⟩
          obtain ⟨Ax, cx, rfl, -⟩ := hRx.slice
          rw [ints_len] at hRx ⊢
          have hk3 := pw_cell_below hSx k3
          have hK5 : Keep (fun i => col4 i = 6 + q) u0 w5 := Keep.of_below hSx
          have hc5 := pw_cell_below hSx hcell
          have hf5 := (keep_cell hK5 hgC2 (by omega) (oC + q)).2.trans hfz
          have hx5 := pw_cell_below hSx hx0
          have hs5 := hSx.size
          refine hK.out _ _ (hk3) (fun hHeld => ?_)
          clear hK K
          refine norm_ (a' := ?_) ?_ ?_
          rotate_left
          · show Act.put _ (some 160) _ = _
            simp only [Act.put, List.setIfInBounds_toArray, List.set_cons_zero, List.set_cons_succ]
            rfl
          refine pure_ (i := 8) (N := some 161) (v := ?_) (a' := ?_) #[true, true, true, true, true, true, true, true, true, false] rfl rfl (by kernel_rfl) (fun _ _ _ h => h) (Or.inl ⟨by rfl, ?_⟩) ?_ ?_
          rotate_left
          · intro w'
            go_simp
            with_reducible rfl
          rotate_left
          · simp only [Act.put, List.setIfInBounds_toArray, List.set_cons_zero, List.set_cons_succ]
            rfl
          refine last_ (i := 9) (N := none) #[true, true, true, true, true, true, true, true, true, true] rfl rfl (by kernel_rfl) (by decide) (fun K hK => ?_)
          refine skip_ (w1 := ?_) (by rfl) rfl ?_ ?_
          rotate_left
          · go_simp
            first | with_reducible rfl | rfl
          refine hK.out _ _ ?_
          clear hK K
          refine done_ (by kernel_rfl) ?_
          obtain ⟨col9, hQ9, hN9⟩ := HU0.out.cache (by omega) rfl hql hK5 (Row.mono (ok' := fun i => col4 i = 6 + q ∨ u0.heap.size ≤ i) (ok := fun i => u0.heap.size ≤ i) ⟨fun i hi => hRx.base_le i hi, (hRx.lower (by omega)).row, hRx.one⟩ (fun _ _ h => .inr h))
          have HQ9 := Aside0.mk hQ9
          have HN9 := Aside0.mk ((HN4.out.trans (Nx.of_below hBu)).trans hN9)
          have hx9 : gV ≠ gC := fun e => by rw [e] at hgV6; omega
          clear hQ9 hN9
          go_wp2
          go_ret2
          rw [FIN.out]
          exact ⟨col9, rfl, ⟨_, _, _, _, _, HQ9.out⟩, HN9.out⟩
        · rw [if_neg hc1, Option.map_some, adds, Nat.mul_one] at hdr
          go_wp2_with fail
          have hBu : Below W4.heap.size W4 wr.drew := HB.out.drew
          have HU0 := Aside0.mk (HQr.out.below (Below.refl wr.heap.size wr).drew)
          have hrd : Rdv wr.drew (.slice (some ⟨gV, oV + 1, none⟩) t.length (cv2 - 1)) (ints t) := (hdr.below (Below.refl wr.heap.size wr).drew).reads
          have hus : wr.heap.size ≤ wr.drew.heap.size := (Below.refl wr.heap.size wr).drew.size
          have k3 : wr.drew.cell? ⟨b, 3, none⟩ = some (.slice (some ⟨gC, oC, none⟩) s.caches.length cC) := k3
          have hcell : wr.drew.cell? ⟨gC, oC + q, none⟩ = some (.slice (some ⟨gV, oV, none⟩) (t.length + 1) cv2) := hcell
          have hfz : wr.drew.frozen? ⟨gC, oC + q, none⟩ = false := hfz
          have hx0 : wr.drew.cell? ⟨gV, oV, none⟩ = some (.int .i64 x) := hx0
          have hgC2 : gC < wr.drew.heap.size := hgC2
          have hgV : gV < wr.drew.heap.size := hgV
          refine start_ (n := 10) (S := fun w' => w'.cell? ⟨b, 3, none⟩ = some (.slice (some ⟨gC, oC, none⟩) s.caches.length cC)) (ds := [9]) #[false, false, false, false, false, false, false, false, false, false] (by kernel_rfl) rfl rfl (k3) (fun hHeld => ?_)
          generalize wr.drew = u0 at *
          refine pure_ (i := 0) (N := some 153) (v := ?_) (a' := ?_) #[true, false, false, false, false, false, false, false, false, false] rfl rfl (by kernel_rfl) (fun _ _ _ h => h) (Or.inl ⟨by rfl, ?_⟩) ?_ ?_
          rotate_left
          · intro w'
            go_simp
            with_reducible rfl
          rotate_left
          · simp only [Act.put, List.setIfInBounds_toArray, List.set_cons_zero, List.set_cons_succ]
            rfl
          refine pure_ (i := 1) (N := some 154) (v := ?_) (a' := ?_) #[true, true, false, false, false, false, false, false, false, false] rfl rfl (by kernel_rfl) (fun _ _ _ h => h) (Or.inl ⟨by rfl, ?_⟩) ?_ ?_
          rotate_left
          · intro w'
            go_simp
            with_reducible rfl
          rotate_left
          · simp only [Act.put, List.setIfInBounds_toArray, List.set_cons_zero, List.set_cons_succ]
            rfl
          refine pure_ (i := 2) (N := some 155) (v := ?_) (a' := ?_) #[true, true, true, false, false, false, false, false, false, false] rfl rfl (by kernel_rfl) (fun _ _ _ h => h) (Or.inl ⟨by rfl, ?_⟩) ?_ ?_
          rotate_left
          · intro w'
            go_simp
            with_reducible rfl
          rotate_left
          · simp only [Act.put, List.setIfInBounds_toArray, List.set_cons_zero, List.set_cons_succ]
            rfl
          refine pure_ (i := 4) (N := some 157) (v := ?_) (a' := ?_) #[true, true, true, false, true, false, false, false, false, false] rfl rfl (by kernel_rfl) (fun _ _ _ h => h) (Or.inl ⟨by rfl, ?_⟩) ?_ ?_
          rotate_left
          · intro w'
            go_simp
            with_reducible rfl
          rotate_left
          · simp only [Act.put, List.setIfInBounds_toArray, List.set_cons_zero, List.set_cons_succ]
            rfl
          refine pure_ (i := 5) (N := some 158) (v := ?_) (a' := ?_) #[true, true, true, false, true, true, false, false, false, false] rfl rfl (by kernel_rfl) (fun _ _ _ h => h) (Or.inl ⟨by rfl, ?_⟩) ?_ ?_
          rotate_left
          · intro w'
            go_simp
            with_reducible rfl
          rotate_left
          · simp only [Act.put, List.setIfInBounds_toArray, List.set_cons_zero, List.set_cons_succ]
            rfl
          refine pure_ (i := 6) (N := some 159) (v := ?_) (a' := ?_) #[true, true, true, false, true, true, true, false, false, false] rfl rfl (by kernel_rfl) (fun _ _ _ h => h) (Or.inl ⟨by rfl, ?_⟩) ?_ ?_
          rotate_left
          · intro w'
            go_simp
            with_reducible rfl
          rotate_left
          · simp only [Act.put, List.setIfInBounds_toArray, List.set_cons_zero, List.set_cons_succ]
            rfl
          refine take_ (i := 3) (N := some 156) (v := ?_) (a' := ?_) #[true, true, true, true, true, true, true, false, false, false] rfl rfl (by kernel_rfl) (fun _ _ _ h => h) (Or.inl ⟨by rfl, ?_⟩) hHeld ?_ ?_
          rotate_left
          · intro w' s0
            go_simp
            with_reducible rfl
          rotate_left
          · simp only [Act.put, List.setIfInBounds_toArray, List.set_cons_zero, List.set_cons_succ]
            rfl
          refine one_ (i := 7) (N := some 160) #[true, true, true, true, true, true, true, true, false, false] rfl rfl (by kernel_rfl) (by decide) (fun K hK => ?_)
          refine goes_ Try.func35 (by kernel_rfl) rfl #[.slice (some ⟨gV, oV + 1, none⟩) t.length (cv2 - 1)] (by rfl) rfl rfl (by simp only [List.map_toArray, List.map_cons, List.map_nil]; rfl) ?_
          with_reducible refine (cloneI (.slice (some ⟨gV, oV + 1, none⟩) t.length (cv2 - 1)) (ints t) u0 hrd (by rw [ints_len]; omega)).mono ?_
          rintro e w5 ⟨ux, rfl, hRx, hSx⟩
          refine ⟨_, rfl, ?_⟩
          obtain ⟨Ax, cx, rfl, -⟩ := hRx.slice
          rw [ints_len] at hRx ⊢
          have hk3 := pw_cell_below hSx k3
          have hK5 : Keep (fun i => col4 i = 6 + q) u0 w5 := Keep.of_below hSx
          have hc5 := pw_cell_below hSx hcell
          have hf5 := (keep_cell hK5 hgC2 (by omega) (oC + q)).2.trans hfz
          have hx5 := pw_cell_below hSx hx0
          have hs5 := hSx.size
          refine hK.out _ _ (hk3) (fun hHeld => ?_)
          clear hK K
          refine norm_ (a' := ?_) ?_ ?_
          rotate_left
          · show Act.put _ (some 160) _ = _
            simp only [Act.put, List.setIfInBounds_toArray, List.set_cons_zero, List.set_cons_succ]
            rfl
          refine pure_ (i := 8) (N := some 161) (v := ?_) (a' := ?_) #[true, true, true, true, true, true, true, true, true, false] rfl rfl (by kernel_rfl) (fun _ _ _ h => h) (Or.inl ⟨by rfl, ?_⟩) ?_ ?_
          rotate_left
          · intro w'
            go_simp
            with_reducible rfl
          rotate_left
          · simp only [Act.put, List.setIfInBounds_toArray, List.set_cons_zero, List.set_cons_succ]
            rfl
          refine last_ (i := 9) (N := none) #[true, true, true, true, true, true, true, true, true, true] rfl rfl (by kernel_rfl) (by decide) (fun K hK => ?_)
          refine skip_ (w1 := ?_) (by rfl) rfl ?_ ?_
          rotate_left
          · go_simp
            first | with_reducible rfl | rfl
          refine hK.out _ _ ?_
          clear hK K
          refine done_ (by kernel_rfl) ?_
          obtain ⟨col9, hQ9, hN9⟩ := HU0.out.cache (by omega) rfl hql hK5 (Row.mono (ok' := fun i => col4 i = 6 + q ∨ u0.heap.size ≤ i) (ok := fun i => u0.heap.size ≤ i) ⟨fun i hi => hRx.base_le i hi, (hRx.lower (by omega)).row, hRx.one⟩ (fun _ _ h => .inr h))
          have HQ9 := Aside0.mk hQ9
          have HN9 := Aside0.mk ((HN4.out.trans (Nx.of_below hBu)).trans hN9)
          have hx9 : gV ≠ gC := fun e => by rw [e] at hgV6; omega
          clear hQ9 hN9
          go_wp2
          go_ret2
          rw [FIN.out]
          exact ⟨col9, rfl, ⟨_, _, _, _, _, HQ9.out⟩, HN9.out⟩
    · obtain rfl : k = s.caches.length := by omega
      have hst : stealAt s p = none := by rw [HST.out, Nat.sub_self]; rfl
      have FIN : Aside0 (slotD s p = (s, none)) := ⟨by rw [slotD, hst]⟩
      clear HST hst
      go_wp2
      go_ret2
      rw [slot_dry hfr hy (by omega), FIN.out]
      exact ⟨col4, rfl, ⟨_, _, _, _, _, HQr.out⟩, HN4.out.trans (Nx.of_below HB.out)⟩
end Go.Proofs.Ytnglgjegkjfnaaa
