import Derived.Test.YtnglgjegkjfnaaaSlJ
import Derived.Deep.DrawnRows
set_option linter.unusedSimpArgs false
set_option linter.unusedVariables false
namespace Go.Proofs.Ytnglgjegkjfnaaa
open Go.RowKit Go.Proofs.YtnglgjegkjfnaaaW.PrintWords Go.Proofs.YtnglgjegkjfnaaaW.PrintMore Go.Proofs.YtnglgjegkjfnaaaW.PrintLast
/-! slot where the cache and the list are empty: printed by gen04c.py. -/
theorem add0 (A : Option Addr) : (A.map fun x => x.add 0) = A := by cases A <;> simp [Addr.add]
theorem cut0 (AF : Option Addr) (cF : Nat) : ∀ W, (Instr.slice 26 (.slice AF 0 cF) none (some (.int .i64 0)) none).run Try.prog W = .ok (.slice AF 0 cF) W := fun W => by
  have h := cut_to (P := Try.prog) 26 3 .i64 Try.underlying26 (show Try.prog.info? 3 = some _ from rfl) AF 0 cF 0 (by omega) (by omega) (by omega) W
  exact h
theorem cutF (AF : Option Addr) (cF : Nat) : ∀ W, (Instr.slice 26 (.slice AF 0 cF) (some (.int .i64 0)) none none).run Try.prog W = .ok (.slice AF 0 cF) W := fun W => by
  have h := cut_from (P := Try.prog) 26 3 .i64 Try.underlying26 (show Try.prog.info? 3 = some _ from rfl) 1 rfl AF 0 cF 0 (by omega) (by omega) W
  rw [h]
  simp only [Int.toNat_zero, Nat.zero_mul, Nat.sub_zero, add0]
  split <;> rfl
set_option maxRecDepth 100000 in
set_option maxHeartbeats 16000000 in
theorem slot_grow {b p : Nat} {s : Sl} {base : Nat} {col : Nat → Nat} (w : World) (hb : base ≤ w.heap.size) (h : IsSlab TS w base b col s) (hO : Ok s) (hp : p < s.caches.length) (hy : s.caches[p]? = some []) (hfr : s.free = []) (hg : (s.gens.length : Int) < s.limit) : Calls Try.prog 38 #[.pointer (some ⟨b, 0, none⟩), .int .i64 p] w (SlotP base b col w (slotS s p)) := by
  have hgd : s.caches.getD p [] = [] := getD_some hy
  have hS : slotS s p = slotT (refillS s p) p := by rw [slotS, fillS, if_pos hgd]
  rw [hS]
  have hc64 := hO.c1
  have FIN : Aside0 (slotT (refillS s p) p = (growS (refillS s p), some (s.gens.length : Int))) := ⟨by
    have h1 : (refillS s p).caches.getD p [] = [] := by
      show (s.caches.set p (s.free.take 16)).getD p [] = []
      rw [getD_some (List.getElem?_set_self hp), hfr]; rfl
    rw [slotT, h1]
    exact if_pos hg⟩
  have hgl := hO.l1
  have hal1 : s.alive.length ≤ 5000 := by have := hO.a; omega
  have hgd2 : decide ((s.gens.length : Int) < s.limit) = true := by simpa using hg
  obtain ⟨vG, vA, vC, vF, vs, h⟩ := h
  obtain ⟨gC, oC, cC, he, hgC, hg4, hat⟩ := h.r.c.form (by rw [h.r.l]; omega)
  obtain ⟨v, hv, hvrow⟩ := h.r.v _ _ hy
  have hcell := (hat _).1 _ hv
  have hfz := (hat p).2
  obtain ⟨Av, cv, rfl, -⟩ := hvrow.slice
  subst he
  obtain ⟨AF, cF, rfl, -⟩ := h.r.f.slice
  obtain ⟨AG, cG, rfl, -⟩ := h.r.g.slice
  obtain ⟨AA, cA, rfl, -⟩ := h.r.a.slice
  obtain ⟨-, -, -, c3, c4⟩ := h.cells
  have hlt := lt_blk h.blk
  have hvl := h.r.l
  rw [hvl] at c3
  have hvz : (ints ([] : List Int)).length = 0 := rfl
  rw [hvz] at hcell
  rw [ints_len, show s.free.length = 0 by rw [hfr]; rfl] at c4
  have hcu := cut0 AF cF
  have hcv := cutF AF cF
  have hfz0 : (ints s.free).length = 0 := by rw [hfr]; rfl
  rw [hfz0] at h
  have HVR := Aside0.mk hvrow
  have HP := Aside0.mk h
  clear h hvrow hat hv
  clear hS hgd
  have hg4' := hg4
  go_enter Try.func38, Try.ntmps38
  go_wp2_with fail
  have hx0 : Below w.heap.size w w.drew := (Below.refl _ _).drew
  have hxw := hx0
  have HP0 := Aside0.mk (HP.out.below hx0)
  have hc0 : w.drew.cell? ⟨b, 3, none⟩ = some (.slice (some ⟨gC, oC, none⟩) s.caches.length cC) := c3
  have hc1 : w.drew.cell? ⟨gC, oC + p, none⟩ = some (.slice Av 0 cv) := hcell
  have hc2 : w.drew.cell? ⟨b, 4, none⟩ = some (.slice AF 0 cF) := c4
  have hgCx : gC < w.drew.heap.size := hgC
  have hbx : b < w.drew.heap.size := hlt
  have hb1 : col b = 1 := HP.out.one
  have hcellx := hc1
  have hfzx : w.drew.frozen? ⟨gC, oC + p, none⟩ = false := hfz
  have hsx : w.heap.size ≤ w.drew.heap.size := hx0.size
  clear c3 hcell c4 hlt hfz hgC
  refine start_ (n := 21) (S := fun w' => w'.cell? ⟨b, 3, none⟩ = some (.slice (some ⟨gC, oC, none⟩) s.caches.length cC) ∧ w'.cell? ⟨gC, oC + p, none⟩ = some (.slice Av 0 cv) ∧ w'.cell? ⟨b, 4, none⟩ = some (.slice AF 0 cF)) (ds := [20]) #[false, false, false, false, false, false, false, false, false, false, false, false, false, false, false, false, false, false, false, false, false] (by kernel_rfl) rfl rfl ⟨hc0, hc1, hc2⟩ (fun hHeld => ?_)
  generalize w.drew = x0 at *
  refine pure_ (i := 0) (N := some 28) (v := ?_) (a' := ?_) #[true, false, false, false, false, false, false, false, false, false, false, false, false, false, false, false, false, false, false, false, false] rfl rfl (by kernel_rfl) (fun _ _ _ h => h) (Or.inl ⟨by rfl, ?_⟩) ?_ ?_
  rotate_left
  · intro w'
    go_simp
    with_reducible rfl
  rotate_left
  · simp only [Act.put, List.setIfInBounds_toArray, List.set_cons_zero, List.set_cons_succ]
    rfl
  refine pure_ (i := 1) (N := some 29) (v := ?_) (a' := ?_) #[true, true, false, false, false, false, false, false, false, false, false, false, false, false, false, false, false, false, false, false, false] rfl rfl (by kernel_rfl) (fun _ _ _ h => h) (Or.inl ⟨by rfl, ?_⟩) ?_ ?_
  rotate_left
  · intro w'
    go_simp
    with_reducible rfl
  rotate_left
  · simp only [Act.put, List.setIfInBounds_toArray, List.set_cons_zero, List.set_cons_succ]
    rfl
  refine pure_ (i := 2) (N := some 30) (v := ?_) (a' := ?_) #[true, true, true, false, false, false, false, false, false, false, false, false, false, false, false, false, false, false, false, false, false] rfl rfl (by kernel_rfl) (fun _ _ _ h => h) (Or.inl ⟨by rfl, ?_⟩) ?_ ?_
  rotate_left
  · intro w'
    go_simp
    with_reducible rfl
  rotate_left
  · simp only [Act.put, List.setIfInBounds_toArray, List.set_cons_zero, List.set_cons_succ]
    rfl
  refine pure_ (i := 4) (N := some 32) (v := ?_) (a' := ?_) #[true, true, true, false, true, false, false, false, false, false, false, false, false, false, false, false, false, false, false, false, false] rfl rfl (by kernel_rfl) (fun _ _ _ h => h) (Or.inl ⟨by rfl, ?_⟩) ?_ ?_
  rotate_left
  · intro w'
    go_simp
    with_reducible rfl
  rotate_left
  · simp only [Act.put, List.setIfInBounds_toArray, List.set_cons_zero, List.set_cons_succ]
    rfl
  refine pure_ (i := 5) (N := some 33) (v := ?_) (a' := ?_) #[true, true, true, false, true, true, false, false, false, false, false, false, false, false, false, false, false, false, false, false, false] rfl rfl (by kernel_rfl) (fun _ _ _ h => h) (Or.inl ⟨by rfl, ?_⟩) ?_ ?_
  rotate_left
  · intro w'
    go_simp
    with_reducible rfl
  rotate_left
  · simp only [Act.put, List.setIfInBounds_toArray, List.set_cons_zero, List.set_cons_succ]
    rfl
  refine pure_ (i := 6) (N := some 34) (v := ?_) (a' := ?_) #[true, true, true, false, true, true, true, false, false, false, false, false, false, false, false, false, false, false, false, false, false] rfl rfl (by kernel_rfl) (fun _ _ _ h => h) (Or.inl ⟨by rfl, ?_⟩) ?_ ?_
  rotate_left
  · intro w'
    go_simp
    with_reducible rfl
  rotate_left
  · simp only [Act.put, List.setIfInBounds_toArray, List.set_cons_zero, List.set_cons_succ]
    rfl
  refine pure_ (i := 7) (N := some 35) (v := ?_) (a' := ?_) #[true, true, true, false, true, true, true, true, false, false, false, false, false, false, false, false, false, false, false, false, false] rfl rfl (by kernel_rfl) (fun _ _ _ h => h) (Or.inl ⟨by rfl, ?_⟩) ?_ ?_
  rotate_left
  · intro w'
    go_simp
    with_reducible rfl
  rotate_left
  · simp only [Act.put, List.setIfInBounds_toArray, List.set_cons_zero, List.set_cons_succ]
    rfl
  refine pure_ (i := 9) (N := some 37) (v := ?_) (a' := ?_) #[true, true, true, false, true, true, true, true, false, true, false, false, false, false, false, false, false, false, false, false, false] rfl rfl (by kernel_rfl) (fun _ _ _ h => h) (Or.inl ⟨by rfl, ?_⟩) ?_ ?_
  rotate_left
  · intro w'
    go_simp
    with_reducible rfl
  rotate_left
  · simp only [Act.put, List.setIfInBounds_toArray, List.set_cons_zero, List.set_cons_succ]
    rfl
  refine pure_ (i := 12) (N := some 40) (v := ?_) (a' := ?_) #[true, true, true, false, true, true, true, true, false, true, false, false, true, false, false, false, false, false, false, false, false] rfl rfl (by kernel_rfl) (fun _ _ _ h => h) (Or.inl ⟨by rfl, ?_⟩) ?_ ?_
  rotate_left
  · intro w'
    go_simp
    with_reducible rfl
  rotate_left
  · simp only [Act.put, List.setIfInBounds_toArray, List.set_cons_zero, List.set_cons_succ]
    rfl
  refine pure_ (i := 13) (N := some 41) (v := ?_) (a' := ?_) #[true, true, true, false, true, true, true, true, false, true, false, false, true, true, false, false, false, false, false, false, false] rfl rfl (by kernel_rfl) (fun _ _ _ h => h) (Or.inl ⟨by rfl, ?_⟩) ?_ ?_
  rotate_left
  · intro w'
    go_simp
    with_reducible rfl
  rotate_left
  · simp only [Act.put, List.setIfInBounds_toArray, List.set_cons_zero, List.set_cons_succ]
    rfl
  refine pure_ (i := 14) (N := some 42) (v := ?_) (a' := ?_) #[true, true, true, false, true, true, true, true, false, true, false, false, true, true, true, false, false, false, false, false, false] rfl rfl (by kernel_rfl) (fun _ _ _ h => h) (Or.inl ⟨by rfl, ?_⟩) ?_ ?_
  rotate_left
  · intro w'
    go_simp
    with_reducible rfl
  rotate_left
  · simp only [Act.put, List.setIfInBounds_toArray, List.set_cons_zero, List.set_cons_succ]
    rfl
  refine pure_ (i := 16) (N := some 44) (v := ?_) (a' := ?_) #[true, true, true, false, true, true, true, true, false, true, false, false, true, true, true, false, true, false, false, false, false] rfl rfl (by kernel_rfl) (fun _ _ _ h => h) (Or.inl ⟨by rfl, ?_⟩) ?_ ?_
  rotate_left
  · intro w'
    go_simp
    with_reducible rfl
  rotate_left
  · simp only [Act.put, List.setIfInBounds_toArray, List.set_cons_zero, List.set_cons_succ]
    rfl
  refine take_ (i := 3) (N := some 31) (v := ?_) (a' := ?_) #[true, true, true, true, true, true, true, true, false, true, false, false, true, true, true, false, true, false, false, false, false] rfl rfl (by kernel_rfl) (fun _ _ _ h => h) (Or.inl ⟨by rfl, ?_⟩) hHeld ?_ ?_
  rotate_left
  · rintro w' ⟨s0, s1, s2⟩
    go_simp
    with_reducible rfl
  rotate_left
  · simp only [Act.put, List.setIfInBounds_toArray, List.set_cons_zero, List.set_cons_succ]
    rfl
  refine take_ (i := 8) (N := some 36) (v := ?_) (a' := ?_) #[true, true, true, true, true, true, true, true, true, true, false, false, true, true, true, false, true, false, false, false, false] rfl rfl (by kernel_rfl) (fun _ _ _ h => h) (Or.inl ⟨by rfl, ?_⟩) hHeld ?_ ?_
  rotate_left
  · rintro w' ⟨s0, s1, s2⟩
    go_simp
    with_reducible rfl
  rotate_left
  · simp only [Act.put, List.setIfInBounds_toArray, List.set_cons_zero, List.set_cons_succ]
    rfl
  refine pure_ (i := 10) (N := some 38) (v := ?_) (a' := ?_) #[true, true, true, true, true, true, true, true, true, true, true, false, true, true, true, false, true, false, false, false, false] rfl rfl (by kernel_rfl) (fun _ _ _ h => h) (Or.inl ⟨by rfl, ?_⟩) ?_ ?_
  rotate_left
  · intro w'
    go_simp
    with_reducible rfl
  rotate_left
  · simp only [Act.put, List.setIfInBounds_toArray, List.set_cons_zero, List.set_cons_succ]
    rfl
  refine take_ (i := 11) (N := some 39) (v := ?_) (a' := ?_) #[true, true, true, true, true, true, true, true, true, true, true, true, true, true, true, false, true, false, false, false, false] rfl rfl (by kernel_rfl) (fun _ _ _ h => h) (Or.inl ⟨by rfl, ?_⟩) hHeld ?_ ?_
  rotate_left
  · rintro w' ⟨s0, s1, s2⟩
    go_simp
    with_reducible rfl
  rotate_left
  · simp only [Act.put, List.setIfInBounds_toArray, List.set_cons_zero, List.set_cons_succ]
    rfl
  refine take_ (i := 15) (N := some 43) (v := ?_) (a' := ?_) #[true, true, true, true, true, true, true, true, true, true, true, true, true, true, true, true, true, false, false, false, false] rfl rfl (by kernel_rfl) (fun _ _ _ h => h) (Or.inl ⟨by rfl, ?_⟩) hHeld ?_ ?_
  rotate_left
  · rintro w' ⟨s0, s1, s2⟩
    go_simp
    with_reducible rfl
  rotate_left
  · simp only [Act.put, List.setIfInBounds_toArray, List.set_cons_zero, List.set_cons_succ]
    rfl
  refine pure_ (i := 17) (N := some 45) (v := ?_) (a' := ?_) #[true, true, true, true, true, true, true, true, true, true, true, true, true, true, true, true, true, true, false, false, false] rfl rfl (by kernel_rfl) (fun _ _ _ h => h) (Or.inl ⟨by rfl, ?_⟩) ?_ ?_
  rotate_left
  · intro w'
    go_simp
    with_reducible rfl
  rotate_left
  · simp only [Act.put, List.setIfInBounds_toArray, List.set_cons_zero, List.set_cons_succ]
    rfl
  refine one_ (i := 18) (N := some 46) #[true, true, true, true, true, true, true, true, true, true, true, true, true, true, true, true, true, true, true, false, false] rfl rfl (by kernel_rfl) (by decide) (fun K hK => ?_)
  obtain ⟨v5, w5, hr5, hrow5, hg5⟩ := row_append (P := Try.prog) (t := 26) Try.underlying26 infoIn rfl (by omega) (HVR.out.below hx0) AF 0 cF ([] : List Value) rfl (fun h => absurd h (by omega)) (fun u hu => by cases hu) (by simp [ints]) (by omega)
  refine app_ (.tmp 39) (.tmp 45) 26 (by rfl) rfl rfl rfl rfl hr5 ?_
  have hK5 := grown_keep hg5 (HVR.out.below hx0).own
  obtain ⟨A5, c5, he5, -⟩ := hrow5.slice
  rw [show (ints ([] : List Int) ++ ([] : List Value)).length = 0 from rfl] at he5
  subst he5
  rw [show ints ([] : List Int) ++ ([] : List Value) = ints [] from rfl] at hrow5
  have hcC5 := (keep_cell hK5 hgCx (by omega) (oC + p)).1.trans hcellx
  have hcf5 := (keep_cell hK5 hgCx (by omega) (oC + p)).2.trans hfzx
  have hsz5 := hK5.size
  have hcb3 := (keep_cell hK5 hbx (by omega) 3).1.trans hc0
  have hcb4 := (keep_cell hK5 hbx (by omega) 4).1.trans hc2
  refine hK.out _ _ ⟨hcb3, hcC5, hcb4⟩ (fun hHeld => ?_)
  clear hK K
  refine norm_ (a' := ?_) ?_ ?_
  rotate_left
  · show Act.put _ (some 46) _ = _
    simp only [Act.put, List.setIfInBounds_toArray, List.set_cons_zero, List.set_cons_succ]
    rfl
  refine pure_ (i := 19) (N := some 47) (v := ?_) (a' := ?_) #[true, true, true, true, true, true, true, true, true, true, true, true, true, true, true, true, true, true, true, true, false] rfl rfl (by kernel_rfl) (fun _ _ _ h => h) (Or.inl ⟨by rfl, ?_⟩) ?_ ?_
  rotate_left
  · intro w'
    go_simp
    with_reducible rfl
  rotate_left
  · simp only [Act.put, List.setIfInBounds_toArray, List.set_cons_zero, List.set_cons_succ]
    rfl
  refine last_ (i := 20) (N := none) #[true, true, true, true, true, true, true, true, true, true, true, true, true, true, true, true, true, true, true, true, true] rfl rfl (by kernel_rfl) (by decide) (fun K hK => ?_)
  refine skip_ (w1 := ?_) (by rfl) rfl ?_ ?_
  rotate_left
  · go_simp
    first | with_reducible rfl | rfl
  refine hK.out _ _ ?_
  clear hK K
  refine done_ (by kernel_rfl) ?_
  obtain ⟨col3, hQ3, hN3⟩ := HP0.out.cache (by omega) rfl hp hK5 hrow5
  have hN3' := (Nx.of_below (c := col) hxw).trans hN3
  generalize w5.setCell ⟨gC, oC + p, none⟩ (.slice A5 0 c5) = W3 at *
  have hK4 : Keep (fun k => k = b) W3 (W3.setCell ⟨b, 4, none⟩ (.slice AF 0 cF)) := (by repeat (first | (with_reducible exact Keep.refl _ _) | (with_reducible refine Keep.drewN ?_ _) | (with_reducible refine Keep.drew ?_) | (with_reducible refine Keep.setCell ?_ _ _ (by first | (right; with_reducible rfl) | (left; simp; done) | (left; simp; omega) | (right; simp; done) | (right; assumption))) | (with_reducible refine Keep.alloc ?_ _)))
  have hB4 : (W3.setCell ⟨b, 4, none⟩ (.slice AF 0 cF)).heap[b]? = some (.cells #[.int .i64 s.limit, .slice AG (ints s.gens).length cG, .slice AA (bools s.alive).length cA, .slice (some ⟨gC, oC, none⟩) vs.length cC, .slice AF 0 cF] TS (0, 0)) := by
    have := blk_set (i := 4) (u := .slice AF 0 cF) hQ3.blk
    simpa using this
  have h1b := hQ3.one
  obtain ⟨col4, hQ4, hN4⟩ := hQ3.fields (by have := hN3'.keep.size; omega) (new := fun _ => 0) (hK4.mono (fun i _ h => Or.inl (by show col3 i = 1; rw [h]; exact h1b))) hB4
    ((hQ3.r.g.keep hK4 (fun i h => by show ¬ col3 i = 2; rw [h]; omega)).mono (fun _ _ h => .inl h)) ((hQ3.r.a.keep hK4 (fun i h => by show ¬ col3 i = 3; rw [h]; omega)).mono (fun _ _ h => .inl h)) ((hQ3.r.f.keep hK4 (fun i h => by show ¬ col3 i = 5; rw [h]; omega)).mono (fun _ _ h => .inl h))
  obtain ⟨k0, k1, k2, k3, c4⟩ := hQ3.cells
  rw [hvl] at k3
  rw [ints_len] at k1
  rw [bools_len] at k2
  have hz : (s.caches.set p ([] : List Int))[p]? = some [] := List.getElem?_set_self hp
  obtain ⟨gC2, oC2, cC2, he, hgC2, hg42, hat⟩ := hQ3.r.c.form (by have h0 := hQ3.r.l; simp only [List.length_set] at h0 ⊢; omega)
  injection he with ha hb2 hc2
  injection ha with ha
  injection ha with h1 h2
  subst h1; subst h2; subst hc2
  obtain ⟨v, hv, hvrow⟩ := hQ3.r.v _ _ hz
  have hcell := (hat _).1 _ hv
  have hfz := (hat p).2
  obtain ⟨Av2, cv2, rfl, -⟩ := hvrow.slice
  clear hb2
  rw [hvz] at hcell
  have hbg : b ≠ gC := fun e => by have := hQ3.one; subst e; omega
  clear hvrow hat hv hz
  have hf4 := (froz5 hQ3.blk).2.2.2.2
  have hlt3 := lt_blk hQ3.blk
  have hN := hN3'.trans hN4
  have hsW : (W3.setCell ⟨b, 4, none⟩ (.slice AF 0 cF)).heap.size = W3.heap.size := by simp [World.setCell]
  have hQ4' : SlB TS (W3.setCell ⟨b, 4, none⟩ (.slice AF 0 cF)) base b col4 (refillS s p) (.slice AG (ints s.gens).length cG) (.slice AA (bools s.alive).length cA) (.slice (some ⟨gC, oC, none⟩) vs.length cC) (.slice AF 0 cF) (vs.set p (.slice A5 0 c5)) := by
    have e : refillS s p = { limit := s.limit, gens := s.gens, alive := s.alive, caches := s.caches.set p [], free := s.free } := by rw [refillS, hfr]; rfl
    rw [e]
    exact hQ4
  have HQ4 := Aside0.mk hQ4'
  have HN4 := Aside0.mk hN
  clear hQ3 hN3 hN3' hK5 hrow5 hg5 hr5 hcC5 hcf5 hsz5 hgCx hcellx hfzx hHeld hK4 hB4 hQ4 hN4 hN hQ4' hc0 hc1 hc2 hcb3 hcb4 hbx HP0 hx0 hxw HVR HP h1b
  go_wp2_with fail
  have hsz4 := HN4.out.keep.size
  generalize W3.setCell ⟨b, 4, none⟩ (.slice AF 0 cF) = W4 at *
  obtain ⟨-, k1', k2', -, -⟩ := HQ4.out.cells
  obtain ⟨-, f1', f2', -, -⟩ := froz5 HQ4.out.blk
  rw [ints_len] at k1'
  rw [bools_len] at k2'
  have HU0 : Aside0 (SlB TS W4.drew base b col4 (refillS s p) (.slice AG (ints s.gens).length cG) (.slice AA (bools s.alive).length cA) (.slice (some ⟨gC, oC, none⟩) vs.length cC) (.slice AF 0 cF) (vs.set p (.slice A5 0 c5))) := ⟨HQ4.out.below (Below.refl _ _).drew⟩
  have hxU : Below W4.heap.size W4 W4.drew := (Below.refl _ _).drew
  have hxUs := hxU.size
  have hb0 : b < W4.drew.heap.size := lt_blk HU0.out.blk
  have hb14 := HU0.out.one
  clear k0 k1 k2 k3 c4 hf4 hcell hfz
  have k1 : W4.drew.cell? ⟨b, 1, none⟩ = some (.slice AG s.gens.length cG) := k1'
  have k2 : W4.drew.cell? ⟨b, 2, none⟩ = some (.slice AA s.alive.length cA) := k2'
  have f1 : W4.drew.frozen? ⟨b, 1, none⟩ = false := f1'
  have f2 : W4.drew.frozen? ⟨b, 2, none⟩ = false := f2'
  clear k1' k2' f1' f2'
  refine start_ (n := 20) (S := fun w' => w'.cell? ⟨b, 1, none⟩ = some (.slice AG s.gens.length cG) ∧ w'.cell? ⟨b, 2, none⟩ = some (.slice AA s.alive.length cA)) (ds := [16, 19]) #[false, false, false, false, false, false, false, false, false, false, false, false, false, false, false, false, false, false, false, false] (by kernel_rfl) rfl rfl ⟨k1, k2⟩ (fun hHeld => ?_)
  generalize W4.drew = u0 at *
  refine pure_ (i := 0) (N := some 106) (v := ?_) (a' := ?_) #[true, false, false, false, false, false, false, false, false, false, false, false, false, false, false, false, false, false, false, false] rfl rfl (by kernel_rfl) (fun _ _ _ h => h) (Or.inl ⟨by rfl, ?_⟩) ?_ ?_
  rotate_left
  · intro w'
    go_simp
    with_reducible rfl
  rotate_left
  · simp only [Act.put, List.setIfInBounds_toArray, List.set_cons_zero, List.set_cons_succ]
    rfl
  refine pure_ (i := 1) (N := some 107) (v := ?_) (a' := ?_) #[true, true, false, false, false, false, false, false, false, false, false, false, false, false, false, false, false, false, false, false] rfl rfl (by kernel_rfl) (fun _ _ _ h => h) (Or.inl ⟨by rfl, ?_⟩) ?_ ?_
  rotate_left
  · intro w'
    go_simp
    with_reducible rfl
  rotate_left
  · simp only [Act.put, List.setIfInBounds_toArray, List.set_cons_zero, List.set_cons_succ]
    rfl
  refine pure_ (i := 2) (N := some 108) (v := ?_) (a' := ?_) #[true, true, true, false, false, false, false, false, false, false, false, false, false, false, false, false, false, false, false, false] rfl rfl (by kernel_rfl) (fun _ _ _ h => h) (Or.inl ⟨by rfl, ?_⟩) ?_ ?_
  rotate_left
  · intro w'
    go_simp
    with_reducible rfl
  rotate_left
  · simp only [Act.put, List.setIfInBounds_toArray, List.set_cons_zero, List.set_cons_succ]
    rfl
  refine pure_ (i := 3) (N := some 109) (v := ?_) (a' := ?_) #[true, true, true, true, false, false, false, false, false, false, false, false, false, false, false, false, false, false, false, false] rfl rfl (by kernel_rfl) (fun _ _ _ h => h) (Or.inl ⟨by rfl, ?_⟩) ?_ ?_
  rotate_left
  · intro w'
    go_simp
    with_reducible rfl
  rotate_left
  · simp only [Act.put, List.setIfInBounds_toArray, List.set_cons_zero, List.set_cons_succ]
    rfl
  refine pure_ (i := 4) (N := some 110) (v := ?_) (a' := ?_) #[true, true, true, true, true, false, false, false, false, false, false, false, false, false, false, false, false, false, false, false] rfl rfl (by kernel_rfl) (fun _ _ _ h => h) (Or.inl ⟨by rfl, ?_⟩) ?_ ?_
  rotate_left
  · intro w'
    go_simp
    with_reducible rfl
  rotate_left
  · simp only [Act.put, List.setIfInBounds_toArray, List.set_cons_zero, List.set_cons_succ]
    rfl
  refine pure_ (i := 8) (N := some 114) (v := ?_) (a' := ?_) #[true, true, true, true, true, false, false, false, true, false, false, false, false, false, false, false, false, false, false, false] rfl rfl (by kernel_rfl) (fun _ _ _ h => h) (Or.inl ⟨by rfl, ?_⟩) ?_ ?_
  rotate_left
  · intro w'
    go_simp
    with_reducible rfl
  rotate_left
  · simp only [Act.put, List.setIfInBounds_toArray, List.set_cons_zero, List.set_cons_succ]
    rfl
  refine pure_ (i := 9) (N := some 115) (v := ?_) (a' := ?_) #[true, true, true, true, true, false, false, false, true, true, false, false, false, false, false, false, false, false, false, false] rfl rfl (by kernel_rfl) (fun _ _ _ h => h) (Or.inl ⟨by rfl, ?_⟩) ?_ ?_
  rotate_left
  · intro w'
    go_simp
    with_reducible rfl
  rotate_left
  · simp only [Act.put, List.setIfInBounds_toArray, List.set_cons_zero, List.set_cons_succ]
    rfl
  refine pure_ (i := 10) (N := some 116) (v := ?_) (a' := ?_) #[true, true, true, true, true, false, false, false, true, true, true, false, false, false, false, false, false, false, false, false] rfl rfl (by kernel_rfl) (fun _ _ _ h => h) (Or.inl ⟨by rfl, ?_⟩) ?_ ?_
  rotate_left
  · intro w'
    go_simp
    with_reducible rfl
  rotate_left
  · simp only [Act.put, List.setIfInBounds_toArray, List.set_cons_zero, List.set_cons_succ]
    rfl
  refine take_ (i := 5) (N := some 111) (v := ?_) (a' := ?_) #[true, true, true, true, true, true, false, false, true, true, true, false, false, false, false, false, false, false, false, false] rfl rfl (by kernel_rfl) (fun _ _ _ h => h) (Or.inl ⟨by rfl, ?_⟩) hHeld ?_ ?_
  rotate_left
  · rintro w' ⟨s0, s1⟩
    go_simp
    with_reducible rfl
  rotate_left
  · simp only [Act.put, List.setIfInBounds_toArray, List.set_cons_zero, List.set_cons_succ]
    rfl
  refine take_ (i := 11) (N := some 117) (v := ?_) (a' := ?_) #[true, true, true, true, true, true, false, false, true, true, true, true, false, false, false, false, false, false, false, false] rfl rfl (by kernel_rfl) (fun _ _ _ h => h) (Or.inl ⟨by rfl, ?_⟩) hHeld ?_ ?_
  rotate_left
  · rintro w' ⟨s0, s1⟩
    go_simp
    with_reducible rfl
  rotate_left
  · simp only [Act.put, List.setIfInBounds_toArray, List.set_cons_zero, List.set_cons_succ]
    rfl
  refine two_ (i := 6) (j := 12) (Ni := some 112) (Nj := some 118) #[true, true, true, true, true, true, true, false, true, true, true, true, false, false, false, false, false, false, false, false] #[true, true, true, true, true, true, false, false, true, true, true, true, true, false, false, false, false, false, false, false] rfl rfl rfl rfl (by kernel_rfl) (by decide) (by decide) (fun K hK => ?_) (fun K hK => ?_)
  · skip
    refine value_ (w1 := ?_) (v := ?_) (by rfl) rfl ?_ ?_
    rotate_left 2
    · go_simp
      constructor
      · rfl
      · rfl
    have hS1 : Below u0.heap.size u0 (u0.alloc (.cells #[.int .i64 0] 3)) := below_al (Below.refl _ _) _
    have hk1 : Keep (fun k => col4 k = 2 ∨ col4 k = 3) u0 (u0.alloc (.cells #[.int .i64 0] 3)) := Keep.of_below hS1
    have hI : (u0.alloc (.cells #[.int .i64 0] 3)).heap[u0.heap.size]? = some (.cells #[.int .i64 0] 3 (0, 0)) := blk_new _ _
    have hgI : u0.heap.size < (u0.alloc (.cells #[.int .i64 0] 3)).heap.size := by simp
    obtain ⟨gI, hggI⟩ : ∃ g, g = u0.heap.size := ⟨_, rfl⟩
    generalize u0.alloc (.cells #[.int .i64 0] 3) = u1 at *
    rw [← hggI] at hI hgI ⊢
    have hz1 := hk1.size
    have hK1 : Keep (fun k => col4 k = 2 ∨ col4 k = 3) u0 u1 := hk1
    have hg0I : u0.heap.size ≤ gI := by omega
    clear hggI
    refine hK.out _ _ ⟨(keep_cell hK1 hb0 (by omega) 1).1.trans k1, (keep_cell hK1 hb0 (by omega) 2).1.trans k2⟩ (fun hHeld => ?_)
    clear hK K
    refine norm_ (a' := ?_) ?_ ?_
    rotate_left
    · show Act.put _ (some 112) _ = _
      simp only [Act.put, List.setIfInBounds_toArray, List.set_cons_zero, List.set_cons_succ]
      rfl
    refine two_ (i := 7) (j := 12) (Ni := some 113) (Nj := some 118) #[true, true, true, true, true, true, true, true, true, true, true, true, false, false, false, false, false, false, false, false] #[true, true, true, true, true, true, true, false, true, true, true, true, true, false, false, false, false, false, false, false] rfl rfl rfl rfl (by kernel_rfl) (by decide) (by decide) (fun K hK => ?_) (fun K hK => ?_)
    · skip
      have hKo : Keep (fun k => col4 k = 3) u0 u1 := (Keep.of_below hS1)
      have hrow := HU0.out.r.g.keep hKo (fun i hi h => by omega)
      have hsrc : u1.heap[gI]? = some (.cells #[.int .i64 0] 3 (0, 0)) := hI
      obtain ⟨vG, u2, hrG, hrowG, hgrG⟩ := row_append (P := Try.prog) (t := 26) Try.underlying26 infoIn rfl (by omega) hrow (some ⟨gI, 0, none⟩) 1 1 [.int .i64 0] rfl (fun _ => ⟨_, rfl, fun j u hj => by match j, hj with | 0, hj => (obtain rfl : (.int .i64 0 : Value) = u := by simpa using hj); rw [adds]; exact cell_blk hsrc 0⟩) (fun u hu => by rw [List.mem_singleton.1 hu]; rfl) (by rw [ints_len]; show (s.gens.length + 1) * 8 ≤ _; omega) (by omega)
      rw [ints_len] at hrG
      refine app_ (.tmp 111) (.tmp 112) 26 (by rfl) rfl rfl rfl rfl hrG ?_
      have hkG := grown_keep hgrG hrow.own
      have hk2 : Keep (fun k => col4 k = 2 ∨ col4 k = 3) u1 u2 := hkG.mono (fun _ _ h => Or.inl h)
      obtain ⟨AG2, cG2, heG, -⟩ := hrowG.slice
      rw [List.length_append, ints_len, List.length_singleton] at heG
      subst heG
      clear hrow hsrc hKo
      have hz2 := hk2.size
      have hK2 : Keep (fun k => col4 k = 2 ∨ col4 k = 3) u0 u2 := hK1.trans hk2
      refine hK.out _ _ ⟨(keep_cell hK2 hb0 (by omega) 1).1.trans k1, (keep_cell hK2 hb0 (by omega) 2).1.trans k2⟩ (fun hHeld => ?_)
      clear hK K
      refine norm_ (a' := ?_) ?_ ?_
      rotate_left
      · show Act.put _ (some 113) _ = _
        simp only [Act.put, List.setIfInBounds_toArray, List.set_cons_zero, List.set_cons_succ]
        rfl
      refine one_ (i := 12) (N := some 118) #[true, true, true, true, true, true, true, true, true, true, true, true, true, false, false, false, false, false, false, false] rfl rfl (by kernel_rfl) (by decide) (fun K hK => ?_)
      refine value_ (w1 := ?_) (v := ?_) (by rfl) rfl ?_ ?_
      rotate_left 2
      · go_simp
        constructor
        · rfl
        · rfl
      have hS3 : Below u2.heap.size u2 (u2.alloc (.cells #[.bool false] 4)) := below_al (Below.refl _ _) _
      have hk3 : Keep (fun k => col4 k = 2 ∨ col4 k = 3) u2 (u2.alloc (.cells #[.bool false] 4)) := Keep.of_below hS3
      have hB : (u2.alloc (.cells #[.bool false] 4)).heap[u2.heap.size]? = some (.cells #[.bool false] 4 (0, 0)) := blk_new _ _
      have hgB : u2.heap.size < (u2.alloc (.cells #[.bool false] 4)).heap.size := by simp
      obtain ⟨gB, hggB⟩ : ∃ g, g = u2.heap.size := ⟨_, rfl⟩
      generalize u2.alloc (.cells #[.bool false] 4) = u3 at *
      rw [← hggB] at hB hgB ⊢
      have hz3 := hk3.size
      have hK3 : Keep (fun k => col4 k = 2 ∨ col4 k = 3) u0 u3 := hK2.trans hk3
      have hg0B : u0.heap.size ≤ gB := by omega
      clear hggB
      refine hK.out _ _ ⟨(keep_cell hK3 hb0 (by omega) 1).1.trans k1, (keep_cell hK3 hb0 (by omega) 2).1.trans k2⟩ (fun hHeld => ?_)
      clear hK K
      refine norm_ (a' := ?_) ?_ ?_
      rotate_left
      · show Act.put _ (some 118) _ = _
        simp only [Act.put, List.setIfInBounds_toArray, List.set_cons_zero, List.set_cons_succ]
        rfl
      refine one_ (i := 13) (N := some 119) #[true, true, true, true, true, true, true, true, true, true, true, true, true, true, false, false, false, false, false, false] rfl rfl (by kernel_rfl) (by decide) (fun K hK => ?_)
      have hKo : Keep (fun k => col4 k = 2) u0 u3 := (((Keep.of_below hS1).trans hkG).trans (Keep.of_below hS3))
      have hrow := HU0.out.r.a.keep hKo (fun i hi h => by omega)
      have hsrc : u3.heap[gB]? = some (.cells #[.bool false] 4 (0, 0)) := hB
      obtain ⟨vA, u4, hrA, hrowA, hgrA⟩ := row_append (P := Try.prog) (t := 27) Try.underlying27 infoBo rfl (by omega) hrow (some ⟨gB, 0, none⟩) 1 1 [.bool false] rfl (fun _ => ⟨_, rfl, fun j u hj => by match j, hj with | 0, hj => (obtain rfl : (.bool false : Value) = u := by simpa using hj); rw [adds]; exact cell_blk hsrc 0⟩) (fun u hu => by rw [List.mem_singleton.1 hu]; rfl) (by rw [bools_len]; show (s.alive.length + 1) * 1 ≤ _; omega) (by omega)
      rw [bools_len] at hrA
      refine app_ (.tmp 117) (.tmp 118) 27 (by rfl) rfl rfl rfl rfl hrA ?_
      have hkA := grown_keep hgrA hrow.own
      have hk4 : Keep (fun k => col4 k = 2 ∨ col4 k = 3) u3 u4 := hkA.mono (fun _ _ h => Or.inr h)
      obtain ⟨AA2, cA2, heA, -⟩ := hrowA.slice
      rw [List.length_append, bools_len, List.length_singleton] at heA
      subst heA
      clear hrow hsrc hKo
      have hz4 := hk4.size
      have hK4 : Keep (fun k => col4 k = 2 ∨ col4 k = 3) u0 u4 := hK3.trans hk4
      refine hK.out _ _ ⟨(keep_cell hK4 hb0 (by omega) 1).1.trans k1, (keep_cell hK4 hb0 (by omega) 2).1.trans k2⟩ (fun hHeld => ?_)
      clear hK K
      refine norm_ (a' := ?_) ?_ ?_
      rotate_left
      · show Act.put _ (some 119) _ = _
        simp only [Act.put, List.setIfInBounds_toArray, List.set_cons_zero, List.set_cons_succ]
        rfl
      refine pure_ (i := 14) (N := some 120) (v := ?_) (a' := ?_) #[true, true, true, true, true, true, true, true, true, true, true, true, true, true, true, false, false, false, false, false] rfl rfl (by kernel_rfl) (fun _ _ _ h => h) (Or.inl ⟨by rfl, ?_⟩) ?_ ?_
      rotate_left
      · intro w'
        go_simp
        with_reducible rfl
      rotate_left
      · simp only [Act.put, List.setIfInBounds_toArray, List.set_cons_zero, List.set_cons_succ]
        rfl
      refine pure_ (i := 15) (N := some 121) (v := ?_) (a' := ?_) #[true, true, true, true, true, true, true, true, true, true, true, true, true, true, true, true, false, false, false, false] rfl rfl (by kernel_rfl) (fun _ _ _ h => h) (Or.inl ⟨by rfl, ?_⟩) ?_ ?_
      rotate_left
      · intro w'
        go_simp
        with_reducible rfl
      rotate_left
      · simp only [Act.put, List.setIfInBounds_toArray, List.set_cons_zero, List.set_cons_succ]
        rfl
      refine last_ (i := 16) (N := none) #[true, true, true, true, true, true, true, true, true, true, true, true, true, true, true, true, true, false, false, false] rfl rfl (by kernel_rfl) (by decide) (fun K hK => ?_)
      have hcb1 := (keep_cell hK4 hb0 (by omega) 1).1.trans k1
      have hcb2 := (keep_cell hK4 hb0 (by omega) 2).1.trans k2
      have hfb1 := (keep_cell hK4 hb0 (by omega) 1).2.trans f1
      have hfb2 := (keep_cell hK4 hb0 (by omega) 2).2.trans f2
      have hbl4 : b < u4.heap.size := Nat.lt_of_lt_of_le hb0 hK4.size
      refine skip_ (w1 := ?_) (by rfl) rfl ?_ ?_
      rotate_left
      · go_simp
        first | with_reducible rfl | rfl
      refine hK.out _ _ ?_
      clear hK K
      refine pure_ (i := 17) (N := some 122) (v := ?_) (a' := ?_) #[true, true, true, true, true, true, true, true, true, true, true, true, true, true, true, true, true, true, false, false] rfl rfl (by kernel_rfl) (fun _ _ _ h => h) (Or.inl ⟨by rfl, ?_⟩) ?_ ?_
      rotate_left
      · intro w'
        go_simp
        with_reducible rfl
      rotate_left
      · simp only [Act.put, List.setIfInBounds_toArray, List.set_cons_zero, List.set_cons_succ]
        rfl
      refine pure_ (i := 18) (N := some 123) (v := ?_) (a' := ?_) #[true, true, true, true, true, true, true, true, true, true, true, true, true, true, true, true, true, true, true, false] rfl rfl (by kernel_rfl) (fun _ _ _ h => h) (Or.inl ⟨by rfl, ?_⟩) ?_ ?_
      rotate_left
      · intro w'
        go_simp
        with_reducible rfl
      rotate_left
      · simp only [Act.put, List.setIfInBounds_toArray, List.set_cons_zero, List.set_cons_succ]
        rfl
      refine last_ (i := 19) (N := none) #[true, true, true, true, true, true, true, true, true, true, true, true, true, true, true, true, true, true, true, true] rfl rfl (by kernel_rfl) (by decide) (fun K hK => ?_)
      refine skip_ (w1 := ?_) (by rfl) rfl ?_ ?_
      rotate_left
      · go_simp
        first | with_reducible rfl | rfl
      refine hK.out _ _ ?_
      clear hK K
      refine done_ (by kernel_rfl) ?_
      have hst : Keep (fun k => k = b) u4 ((u4.setCell ⟨b, 1, none⟩ (.slice AG2 (s.gens.length + 1) cG2)).setCell ⟨b, 2, none⟩ (.slice AA2 (s.alive.length + 1) cA2)) := (by repeat (first | (with_reducible exact Keep.refl _ _) | (with_reducible refine Keep.drewN ?_ _) | (with_reducible refine Keep.drew ?_) | (with_reducible refine Keep.setCell ?_ _ _ (by first | (right; with_reducible rfl) | (left; simp; done) | (left; simp; omega) | (right; simp; done) | (right; assumption))) | (with_reducible refine Keep.alloc ?_ _)))
      have hone := HU0.out.one
      have hG2 : Row u2 base (fun k => col4 k = 2 ∨ u0.heap.size ≤ k ∧ k < u2.heap.size) 3 (.slice AG2 (s.gens.length + 1) cG2) (ints (s.gens ++ [0])) := by rw [ints_append]; exact hrowG.mono (fun k hl h => h.imp id (fun h => ⟨by omega, hl⟩))
      have hA2 : Row u4 base (fun k => col4 k = 3 ∨ u0.heap.size ≤ k ∧ ¬ k < u2.heap.size) 4 (.slice AA2 (s.alive.length + 1) cA2) (bools (s.alive ++ [false])) := by rw [bools_append]; exact hrowA.mono (fun k hl h => h.imp id (fun h => ⟨by omega, by omega⟩))
      have hG3 := hG2.keep (F := fun k => col4 k = 3) ((Keep.of_below hS3).trans hkA) (fun i hi h => by have hz := HU0.out.r.z i; rcases h with h | h <;> omega)
      have hA3 := hA2
      have hG4 := hG3.keep hst (fun i hi h => by have hz := HU0.out.r.z i; subst hi; rcases h with h | h <;> omega)
      have hA4 := hA3.keep hst (fun i hi h => by have hz := HU0.out.r.z i; subst hi; rcases h with h | h <;> omega)
      have hF4 : Row ((u4.setCell ⟨b, 1, none⟩ (.slice AG2 (s.gens.length + 1) cG2)).setCell ⟨b, 2, none⟩ (.slice AA2 (s.alive.length + 1) cA2)) base (fun k => col4 k = 5) 3 (.slice AF 0 cF) (ints (refillS s p).free) := (HU0.out.r.f.keep hK4 (fun i hi h => by rcases hi with hi | hi <;> omega)).keep hst (fun i hi h => by subst hi; omega)
      have hbk : ((u4.setCell ⟨b, 1, none⟩ (.slice AG2 (s.gens.length + 1) cG2)).setCell ⟨b, 2, none⟩ (.slice AA2 (s.alive.length + 1) cA2)).heap[b]? = some (.cells #[.int .i64 (refillS s p).limit, .slice AG2 (s.gens.length + 1) cG2, .slice AA2 (s.alive.length + 1) cA2, .slice (some ⟨gC, oC, none⟩) vs.length cC, .slice AF 0 cF] TS (0, 0)) := by
        have := blk_set (i := 2) (u := .slice AA2 (s.alive.length + 1) cA2) (blk_set (i := 1) (u := .slice AG2 (s.gens.length + 1) cG2) (blk_keep HU0.out.blk hK4 (by omega)))
        simpa using this
      obtain ⟨col9, hQ9, hN9⟩ := HU0.out.fields (by omega) (new := fun k => if k < u2.heap.size then 2 else 3) ((hK4.mono (fun i _ h => by rcases h with h | h; exact .inr (.inl h); exact .inr (.inr (.inl h)))).trans (hst.mono (fun i _ h => by subst h; exact .inl hone))) hbk
        (hG4.mono fun k _ h => h.imp id (fun h => ⟨h.1, if_pos h.2⟩)) (hA4.mono fun k _ h => h.imp id (fun h => ⟨h.1, if_neg h.2⟩)) (hF4.mono fun k _ h => .inl h)
      have HQ9 := Aside0.mk hQ9
      have HN9 := Aside0.mk ((HN4.out.trans (Nx.of_below hxU)).trans hN9)
      clear hQ9 hN9 hbk hF4 hA4 hG4 hG3 hA3 hG2 hA2 hst
      go_wp2
      go_ret2
      rw [FIN.out]
      exact ⟨col9, rfl, ⟨_, _, _, _, _, HQ9.out⟩, HN9.out⟩
    · skip
      refine value_ (w1 := ?_) (v := ?_) (by rfl) rfl ?_ ?_
      rotate_left 2
      · go_simp
        constructor
        · rfl
        · rfl
      have hS2 : Below u1.heap.size u1 (u1.alloc (.cells #[.bool false] 4)) := below_al (Below.refl _ _) _
      have hk2 : Keep (fun k => col4 k = 2 ∨ col4 k = 3) u1 (u1.alloc (.cells #[.bool false] 4)) := Keep.of_below hS2
      have hB : (u1.alloc (.cells #[.bool false] 4)).heap[u1.heap.size]? = some (.cells #[.bool false] 4 (0, 0)) := blk_new _ _
      have hgB : u1.heap.size < (u1.alloc (.cells #[.bool false] 4)).heap.size := by simp
      obtain ⟨gB, hggB⟩ : ∃ g, g = u1.heap.size := ⟨_, rfl⟩
      generalize u1.alloc (.cells #[.bool false] 4) = u2 at *
      rw [← hggB] at hB hgB ⊢
      have hz2 := hk2.size
      have hK2 : Keep (fun k => col4 k = 2 ∨ col4 k = 3) u0 u2 := hK1.trans hk2
      have hg0B : u0.heap.size ≤ gB := by omega
      clear hggB
      refine hK.out _ _ ⟨(keep_cell hK2 hb0 (by omega) 1).1.trans k1, (keep_cell hK2 hb0 (by omega) 2).1.trans k2⟩ (fun hHeld => ?_)
      clear hK K
      refine norm_ (a' := ?_) ?_ ?_
      rotate_left
      · show Act.put _ (some 118) _ = _
        simp only [Act.put, List.setIfInBounds_toArray, List.set_cons_zero, List.set_cons_succ]
        rfl
      refine one_ (i := 7) (N := some 113) #[true, true, true, true, true, true, true, true, true, true, true, true, true, false, false, false, false, false, false, false] rfl rfl (by kernel_rfl) (by decide) (fun K hK => ?_)
      have hKo : Keep (fun k => col4 k = 3) u0 u2 := ((Keep.of_below hS1).trans (Keep.of_below hS2))
      have hrow := HU0.out.r.g.keep hKo (fun i hi h => by omega)
      have hsrc : u2.heap[gI]? = some (.cells #[.int .i64 0] 3 (0, 0)) := blk_keep hI hk2 (by have := HU0.out.r.z gI hg0I; omega)
      obtain ⟨vG, u3, hrG, hrowG, hgrG⟩ := row_append (P := Try.prog) (t := 26) Try.underlying26 infoIn rfl (by omega) hrow (some ⟨gI, 0, none⟩) 1 1 [.int .i64 0] rfl (fun _ => ⟨_, rfl, fun j u hj => by match j, hj with | 0, hj => (obtain rfl : (.int .i64 0 : Value) = u := by simpa using hj); rw [adds]; exact cell_blk hsrc 0⟩) (fun u hu => by rw [List.mem_singleton.1 hu]; rfl) (by rw [ints_len]; show (s.gens.length + 1) * 8 ≤ _; omega) (by omega)
      rw [ints_len] at hrG
      refine app_ (.tmp 111) (.tmp 112) 26 (by rfl) rfl rfl rfl rfl hrG ?_
      have hkG := grown_keep hgrG hrow.own
      have hk3 : Keep (fun k => col4 k = 2 ∨ col4 k = 3) u2 u3 := hkG.mono (fun _ _ h => Or.inl h)
      obtain ⟨AG2, cG2, heG, -⟩ := hrowG.slice
      rw [List.length_append, ints_len, List.length_singleton] at heG
      subst heG
      clear hrow hsrc hKo
      have hz3 := hk3.size
      have hK3 : Keep (fun k => col4 k = 2 ∨ col4 k = 3) u0 u3 := hK2.trans hk3
      refine hK.out _ _ ⟨(keep_cell hK3 hb0 (by omega) 1).1.trans k1, (keep_cell hK3 hb0 (by omega) 2).1.trans k2⟩ (fun hHeld => ?_)
      clear hK K
      refine norm_ (a' := ?_) ?_ ?_
      rotate_left
      · show Act.put _ (some 113) _ = _
        simp only [Act.put, List.setIfInBounds_toArray, List.set_cons_zero, List.set_cons_succ]
        rfl
      refine one_ (i := 13) (N := some 119) #[true, true, true, true, true, true, true, true, true, true, true, true, true, true, false, false, false, false, false, false] rfl rfl (by kernel_rfl) (by decide) (fun K hK => ?_)
      have hKo : Keep (fun k => col4 k = 2) u0 u3 := (((Keep.of_below hS1).trans (Keep.of_below hS2)).trans hkG)
      have hrow := HU0.out.r.a.keep hKo (fun i hi h => by omega)
      have hsrc : u3.heap[gB]? = some (.cells #[.bool false] 4 (0, 0)) := blk_keep hB hk3 (by have := HU0.out.r.z gB hg0B; omega)
      obtain ⟨vA, u4, hrA, hrowA, hgrA⟩ := row_append (P := Try.prog) (t := 27) Try.underlying27 infoBo rfl (by omega) hrow (some ⟨gB, 0, none⟩) 1 1 [.bool false] rfl (fun _ => ⟨_, rfl, fun j u hj => by match j, hj with | 0, hj => (obtain rfl : (.bool false : Value) = u := by simpa using hj); rw [adds]; exact cell_blk hsrc 0⟩) (fun u hu => by rw [List.mem_singleton.1 hu]; rfl) (by rw [bools_len]; show (s.alive.length + 1) * 1 ≤ _; omega) (by omega)
      rw [bools_len] at hrA
      refine app_ (.tmp 117) (.tmp 118) 27 (by rfl) rfl rfl rfl rfl hrA ?_
      have hkA := grown_keep hgrA hrow.own
      have hk4 : Keep (fun k => col4 k = 2 ∨ col4 k = 3) u3 u4 := hkA.mono (fun _ _ h => Or.inr h)
      obtain ⟨AA2, cA2, heA, -⟩ := hrowA.slice
      rw [List.length_append, bools_len, List.length_singleton] at heA
      subst heA
      clear hrow hsrc hKo
      have hz4 := hk4.size
      have hK4 : Keep (fun k => col4 k = 2 ∨ col4 k = 3) u0 u4 := hK3.trans hk4
      refine hK.out _ _ ⟨(keep_cell hK4 hb0 (by omega) 1).1.trans k1, (keep_cell hK4 hb0 (by omega) 2).1.trans k2⟩ (fun hHeld => ?_)
      clear hK K
      refine norm_ (a' := ?_) ?_ ?_
      rotate_left
      · show Act.put _ (some 119) _ = _
        simp only [Act.put, List.setIfInBounds_toArray, List.set_cons_zero, List.set_cons_succ]
        rfl
      refine pure_ (i := 14) (N := some 120) (v := ?_) (a' := ?_) #[true, true, true, true, true, true, true, true, true, true, true, true, true, true, true, false, false, false, false, false] rfl rfl (by kernel_rfl) (fun _ _ _ h => h) (Or.inl ⟨by rfl, ?_⟩) ?_ ?_
      rotate_left
      · intro w'
        go_simp
        with_reducible rfl
      rotate_left
      · simp only [Act.put, List.setIfInBounds_toArray, List.set_cons_zero, List.set_cons_succ]
        rfl
      refine pure_ (i := 15) (N := some 121) (v := ?_) (a' := ?_) #[true, true, true, true, true, true, true, true, true, true, true, true, true, true, true, true, false, false, false, false] rfl rfl (by kernel_rfl) (fun _ _ _ h => h) (Or.inl ⟨by rfl, ?_⟩) ?_ ?_
      rotate_left
      · intro w'
        go_simp
        with_reducible rfl
      rotate_left
      · simp only [Act.put, List.setIfInBounds_toArray, List.set_cons_zero, List.set_cons_succ]
        rfl
      refine last_ (i := 16) (N := none) #[true, true, true, true, true, true, true, true, true, true, true, true, true, true, true, true, true, false, false, false] rfl rfl (by kernel_rfl) (by decide) (fun K hK => ?_)
      have hcb1 := (keep_cell hK4 hb0 (by omega) 1).1.trans k1
      have hcb2 := (keep_cell hK4 hb0 (by omega) 2).1.trans k2
      have hfb1 := (keep_cell hK4 hb0 (by omega) 1).2.trans f1
      have hfb2 := (keep_cell hK4 hb0 (by omega) 2).2.trans f2
      have hbl4 : b < u4.heap.size := Nat.lt_of_lt_of_le hb0 hK4.size
      refine skip_ (w1 := ?_) (by rfl) rfl ?_ ?_
      rotate_left
      · go_simp
        first | with_reducible rfl | rfl
      refine hK.out _ _ ?_
      clear hK K
      refine pure_ (i := 17) (N := some 122) (v := ?_) (a' := ?_) #[true, true, true, true, true, true, true, true, true, true, true, true, true, true, true, true, true, true, false, false] rfl rfl (by kernel_rfl) (fun _ _ _ h => h) (Or.inl ⟨by rfl, ?_⟩) ?_ ?_
      rotate_left
      · intro w'
        go_simp
        with_reducible rfl
      rotate_left
      · simp only [Act.put, List.setIfInBounds_toArray, List.set_cons_zero, List.set_cons_succ]
        rfl
      refine pure_ (i := 18) (N := some 123) (v := ?_) (a' := ?_) #[true, true, true, true, true, true, true, true, true, true, true, true, true, true, true, true, true, true, true, false] rfl rfl (by kernel_rfl) (fun _ _ _ h => h) (Or.inl ⟨by rfl, ?_⟩) ?_ ?_
      rotate_left
      · intro w'
        go_simp
        with_reducible rfl
      rotate_left
      · simp only [Act.put, List.setIfInBounds_toArray, List.set_cons_zero, List.set_cons_succ]
        rfl
      refine last_ (i := 19) (N := none) #[true, true, true, true, true, true, true, true, true, true, true, true, true, true, true, true, true, true, true, true] rfl rfl (by kernel_rfl) (by decide) (fun K hK => ?_)
      refine skip_ (w1 := ?_) (by rfl) rfl ?_ ?_
      rotate_left
      · go_simp
        first | with_reducible rfl | rfl
      refine hK.out _ _ ?_
      clear hK K
      refine done_ (by kernel_rfl) ?_
      have hst : Keep (fun k => k = b) u4 ((u4.setCell ⟨b, 1, none⟩ (.slice AG2 (s.gens.length + 1) cG2)).setCell ⟨b, 2, none⟩ (.slice AA2 (s.alive.length + 1) cA2)) := (by repeat (first | (with_reducible exact Keep.refl _ _) | (with_reducible refine Keep.drewN ?_ _) | (with_reducible refine Keep.drew ?_) | (with_reducible refine Keep.setCell ?_ _ _ (by first | (right; with_reducible rfl) | (left; simp; done) | (left; simp; omega) | (right; simp; done) | (right; assumption))) | (with_reducible refine Keep.alloc ?_ _)))
      have hone := HU0.out.one
      have hG2 : Row u3 base (fun k => col4 k = 2 ∨ u0.heap.size ≤ k ∧ k < u3.heap.size) 3 (.slice AG2 (s.gens.length + 1) cG2) (ints (s.gens ++ [0])) := by rw [ints_append]; exact hrowG.mono (fun k hl h => h.imp id (fun h => ⟨by omega, hl⟩))
      have hA2 : Row u4 base (fun k => col4 k = 3 ∨ u0.heap.size ≤ k ∧ ¬ k < u3.heap.size) 4 (.slice AA2 (s.alive.length + 1) cA2) (bools (s.alive ++ [false])) := by rw [bools_append]; exact hrowA.mono (fun k hl h => h.imp id (fun h => ⟨by omega, by omega⟩))
      have hG3 := hG2.keep (F := fun k => col4 k = 3) hkA (fun i hi h => by have hz := HU0.out.r.z i; rcases h with h | h <;> omega)
      have hA3 := hA2
      have hG4 := hG3.keep hst (fun i hi h => by have hz := HU0.out.r.z i; subst hi; rcases h with h | h <;> omega)
      have hA4 := hA3.keep hst (fun i hi h => by have hz := HU0.out.r.z i; subst hi; rcases h with h | h <;> omega)
      have hF4 : Row ((u4.setCell ⟨b, 1, none⟩ (.slice AG2 (s.gens.length + 1) cG2)).setCell ⟨b, 2, none⟩ (.slice AA2 (s.alive.length + 1) cA2)) base (fun k => col4 k = 5) 3 (.slice AF 0 cF) (ints (refillS s p).free) := (HU0.out.r.f.keep hK4 (fun i hi h => by rcases hi with hi | hi <;> omega)).keep hst (fun i hi h => by subst hi; omega)
      have hbk : ((u4.setCell ⟨b, 1, none⟩ (.slice AG2 (s.gens.length + 1) cG2)).setCell ⟨b, 2, none⟩ (.slice AA2 (s.alive.length + 1) cA2)).heap[b]? = some (.cells #[.int .i64 (refillS s p).limit, .slice AG2 (s.gens.length + 1) cG2, .slice AA2 (s.alive.length + 1) cA2, .slice (some ⟨gC, oC, none⟩) vs.length cC, .slice AF 0 cF] TS (0, 0)) := by
        have := blk_set (i := 2) (u := .slice AA2 (s.alive.length + 1) cA2) (blk_set (i := 1) (u := .slice AG2 (s.gens.length + 1) cG2) (blk_keep HU0.out.blk hK4 (by omega)))
        simpa using this
      obtain ⟨col9, hQ9, hN9⟩ := HU0.out.fields (by omega) (new := fun k => if k < u3.heap.size then 2 else 3) ((hK4.mono (fun i _ h => by rcases h with h | h; exact .inr (.inl h); exact .inr (.inr (.inl h)))).trans (hst.mono (fun i _ h => by subst h; exact .inl hone))) hbk
        (hG4.mono fun k _ h => h.imp id (fun h => ⟨h.1, if_pos h.2⟩)) (hA4.mono fun k _ h => h.imp id (fun h => ⟨h.1, if_neg h.2⟩)) (hF4.mono fun k _ h => .inl h)
      have HQ9 := Aside0.mk hQ9
      have HN9 := Aside0.mk ((HN4.out.trans (Nx.of_below hxU)).trans hN9)
      clear hQ9 hN9 hbk hF4 hA4 hG4 hG3 hA3 hG2 hA2 hst
      go_wp2
      go_ret2
      rw [FIN.out]
      exact ⟨col9, rfl, ⟨_, _, _, _, _, HQ9.out⟩, HN9.out⟩
  · skip
    refine value_ (w1 := ?_) (v := ?_) (by rfl) rfl ?_ ?_
    rotate_left 2
    · go_simp
      constructor
      · rfl
      · rfl
    have hS1 : Below u0.heap.size u0 (u0.alloc (.cells #[.bool false] 4)) := below_al (Below.refl _ _) _
    have hk1 : Keep (fun k => col4 k = 2 ∨ col4 k = 3) u0 (u0.alloc (.cells #[.bool false] 4)) := Keep.of_below hS1
    have hB : (u0.alloc (.cells #[.bool false] 4)).heap[u0.heap.size]? = some (.cells #[.bool false] 4 (0, 0)) := blk_new _ _
    have hgB : u0.heap.size < (u0.alloc (.cells #[.bool false] 4)).heap.size := by simp
    obtain ⟨gB, hggB⟩ : ∃ g, g = u0.heap.size := ⟨_, rfl⟩
    generalize u0.alloc (.cells #[.bool false] 4) = u1 at *
    rw [← hggB] at hB hgB ⊢
    have hz1 := hk1.size
    have hK1 : Keep (fun k => col4 k = 2 ∨ col4 k = 3) u0 u1 := hk1
    have hg0B : u0.heap.size ≤ gB := by omega
    clear hggB
    refine hK.out _ _ ⟨(keep_cell hK1 hb0 (by omega) 1).1.trans k1, (keep_cell hK1 hb0 (by omega) 2).1.trans k2⟩ (fun hHeld => ?_)
    clear hK K
    refine norm_ (a' := ?_) ?_ ?_
    rotate_left
    · show Act.put _ (some 118) _ = _
      simp only [Act.put, List.setIfInBounds_toArray, List.set_cons_zero, List.set_cons_succ]
      rfl
    refine one_ (i := 6) (N := some 112) #[true, true, true, true, true, true, true, false, true, true, true, true, true, false, false, false, false, false, false, false] rfl rfl (by kernel_rfl) (by decide) (fun K hK => ?_)
    refine value_ (w1 := ?_) (v := ?_) (by rfl) rfl ?_ ?_
    rotate_left 2
    · go_simp
      constructor
      · rfl
      · rfl
    have hS2 : Below u1.heap.size u1 (u1.alloc (.cells #[.int .i64 0] 3)) := below_al (Below.refl _ _) _
    have hk2 : Keep (fun k => col4 k = 2 ∨ col4 k = 3) u1 (u1.alloc (.cells #[.int .i64 0] 3)) := Keep.of_below hS2
    have hI : (u1.alloc (.cells #[.int .i64 0] 3)).heap[u1.heap.size]? = some (.cells #[.int .i64 0] 3 (0, 0)) := blk_new _ _
    have hgI : u1.heap.size < (u1.alloc (.cells #[.int .i64 0] 3)).heap.size := by simp
    obtain ⟨gI, hggI⟩ : ∃ g, g = u1.heap.size := ⟨_, rfl⟩
    generalize u1.alloc (.cells #[.int .i64 0] 3) = u2 at *
    rw [← hggI] at hI hgI ⊢
    have hz2 := hk2.size
    have hK2 : Keep (fun k => col4 k = 2 ∨ col4 k = 3) u0 u2 := hK1.trans hk2
    have hg0I : u0.heap.size ≤ gI := by omega
    clear hggI
    refine hK.out _ _ ⟨(keep_cell hK2 hb0 (by omega) 1).1.trans k1, (keep_cell hK2 hb0 (by omega) 2).1.trans k2⟩ (fun hHeld => ?_)
    clear hK K
    refine norm_ (a' := ?_) ?_ ?_
    rotate_left
    · show Act.put _ (some 112) _ = _
      simp only [Act.put, List.setIfInBounds_toArray, List.set_cons_zero, List.set_cons_succ]
      rfl
    refine one_ (i := 7) (N := some 113) #[true, true, true, true, true, true, true, true, true, true, true, true, true, false, false, false, false, false, false, false] rfl rfl (by kernel_rfl) (by decide) (fun K hK => ?_)
    have hKo : Keep (fun k => col4 k = 3) u0 u2 := ((Keep.of_below hS1).trans (Keep.of_below hS2))
    have hrow := HU0.out.r.g.keep hKo (fun i hi h => by omega)
    have hsrc : u2.heap[gI]? = some (.cells #[.int .i64 0] 3 (0, 0)) := hI
    obtain ⟨vG, u3, hrG, hrowG, hgrG⟩ := row_append (P := Try.prog) (t := 26) Try.underlying26 infoIn rfl (by omega) hrow (some ⟨gI, 0, none⟩) 1 1 [.int .i64 0] rfl (fun _ => ⟨_, rfl, fun j u hj => by match j, hj with | 0, hj => (obtain rfl : (.int .i64 0 : Value) = u := by simpa using hj); rw [adds]; exact cell_blk hsrc 0⟩) (fun u hu => by rw [List.mem_singleton.1 hu]; rfl) (by rw [ints_len]; show (s.gens.length + 1) * 8 ≤ _; omega) (by omega)
    rw [ints_len] at hrG
    refine app_ (.tmp 111) (.tmp 112) 26 (by rfl) rfl rfl rfl rfl hrG ?_
    have hkG := grown_keep hgrG hrow.own
    have hk3 : Keep (fun k => col4 k = 2 ∨ col4 k = 3) u2 u3 := hkG.mono (fun _ _ h => Or.inl h)
    obtain ⟨AG2, cG2, heG, -⟩ := hrowG.slice
    rw [List.length_append, ints_len, List.length_singleton] at heG
    subst heG
    clear hrow hsrc hKo
    have hz3 := hk3.size
    have hK3 : Keep (fun k => col4 k = 2 ∨ col4 k = 3) u0 u3 := hK2.trans hk3
    refine hK.out _ _ ⟨(keep_cell hK3 hb0 (by omega) 1).1.trans k1, (keep_cell hK3 hb0 (by omega) 2).1.trans k2⟩ (fun hHeld => ?_)
    clear hK K
    refine norm_ (a' := ?_) ?_ ?_
    rotate_left
    · show Act.put _ (some 113) _ = _
      simp only [Act.put, List.setIfInBounds_toArray, List.set_cons_zero, List.set_cons_succ]
      rfl
    refine one_ (i := 13) (N := some 119) #[true, true, true, true, true, true, true, true, true, true, true, true, true, true, false, false, false, false, false, false] rfl rfl (by kernel_rfl) (by decide) (fun K hK => ?_)
    have hKo : Keep (fun k => col4 k = 2) u0 u3 := (((Keep.of_below hS1).trans (Keep.of_below hS2)).trans hkG)
    have hrow := HU0.out.r.a.keep hKo (fun i hi h => by omega)
    have hsrc : u3.heap[gB]? = some (.cells #[.bool false] 4 (0, 0)) := blk_keep hB (hk2.trans hk3) (by have := HU0.out.r.z gB hg0B; omega)
    obtain ⟨vA, u4, hrA, hrowA, hgrA⟩ := row_append (P := Try.prog) (t := 27) Try.underlying27 infoBo rfl (by omega) hrow (some ⟨gB, 0, none⟩) 1 1 [.bool false] rfl (fun _ => ⟨_, rfl, fun j u hj => by match j, hj with | 0, hj => (obtain rfl : (.bool false : Value) = u := by simpa using hj); rw [adds]; exact cell_blk hsrc 0⟩) (fun u hu => by rw [List.mem_singleton.1 hu]; rfl) (by rw [bools_len]; show (s.alive.length + 1) * 1 ≤ _; omega) (by omega)
    rw [bools_len] at hrA
    refine app_ (.tmp 117) (.tmp 118) 27 (by rfl) rfl rfl rfl rfl hrA ?_
    have hkA := grown_keep hgrA hrow.own
    have hk4 : Keep (fun k => col4 k = 2 ∨ col4 k = 3) u3 u4 := hkA.mono (fun _ _ h => Or.inr h)
    obtain ⟨AA2, cA2, heA, -⟩ := hrowA.slice
    rw [List.length_append, bools_len, List.length_singleton] at heA
    subst heA
    clear hrow hsrc hKo
    have hz4 := hk4.size
    have hK4 : Keep (fun k => col4 k = 2 ∨ col4 k = 3) u0 u4 := hK3.trans hk4
    refine hK.out _ _ ⟨(keep_cell hK4 hb0 (by omega) 1).1.trans k1, (keep_cell hK4 hb0 (by omega) 2).1.trans k2⟩ (fun hHeld => ?_)
    clear hK K
    refine norm_ (a' := ?_) ?_ ?_
    rotate_left
    · show Act.put _ (some 119) _ = _
      simp only [Act.put, List.setIfInBounds_toArray, List.set_cons_zero, List.set_cons_succ]
      rfl
    refine pure_ (i := 14) (N := some 120) (v := ?_) (a' := ?_) #[true, true, true, true, true, true, true, true, true, true, true, true, true, true, true, false, false, false, false, false] rfl rfl (by kernel_rfl) (fun _ _ _ h => h) (Or.inl ⟨by rfl, ?_⟩) ?_ ?_
    rotate_left
    · intro w'
      go_simp
      with_reducible rfl
    rotate_left
    · simp only [Act.put, List.setIfInBounds_toArray, List.set_cons_zero, List.set_cons_succ]
      rfl
    refine pure_ (i := 15) (N := some 121) (v := ?_) (a' := ?_) #[true, true, true, true, true, true, true, true, true, true, true, true, true, true, true, true, false, false, false, false] rfl rfl (by kernel_rfl) (fun _ _ _ h => h) (Or.inl ⟨by rfl, ?_⟩) ?_ ?_
    rotate_left
    · intro w'
      go_simp
      with_reducible rfl
    rotate_left
    · simp only [Act.put, List.setIfInBounds_toArray, List.set_cons_zero, List.set_cons_succ]
      rfl
    refine last_ (i := 16) (N := none) #[true, true, true, true, true, true, true, true, true, true, true, true, true, true, true, true, true, false, false, false] rfl rfl (by kernel_rfl) (by decide) (fun K hK => ?_)
    have hcb1 := (keep_cell hK4 hb0 (by omega) 1).1.trans k1
    have hcb2 := (keep_cell hK4 hb0 (by omega) 2).1.trans k2
    have hfb1 := (keep_cell hK4 hb0 (by omega) 1).2.trans f1
    have hfb2 := (keep_cell hK4 hb0 (by omega) 2).2.trans f2
    have hbl4 : b < u4.heap.size := Nat.lt_of_lt_of_le hb0 hK4.size
    refine skip_ (w1 := ?_) (by rfl) rfl ?_ ?_
    rotate_left
    · go_simp
      first | with_reducible rfl | rfl
    refine hK.out _ _ ?_
    clear hK K
    refine pure_ (i := 17) (N := some 122) (v := ?_) (a' := ?_) #[true, true, true, true, true, true, true, true, true, true, true, true, true, true, true, true, true, true, false, false] rfl rfl (by kernel_rfl) (fun _ _ _ h => h) (Or.inl ⟨by rfl, ?_⟩) ?_ ?_
    rotate_left
    · intro w'
      go_simp
      with_reducible rfl
    rotate_left
    · simp only [Act.put, List.setIfInBounds_toArray, List.set_cons_zero, List.set_cons_succ]
      rfl
    refine pure_ (i := 18) (N := some 123) (v := ?_) (a' := ?_) #[true, true, true, true, true, true, true, true, true, true, true, true, true, true, true, true, true, true, true, false] rfl rfl (by kernel_rfl) (fun _ _ _ h => h) (Or.inl ⟨by rfl, ?_⟩) ?_ ?_
    rotate_left
    · intro w'
      go_simp
      with_reducible rfl
    rotate_left
    · simp only [Act.put, List.setIfInBounds_toArray, List.set_cons_zero, List.set_cons_succ]
      rfl
    refine last_ (i := 19) (N := none) #[true, true, true, true, true, true, true, true, true, true, true, true, true, true, true, true, true, true, true, true] rfl rfl (by kernel_rfl) (by decide) (fun K hK => ?_)
    refine skip_ (w1 := ?_) (by rfl) rfl ?_ ?_
    rotate_left
    · go_simp
      first | with_reducible rfl | rfl
    refine hK.out _ _ ?_
    clear hK K
    refine done_ (by kernel_rfl) ?_
    have hst : Keep (fun k => k = b) u4 ((u4.setCell ⟨b, 1, none⟩ (.slice AG2 (s.gens.length + 1) cG2)).setCell ⟨b, 2, none⟩ (.slice AA2 (s.alive.length + 1) cA2)) := (by repeat (first | (with_reducible exact Keep.refl _ _) | (with_reducible refine Keep.drewN ?_ _) | (with_reducible refine Keep.drew ?_) | (with_reducible refine Keep.setCell ?_ _ _ (by first | (right; with_reducible rfl) | (left; simp; done) | (left; simp; omega) | (right; simp; done) | (right; assumption))) | (with_reducible refine Keep.alloc ?_ _)))
    have hone := HU0.out.one
    have hG2 : Row u3 base (fun k => col4 k = 2 ∨ u0.heap.size ≤ k ∧ k < u3.heap.size) 3 (.slice AG2 (s.gens.length + 1) cG2) (ints (s.gens ++ [0])) := by rw [ints_append]; exact hrowG.mono (fun k hl h => h.imp id (fun h => ⟨by omega, hl⟩))
    have hA2 : Row u4 base (fun k => col4 k = 3 ∨ u0.heap.size ≤ k ∧ ¬ k < u3.heap.size) 4 (.slice AA2 (s.alive.length + 1) cA2) (bools (s.alive ++ [false])) := by rw [bools_append]; exact hrowA.mono (fun k hl h => h.imp id (fun h => ⟨by omega, by omega⟩))
    have hG3 := hG2.keep (F := fun k => col4 k = 3) hkA (fun i hi h => by have hz := HU0.out.r.z i; rcases h with h | h <;> omega)
    have hA3 := hA2
    have hG4 := hG3.keep hst (fun i hi h => by have hz := HU0.out.r.z i; subst hi; rcases h with h | h <;> omega)
    have hA4 := hA3.keep hst (fun i hi h => by have hz := HU0.out.r.z i; subst hi; rcases h with h | h <;> omega)
    have hF4 : Row ((u4.setCell ⟨b, 1, none⟩ (.slice AG2 (s.gens.length + 1) cG2)).setCell ⟨b, 2, none⟩ (.slice AA2 (s.alive.length + 1) cA2)) base (fun k => col4 k = 5) 3 (.slice AF 0 cF) (ints (refillS s p).free) := (HU0.out.r.f.keep hK4 (fun i hi h => by rcases hi with hi | hi <;> omega)).keep hst (fun i hi h => by subst hi; omega)
    have hbk : ((u4.setCell ⟨b, 1, none⟩ (.slice AG2 (s.gens.length + 1) cG2)).setCell ⟨b, 2, none⟩ (.slice AA2 (s.alive.length + 1) cA2)).heap[b]? = some (.cells #[.int .i64 (refillS s p).limit, .slice AG2 (s.gens.length + 1) cG2, .slice AA2 (s.alive.length + 1) cA2, .slice (some ⟨gC, oC, none⟩) vs.length cC, .slice AF 0 cF] TS (0, 0)) := by
      have := blk_set (i := 2) (u := .slice AA2 (s.alive.length + 1) cA2) (blk_set (i := 1) (u := .slice AG2 (s.gens.length + 1) cG2) (blk_keep HU0.out.blk hK4 (by omega)))
      simpa using this
    obtain ⟨col9, hQ9, hN9⟩ := HU0.out.fields (by omega) (new := fun k => if k < u3.heap.size then 2 else 3) ((hK4.mono (fun i _ h => by rcases h with h | h; exact .inr (.inl h); exact .inr (.inr (.inl h)))).trans (hst.mono (fun i _ h => by subst h; exact .inl hone))) hbk
      (hG4.mono fun k _ h => h.imp id (fun h => ⟨h.1, if_pos h.2⟩)) (hA4.mono fun k _ h => h.imp id (fun h => ⟨h.1, if_neg h.2⟩)) (hF4.mono fun k _ h => .inl h)
    have HQ9 := Aside0.mk hQ9
    have HN9 := Aside0.mk ((HN4.out.trans (Nx.of_below hxU)).trans hN9)
    clear hQ9 hN9 hbk hF4 hA4 hG4 hG3 hA3 hG2 hA2 hst
    go_wp2
    go_ret2
    rw [FIN.out]
    exact ⟨col9, rfl, ⟨_, _, _, _, _, HQ9.out⟩, HN9.out⟩
end Go.Proofs.Ytnglgjegkjfnaaa
