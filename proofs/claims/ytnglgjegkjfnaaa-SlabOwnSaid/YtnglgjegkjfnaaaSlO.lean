import Derived.Test.YtnglgjegkjfnaaaSlN
import Derived.Deep.DrawnRows
set_option linter.unusedSimpArgs false
set_option linter.unusedVariables false
namespace Go.Proofs.Ytnglgjegkjfnaaa
open Go.RowKit Go.Proofs.YtnglgjegkjfnaaaW.PrintWords Go.Proofs.YtnglgjegkjfnaaaW.PrintMore Go.Proofs.YtnglgjegkjfnaaaW.PrintLast
/-! Flush, Give: printed by gen04e.py. -/
set_option maxRecDepth 100000 in
set_option maxHeartbeats 8000000 in
theorem flush_in {b n : Nat} {s : Sl} {base : Nat} {col : Nat → Nat} (w : World) (hb : base ≤ w.heap.size) (h : IsSlab TS w base b col s) (hO : Ok s) (hpn : n < s.caches.length) : Calls Try.prog 25 #[.pointer (some ⟨b, 0, none⟩), .int .i64 n] w (FlushP base b col (flushS s n) w) := by
  have hpr : procS s n = true := procS_iff.2 ⟨by omega, by omega⟩
  obtain ⟨y, hy⟩ : ∃ y, s.caches[n]? = some y := ⟨_, List.getElem?_eq_getElem hpn⟩
  have HT : Aside0 (flushS s n = ({ s with caches := s.caches.set n [], free := s.free ++ y }, 0)) := ⟨by rw [flushS, if_pos hpr, Int.toNat_natCast, getD_some hy]⟩
  have hyl := hO.cl y (List.mem_of_getElem? hy)
  have hfl := hO.fl
  have H := Aside0.mk h
  have hc64 := hO.c1
  obtain ⟨vG, vA, vC, vF, vs, h⟩ := h
  obtain ⟨gC, oC, cC, he, hgC, hg4, hat⟩ := h.r.c.form (by rw [h.r.l]; omega)
  obtain ⟨v, hv, hvrow⟩ := h.r.v _ _ hy
  have hcell := (hat _).1 _ hv
  have hfz := (hat n).2
  obtain ⟨Av, cv, rfl, -⟩ := hvrow.slice
  subst he
  obtain ⟨AF, cF, rfl, -⟩ := h.r.f.slice
  obtain ⟨-, -, -, c3, c4⟩ := h.cells
  have hfb4 := (froz5 h.blk).2.2.2.2
  have hlt := lt_blk h.blk
  have hvl := h.r.l
  rw [hvl] at c3
  rw [ints_len] at hcell c4
  have HVR := Aside0.mk hvrow
  have HP := Aside0.mk h
  have hb1 := h.one
  clear h hvrow hat hv
  go_enter Try.func25, Try.ntmps25
  go_wp2_with fail
  refine (proc_slab n _ H.out hO.l0).mono ?_
  rw [hpr]
  rintro e w1 ⟨rfl, rfl⟩
  go_wp2_with fail
  have hx0 : Below w.heap.size w w.drew := (Below.refl _ _).drew
  have HP0 := Aside0.mk (HP.out.below hx0)
  have hc0 : w.drew.cell? ⟨b, 3, none⟩ = some (.slice (some ⟨gC, oC, none⟩) s.caches.length cC) := c3
  have hc1 : w.drew.cell? ⟨gC, oC + n, none⟩ = some (.slice Av y.length cv) := hcell
  have hc2 : w.drew.cell? ⟨b, 4, none⟩ = some (.slice AF s.free.length cF) := c4
  have hgCx : gC < w.drew.heap.size := hgC
  have hbx : b < w.drew.heap.size := hlt
  have hfC : w.drew.frozen? ⟨gC, oC + n, none⟩ = false := hfz
  have hfb4 : w.drew.frozen? ⟨b, 4, none⟩ = false := hfb4
  have hsx : w.heap.size ≤ w.drew.heap.size := hx0.size
  clear c3 hcell c4 hlt hfz hgC
  refine start_ (n := 16) (S := fun w' => w'.cell? ⟨b, 3, none⟩ = some (.slice (some ⟨gC, oC, none⟩) s.caches.length cC) ∧ w'.cell? ⟨gC, oC + n, none⟩ = some (.slice Av y.length cv) ∧ w'.cell? ⟨b, 4, none⟩ = some (.slice AF s.free.length cF)) (ds := [12, 15]) #[false, false, false, false, false, false, false, false, false, false, false, false, false, false, false, false] (by kernel_rfl) rfl rfl ⟨hc0, hc1, hc2⟩ (fun hHeld => ?_)
  generalize w.drew = x0 at *
  refine pure_ (i := 0) (N := some 9) (v := ?_) (a' := ?_) #[true, false, false, false, false, false, false, false, false, false, false, false, false, false, false, false] rfl rfl (by kernel_rfl) (fun _ _ _ h => h) (Or.inl ⟨by rfl, ?_⟩) ?_ ?_
  rotate_left
  · intro w'
    go_simp
    with_reducible rfl
  rotate_left
  · simp only [Act.put, List.setIfInBounds_toArray, List.set_cons_zero, List.set_cons_succ]
    rfl
  refine pure_ (i := 1) (N := some 10) (v := ?_) (a' := ?_) #[true, true, false, false, false, false, false, false, false, false, false, false, false, false, false, false] rfl rfl (by kernel_rfl) (fun _ _ _ h => h) (Or.inl ⟨by rfl, ?_⟩) ?_ ?_
  rotate_left
  · intro w'
    go_simp
    with_reducible rfl
  rotate_left
  · simp only [Act.put, List.setIfInBounds_toArray, List.set_cons_zero, List.set_cons_succ]
    rfl
  refine pure_ (i := 2) (N := some 11) (v := ?_) (a' := ?_) #[true, true, true, false, false, false, false, false, false, false, false, false, false, false, false, false] rfl rfl (by kernel_rfl) (fun _ _ _ h => h) (Or.inl ⟨by rfl, ?_⟩) ?_ ?_
  rotate_left
  · intro w'
    go_simp
    with_reducible rfl
  rotate_left
  · simp only [Act.put, List.setIfInBounds_toArray, List.set_cons_zero, List.set_cons_succ]
    rfl
  refine pure_ (i := 3) (N := some 12) (v := ?_) (a' := ?_) #[true, true, true, true, false, false, false, false, false, false, false, false, false, false, false, false] rfl rfl (by kernel_rfl) (fun _ _ _ h => h) (Or.inl ⟨by rfl, ?_⟩) ?_ ?_
  rotate_left
  · intro w'
    go_simp
    with_reducible rfl
  rotate_left
  · simp only [Act.put, List.setIfInBounds_toArray, List.set_cons_zero, List.set_cons_succ]
    rfl
  refine pure_ (i := 5) (N := some 14) (v := ?_) (a' := ?_) #[true, true, true, true, false, true, false, false, false, false, false, false, false, false, false, false] rfl rfl (by kernel_rfl) (fun _ _ _ h => h) (Or.inl ⟨by rfl, ?_⟩) ?_ ?_
  rotate_left
  · intro w'
    go_simp
    with_reducible rfl
  rotate_left
  · simp only [Act.put, List.setIfInBounds_toArray, List.set_cons_zero, List.set_cons_succ]
    rfl
  refine pure_ (i := 6) (N := some 15) (v := ?_) (a' := ?_) #[true, true, true, true, false, true, true, false, false, false, false, false, false, false, false, false] rfl rfl (by kernel_rfl) (fun _ _ _ h => h) (Or.inl ⟨by rfl, ?_⟩) ?_ ?_
  rotate_left
  · intro w'
    go_simp
    with_reducible rfl
  rotate_left
  · simp only [Act.put, List.setIfInBounds_toArray, List.set_cons_zero, List.set_cons_succ]
    rfl
  refine pure_ (i := 7) (N := some 16) (v := ?_) (a' := ?_) #[true, true, true, true, false, true, true, true, false, false, false, false, false, false, false, false] rfl rfl (by kernel_rfl) (fun _ _ _ h => h) (Or.inl ⟨by rfl, ?_⟩) ?_ ?_
  rotate_left
  · intro w'
    go_simp
    with_reducible rfl
  rotate_left
  · simp only [Act.put, List.setIfInBounds_toArray, List.set_cons_zero, List.set_cons_succ]
    rfl
  refine pure_ (i := 9) (N := some 18) (v := ?_) (a' := ?_) #[true, true, true, true, false, true, true, true, false, true, false, false, false, false, false, false] rfl rfl (by kernel_rfl) (fun _ _ _ h => h) (Or.inl ⟨by rfl, ?_⟩) ?_ ?_
  rotate_left
  · intro w'
    go_simp
    with_reducible rfl
  rotate_left
  · simp only [Act.put, List.setIfInBounds_toArray, List.set_cons_zero, List.set_cons_succ]
    rfl
  refine take_ (i := 4) (N := some 13) (v := ?_) (a' := ?_) #[true, true, true, true, true, true, true, true, false, true, false, false, false, false, false, false] rfl rfl (by kernel_rfl) (fun _ _ _ h => h) (Or.inl ⟨by rfl, ?_⟩) hHeld ?_ ?_
  rotate_left
  · rintro w' ⟨s0, s1, s2⟩
    go_simp
    with_reducible rfl
  rotate_left
  · simp only [Act.put, List.setIfInBounds_toArray, List.set_cons_zero, List.set_cons_succ]
    rfl
  refine take_ (i := 8) (N := some 17) (v := ?_) (a' := ?_) #[true, true, true, true, true, true, true, true, true, true, false, false, false, false, false, false] rfl rfl (by kernel_rfl) (fun _ _ _ h => h) (Or.inl ⟨by rfl, ?_⟩) hHeld ?_ ?_
  rotate_left
  · rintro w' ⟨s0, s1, s2⟩
    go_simp
    with_reducible rfl
  rotate_left
  · simp only [Act.put, List.setIfInBounds_toArray, List.set_cons_zero, List.set_cons_succ]
    rfl
  refine pure_ (i := 10) (N := some 19) (v := ?_) (a' := ?_) #[true, true, true, true, true, true, true, true, true, true, true, false, false, false, false, false] rfl rfl (by kernel_rfl) (fun _ _ _ h => h) (Or.inl ⟨by rfl, ?_⟩) ?_ ?_
  rotate_left
  · intro w'
    go_simp
    with_reducible rfl
  rotate_left
  · simp only [Act.put, List.setIfInBounds_toArray, List.set_cons_zero, List.set_cons_succ]
    rfl
  refine take_ (i := 11) (N := some 20) (v := ?_) (a' := ?_) #[true, true, true, true, true, true, true, true, true, true, true, true, false, false, false, false] rfl rfl (by kernel_rfl) (fun _ _ _ h => h) (Or.inl ⟨by rfl, ?_⟩) hHeld ?_ ?_
  rotate_left
  · rintro w' ⟨s0, s1, s2⟩
    go_simp
    with_reducible rfl
  rotate_left
  · simp only [Act.put, List.setIfInBounds_toArray, List.set_cons_zero, List.set_cons_succ]
    rfl
  refine last_ (i := 12) (N := some 21) #[true, true, true, true, true, true, true, true, true, true, true, true, true, false, false, false] rfl rfl (by kernel_rfl) (by decide) (fun K hK => ?_)
  have hrd := (HVR.out.below hx0).reads
  obtain ⟨A1, n1, c1, he1, hn1, -, -, hcell1, -⟩ := hrd
  injection he1 with he1 hen hec
  subst he1; subst hec
  obtain ⟨v5, w5, hr5, hrow5, hg5⟩ := row_append (P := Try.prog) (t := 26) Try.underlying26 infoIn rfl (by omega) HP0.out.r.f Av n1 cv (ints y) hn1 hcell1 ints_one (by rw [ints_len, ← hn1, ints_len]; omega) (by omega)
  rw [ints_len, ← hen, ints_len] at hr5
  refine app_ (.tmp 13) (.tmp 20) 26 (by rfl) rfl rfl rfl rfl hr5 ?_
  have hK5 := grown_keep hg5 HP0.out.r.f.own
  obtain ⟨A5, c5, he5, -⟩ := hrow5.slice
  rw [← ints_append] at hrow5
  rw [← ints_append, ints_len, List.length_append] at he5
  subst he5
  have hf5 := (keep_cell hK5 hbx (by omega) 4).2.trans hfb4
  have hc54 := (keep_cell hK5 hbx (by omega) 4).1.trans hc2
  have hsz5 := hK5.size
  refine hK.out _ _ ?_
  clear hK K
  refine norm_ (a' := ?_) ?_ ?_
  rotate_left
  · show Act.put _ (some 21) _ = _
    simp only [Act.put, List.setIfInBounds_toArray, List.set_cons_zero, List.set_cons_succ]
    rfl
  refine pure_ (i := 13) (N := some 22) (v := ?_) (a' := ?_) #[true, true, true, true, true, true, true, true, true, true, true, true, true, true, false, false] rfl rfl (by kernel_rfl) (fun _ _ _ h => h) (Or.inl ⟨by rfl, ?_⟩) ?_ ?_
  rotate_left
  · intro w'
    go_simp
    with_reducible rfl
  rotate_left
  · simp only [Act.put, List.setIfInBounds_toArray, List.set_cons_zero, List.set_cons_succ]
    rfl
  refine pure_ (i := 14) (N := some 23) (v := ?_) (a' := ?_) #[true, true, true, true, true, true, true, true, true, true, true, true, true, true, true, false] rfl rfl (by kernel_rfl) (fun _ _ _ h => h) (Or.inl ⟨by rfl, ?_⟩) ?_ ?_
  rotate_left
  · intro w'
    go_simp
    with_reducible rfl
  rotate_left
  · simp only [Act.put, List.setIfInBounds_toArray, List.set_cons_zero, List.set_cons_succ]
    rfl
  refine last_ (i := 15) (N := none) #[true, true, true, true, true, true, true, true, true, true, true, true, true, true, true, true] rfl rfl (by kernel_rfl) (by decide) (fun K hK => ?_)
  refine skip_ (w1 := ?_) (by rfl) rfl ?_ ?_
  rotate_left
  · go_simp
    first | with_reducible rfl | rfl
  refine hK.out _ _ ?_
  clear hK K
  refine done_ (by kernel_rfl) ?_
  have hst : Keep (fun k => k = b) w5 (w5.setCell ⟨b, 4, none⟩ (.slice A5 (s.free.length + y.length) c5)) := (by repeat (first | (with_reducible exact Keep.refl _ _) | (with_reducible refine Keep.drewN ?_ _) | (with_reducible refine Keep.drew ?_) | (with_reducible refine Keep.setCell ?_ _ _ (by first | (right; with_reducible rfl) | (left; simp; done) | (left; simp; omega) | (right; simp; done) | (right; assumption))) | (with_reducible refine Keep.alloc ?_ _)))
  have hbk : (w5.setCell ⟨b, 4, none⟩ (.slice A5 (s.free.length + y.length) c5)).heap[b]? = some (.cells #[.int .i64 s.limit, vG, vA, .slice (some ⟨gC, oC, none⟩) vs.length cC, .slice A5 (s.free.length + y.length) c5] TS (0, 0)) := by
    have := blk_set (i := 4) (u := .slice A5 (s.free.length + y.length) c5) (blk_keep HP0.out.blk hK5 (by omega))
    simpa using this
  have hk : Keep (fun k => col k = 1 ∨ col k = 5 ∨ col k = 6 + n) x0 (w5.setCell ⟨b, 4, none⟩ (.slice A5 (s.free.length + y.length) c5)) := (hK5.mono (fun _ _ h => .inr (.inl h))).trans (hst.mono (fun _ _ h => by subst h; exact .inl hb1))
  have hrow6 := (hrow5.mono (ok' := fun k => col k = 5 ∨ x0.heap.size ≤ k ∧ (fun _ => 5) k = 5) (fun k _ h => h.imp id (fun h => ⟨h, rfl⟩))).keep hst (fun i hi h => by subst hi; rcases h with h | h <;> omega)
  obtain ⟨col9, hQ9, hN9⟩ := HP0.out.both (new := fun _ => 5) (ys := []) (v1 := .slice none 0 0) (by omega) rfl hpn hk hbk hrow6 (Row.nil _ _ _ _)
  have hcc := (keep_cell hK5 hgCx (by omega) (oC + n)).1.trans hc1
  have hcf := (keep_cell hK5 hgCx (by omega) (oC + n)).2.trans hfC
  have hc3 := (keep_cell hK5 hbx (by omega) 3).1.trans hc0
  have hg5l : gC < w5.heap.size := by omega
  have hb5l : b < w5.heap.size := by omega
  have HQ9 := Aside0.mk hQ9
  have HN9 := Aside0.mk ((Nx.of_below hx0).trans hN9)
  have hbg : b ≠ gC := fun e => by rw [e] at hb1; omega
  clear hQ9 hN9 hbk hrow6 hk
  go_wp2
  go_ret
  unfold FlushP
  rw [HT.out]
  exact ⟨col9, rfl, ⟨_, _, _, _, _, HQ9.out⟩, HN9.out⟩
theorem alive_true {s : Sl} {x g : Int} (h : aliveS s x g = true) : ∃ i : Nat, x = i ∧ i < s.gens.length ∧ s.alive[i]? = some true ∧ s.gens.getD i 0 = g := by
  simp only [aliveS, Bool.and_eq_true, decide_eq_true_eq] at h
  obtain ⟨h0, h1, h2, h3⟩ := h
  obtain ⟨i, rfl⟩ := Int.eq_ofNat_of_zero_le h0
  refine ⟨i, rfl, by omega, ?_, h3⟩
  rw [Int.toNat_natCast, List.getD_eq_getElem?_getD] at h2
  cases hi : s.alive[i]? with
  | none => rw [hi] at h2; cases h2
  | some y => rw [hi] at h2; exact congrArg some h2
theorem SlB.mark {T : TypeId} {w : World} {base b : Nat} {col : Nat → Nat} {s : Sl} {vG vC vF : Value} {vs : List Value} {ga oa na ca i : Nat} (h : SlB T w base b col s vG (.slice (some ⟨ga, oa, none⟩) na ca) vC vF vs) (hb : base ≤ w.heap.size) (ha : i < s.alive.length) (m : Bool) :
    ∃ col', SlB T (w.setCell ⟨ga, oa + i, none⟩ (.bool m)) base b col' { s with alive := s.alive.set i m } vG (.slice (some ⟨ga, oa, none⟩) na ca) vC vF vs ∧ Nx w col (w.setCell ⟨ga, oa + i, none⟩ (.bool m)) col' := by
  have ha3 : col ga = 3 := h.r.a.own ga (by simp [Value.ownBlock])
  have k1 : Keep (fun k => k = ga) w (w.setCell ⟨ga, oa + i, none⟩ (.bool m)) := (by repeat (first | (with_reducible exact Keep.refl _ _) | (with_reducible refine Keep.drewN ?_ _) | (with_reducible refine Keep.drew ?_) | (with_reducible refine Keep.setCell ?_ _ _ (by first | (right; with_reducible rfl) | (left; simp; done) | (left; simp; omega) | (right; simp; done) | (right; assumption))) | (with_reducible refine Keep.alloc ?_ _)))
  have hb1 := h.one
  refine h.fields hb (new := fun _ => 0) (k1.mono (fun _ _ h => by subst h; exact .inr (.inr (.inl ha3)))) (blk_keep h.blk k1 (fun e => by subst e; omega)) ?_ ?_ ?_
  · exact (h.r.g.keep k1 (fun j e h => by subst e; omega)).mono fun _ _ h => .inl h
  · have h1 := h.r.a.set (i := i) (u := .bool m) (by rw [bools_len]; exact ha) rfl
    rw [← bools_set] at h1
    exact h1.mono fun _ _ h => .inl h
  · exact (h.r.f.keep k1 (fun j e h => by subst e; omega)).mono fun _ _ h => .inl h
set_option maxHeartbeats 2000000 in
theorem give_out {b : Nat} {s : Sl} {base : Nat} {col : Nat → Nat} (p x g : Int) (w : World) (h : IsSlab TS w base b col s) (hO : Ok s) (hpr : procS s p = false ∨ aliveS s x g = false) : Calls Try.prog 24 #[.pointer (some ⟨b, 0, none⟩), .int .i64 p, .agg #[.int .i64 x, .int .i64 g]] w (FlushP base b col (giveS s p x g) w) := by
  have hB : Below w.heap.size w (w.alloc (.cells #[.int .i64 x, .int .i64 g] 48)) := below_al (Below.refl _ _) _
  have hX : (w.alloc (.cells #[.int .i64 x, .int .i64 g] 48)).heap[w.heap.size]? = some (.cells #[.int .i64 x, .int .i64 g] 48 (0, 0)) := blk_new _ _
  have H := Aside0.mk (h.below hB)
  have H0 := Aside0.mk h
  cases hp : procS s p with
  | false =>
    have HT : Aside0 (giveS s p x g = (s, 1)) := ⟨by rw [giveS, hp]; rfl⟩
    clear hpr h
    go_enter Try.func24, Try.ntmps24
    go_wp2_with fail
    refine (proc_slab p _ H.out hO.l0).mono ?_
    rw [hp]
    rintro e w1 ⟨rfl, rfl⟩
    go_wp2
    go_ret
    unfold FlushP
    rw [HT.out]
    exact ⟨col, rfl, H.out, Nx.of_below hB⟩
  | true =>
    have hal : aliveS s x g = false := hpr.resolve_left (by rw [hp]; simp)
    have HT : Aside0 (giveS s p x g = (s, 41)) := ⟨by rw [giveS, hp, hal]; rfl⟩
    have x0 := cell_blk hX 0
    have x1 := cell_blk hX 1
    have hXl := lt_blk hX
    clear hpr h
    go_enter Try.func24, Try.ntmps24
    go_wp2_with fail
    refine (proc_slab p _ H.out hO.l0).mono ?_
    rw [hp]
    rintro e w1 ⟨rfl, rfl⟩
    go_wp2_with fail
    refine (alive_slab x g _ H.out hO.l0 hO.a).mono ?_
    rw [hal]
    rintro e w2 ⟨rfl, hB2⟩
    have hb2 := below_then hB hB2
    go_wp2
    go_ret
    unfold FlushP
    rw [HT.out]
    exact ⟨col, rfl, H0.out.below hb2, Nx.of_below hb2⟩
set_option maxRecDepth 100000 in
set_option maxHeartbeats 8000000 in
theorem give_last {b n i : Nat} {g : Int} {s : Sl} {base : Nat} {col : Nat → Nat} (w : World) (hb : base ≤ w.heap.size) (h : IsSlab TS w base b col s) (hO : Ok s) (hpn : n < s.caches.length) (hal : aliveS s i g = true) (hil : i < s.gens.length) (hg : g = 2147483647) : Calls Try.prog 24 #[.pointer (some ⟨b, 0, none⟩), .int .i64 n, .agg #[.int .i64 i, .int .i64 g]] w (FlushP base b col (giveS s n i g) w) := by
  have hpr : procS s n = true := procS_iff.2 ⟨by omega, by omega⟩
  have HT : Aside0 (giveS s n i g = ({ s with alive := s.alive.set i false }, 0)) := ⟨by rw [giveS, if_pos hpr, if_pos hal, if_pos hg, Int.toNat_natCast]⟩
  have hgd : (g == 2147483647) = true := by simpa using hg
  clear hg
  have hB : Below w.heap.size w (w.alloc (.cells #[.int .i64 i, .int .i64 g] 48)) := below_al (Below.refl _ _) _
  have hX : (w.alloc (.cells #[.int .i64 i, .int .i64 g] 48)).heap[w.heap.size]? = some (.cells #[.int .i64 i, .int .i64 g] 48 (0, 0)) := blk_new _ _
  have H := Aside0.mk (h.below hB)
  have hHz : col w.heap.size = 0 := h.z _ (Nat.le_refl _)
  have hia : i < s.alive.length := by have := hO.a; omega
  have x0 := cell_blk hX 0
  have x1 := cell_blk hX 1
  have hXl := lt_blk hX
  clear h
  go_enter Try.func24, Try.ntmps24
  go_wp2_with fail
  refine (proc_slab n _ H.out hO.l0).mono ?_
  rw [hpr]
  rintro e w1 ⟨rfl, rfl⟩
  go_wp2_with fail
  refine (alive_slab i g _ H.out hO.l0 hO.a).mono ?_
  rw [hal]
  rintro e w2 ⟨rfl, hB2⟩
  have hX2 := blk_below hX hB2
  have hB02 := below_then hB hB2
  obtain ⟨vG, vA, vC, vF, vs, h2⟩ := H.out.below hB2
  obtain ⟨ga, oa, ca, he, hga, hga3, hata⟩ := h2.r.a.form (by rw [bools_len]; omega)
  subst he
  have hya := (hata i).1 _ (bools_get (List.getElem?_eq_getElem hia))
  have hfa := (hata i).2
  obtain ⟨-, -, k2, -, -⟩ := h2.cells
  rw [bools_len] at k2
  have hone := h2.one
  have hlt2 := lt_blk h2.blk
  have x0 := cell_blk hX2 0
  have x1 := cell_blk hX2 1
  simp at x0 x1
  have hXl := lt_blk hX2
  have hii : (i : Int) < (s.alive.length : Int) := by omega
  have hxa : w.heap.size ≠ ga := fun e => by rw [← e] at hga3; omega
  have HH2 := Aside0.mk h2
  have HX2 := Aside0.mk hX2
  have hs02 := hB02.size
  clear hata h2 hX2 hX hB2 H
  go_wp2_with fail
  go_region
  go_wp2
  go_ret
  unfold FlushP
  rw [HT.out]
  have hd : Below w2.heap.size w2 w2.drew := (Below.refl _ _).drew
  obtain ⟨col9, hQ9, hN9⟩ := (HH2.out.below hd).mark (by have := hd.size; omega) hia false
  exact ⟨col9, rfl, ⟨_, _, _, _, _, hQ9⟩, (Nx.of_below (below_then hB02 hd)).trans hN9⟩
set_option maxRecDepth 100000 in
set_option maxHeartbeats 8000000 in
theorem give_less {b n i : Nat} {g : Int} {s : Sl} {base : Nat} {col : Nat → Nat} (w : World) (hb : base ≤ w.heap.size) (h : IsSlab TS w base b col s) (hO : Ok s) (hpn : n < s.caches.length) (hal : aliveS s i g = true) (hil : i < s.gens.length) (hg : g ≠ 2147483647) (y : List Int) (hy : s.caches[n]? = some y) (hy63 : y.length < 63) : Calls Try.prog 24 #[.pointer (some ⟨b, 0, none⟩), .int .i64 n, .agg #[.int .i64 i, .int .i64 g]] w (FlushP base b col (giveS s n i g) w) := by
  have hpr : procS s n = true := procS_iff.2 ⟨by omega, by omega⟩
  have HT : Aside0 (giveS s n i g = ({ s with alive := s.alive.set i false, caches := s.caches.set n (y ++ [(i : Int)]) }, 0)) := ⟨by
    rw [giveS, if_pos hpr, if_pos hal, if_neg hg, Int.toNat_natCast, Int.toNat_natCast, giveBack]
    simp only [getD_some hy]
    rw [if_neg (by rw [List.length_append, List.length_singleton]; omega)]⟩
  have hyl := hO.cl y (List.mem_of_getElem? hy)
  have hfl := hO.fl
  have hc64 := hO.c1
  have hgd : (g == 2147483647) = false := by simpa using hg
  clear hg
  have hB : Below w.heap.size w (w.alloc (.cells #[.int .i64 i, .int .i64 g] 48)) := below_al (Below.refl _ _) _
  have hX : (w.alloc (.cells #[.int .i64 i, .int .i64 g] 48)).heap[w.heap.size]? = some (.cells #[.int .i64 i, .int .i64 g] 48 (0, 0)) := blk_new _ _
  have H := Aside0.mk (h.below hB)
  have hHz : col w.heap.size = 0 := h.z _ (Nat.le_refl _)
  have hia : i < s.alive.length := by have := hO.a; omega
  have x0 := cell_blk hX 0
  have x1 := cell_blk hX 1
  have hXl := lt_blk hX
  clear h
  go_enter Try.func24, Try.ntmps24
  go_wp2_with fail
  refine (proc_slab n _ H.out hO.l0).mono ?_
  rw [hpr]
  rintro e w1 ⟨rfl, rfl⟩
  go_wp2_with fail
  refine (alive_slab i g _ H.out hO.l0 hO.a).mono ?_
  rw [hal]
  rintro e w2 ⟨rfl, hB2⟩
  have hX2 := blk_below hX hB2
  have hB02 := below_then hB hB2
  obtain ⟨vG, vA, vC, vF, vs, h2⟩ := H.out.below hB2
  obtain ⟨ga, oa, ca, he, hga, hga3, hata⟩ := h2.r.a.form (by rw [bools_len]; omega)
  subst he
  have hya := (hata i).1 _ (bools_get (List.getElem?_eq_getElem hia))
  have hfa := (hata i).2
  obtain ⟨-, -, k2, -, -⟩ := h2.cells
  rw [bools_len] at k2
  have hone := h2.one
  have hlt2 := lt_blk h2.blk
  have x0 := cell_blk hX2 0
  have x1 := cell_blk hX2 1
  simp at x0 x1
  have hXl := lt_blk hX2
  have hii : (i : Int) < (s.alive.length : Int) := by omega
  have hxa : w.heap.size ≠ ga := fun e => by rw [← e] at hga3; omega
  have HH2 := Aside0.mk h2
  have HX2 := Aside0.mk hX2
  have hs02 := hB02.size
  clear hata h2 hX2 hX hB2 H
  go_wp2_with fail
  have hd2 : Below w2.heap.size w2 w2.drew := (Below.refl _ _).drew
  obtain ⟨col4, hQ4, hN4⟩ := (HH2.out.below hd2).mark (by have := hd2.size; omega) hia false
  rw [show w2.drew.setCell ⟨ga, oa + i, none⟩ (.bool false) = (w2.setCell ⟨ga, oa + i, none⟩ (.bool false)).drew from rfl] at hQ4 hN4
  have HN4 := Aside0.mk ((Nx.of_below (c := col) (below_then hB02 hd2)).trans hN4)
  have hX4 := blk_keep (blk_below HX2.out hd2) hN4.keep (fun h => h hHz)
  have hs4 := HN4.out.keep.size
  go_region
  generalize (w2.setCell ⟨ga, oa + i, none⟩ (.bool false)).drew = W4 at *
  clear x0 x1 hya hfa k2 hXl hlt2 HH2 HX2 hN4 hii hd2
  have x0 := cell_blk hX4 0
  have x1 := cell_blk hX4 1
  simp at x0 x1
  have hXl := lt_blk hX4
  obtain ⟨gC, oC, cC, he, hgC, hg4, hat⟩ := hQ4.r.c.form (by rw [hQ4.r.l]; show 0 < s.caches.length; omega)
  obtain ⟨v, hv, hvrow⟩ := hQ4.r.v _ _ hy
  have hcell := (hat _).1 _ hv
  have hfz := (hat n).2
  obtain ⟨Av, cv, rfl, -⟩ := hvrow.slice
  subst he
  obtain ⟨AF, cF, rfl, -⟩ := hQ4.r.f.slice
  obtain ⟨-, -, -, c3, c4⟩ := hQ4.cells
  have hvl := hQ4.r.l
  simp only at hvl
  rw [hvl] at c3
  rw [ints_len] at hcell c4
  have hfb4 := (froz5 hQ4.blk).2.2.2.2
  have hb1 := hQ4.one
  have HVR4 := Aside0.mk hvrow
  have HQ4 := Aside0.mk hQ4
  have hlt4 := lt_blk hQ4.blk
  clear hvrow hat hv hQ4 hX4
  go_wp2_with fail
  have hx0 : Below W4.heap.size W4 W4.drew := (Below.refl _ _).drew
  have HU0 := Aside0.mk (HQ4.out.below hx0)
  have HVR := Aside0.mk (HVR4.out.below hx0)
  have k3 : W4.drew.cell? ⟨b, 3, none⟩ = some (.slice (some ⟨gC, oC, none⟩) s.caches.length cC) := c3
  have kc : W4.drew.cell? ⟨gC, oC + n, none⟩ = some (.slice Av y.length cv) := hcell
  have kx : W4.drew.cell? ⟨w.heap.size, 0, none⟩ = some (.int .i64 i) := x0
  have hfc : W4.drew.frozen? ⟨gC, oC + n, none⟩ = false := hfz
  have hfb4 : W4.drew.frozen? ⟨b, 4, none⟩ = false := hfb4
  have kf0 : W4.drew.cell? ⟨b, 4, none⟩ = some (.slice AF s.free.length cF) := c4
  have hgCx : gC < W4.drew.heap.size := hgC
  have hbx : b < W4.drew.heap.size := hlt4
  have hsx : W4.heap.size ≤ W4.drew.heap.size := hx0.size
  clear c3 hcell x0 x1 hfz c4 hgC hlt4 HQ4 HVR4
  refine start_ (n := 12) (S := fun w' => w'.cell? ⟨b, 3, none⟩ = some (.slice (some ⟨gC, oC, none⟩) s.caches.length cC) ∧ w'.cell? ⟨gC, oC + n, none⟩ = some (.slice Av y.length cv) ∧ w'.cell? ⟨w.heap.size, 0, none⟩ = some (.int .i64 i)) (ds := [10]) #[false, false, false, false, false, false, false, false, false, false, false, false] (by kernel_rfl) rfl rfl ⟨k3, kc, kx⟩ (fun hHeld => ?_)
  generalize W4.drew = u0 at *
  refine pure_ (i := 0) (N := some 28) (v := ?_) (a' := ?_) #[true, false, false, false, false, false, false, false, false, false, false, false] rfl rfl (by kernel_rfl) (fun _ _ _ h => h) (Or.inl ⟨by rfl, ?_⟩) ?_ ?_
  rotate_left
  · intro w'
    go_simp
    with_reducible rfl
  rotate_left
  · simp only [Act.put, List.setIfInBounds_toArray, List.set_cons_zero, List.set_cons_succ]
    rfl
  refine pure_ (i := 1) (N := some 29) (v := ?_) (a' := ?_) #[true, true, false, false, false, false, false, false, false, false, false, false] rfl rfl (by kernel_rfl) (fun _ _ _ h => h) (Or.inl ⟨by rfl, ?_⟩) ?_ ?_
  rotate_left
  · intro w'
    go_simp
    with_reducible rfl
  rotate_left
  · simp only [Act.put, List.setIfInBounds_toArray, List.set_cons_zero, List.set_cons_succ]
    rfl
  refine pure_ (i := 2) (N := some 30) (v := ?_) (a' := ?_) #[true, true, true, false, false, false, false, false, false, false, false, false] rfl rfl (by kernel_rfl) (fun _ _ _ h => h) (Or.inl ⟨by rfl, ?_⟩) ?_ ?_
  rotate_left
  · intro w'
    go_simp
    with_reducible rfl
  rotate_left
  · simp only [Act.put, List.setIfInBounds_toArray, List.set_cons_zero, List.set_cons_succ]
    rfl
  refine pure_ (i := 4) (N := some 32) (v := ?_) (a' := ?_) #[true, true, true, false, true, false, false, false, false, false, false, false] rfl rfl (by kernel_rfl) (fun _ _ _ h => h) (Or.inl ⟨by rfl, ?_⟩) ?_ ?_
  rotate_left
  · intro w'
    go_simp
    with_reducible rfl
  rotate_left
  · simp only [Act.put, List.setIfInBounds_toArray, List.set_cons_zero, List.set_cons_succ]
    rfl
  refine pure_ (i := 7) (N := some 35) (v := ?_) (a' := ?_) #[true, true, true, false, true, false, false, true, false, false, false, false] rfl rfl (by kernel_rfl) (fun _ _ _ h => h) (Or.inl ⟨by rfl, ?_⟩) ?_ ?_
  rotate_left
  · intro w'
    go_simp
    with_reducible rfl
  rotate_left
  · simp only [Act.put, List.setIfInBounds_toArray, List.set_cons_zero, List.set_cons_succ]
    rfl
  refine take_ (i := 3) (N := some 31) (v := ?_) (a' := ?_) #[true, true, true, true, true, false, false, true, false, false, false, false] rfl rfl (by kernel_rfl) (fun _ _ _ h => h) (Or.inl ⟨by rfl, ?_⟩) hHeld ?_ ?_
  rotate_left
  · rintro w' ⟨s0, s1, s2⟩
    go_simp
    with_reducible rfl
  rotate_left
  · simp only [Act.put, List.setIfInBounds_toArray, List.set_cons_zero, List.set_cons_succ]
    rfl
  refine pure_ (i := 5) (N := some 33) (v := ?_) (a' := ?_) #[true, true, true, true, true, true, false, true, false, false, false, false] rfl rfl (by kernel_rfl) (fun _ _ _ h => h) (Or.inl ⟨by rfl, ?_⟩) ?_ ?_
  rotate_left
  · intro w'
    go_simp
    with_reducible rfl
  rotate_left
  · simp only [Act.put, List.setIfInBounds_toArray, List.set_cons_zero, List.set_cons_succ]
    rfl
  refine take_ (i := 6) (N := some 34) (v := ?_) (a' := ?_) #[true, true, true, true, true, true, true, true, false, false, false, false] rfl rfl (by kernel_rfl) (fun _ _ _ h => h) (Or.inl ⟨by rfl, ?_⟩) hHeld ?_ ?_
  rotate_left
  · rintro w' ⟨s0, s1, s2⟩
    go_simp
    with_reducible rfl
  rotate_left
  · simp only [Act.put, List.setIfInBounds_toArray, List.set_cons_zero, List.set_cons_succ]
    rfl
  refine take_ (i := 8) (N := some 36) (v := ?_) (a' := ?_) #[true, true, true, true, true, true, true, true, true, false, false, false] rfl rfl (by kernel_rfl) (fun _ _ _ h => h) (Or.inl ⟨by rfl, ?_⟩) hHeld ?_ ?_
  rotate_left
  · rintro w' ⟨s0, s1, s2⟩
    go_simp
    with_reducible rfl
  rotate_left
  · simp only [Act.put, List.setIfInBounds_toArray, List.set_cons_zero, List.set_cons_succ]
    rfl
  refine one_ (i := 9) (N := some 37) #[true, true, true, true, true, true, true, true, true, true, false, false] rfl rfl (by kernel_rfl) (by decide) (fun K hK => ?_)
  refine value_ (w1 := ?_) (v := ?_) (by rfl) rfl ?_ ?_
  rotate_left 2
  · go_simp
    constructor
    · rfl
    · rfl
  have hS1 : Below u0.heap.size u0 (u0.alloc (.cells #[.int .i64 i] 3)) := below_al (Below.refl _ _) _
  have hI : (u0.alloc (.cells #[.int .i64 i] 3)).heap[u0.heap.size]? = some (.cells #[.int .i64 i] 3 (0, 0)) := blk_new _ _
  generalize u0.alloc (.cells #[.int .i64 i] 3) = u1 at *
  have hz1 := hS1.size
  refine hK.out _ _ ⟨pw_cell_below hS1 k3, pw_cell_below hS1 kc, pw_cell_below hS1 kx⟩ (fun hHeld => ?_)
  clear hK K
  refine norm_ (a' := ?_) ?_ ?_
  rotate_left
  · show Act.put _ (some 37) _ = _
    simp only [Act.put, List.setIfInBounds_toArray, List.set_cons_zero, List.set_cons_succ]
    rfl
  refine last_ (i := 10) (N := some 38) #[true, true, true, true, true, true, true, true, true, true, true, false] rfl rfl (by kernel_rfl) (by decide) (fun K hK => ?_)
  obtain ⟨v5, w5, hr5, hrow5, hg5⟩ := row_append (P := Try.prog) (t := 26) Try.underlying26 infoIn rfl (by omega) (HVR.out.below hS1) (some ⟨u0.heap.size, 0, none⟩) 1 1 [.int .i64 i] rfl (fun _ => ⟨_, rfl, fun j u hj => by match j, hj with | 0, hj => (obtain rfl : Value.int .i64 i = u := by simpa using hj); rw [adds]; exact cell_blk hI 0⟩) (fun u hu => by rw [List.mem_singleton.1 hu]; rfl) (by rw [ints_len]; omega) (by omega)
  rw [ints_len] at hr5
  refine app_ (.tmp 34) (.tmp 37) 26 (by rfl) rfl rfl rfl rfl hr5 ?_
  have hK5 := grown_keep hg5 HVR.out.own
  obtain ⟨A5, c5, he5, -⟩ := hrow5.slice
  rw [List.length_append, ints_len, List.length_singleton] at he5
  subst he5
  have hrow5 : Row w5 base (fun k => col4 k = 6 + n ∨ u0.heap.size ≤ k) 3 (.slice A5 (y.length + 1) c5) (ints (y ++ [(i : Int)])) := by rw [ints_append]; exact hrow5.mono (fun k _ h => h.imp id (fun h => by omega))
  have hK05 : Keep (fun k => col4 k = 6 + n) u0 w5 := (Keep.of_below hS1).trans hK5
  have hz5 := hK05.size
  refine hK.out _ _ ?_
  clear hK K
  refine norm_ (a' := ?_) ?_ ?_
  rotate_left
  · show Act.put _ (some 38) _ = _
    simp only [Act.put, List.setIfInBounds_toArray, List.set_cons_zero, List.set_cons_succ]
    rfl
  refine pure_ (i := 11) (N := some 7) (v := ?_) (a' := ?_) #[true, true, true, true, true, true, true, true, true, true, true, true] rfl rfl (by kernel_rfl) (fun _ _ _ h => h) (Or.inl ⟨by rfl, ?_⟩) ?_ ?_
  rotate_left
  · intro w'
    go_simp
    with_reducible rfl
  rotate_left
  · simp only [Act.put, List.setIfInBounds_toArray, List.set_cons_zero, List.set_cons_succ]
    rfl
  refine done_ (by kernel_rfl) ?_
  have hcc := (keep_cell hK05 hgCx (by omega) (oC + n)).1.trans kc
  have hcf := (keep_cell hK05 hgCx (by omega) (oC + n)).2.trans hfc
  have hc3 := (keep_cell hK05 hbx (by omega) 3).1.trans k3
  have hg5l : gC < w5.heap.size := by omega
  have hb5l : b < w5.heap.size := by omega
  have hne : (((y.length + 1 : Nat) : Int) == 64) = false := by simp; omega
  obtain ⟨col9, hQ9, hN9⟩ := HU0.out.cache (by omega) rfl hpn hK05 hrow5
  have HQ9 := Aside0.mk hQ9
  have HN9 := Aside0.mk ((HN4.out.trans (Nx.of_below hx0)).trans hN9)
  clear hQ9 hN9
  go_wp2
  go_ret
  unfold FlushP
  rw [HT.out]
  exact ⟨col9, rfl, ⟨_, _, _, _, _, HQ9.out⟩, HN9.out⟩
end Go.Proofs.Ytnglgjegkjfnaaa
