import Derived.Test.YtnglgjegkjfnaaaSlL
set_option linter.unusedSimpArgs false
set_option linter.unusedVariables false
namespace Go.Proofs.Ytnglgjegkjfnaaa
open Go.RowKit Go.Proofs.YtnglgjegkjfnaaaW.PrintWords Go.Proofs.YtnglgjegkjfnaaaW.PrintMore Go.Proofs.YtnglgjegkjfnaaaW.PrintLast
/-! slot, whichever way; Take. -/
theorem slot_any {b p : Nat} {s : Sl} {base : Nat} {col : Nat → Nat} (w : World) (hb : base ≤ w.heap.size) (h : IsSlab TS w base b col s) (hO : Ok s) (hp : p < s.caches.length) : Calls Try.prog 38 #[.pointer (some ⟨b, 0, none⟩), .int .i64 p] w (SlotP base b col w (slotS s p)) := by
  obtain ⟨y, hy⟩ : ∃ y, s.caches[p]? = some y := ⟨_, List.getElem?_eq_getElem hp⟩
  rcases List.eq_nil_or_concat y with rfl | ⟨z, x, rfl⟩
  · rcases List.eq_nil_or_concat (s.free.take 16) with hf | ⟨z, x, hf⟩
    · have hfr : s.free = [] := by
        have := congrArg List.length hf
        rw [List.length_take, List.length_nil] at this
        exact List.eq_nil_of_length_eq_zero (by omega)
      by_cases hg : (s.gens.length : Int) < s.limit
      · exact slot_grow w hb h hO hp hy hfr hg
      · exact slot_rob w hb h hO hp hy hfr hg
    · rw [List.concat_eq_append] at hf
      by_cases hm : 16 ≤ s.free.length
      · exact slot_fill_ge w hb h hO hp hy hm z x hf
      · refine slot_fill_lt w hb h hO hp hy ⟨by omega, ?_⟩ z x hf
        have := congrArg List.length hf
        rw [List.length_take, List.length_append, List.length_singleton] at this
        omega
  · rw [List.concat_eq_append] at hy
    exact slot_pop w hb h hO hp z x hy
theorem mem_getD {l : List (List Int)} {i : Nat} {x : Int} (h : x ∈ l.getD i []) : ∃ c ∈ l, x ∈ c := by
  rw [List.getD_eq_getElem?_getD] at h
  cases hi : l[i]? with
  | none => rw [hi] at h; simp at h
  | some c => rw [hi] at h; exact ⟨c, List.mem_of_getElem? hi, h⟩
/-- What a slot that is given is. -/
structure Slot (s : Sl) (r : Sl × Option Int) : Prop where
  limit : r.1.limit = s.limit
  cl : r.1.caches.length = s.caches.length
  a : r.1.alive.length = r.1.gens.length
  gb : ∀ g ∈ r.1.gens, 0 ≤ g ∧ g ≤ 2147483647
  x : ∀ x, r.2 = some x → 0 ≤ x ∧ x < r.1.gens.length
theorem fill_slot {s : Sl} {p : Nat} (hO : Ok s) (hp : p < s.caches.length) : Slot s (fillS s p, none) ∧ (fillS s p).gens = s.gens ∧ ∀ c ∈ (fillS s p).caches, ∀ x ∈ c, 0 ≤ x ∧ x < s.gens.length := by
  unfold fillS
  split
  · refine ⟨⟨rfl, by simp [refillS], hO.a, hO.gb, fun x h => by cases h⟩, rfl, fun c hc x hx => ?_⟩
    rcases List.mem_or_eq_of_mem_set hc with hc | rfl
    · exact hO.cb c hc x hx
    · exact hO.fb x (List.mem_of_mem_take hx)
  · exact ⟨⟨rfl, rfl, hO.a, hO.gb, fun x h => by cases h⟩, rfl, hO.cb⟩
theorem slot_slot {s : Sl} {p : Nat} (hO : Ok s) (hp : p < s.caches.length) : Slot s (slotS s p) := by
  obtain ⟨h, hg, hc⟩ := fill_slot hO hp
  unfold slotS slotT
  split
  · rename_i x hx
    refine ⟨h.limit, by simp [popS, h.cl], h.a, h.gb, fun y hy => ?_⟩
    injection hy with hy
    subst hy
    have hm := List.mem_of_getLast? hx
    obtain ⟨c, hc1, hc2⟩ := mem_getD hm
    show 0 ≤ x ∧ x < (fillS s p).gens.length
    rw [hg]
    exact hc c hc1 x hc2
  · split
    · refine ⟨h.limit, h.cl, by simp only [growS, List.length_append, List.length_singleton]; have := h.a; simp only at this; omega, fun g hgm => ?_, fun y hy => ?_⟩
      · rcases List.mem_append.1 hgm with hgm | hgm
        · exact h.gb g hgm
        · rw [List.mem_singleton.1 hgm]; omega
      · injection hy with hy
        subst hy
        simp only [growS, List.length_append, List.length_singleton]
        omega
    · split
      · rename_i q hq
        refine ⟨h.limit, by simp [robS, h.cl], h.a, h.gb, fun y hy => ?_⟩
        injection hy with hy
        subst hy
        show 0 ≤ _ ∧ _ < ((fillS s p).gens.length : Int)
        rw [hg]
        have hne : (fillS s p).caches.getD q [] ≠ [] := by
          have key : ∀ fuel i, stealFrom (fillS s p) p fuel i = some q → (fillS s p).caches.getD q [] ≠ [] := by
            intro fuel
            induction fuel with
            | zero => intro i h; cases h
            | succ n ih =>
              intro i h
              rw [stealFrom] at h
              split at h
              · exact ih _ h
              · rename_i hn
                injection h with h
                rw [← h]; exact hn
          exact key _ _ hq
        obtain ⟨x, t, hxt⟩ := List.exists_cons_of_ne_nil hne
        rw [hxt]
        obtain ⟨c, hc1, hc2⟩ := mem_getD (show x ∈ (fillS s p).caches.getD q [] by rw [hxt]; exact List.mem_cons_self)
        exact hc c hc1 x hc2
      · exact ⟨h.limit, h.cl, h.a, h.gb, fun y hy => by cases hy⟩
theorem takeS_none {s : Sl} {n : Nat} (hpr : procS s n = true) (hr : (slotS s n).2 = none) : takeS s n = ((slotS s n).1, 0, 0, 2) := by
  unfold takeS
  rw [if_pos hpr, Int.toNat_natCast]
  generalize slotS s n = r at *
  obtain ⟨s1, o⟩ := r
  simp only at hr
  subst hr
  rfl
theorem takeS_some {s : Sl} {n : Nat} {x : Int} (hpr : procS s n = true) (hr : (slotS s n).2 = some x) : takeS s n = (givenS (slotS s n).1 x.toNat, x, (slotS s n).1.gens.getD x.toNat 0 + 1, 0) := by
  unfold takeS
  rw [if_pos hpr, Int.toNat_natCast]
  generalize slotS s n = r at *
  obtain ⟨s1, o⟩ := r
  simp only at hr
  subst hr
  rfl
/-- A slot is given: its generation and its mark are written. -/
theorem SlB.given {T : TypeId} {w : World} {base b : Nat} {col : Nat → Nat} {s : Sl} {vC vF : Value} {vs : List Value} {gg og ng cg ga oa na ca i : Nat} {g : Int} (h : SlB T w base b col s (.slice (some ⟨gg, og, none⟩) ng cg) (.slice (some ⟨ga, oa, none⟩) na ca) vC vF vs) (hb : base ≤ w.heap.size) (hi : i < s.gens.length) (ha : i < s.alive.length) :
    ∃ col', SlB T ((w.setCell ⟨gg, og + i, none⟩ (.int .i64 g)).setCell ⟨ga, oa + i, none⟩ (.bool true)) base b col' { s with gens := s.gens.set i g, alive := s.alive.set i true } (.slice (some ⟨gg, og, none⟩) ng cg) (.slice (some ⟨ga, oa, none⟩) na ca) vC vF vs ∧ Nx w col ((w.setCell ⟨gg, og + i, none⟩ (.int .i64 g)).setCell ⟨ga, oa + i, none⟩ (.bool true)) col' := by
  have hg2 : col gg = 2 := h.r.g.own gg (by simp [Value.ownBlock])
  have ha3 : col ga = 3 := h.r.a.own ga (by simp [Value.ownBlock])
  have k1 : Keep (fun k => k = gg) w (w.setCell ⟨gg, og + i, none⟩ (.int .i64 g)) := (by repeat (first | (with_reducible exact Keep.refl _ _) | (with_reducible refine Keep.drewN ?_ _) | (with_reducible refine Keep.drew ?_) | (with_reducible refine Keep.setCell ?_ _ _ (by first | (right; with_reducible rfl) | (left; simp; done) | (left; simp; omega) | (right; simp; done) | (right; assumption))) | (with_reducible refine Keep.alloc ?_ _)))
  have k2 : Keep (fun k => k = ga) (w.setCell ⟨gg, og + i, none⟩ (.int .i64 g)) ((w.setCell ⟨gg, og + i, none⟩ (.int .i64 g)).setCell ⟨ga, oa + i, none⟩ (.bool true)) := (by repeat (first | (with_reducible exact Keep.refl _ _) | (with_reducible refine Keep.drewN ?_ _) | (with_reducible refine Keep.drew ?_) | (with_reducible refine Keep.setCell ?_ _ _ (by first | (right; with_reducible rfl) | (left; simp; done) | (left; simp; omega) | (right; simp; done) | (right; assumption))) | (with_reducible refine Keep.alloc ?_ _)))
  have k12 : Keep (fun k => col k = 1 ∨ col k = 2 ∨ col k = 3 ∨ col k = 5) w ((w.setCell ⟨gg, og + i, none⟩ (.int .i64 g)).setCell ⟨ga, oa + i, none⟩ (.bool true)) :=
    (k1.mono (fun _ _ h => by subst h; exact .inr (.inl hg2))).trans (k2.mono (fun _ _ h => by subst h; exact .inr (.inr (.inl ha3))))
  have hb1 := h.one
  refine h.fields hb (new := fun _ => 0) k12 (blk_keep (blk_keep h.blk k1 (fun e => by subst e; omega)) k2 (fun e => by subst e; omega)) ?_ ?_ ?_
  · have h1 := (h.r.g.set (i := i) (u := .int .i64 g) (by rw [ints_len]; exact hi) rfl).keep k2 (fun j e h => by subst e; omega)
    rw [← ints_set] at h1
    exact h1.mono fun _ _ h => .inl h
  · have h1 := (h.r.a.keep k1 (fun j e h => by subst e; omega)).set (i := i) (u := .bool true) (by rw [bools_len]; exact ha) rfl
    rw [← bools_set] at h1
    exact h1.mono fun _ _ h => .inl h
  · exact ((h.r.f.keep k1 (fun j e h => by subst e; omega)).keep k2 (fun j e h => by subst e; omega)).mono fun _ _ h => .inl h
def TakeP (base b : Nat) (col : Nat → Nat) (s : Sl) (p : Int) (w : World) (e : Ending) (w' : World) : Prop := ∃ col', e = .returned (.tuple #[.agg #[.int .i64 (takeS s p).2.1, .int .i64 (takeS s p).2.2.1], .int .i64 (takeS s p).2.2.2]) ∧ IsSlab TS w' base b col' (takeS s p).1 ∧ Nx w col w' col'
set_option maxHeartbeats 4000000 in
theorem take_slab {b : Nat} {s : Sl} {base : Nat} {col : Nat → Nat} (p : Int) (w : World) (hb : base ≤ w.heap.size) (h : IsSlab TS w base b col s) (hO : Ok s) : Calls Try.prog 23 #[.pointer (some ⟨b, 0, none⟩), .int .i64 p] w (TakeP base b col s p w) := by
  have hB : Below w.heap.size w (w.alloc (.cells #[.int .i64 0, .int .i64 0] 48)) := below_al (Below.refl _ _) _
  have hR : (w.alloc (.cells #[.int .i64 0, .int .i64 0] 48)).heap[w.heap.size]? = some (.cells #[.int .i64 0, .int .i64 0] 48 (0, 0)) := blk_new _ _
  have H := Aside0.mk (h.below hB)
  have hz := h.z
  cases hpr : procS s p with
  | false =>
    have HT : Aside0 (takeS s p = (s, 0, 0, 1)) := ⟨by rw [takeS, hpr]; rfl⟩
    go_enter Try.func23, Try.ntmps23
    go_wp2_with fail
    refine (proc_slab p _ H.out hO.l0).mono ?_
    rw [hpr]
    rintro e w1 ⟨rfl, rfl⟩
    go_wp2
    refine bodyPost_ret (v := .tuple #[.agg #[.int .i64 0, .int .i64 0], .int .i64 1]) (by simp [results, Try.results23, go_sem]) rfl ?_
    unfold TakeP
    rw [HT.out]
    have hk : Below w.heap.size w _ := (by repeat (first | (with_reducible exact hB) | (with_reducible refine Below.drew ?_) | (with_reducible refine below_drewN ?_ _) | (with_reducible refine below_al ?_ _) | (with_reducible refine Below.alloc ?_ (by first | exact Nat.le_refl _ | omega | (simp; done) | (simp; omega)) _) | (with_reducible refine Below.setCell ?_ (by first | (simp only []; omega) | (simp; done) | (simp; omega)) _)))
    exact ⟨col, rfl, h.below hk, Nx.of_below hk⟩
  | true =>
    obtain ⟨h0, hp⟩ := procS_iff.1 hpr
    obtain ⟨n, rfl⟩ := Int.eq_ofNat_of_zero_le h0
    have hpn : n < s.caches.length := by omega
    have hSl := slot_slot hO hpn
    have HSA := Aside0.mk (slot_any (p := n) _ (by have := hB.size; omega) (h.below hB) hO hpn)
    have HSL := Aside0.mk hSl
    cases hr : (slotS s n).2 with
    | none =>
      have HT : Aside0 (takeS s n = ((slotS s n).1, 0, 0, 2)) := ⟨takeS_none hpr hr⟩
      have HR := Aside0.mk hr
      clear hr
      go_enter Try.func23, Try.ntmps23
      go_wp2_with fail
      refine (proc_slab n _ H.out hO.l0).mono ?_
      rw [hpr]
      rintro e w1 ⟨rfl, rfl⟩
      go_wp2_with fail
      refine HSA.out.mono ?_
      rintro e w2 ⟨col2, rfl, hI2, hN2⟩
      rw [HR.out]
      have hR2 := blk_keep hR hN2.keep (by have := hz _ (Nat.le_refl _); omega)
      obtain ⟨r0, r1⟩ : w2.cell? ⟨w.heap.size, 0, none⟩ = some (.int .i64 0) ∧ w2.cell? ⟨w.heap.size, 1, none⟩ = some (.int .i64 0) := ⟨cell_blk hR2 0, cell_blk hR2 1⟩
      obtain ⟨f0, f1⟩ : w2.frozen? ⟨w.heap.size, 0, none⟩ = false ∧ w2.frozen? ⟨w.heap.size, 1, none⟩ = false := ⟨frozen_blk hR2 0, frozen_blk hR2 1⟩
      have hRl := lt_blk hR2
      have HI2 := Aside0.mk hI2
      have HN2 := Aside0.mk ((Nx.of_below (c := col) hB).trans hN2)
      have hcr : col2 w.heap.size = 0 := (hN2.cols _ (lt_blk hR)).trans (hz _ (Nat.le_refl _))
      clear hI2 hN2
      go_wp2
      refine bodyPost_ret (v := .tuple #[.agg #[.int .i64 0, .int .i64 0], .int .i64 2]) (by simp [results, Try.results23, go_sem, r0, r1, hRl]) rfl ?_
      unfold TakeP
      rw [HT.out]
      have hk : Keep (fun i => i = w.heap.size) w2 ((w2.setCell ⟨w.heap.size, 0, none⟩ (.int .i64 0)).setCell ⟨w.heap.size, 1, none⟩ (.int .i64 0)) := (by repeat (first | (with_reducible exact Keep.refl _ _) | (with_reducible refine Keep.drewN ?_ _) | (with_reducible refine Keep.drew ?_) | (with_reducible refine Keep.setCell ?_ _ _ (by first | (right; with_reducible rfl) | (left; simp; done) | (left; simp; omega) | (right; simp; done) | (right; assumption))) | (with_reducible refine Keep.alloc ?_ _)))
      exact ⟨col2, rfl, HI2.out.keep hk (fun i hi => by rw [hi]; exact hcr), ⟨HN2.out.keep.trans' hk (fun i hi f => by omega), fun i hi => HN2.out.cols i hi⟩⟩
    | some x =>
      have HT : Aside0 (takeS s n = (givenS (slotS s n).1 x.toNat, x, (slotS s n).1.gens.getD x.toNat 0 + 1, 0)) := ⟨takeS_some hpr hr⟩
      have HR := Aside0.mk hr
      obtain ⟨hx0, hxl⟩ := hSl.x x hr
      obtain ⟨i, rfl⟩ := Int.eq_ofNat_of_zero_le hx0
      have hal := hSl.a
      have hil : i < (slotS s n).1.gens.length := by omega
      have hgb := hSl.gb _ (List.getElem_mem hil)
      have hgd : (slotS s n).1.gens.getD i 0 = (slotS s n).1.gens[i] := by rw [List.getD_eq_getElem?_getD, List.getElem?_eq_getElem hil]; rfl
      have HGD := Aside0.mk hgd
      clear hr hgd hSl
      go_enter Try.func23, Try.ntmps23
      go_wp2_with fail
      refine (proc_slab n _ H.out hO.l0).mono ?_
      rw [hpr]
      rintro e w1 ⟨rfl, rfl⟩
      go_wp2_with fail
      refine HSA.out.mono ?_
      rintro e w2 ⟨col2, rfl, hI2, hN2⟩
      rw [HR.out]
      have hR2 := blk_keep hR hN2.keep (by have := hz _ (Nat.le_refl _); omega)
      have hRl := lt_blk hR2
      have hcr : col2 w.heap.size = 0 := (hN2.cols _ (lt_blk hR)).trans (hz _ (Nat.le_refl _))
      have HN2 := Aside0.mk ((Nx.of_below (c := col) hB).trans hN2)
      have hs2 := HN2.out.keep.size
      obtain ⟨vG, vA, vC, vF, vs, h2⟩ := hI2
      obtain ⟨gg, og, cg, he, hgg, hg2, hatg⟩ := h2.r.g.form (by rw [ints_len]; omega)
      subst he
      obtain ⟨ga, oa, ca, he, hga, ha3, hata⟩ := h2.r.a.form (by rw [bools_len]; omega)
      subst he
      have hyg := (hatg i).1 _ (ints_get (List.getElem?_eq_getElem hil))
      have hfg := (hatg i).2
      have hya := (hata i).1 _ (bools_get (List.getElem?_eq_getElem (show i < (slotS s n).1.alive.length by omega)))
      have hfa := (hata i).2
      obtain ⟨-, k1, k2, -, -⟩ := h2.cells
      rw [ints_len] at k1
      rw [bools_len, hal] at k2
      have hlt2 := lt_blk h2.blk
      have hone := h2.one
      have HS2 := Aside0.mk h2
      have hwr : wrap64 ((slotS s n).1.gens[i] + 1) = (slotS s n).1.gens[i] + 1 := by unfold wrap64; omega
      have hgga : gg ≠ ga := fun e => by rw [e] at hg2; omega
      have hgb1 : b ≠ gg := fun e => by rw [e] at hone; omega
      have hgb2 : b ≠ ga := fun e => by rw [e] at hone; omega
      have hrg : w.heap.size ≠ gg := fun e => by rw [e] at hcr; omega
      have hra : w.heap.size ≠ ga := fun e => by rw [e] at hcr; omega
      have hR2a := Aside0.mk hR2
      have r0 := cell_blk hR2 0
      have r1 := cell_blk hR2 1
      have f0 := frozen_blk hR2 0
      have f1 := frozen_blk hR2 1
      simp at r0 r1
      have hII := Aside0.mk (And.intro hil hal)
      generalize (slotS s n).1.gens[i] = y at *
      clear hatg hata h2 hN2 hR2
      go_wp2
      refine bodyPost_ret (v := .tuple #[.agg #[.int .i64 i, .int .i64 (y + 1)], .int .i64 0]) (by simp [results, Try.results23, go_sem, r0, r1, hRl, hrg, hra]) rfl ?_
      unfold TakeP
      rw [HT.out, Int.toNat_natCast, HGD.out]
      obtain ⟨col3, hQ3, hN3⟩ := HS2.out.given (g := y + 1) (by omega) hII.out.1 (by rw [hII.out.2]; exact hII.out.1)
      have hk : Keep (fun j => j = w.heap.size) ((w2.setCell ⟨gg, og + i, none⟩ (.int .i64 (y + 1))).setCell ⟨ga, oa + i, none⟩ (.bool true)) ((((w2.setCell ⟨gg, og + i, none⟩ (.int .i64 (y + 1))).setCell ⟨ga, oa + i, none⟩ (.bool true)).setCell ⟨w.heap.size, 0, none⟩ (.int .i64 i)).setCell ⟨w.heap.size, 1, none⟩ (.int .i64 (y + 1))) := (by repeat (first | (with_reducible exact Keep.refl _ _) | (with_reducible refine Keep.drewN ?_ _) | (with_reducible refine Keep.drew ?_) | (with_reducible refine Keep.setCell ?_ _ _ (by first | (right; with_reducible rfl) | (left; simp; done) | (left; simp; omega) | (right; simp; done) | (right; assumption))) | (with_reducible refine Keep.alloc ?_ _)))
      have hc3 : col3 w.heap.size = 0 := (hN3.cols _ hRl).trans hcr
      have hQ : givenS (slotS s n).1 i = { (slotS s n).1 with gens := (slotS s n).1.gens.set i (y + 1), alive := (slotS s n).1.alive.set i true } := by rw [givenS, HGD.out]
      rw [hQ]
      have hN := HN2.out.trans hN3
      exact ⟨col3, rfl, ⟨_, _, _, _, _, hQ3.keep hk (fun j hj => by rw [hj]; exact hc3)⟩, ⟨hN.keep.trans' hk (fun j hj f => by omega), fun j hj => hN.cols j hj⟩⟩
end Go.Proofs.Ytnglgjegkjfnaaa
set_option linter.unusedSimpArgs false
set_option linter.unusedVariables false
namespace Go.Proofs.Ytnglgjegkjfnaaa
open Go.RowKit Go.Proofs.YtnglgjegkjfnaaaW.PrintWords Go.Proofs.YtnglgjegkjfnaaaW.PrintMore Go.Proofs.YtnglgjegkjfnaaaW.PrintLast
/-! The list and a cache written, in one step of the colours. -/
theorem SlB.both {T : TypeId} {w w1 : World} {base b : Nat} {col : Nat → Nat} {s : Sl} {vG vA vC vF vF' v1 : Value} {vs : List Value} (h : SlB T w base b col s vG vA vC vF vs) (hb : base ≤ w.heap.size) {p g o n cc : Nat} {ys free' : List Int} {new : Nat → Nat} (hC : vC = .slice (some ⟨g, o, none⟩) n cc) (hp : p < s.caches.length)
    (hk : Keep (fun k => col k = 1 ∨ col k = 5 ∨ col k = 6 + p) w w1) (hblk : w1.heap[b]? = some (.cells #[.int .i64 s.limit, vG, vA, vC, vF'] T (0, 0))) (hF : Row w1 base (fun k => col k = 5 ∨ w.heap.size ≤ k ∧ new k = 5) 3 vF' (ints free')) (hr : Row w1 base (fun k => col k = 6 + p ∨ w.heap.size ≤ k ∧ new k = 6 + p) 3 v1 (ints ys)) :
    ∃ col', SlB T (w1.setCell ⟨g, o + p, none⟩ v1) base b col' { s with caches := s.caches.set p ys, free := free' } vG vA vC vF' (vs.set p v1) ∧ Nx w col (w1.setCell ⟨g, o + p, none⟩ v1) col' := by
  let col' : Nat → Nat := fun k => if w.heap.size ≤ k ∧ k < w1.heap.size then new k else col k
  have hcols : ∀ k, k < w.heap.size → col' k = col k := fun k hk => if_neg (by omega)
  have hnew : ∀ {e v vals c}, c ≠ 0 → Row w1 base (fun k => col k = c ∨ w.heap.size ≤ k ∧ new k = c) e v vals → Row w1 base (fun k => col' k = c) e v vals := fun {e v vals c} h0 hr => hr.mono fun k hl ho => by
    rcases Nat.lt_or_ge k w.heap.size with hk | hk
    · rw [hcols k hk]
      rcases ho with ho | ho
      · exact ho
      · omega
    · show (if w.heap.size ≤ k ∧ k < w1.heap.size then new k else col k) = c
      rw [if_pos ⟨hk, hl⟩]
      rcases ho with ho | ho
      · rw [h.r.z k hk] at ho; omega
      · exact ho.2
  have hlv : p < vs.length := by rw [h.r.l]; exact hp
  have hg4 : col g = 4 := h.r.c.own g (by rw [hC]; simp [Value.ownBlock])
  have hgl : g < w.heap.size := h.r.c.lt g (by rw [hC]; simp [Value.ownBlock])
  have h1 := h.one
  have hbl := lt_blk h.blk
  have hS : Keep (fun k => k = g) w1 (w1.setCell ⟨g, o + p, none⟩ v1) := (Keep.refl _ _).setCell _ _ (.inr rfl)
  have hK : Keep (fun k => (col k = 1 ∨ col k = 5 ∨ col k = 6 + p) ∨ k = g) w (w1.setCell ⟨g, o + p, none⟩ v1) := (hk.mono (fun _ _ h => Or.inl h)).setCell _ _ (.inr (.inr rfl))
  have hv1 : v1.oneCell' = true := by obtain ⟨A, c', he, _⟩ := hr.slice; rw [he]; rfl
  have hcg : col' g = 4 := by rw [hcols g hgl]; exact hg4
  have hsz : (w1.setCell ⟨g, o + p, none⟩ v1).heap.size = w1.heap.size := by simp [World.setCell]
  have hs := hk.size
  refine ⟨col', ⟨⟨?_, ?_, ?_, ?_, ?_, ?_, ?_, ?_⟩, ?_, ?_⟩, ⟨hK.mono ?_, hcols⟩⟩
  · exact row_old h.r.g hK (fun k f => by rcases f with f | rfl <;> omega) hcols
  · exact row_old h.r.a hK (fun k f => by rcases f with f | rfl <;> omega) hcols
  · have h4 := row_old h.r.c hk (fun k f => by omega) hcols
    rw [hC] at h4 ⊢
    exact h4.set hlv hv1
  · exact (hnew (by omega) hF).keep hS (fun k f ho => by subst f; omega)
  · rw [List.length_set, List.length_set]; exact h.r.l
  · intro i x hx
    by_cases hip : i = p
    · subst hip
      rw [List.getElem?_set_self hp] at hx
      injection hx with hx
      subst hx
      exact ⟨v1, List.getElem?_set_self hlv, (hnew (by omega) hr).keep hS (fun k f ho => by subst f; omega)⟩
    · rw [List.getElem?_set_ne (Ne.symm hip)] at hx
      obtain ⟨v, hv, hro⟩ := h.r.v i x hx
      exact ⟨v, by rw [List.getElem?_set_ne (Ne.symm hip)]; exact hv, row_old hro hK (fun k f => by rcases f with f | rfl <;> omega) hcols⟩
  · intro k hk'
    show (if w.heap.size ≤ k ∧ k < w1.heap.size then new k else col k) = 0
    rw [if_neg (by omega)]
    exact h.r.z k (by omega)
  · intro k hk'
    by_cases hn : w.heap.size ≤ k ∧ k < w1.heap.size
    · omega
    · have : col' k = col k := if_neg hn
      rw [this] at hk'
      exact h.r.b k hk'
  · exact blk_keep hblk hS (fun f => by rw [f] at h1; omega)
  · rw [hcols b hbl]; exact h1
  · intro i _ f
    rcases f with f | rfl
    · omega
    · omega
def FlushP (base b : Nat) (col : Nat → Nat) (r : Sl × Int) (w : World) (e : Ending) (w' : World) : Prop := ∃ col', e = .returned (.int .i64 r.2) ∧ IsSlab TS w' base b col' r.1 ∧ Nx w col w' col'
theorem flush_out {b : Nat} {s : Sl} {base : Nat} {col : Nat → Nat} (p : Int) (w : World) (h : IsSlab TS w base b col s) (hO : Ok s) (hpr : procS s p = false) : Calls Try.prog 25 #[.pointer (some ⟨b, 0, none⟩), .int .i64 p] w (FlushP base b col (flushS s p) w) := by
  have HT : Aside0 (flushS s p = (s, 1)) := ⟨by rw [flushS, hpr]; rfl⟩
  have H := Aside0.mk h
  go_enter Try.func25, Try.ntmps25
  go_wp2_with fail
  refine (proc_slab p _ H.out hO.l0).mono ?_
  rw [hpr]
  rintro e w1 ⟨rfl, rfl⟩
  go_wp2
  go_ret
  unfold FlushP
  rw [HT.out]
  exact ⟨col, rfl, H.out, Nx.refl _ _⟩
end Go.Proofs.Ytnglgjegkjfnaaa
