import Derived.Test.YtnglgjegkjfnaaaSlY
import Derived.Deep.DrawnRows
set_option linter.unusedSimpArgs false
set_option linter.unusedVariables false
namespace Go.Proofs.Ytnglgjegkjfnaaa
open Go.RowKit Go.ChangeShapes Go.WideShapes Go.ChangeAt Go.Proofs.YtnglgjegkjfnaaaW.PrintWords Go.Proofs.YtnglgjegkjfnaaaW.PrintMore Go.Proofs.YtnglgjegkjfnaaaW.PrintLast
/-! The statement's own book: what holds behind k calls. -/
structure NmI (k : Nat) (L P : Int) (s : Sl) (had book : List (Int × Int)) : Prop where
  wf : Wf s
  lim : s.limit = L
  cl : (s.caches.length : Int) = P
  hh : ∀ q ∈ had, 0 ≤ q.1 ∧ q.2 ≤ genAt s q.1.toNat
  bd : book.Nodup
  bk : ∀ q : Int × Int, q ∈ book ↔ aliveS s q.1 q.2 = true
  bl : book.length = liveS s
  gn : ∀ i, genAt s i ≤ k
  hl : had.length ≤ k
theorem NmI.start {L P : Int} (h : okNew L P = true) : NmI 0 L P (newS L P) [] [] := by
  refine ⟨new_wf h, rfl, ?_, fun q hq => (by cases hq), List.nodup_nil, fun q => ?_, rfl, fun i => ?_, Nat.le_refl _⟩
  · have := okNew_iff.1 h
    simp [newS]; omega
  · rw [aliveS_iff rfl]
    constructor
    · intro hq; cases hq
    · rintro ⟨_, h2, _⟩; simp [aliveAt, newS] at h2
  · simp [genAt, newS]
theorem NmI.mono {k m : Nat} {L P : Int} {s : Sl} {had book : List (Int × Int)} (h : NmI k L P s had book) (hk : k ≤ m) : NmI m L P s had book :=
  ⟨h.wf, h.lim, h.cl, h.hh, h.bd, h.bk, h.bl, fun i => by have := h.gn i; omega, by have := h.hl; omega⟩
theorem NmI.bn {k : Nat} {L P : Int} {s : Sl} {had book : List (Int × Int)} (h : NmI k L P s had book) : book.length ≤ 4096 := by
  rw [h.bl]
  have h1 : liveS s ≤ s.alive.length := List.countP_le_length
  have h2 := h.wf.a
  have h3 := h.wf.g
  have h4 := h.wf.l1
  omega
theorem NmI.fresh {k : Nat} {L P : Int} {s s' : Sl} {had book : List (Int × Int)} {x g : Int} (h : NmI k L P s had book) (ht : TakeR s s' x g) : (x, g) ∉ had ∧ (x, g) ∉ book := by
  refine ⟨fun hm => ?_, fun hm => ?_⟩
  · have h1 := (h.hh _ hm).2
    have h2 := ht.ge
    simp only at h1
    omega
  · have h1 := (aliveS_iff h.wf.a).1 ((h.bk _).1 hm)
    have h2 := ht.ge
    have h3 := h1.2.2
    simp only at h3
    omega
theorem NmI.take {k : Nat} {L P : Int} {s s' : Sl} {had book : List (Int × Int)} {x g : Int} (h : NmI k L P s had book) (ht : TakeR s s' x g) : NmI (k + 1) L P s' (had ++ [(x, g)]) (book ++ [(x, g)]) := by
  obtain ⟨f1, f2⟩ := h.fresh ht
  refine ⟨ht.wf, ht.lim.trans h.lim, by rw [ht.cl]; exact h.cl, fun q hq => ?_, ?_, fun q => ?_, ?_, fun i => ?_, by rw [List.length_append, List.length_singleton]; have := h.hl; omega⟩
  · rw [ht.gen]
    rcases List.mem_append.1 hq with hq | hq
    · obtain ⟨h1, h2⟩ := h.hh q hq
      refine ⟨h1, ?_⟩
      split
      · rename_i e; rw [e] at h2; have := ht.ge; omega
      · exact h2
    · rw [List.mem_singleton.1 hq]
      exact ⟨ht.x0, by rw [if_pos rfl]; exact Int.le_refl _⟩
  · exact List.nodup_append.2 ⟨h.bd, by simp, fun a ha b hb => by rw [List.mem_singleton.1 hb]; rintro rfl; exact f2 ha⟩
  · rw [ht.al, List.mem_append, List.mem_singleton]
    constructor
    · rintro (hq | rfl)
      · by_cases e : q.1 = x
        · have h1 := (h.bk q).1 hq
          have h2 := ((ht.al q.1 q.2)).2
          -- x was not alive
          exfalso
          have h3 := (aliveS_iff h.wf.a).1 h1
          have h4 : aliveS s' x (genAt s x.toNat) = true ↔ _ := ht.al x (genAt s x.toNat)
          have h5 := ht.live
          have hlive : aliveAt s x.toNat = false := by
            cases ha : aliveAt s x.toNat with
            | false => rfl
            | true =>
              exfalso
              have key := ht.al
              have : s'.alive.countP id = s.alive.countP id + 1 := h5
              -- alive in s, so every mark of s' is one of s
              have hsub : ∀ j, aliveAt s' j = true → aliveAt s j = true := fun j hj => by
                by_cases ej : (j : Int) = x
                · rw [← ej, Int.toNat_natCast] at ha; exact ha
                · have h6 := (key j (genAt s' j)).1 ((aliveS_iff ht.wf.a).2 ⟨by omega, by rw [Int.toNat_natCast]; exact hj, by rw [Int.toNat_natCast]⟩)
                  rcases h6 with ⟨h6, _⟩ | ⟨_, h6⟩
                  · exact absurd h6 ej
                  · have h7 := ((aliveS_iff h.wf.a).1 h6).2.1
                    rw [Int.toNat_natCast] at h7
                    exact h7
              have hle : ∀ (a b : List Bool), (∀ j, a.getD j false = true → b.getD j false = true) → a.countP id ≤ b.countP id := by
                intro a
                induction a with
                | nil => intro b _; simp
                | cons v a ih =>
                  intro b hb
                  cases b with
                  | nil =>
                    have : ∀ u ∈ v :: a, u = false := fun u hu => by
                      obtain ⟨j, hj, rfl⟩ := List.getElem_of_mem hu
                      cases hv : (v :: a)[j] with
                      | false => rfl
                      | true =>
                        have h8 := hb j (by rw [List.getD_eq_getElem?_getD, List.getElem?_eq_getElem hj, hv]; rfl)
                        simp at h8
                    have h9 : (v :: a).countP id = 0 := List.countP_eq_zero.2 fun u hu => by rw [this u hu]; decide
                    rw [h9]; exact Nat.zero_le _
                  | cons u b =>
                    have h8 := ih b (fun j hj => hb (j + 1) hj)
                    have h9 := hb 0
                    simp only [List.getD_cons_zero] at h9
                    simp only [List.countP_cons]
                    cases v with
                    | false => simp; omega
                    | true => rw [h9 rfl]; simp; omega
              have := hle s'.alive s.alive hsub
              omega
          rw [e, hlive] at h3
          cases h3.2.1
        · exact .inr ⟨e, (h.bk q).1 hq⟩
      · exact .inl ⟨rfl, rfl⟩
    · rintro (⟨h1, h2⟩ | ⟨_, h2⟩)
      · exact .inr (Prod.ext h1 h2)
      · exact .inl ((h.bk q).2 h2)
  · rw [List.length_append, List.length_singleton, h.bl, ht.live]
  · rw [ht.gen]
    split
    · have := ht.ge; have := h.gn x.toNat; omega
    · have := h.gn i; omega
/-- The place of the last one that is g; -1: it stands nowhere. -/
def atTo (book : List (Int × Int)) (g : Int × Int) : Nat → Int
  | 0 => -1
  | k + 1 => if book.getD k (0, 0) = g then (k : Int) else atTo book g k
theorem atTo_spec (book : List (Int × Int)) (g : Int × Int) : ∀ k, (atTo book g k = -1 ∧ ∀ j, j < k → book.getD j (0, 0) ≠ g) ∨ ∃ j : Nat, atTo book g k = j ∧ j < k ∧ book.getD j (0, 0) = g
  | 0 => .inl ⟨rfl, fun j h => by omega⟩
  | k + 1 => by
    rw [atTo]
    by_cases h : book.getD k (0, 0) = g
    · rw [if_pos h]
      exact .inr ⟨k, rfl, by omega, h⟩
    · rw [if_neg h]
      rcases atTo_spec book g k with ⟨h1, h2⟩ | ⟨j, h1, h2, h3⟩
      · refine .inl ⟨h1, fun j hj => ?_⟩
        by_cases e : j = k
        · subst e; exact h
        · exact h2 j (by omega)
      · exact .inr ⟨j, h1, by omega, h3⟩
theorem atTo_mem {book : List (Int × Int)} {g : Int × Int} : (0 ≤ atTo book g book.length ↔ g ∈ book) := by
  rcases atTo_spec book g book.length with ⟨h1, h2⟩ | ⟨j, h1, h2, h3⟩
  · rw [h1]
    constructor
    · intro h; omega
    · intro hm
      obtain ⟨i, hi, rfl⟩ := List.getElem_of_mem hm
      exact absurd (by rw [List.getD_eq_getElem?_getD, List.getElem?_eq_getElem hi]; rfl) (h2 i hi)
  · rw [h1]
    constructor
    · intro _
      rw [List.getD_eq_getElem?_getD, List.getElem?_eq_getElem h2] at h3
      have h3 : book[j] = g := h3
      rw [← h3]; exact List.getElem_mem h2
    · intro _; omega
/-- The last one in the place of the one that goes. -/
def swapOut (book : List (Int × Int)) (j : Nat) : List (Int × Int) := (book.set j (book.getD (book.length - 1) (0, 0))).take (book.length - 1)
theorem swap_perm {book : List (Int × Int)} {j : Nat} {g : Int × Int} (hj : j < book.length) (hg : book.getD j (0, 0) = g) : book.Perm (g :: swapOut book j) := by
  obtain ⟨a, b, hab, ha⟩ : ∃ a b, book = a ++ g :: b ∧ a.length = j := by
    refine ⟨book.take j, book.drop (j + 1), ?_, by rw [List.length_take]; omega⟩
    rw [List.getD_eq_getElem?_getD, List.getElem?_eq_getElem hj] at hg
    have hg : book[j] = g := hg
    rw [← hg, ← List.drop_eq_getElem_cons hj, List.take_append_drop]
  subst hab
  subst ha
  unfold swapOut
  rcases List.eq_nil_or_concat b with rfl | ⟨b, v, rfl⟩
  · have h1 : (a ++ [g]).length - 1 = a.length := by simp
    rw [h1]
    have h2 : (a ++ [g]).getD a.length (0, 0) = g := by rw [List.getD_eq_getElem?_getD, List.getElem?_append_right (Nat.le_refl _), Nat.sub_self]; rfl
    rw [h2, List.set_append_right _ _ (Nat.le_refl _), Nat.sub_self, List.set_cons_zero, List.take_left]
    exact List.perm_append_comm
  · rw [List.concat_eq_append]
    have h1 : (a ++ g :: (b ++ [v])).length - 1 = (a ++ v :: b).length := by simp
    rw [h1]
    have h2 : (a ++ g :: (b ++ [v])).getD (a ++ v :: b).length (0, 0) = v := by
      rw [List.getD_eq_getElem?_getD, show a ++ g :: (b ++ [v]) = (a ++ g :: b) ++ [v] by simp, List.getElem?_append_right (by simp)]
      simp
    rw [h2, List.set_append_right _ _ (Nat.le_refl _), Nat.sub_self, List.set_cons_zero, show a ++ v :: (b ++ [v]) = (a ++ v :: b) ++ [v] by simp, List.take_left]
    rw [List.perm_iff_count]
    intro z
    simp only [List.count_append, List.count_cons, List.count_nil]
    omega
theorem NmI.give {k : Nat} {L P : Int} {s s' : Sl} {had book : List (Int × Int)} {x g : Int} {j : Nat} (h : NmI k L P s had book) (hg : GiveR s s' x g) (hj : j < book.length) (he : book.getD j (0, 0) = (x, g)) : NmI k L P s' had (swapOut book j) := by
  have hp := swap_perm hj he
  have hn := List.nodup_cons.1 (hp.nodup_iff.1 h.bd)
  have hgen : ∀ i, genAt s' i = genAt s i := fun i => by rw [genAt, genAt, hg.gen]
  refine ⟨hg.wf, hg.lim.trans h.lim, by rw [hg.cl]; exact h.cl, fun q hq => by rw [hgen]; exact h.hh q hq, hn.2, fun q => ?_, ?_, fun i => by rw [hgen]; exact h.gn i, h.hl⟩
  · rw [hg.al, ← h.bk, hp.mem_iff, List.mem_cons]
    constructor
    · intro hq
      refine ⟨.inr hq, fun e => ?_⟩
      -- a name of that slot that is alive is this one
      have h1 := (aliveS_iff h.wf.a).1 ((h.bk q).1 (hp.mem_iff.2 (List.mem_cons_of_mem _ hq)))
      have h2 := (aliveS_iff h.wf.a).1 ((h.bk (x, g)).1 (hp.mem_iff.2 List.mem_cons_self))
      have : q = (x, g) := Prod.ext e (by
        have h3 := h1.2.2
        have h4 := h2.2.2
        rw [e] at h3
        simp only at h4
        omega)
      exact hn.1 (this ▸ hq)
    · rintro ⟨rfl | hq, hne⟩
      · exact absurd rfl hne
      · exact hq
  · have h1 := hp.length_eq
    rw [List.length_cons, h.bl, ← hg.live] at h1
    omega
theorem NmI.flush {k : Nat} {L P : Int} {s : Sl} {had book : List (Int × Int)} (h : NmI k L P s had book) (p : Int) : NmI k L P (flushS s p).1 had book := by
  by_cases hp : procS s p = true
  · obtain ⟨h0, h1⟩ := procS_iff.1 hp
    obtain ⟨n, rfl⟩ := Int.eq_ofNat_of_zero_le h0
    obtain ⟨w, -, hg, ha, hl, hc, -⟩ := flush_wf h.wf (show n < s.caches.length by omega)
    refine ⟨w, hl.trans h.lim, by rw [hc, List.length_set]; exact h.cl, fun q hq => by rw [genAt, hg]; exact h.hh q hq, h.bd, fun q => ?_, ?_, fun i => by rw [genAt, hg]; exact h.gn i, h.hl⟩
    · rw [h.bk, aliveS_iff h.wf.a, aliveS_iff w.a, aliveAt, aliveAt, genAt, genAt, hg, ha]
    · rw [h.bl, liveS, liveS, ha]
  · have : flushS s p = (s, 1) := by rw [flushS, if_neg hp]
    rw [this]
    exact h
theorem NmI.refused {k : Nat} {L P : Int} {s : Sl} {had book : List (Int × Int)} {p : Nat} (h : NmI k L P s had book) (hk : k < 2147483647) (hp : p < s.caches.length) (hs : (slotS s p).2 = none) : NmI k L P (slotS s p).1 had book ∧ (book.length : Int) = L := by
  obtain ⟨w, hl, hc, hg, ha, hn, hall⟩ := take_none h.wf hp hs
  refine ⟨⟨w, hl.trans h.lim, by rw [hc]; exact h.cl, fun q hq => by rw [genAt, hg]; exact h.hh q hq, h.bd, fun q => ?_, ?_, fun i => by rw [genAt, hg]; exact h.gn i, h.hl⟩, ?_⟩
  · rw [h.bk, aliveS_iff h.wf.a, aliveS_iff w.a, aliveAt, aliveAt, genAt, genAt, hg, ha]
  · rw [h.bl, liveS, liveS, ha]
  · rw [h.bl, live_full h.wf hall (fun i hi => by have := h.gn i; omega), hn, h.lim]
/-! In memory. -/
structure NmW (w wr : World) (base b : Nat) (col0 col cc : Nat → Nat) (s : Sl) (vh va : Value) (had book : List (Int × Int)) : Prop where
  nx : Nx w col0 wr col
  sl : IsSlab TS wr base b col s
  h : kG.R 48 wr w.heap.size (fun k => cc k = 1) vh had
  a : kG.R 48 wr w.heap.size (fun k => cc k = 2) va book
  cz : ∀ k, cc k ≠ 0 → col k = 0 ∧ w.heap.size ≤ k ∧ k < wr.heap.size
section
variable {w wr w' : World} {base b : Nat} {col0 col col' cc : Nat → Nat} {s s' : Sl} {vh va v1 : Value} {had book l1 : List (Int × Int)}
theorem NmW.below (h : NmW w wr base b col0 col cc s vh va had book) (hB : Below wr.heap.size wr w') : NmW w w' base b col0 col cc s vh va had book :=
  ⟨h.nx.trans (Nx.of_below hB), h.sl.below hB, Kd.R_below h.h hB, Kd.R_below h.a hB, fun k hk => by have := h.cz k hk; have := hB.size; omega⟩
theorem NmW.slab (h : NmW w wr base b col0 col cc s vh va had book) (hN : Nx wr col w' col') (hS : IsSlab TS w' base b col' s') : NmW w w' base b col0 col' cc s' vh va had book :=
  ⟨h.nx.trans hN, hS, Kd.R_step h.h (fun k hk hl => hN.keep.block k hl (fun f => f (h.cz k (by rw [hk]; decide)).1)), Kd.R_step h.a (fun k hk hl => hN.keep.block k hl (fun f => f (h.cz k (by rw [hk]; decide)).1)),
   fun k hk => by have h1 := h.cz k hk; have := hN.keep.size; exact ⟨(hN.cols k h1.2.2).trans h1.1, h1.2.1, by omega⟩⟩
/-- One of the two rows is turned (1: had, 2: book). -/
theorem NmW.turn (h : NmW w wr base b col0 col cc s vh va had book) {c : Nat} (hc : c = 1 ∨ c = 2) (hk : Keep (fun k => cc k = c) wr w') (hr : kG.R 48 w' w.heap.size (fun k => cc k = c ∨ wr.heap.size ≤ k) v1 l1) :
    ∃ cc', NmW w w' base b col0 col cc' s (if c = 1 then v1 else vh) (if c = 1 then va else v1) (if c = 1 then l1 else had) (if c = 1 then book else l1) := by
  have hcn : c ≠ 0 := by omega
  have hcol : ∀ k, cc k = c → col k = 0 := fun k hk => (h.cz k (by rw [hk]; exact hcn)).1
  have hzl : ∀ k, wr.heap.size ≤ k → cc k = 0 := fun k hk => by
    by_cases e : cc k = 0
    · exact e
    · have := (h.cz k e).2.2; omega
  have hz := h.sl.z
  have hs := hk.size
  have hold : ∀ {d : Nat} {v : Value} {l : List (Int × Int)}, d ≠ c → kG.R 48 wr w.heap.size (fun k => cc k = d) v l → kG.R 48 w' w.heap.size (fun k => paint cc c wr.heap.size w'.heap.size k = d) v l := fun {d v l} hd hr =>
    Kd.R_mono (Kd.R_step (Kd.R_bound hr) (fun k ho hl => hk.block k hl (fun f => hd (ho.1.symm.trans f)))) (fun k ho => by rw [paint_old ho.2.2.1]; exact ho.1)
  have hnew : kG.R 48 w' w.heap.size (fun k => paint cc c wr.heap.size w'.heap.size k = c) v1 l1 := Kd.R_mono (Kd.R_bound hr) (fun k ho => by
    rcases Nat.lt_or_ge k wr.heap.size with hl | hl
    · rw [paint_old hl]
      rcases ho.1 with h1 | h1
      · exact h1
      · omega
    · exact paint_new hl ho.2.2.1)
  have hslab : IsSlab TS w' base b col s := h.sl.keep hk hcol
  have hnx : Nx w col0 w' col := ⟨h.nx.keep.trans' hk (fun i hi f => by have := (h.cz i (by rw [f]; exact hcn)).2.1; omega), h.nx.cols⟩
  have hcz : ∀ k, paint cc c wr.heap.size w'.heap.size k ≠ 0 → col k = 0 ∧ w.heap.size ≤ k ∧ k < w'.heap.size := fun k hk' => by
    by_cases hn : wr.heap.size ≤ k ∧ k < w'.heap.size
    · exact ⟨hz k hn.1, Nat.le_trans h.nx.keep.size hn.1, hn.2⟩
    · unfold paint at hk'
      rw [if_neg hn] at hk'
      have := h.cz k hk'
      exact ⟨this.1, this.2.1, by omega⟩
  refine ⟨paint cc c wr.heap.size w'.heap.size, hnx, hslab, ?_, ?_, hcz⟩
  · rcases hc with rfl | rfl
    · exact hnew
    · exact hold (by decide) h.h
  · rcases hc with rfl | rfl
    · exact hold (by decide) h.a
    · exact hnew
end
end Go.Proofs.Ytnglgjegkjfnaaa
set_option linter.unusedSimpArgs false
set_option linter.unusedVariables false
namespace Go.Proofs.Ytnglgjegkjfnaaa
open Go.RowKit Go.ChangeShapes Go.WideShapes Go.ChangeAt Go.Proofs.YtnglgjegkjfnaaaW.PrintWords Go.Proofs.YtnglgjegkjfnaaaW.PrintMore Go.Proofs.YtnglgjegkjfnaaaW.PrintLast
/-! names: printed by gen04f.py. -/
def kSOp : Kd SOp := Kd.iso (Kd.pair (Kd.int .i64) (Kd.pair (Kd.int .i64) (Kd.pair (Kd.int .i64) (Kd.pair (Kd.int .i64) (Kd.int .i64))))) (fun o : SOp => (o.d, o.p, o.k, o.g.1, o.g.2))
theorem kSOp_open {w : World} {o : SOp} {cs : List Value} (h : kSOp.K w o cs) : cs = [.int .i64 o.d, .int .i64 o.p, .int .i64 o.k, .int .i64 o.g.1, .int .i64 o.g.2] := by
  obtain ⟨_, _, rfl, rfl, _, _, rfl, rfl, _, _, rfl, rfl, _, _, rfl, rfl, rfl⟩ := h
  rfl
theorem sop_at {w : World} {b off n : Nat} {xs : List SOp} (h : kSOp.C w (some ⟨b, off, none⟩) n xs) (i : Nat) (hi : i < n) : ∃ o, xs[i]? = some o ∧ w.cell? ⟨b, off + i * 5, none⟩ = some (.int .i64 o.d) ∧ w.cell? ⟨b, off + i * 5 + 1, none⟩ = some (.int .i64 o.p) ∧ w.cell? ⟨b, off + i * 5 + 2, none⟩ = some (.int .i64 o.k) ∧ w.cell? ⟨b, off + i * 5 + 3, none⟩ = some (.int .i64 o.g.1) ∧ w.cell? ⟨b, off + i * 5 + 4, none⟩ = some (.int .i64 o.g.2) := by
  obtain ⟨ad, e, hc⟩ := h.2.2 (by omega)
  injection e with e
  subst e
  have hl : i < xs.length := by have := h.1; omega
  obtain ⟨cs, hcl, hK, hat⟩ := hc i _ (List.getElem?_eq_getElem hl)
  obtain rfl := kSOp_open hK
  refine ⟨_, List.getElem?_eq_getElem hl, ?_, ?_, ?_, ?_, ?_⟩
  · have := hat 0 _ rfl; rw [adds] at this; exact this
  · have := hat 1 _ rfl; rw [adds, ← Nat.add_assoc] at this; exact this
  · have := hat 2 _ rfl; rw [adds, ← Nat.add_assoc] at this; exact this
  · have := hat 3 _ rfl; rw [adds, ← Nat.add_assoc] at this; exact this
  · have := hat 4 _ rfl; rw [adds, ← Nat.add_assoc] at this; exact this
/-- What names keeps from round to round. -/
def NmL (W : World) (base b : Nat) (col0 : Nat → Nat) (L P : Int) (k : Nat) (vh va : Value) (wr : World) : Prop := ∃ s had book col cc, NmW W wr base b col0 col cc s vh va had book ∧ NmI k L P s had book
def NamesP (w : World) (base b : Nat) (col0 : Nat → Nat) (L P : Int) (k : Nat) (e : Ending) (w' : World) : Prop := ∃ vh va s had book col, e = .returned (.tuple #[vh, va, .bool true]) ∧ Nx w col0 w' col ∧ IsSlab TS w' base b col s ∧ kG.R 48 w' w.heap.size (fun i => col i = 0) vh had ∧ kG.R 48 w' w.heap.size (fun i => col i = 0) va book ∧ NmI k L P s had book
theorem gid_rd {w : World} {base : Nat} {ok : Nat → Prop} {v : Value} {l : List (Int × Int)} (h : kG.R 48 w base ok v l) : ∃ A c, v = .slice A l.length c ∧ l.length ≤ c ∧ kG.C w A l.length l := Kd.R_reads h
theorem NmW.turnH {w wr w' : World} {base b : Nat} {col0 col cc : Nat → Nat} {s : Sl} {vh va v1 : Value} {had book l1 : List (Int × Int)} (h : NmW w wr base b col0 col cc s vh va had book) (hk : Keep (fun k => cc k = 1) wr w') (hr : kG.R 48 w' w.heap.size (fun k => cc k = 1 ∨ wr.heap.size ≤ k) v1 l1) : ∃ cc', NmW w w' base b col0 col cc' s v1 va l1 book := h.turn (c := 1) (.inl rfl) hk hr
theorem NmW.turnA {w wr w' : World} {base b : Nat} {col0 col cc : Nat → Nat} {s : Sl} {vh va v1 : Value} {had book l1 : List (Int × Int)} (h : NmW w wr base b col0 col cc s vh va had book) (hk : Keep (fun k => cc k = 2) wr w') (hr : kG.R 48 w' w.heap.size (fun k => cc k = 2 ∨ wr.heap.size ≤ k) v1 l1) : ∃ cc', NmW w w' base b col0 col cc' s vh v1 had l1 := h.turn (c := 2) (.inr rfl) hk hr
attribute [local go_sem high] eqG
set_option maxRecDepth 100000 in
set_option maxHeartbeats 16000000 in
theorem names_any (w0 w : World) (b : Nat) (col0 : Nat → Nat) (L P : Int) (A : Option Addr) (c : Nat) (ops : List SOp) (hB0 : Below w0.heap.size w0 w) (hS : IsSlab TS w w0.heap.size b col0 (newS L P)) (hk0 : okNew L P = true) (hC : kSOp.C w0 A ops.length ops) (_ : ops.length ≤ c) (hl : ops.length ≤ 1048576) :
    Calls Try.prog 17 #[.pointer (some ⟨b, 0, none⟩), .agg #[.int .i64 L, .int .i64 P, .slice A ops.length c]] w (NamesP w w0.heap.size b col0 L P ops.length) := by
  have HC := Aside0.mk hC
  have hW : Below w.heap.size w (w.alloc (.cells #[.int .i64 L, .int .i64 P, .slice A ops.length c] 37)) := below_al (Below.refl _ _) _
  have hX : Aside0 ((w.alloc (.cells #[.int .i64 L, .int .i64 P, .slice A ops.length c] 37)).heap[w.heap.size]? = some (.cells #[.int .i64 L, .int .i64 P, .slice A ops.length c] 37 (0, 0))) := ⟨blk_new _ _⟩
  have hX0 : col0 w.heap.size = 0 := hS.z _ (Nat.le_refl _)
  have HS := Aside0.mk (hS.below hW)
  have HW0 := Aside0.mk (below_then hB0 hW)
  have HWW := Aside0.mk hW
  have hP := okNew_iff.1 hk0
  have hXl := lt_blk hX.out
  clear hC hS hB0 hW
  go_enter Try.func17, Try.ntmps17
  go_wp2_with fail
  generalize (w.alloc (.cells #[.int .i64 L, .int .i64 P, .slice A ops.length c] 37)) = W at *
  have hw0s := HW0.out.size
  go_loopw [7, 8, 9] (fun vh va i wr => ∃ k : Nat, k ≤ ops.length ∧ i = .int .i64 k ∧ Aside0 (NmL W w0.heap.size b col0 L P k vh va wr)) (fun _ _ i _ => ops.length - (intOf i).toNat)
  case atStart => exact ⟨0, by omega, rfl, ⟨newS L P, [], [], col0, fun _ => 0, ⟨Nx.refl _ _, HS.out, Kd.R_nil _ _ _ _ _, Kd.R_nil _ _ _ _ _, fun k hk => absurd rfl hk⟩, NmI.start hk0⟩⟩
  case round =>
    clear HS
    obtain ⟨k, hk, rfl, ⟨s, had, book, col, cc, hW1, hI⟩⟩ := hrel
    have HW := Aside0.mk hW1
    have HI := Aside0.mk hI
    have HBr := Aside0.mk (below_then_keep HW0.out hw0s HW.out.nx.keep (fun i hi => by
      rcases Nat.lt_or_ge i W.heap.size with h | h
      · exact HW.out.sl.base_le i (by rw [HW.out.nx.cols i h]; exact hi)
      · omega))
    have hXr := blk_keep hX.out HW.out.nx.keep (fun f => f hX0)
    have s0 := cell_blk hXr 0; have s1 := cell_blk hXr 1; have s2 := cell_blk hXr 2
    simp at s0 s1 s2
    have hXrl := lt_blk hXr
    have HXr := Aside0.mk hXr
    have hrs := HW.out.nx.keep.size
    obtain ⟨AH, cH, rfl, hcH, hCH⟩ := gid_rd hW1.h
    obtain ⟨AB, cB, rfl, hcB, hCB⟩ := gid_rd hW1.a
    have HCH := Aside0.mk hCH
    have HCB := Aside0.mk hCB
    have hhl := hI.hl
    have hbl := hI.bn
    clear hW1 hI hXr hCH hCB
    by_cases hlt : k < ops.length
    · obtain ⟨ab, off, rfl, hab⟩ := C_form HC.out (by omega) (by decide)
      obtain ⟨⟨d, p, q, g1, g2⟩, ho, e0, e1, e2, e3, e4⟩ := sop_at HC.out k hlt
      simp only at e0 e1 e2 e3 e4
      have y0 := (HBr.out.cell (p := ⟨ab, off + k * 5, none⟩) hab).trans e0
      have y1 := (HBr.out.cell (p := ⟨ab, off + k * 5 + 1, none⟩) hab).trans e1
      have y2 := (HBr.out.cell (p := ⟨ab, off + k * 5 + 2, none⟩) hab).trans e2
      have y3 := (HBr.out.cell (p := ⟨ab, off + k * 5 + 3, none⟩) hab).trans e3
      have y4 := (HBr.out.cell (p := ⟨ab, off + k * 5 + 4, none⟩) hab).trans e4
      have hki : (0 : Int) ≤ (k : Int) := by omega
      have hkl : (k : Int) < (ops.length : Int) := by omega
      have habr := Nat.lt_of_lt_of_le hab HBr.out.size
      have hA1 : Below wr.heap.size wr (wr.alloc (.cells #[.int .i64 d, .int .i64 p, .int .i64 q, .int .i64 g1, .int .i64 g2] 55)) := below_al (Below.refl _ _) _
      have hO1 : (wr.alloc (.cells #[.int .i64 d, .int .i64 p, .int .i64 q, .int .i64 g1, .int .i64 g2] 55)).heap[wr.heap.size]? = some (.cells #[.int .i64 d, .int .i64 p, .int .i64 q, .int .i64 g1, .int .i64 g2] 55 (0, 0)) := blk_new _ _
      have HO1 := Aside0.mk hO1
      have HW1 := Aside0.mk (HW.out.below hA1)
      have HX1 := Aside0.mk (blk_below HXr.out hA1)
      have HCH1 := Aside0.mk (Kd.C_below HCH.out hA1)
      have HCB1 := Aside0.mk (Kd.C_below HCB.out hA1)
      have hOl : wr.heap.size < (wr.alloc (.cells #[.int .i64 d, .int .i64 p, .int .i64 q, .int .i64 g1, .int .i64 g2] 55)).heap.size := lt_blk hO1
      have hclP := HI.out.cl
      have hpr : procS s p = (decide (0 ≤ p) && decide (p < P)) := by rw [procS, hclP]
      have HPR := Aside0.mk hpr
      have hk31 : k < 2147483647 := by omega
      have hbase1 : w0.heap.size ≤ (wr.alloc (.cells #[.int .i64 d, .int .i64 p, .int .i64 q, .int .i64 g1, .int .i64 g2] 55)).heap.size := by have := hA1.size; omega
      have hOK := HI.out.wf.ok
      clear ho e0 e1 e2 e3 e4 hO1 hclP hpr HXr HCH HCB
      -- there
      obtain ⟨th, hth, hthp⟩ : ∃ th, Aside0 (th = procS s p) ∧ ((¬ 0 ≤ p ∧ th = false) ∨ (0 ≤ p ∧ p < P ∧ th = true) ∨ (0 ≤ p ∧ ¬ p < P ∧ th = false)) := by
        refine ⟨procS s p, ⟨rfl⟩, ?_⟩
        rw [HPR.out]
        by_cases a1 : 0 ≤ p
        · by_cases a2 : p < P
          · exact .inr (.inl ⟨a1, a2, by simp [a1, a2]⟩)
          · exact .inr (.inr ⟨a1, a2, by simp [a1, a2]⟩)
        · exact .inl ⟨a1, by simp [a1]⟩
      rcases hthp with ⟨a1, rfl⟩ | ⟨a1, a2, rfl⟩ | ⟨a1, a2, rfl⟩
      · rcases (show d = 0 ∨ d = 1 ∨ d = 2 ∨ (d ≠ 0 ∧ d ≠ 1 ∧ d ≠ 2) by omega) with rfl | rfl | rfl | ⟨hd, hd', hd''⟩
        · have hTO : takeS s p = (s, 0, 0, 1) := by rw [takeS, if_neg (by rw [← hth.out]; decide)]
          have HT := take_slab p _ hbase1 HW1.out.sl hOK
          go_wp2_with fail
          refine HT.mono ?_
          clear HT
          rintro e w2 ⟨col2, rfl, hI2, hN2⟩
          rw [hTO] at hI2 ⊢
          have hA2 : Below w2.heap.size w2 (w2.alloc (.cells #[.int .i64 0, .int .i64 0] 48)) := below_al (Below.refl _ _) _
          have HW2 := Aside0.mk ((HW1.out.slab hN2 hI2).below hA2)
          clear hI2 hN2 hTO
          go_wp2
          go_roundw
          case rel => exact ⟨k + 1, by omega, by go_num, ⟨⟨s, had, book, col2, cc, HW2.out, HI.out.mono (by omega)⟩⟩⟩
          case measure => simp [intOf]; omega
        · have HT := name_any ⟨1, p, q, (g1, g2)⟩ AH cH had (wr.alloc (.cells #[.int .i64 1, .int .i64 p, .int .i64 q, .int .i64 g1, .int .i64 g2] 55)) HCH1.out hcH
          go_wp2_with fail
          refine HT.mono ?_
          clear HT
          rintro e w2 ⟨rfl, hB2⟩
          simp only
          have hnm : nameS q (g1, g2) had = ((nameS q (g1, g2) had).1, (nameS q (g1, g2) had).2) := rfl
          generalize (nameS q (g1, g2) had).1 = x at *
          generalize (nameS q (g1, g2) had).2 = g at *
          clear hnm
          have hA2 : Below w2.heap.size w2 (w2.alloc (.cells #[.int .i64 x, .int .i64 g] 48)) := below_al (Below.refl _ _) _
          have hT : (w2.alloc (.cells #[.int .i64 x, .int .i64 g] 48)).heap[w2.heap.size]? = some (.cells #[.int .i64 x, .int .i64 g] 48 (0, 0)) := blk_new _ _
          have hB3 := below_then hB2 hA2
          have HW3 := Aside0.mk (HW1.out.below hB3)
          have HT3 := Aside0.mk hT
          have HO3 := Aside0.mk (blk_below HO1.out hB3)
          have hTl := lt_blk hT
          have hWs3 := hB3.size
          clear hT hB2 hB3
          go_wp2_with fail
          generalize w2.alloc (.cells #[.int .i64 x, .int .i64 g] 48) = W3 at *
          clear hA2
          go_loopw [16, 17] (fun at_ i wr => ∃ m : Nat, m ≤ book.length ∧ i = .int .i64 m ∧ at_ = .int .i64 (atTo book (x, g) m) ∧ Aside0 (Below W3.heap.size W3 wr)) (fun _ i _ => book.length - (intOf i).toNat)
          case atStart => exact ⟨0, by omega, rfl, rfl, ⟨Below.refl _ _⟩⟩
          case round =>
            obtain ⟨m, hm, rfl, rfl, HBq⟩ := hrel
            have HW4 := Aside0.mk (HW3.out.below HBq.out)
            have hT4 := blk_below HT3.out HBq.out
            have t0 := cell_blk hT4 0; have t1 := cell_blk hT4 1
            simp at t0 t1
            have hTl4 := lt_blk hT4
            have HT4 := Aside0.mk hT4
            have HO4 := Aside0.mk (blk_below HO3.out HBq.out)
            obtain ⟨AB', cB', he, -, hCB4⟩ := gid_rd HW4.out.a
            injection he with he1 he2 he3
            subst he1; subst he3
            clear hT4 he2
            by_cases hmt : m < book.length
            · obtain ⟨hb', ho', rfl, hhb⟩ := C_form hCB4 (by omega) (by decide)
              obtain ⟨e, he, c0, c1⟩ := gid_at hCB4 m hmt
              have hmi : (0 : Int) ≤ (m : Int) := by omega
              have hml : (m : Int) < (book.length : Int) := by omega
              have hst : atTo book (x, g) (m + 1) = if (e.1 == x && (e.2 == g)) then (m : Int) else atTo book (x, g) m := by
                rw [atTo, List.getD_eq_getElem?_getD, he]
                show (if e = (x, g) then _ else _) = _
                by_cases h : e = (x, g)
                · rw [if_pos h, if_pos (by rw [h]; simp)]
                · rw [if_neg h, if_neg (fun h2 => h (by simp only [Bool.and_eq_true, beq_iff_eq] at h2; exact Prod.ext h2.1 h2.2))]
              have HST := Aside0.mk hst
              clear hst he hCB4
              generalize atTo book (x, g) m = am at *
              cases heq : (e.1 == x && (e.2 == g)) with
              | true =>
                rw [heq] at HST
                go_wp2
                go_region
                go_wp2
                go_roundw
                case rel => exact ⟨m + 1, by omega, by go_num, by rw [HST.out]; rfl, ⟨HBq.out.drew⟩⟩
                case measure => simp [intOf]; omega
              | false =>
                rw [heq] at HST
                go_wp2
                go_region
                go_wp2
                go_roundw
                case rel => exact ⟨m + 1, by omega, by go_num, by rw [HST.out]; rfl, ⟨HBq.out.drew⟩⟩
                case measure => simp [intOf]; omega
            · obtain rfl : m = book.length := by omega
              have hsz4 := HBq.out.size
              have o1 := cell_blk HO4.out 1
              simp at o1
              have hOl4 := lt_blk HO4.out
              have hGO : giveS s p x g = (s, 1) := by rw [giveS, if_neg (by rw [← hth.out]; decide)]
              have HT := give_slab p x g _ (by omega) HW4.out.sl hOK HI.out.wf.cl
              rw [hGO] at HT
              clear hCB4
              go_wp2_with fail
              refine HT.mono ?_
              clear HT
              rintro e w5 ⟨col2, rfl, hI5, hN5⟩
              have HW5 := Aside0.mk (HW4.out.slab hN5 hI5)
              clear hI5 hN5 hGO
              go_wp2
              go_roundw
              case rel => exact ⟨k + 1, by omega, by go_num, ⟨⟨s, had, book, col2, cc, HW5.out, HI.out.mono (by omega)⟩⟩⟩
              case measure => simp [intOf]; omega
        · have hFO : (flushS s p).2 = 1 := by rw [flushS, if_neg (by rw [← hth.out]; decide)]
          have hFI := HI.out.flush p
          have HT := flush_slab p _ hbase1 HW1.out.sl hOK
          have HFI := Aside0.mk hFI
          clear hFI
          go_wp2_with fail
          refine HT.mono ?_
          clear HT
          rintro e w2 ⟨col2, rfl, hI2, hN2⟩
          rw [hFO]
          have HW2 := Aside0.mk (HW1.out.slab hN2 hI2)
          clear hI2 hN2 hFO
          go_wp2
          go_roundw
          case rel => exact ⟨k + 1, by omega, by go_num, ⟨⟨_, had, book, col2, cc, HW2.out, HFI.out.mono (by omega)⟩⟩⟩
          case measure => simp [intOf]; omega
        · go_wp2
          go_roundw
          case rel => exact ⟨k + 1, by omega, by go_num, ⟨⟨s, had, book, col, cc, HW1.out, HI.out.mono (by omega)⟩⟩⟩
          case measure => simp [intOf]; omega
      · rcases (show d = 0 ∨ d = 1 ∨ d = 2 ∨ (d ≠ 0 ∧ d ≠ 1 ∧ d ≠ 2) by omega) with rfl | rfl | rfl | ⟨hd, hd', hd''⟩
        · obtain ⟨n, rfl⟩ := Int.eq_ofNat_of_zero_le a1
          have hclP := HI.out.cl
          have hnl : n < s.caches.length := by omega
          have hprn : procS s n = true := hth.out.symm
          cases hs : (slotS s n).2 with
          | none =>
            have hTO : takeS s n = ((slotS s n).1, 0, 0, 2) := takeS_none hprn hs
            have HT := take_slab n _ hbase1 HW1.out.sl hOK
            go_wp2_with fail
            refine HT.mono ?_
            clear HT
            rintro e w2 ⟨col2, rfl, hI2, hN2⟩
            rw [hTO] at hI2 ⊢
            obtain ⟨hI3, hbL⟩ := HI.out.refused hk31 hnl hs
            have hbL2 : decide ((book.length : Int) < L) = false := by simp; omega
            have HI3 := Aside0.mk hI3
            have hX2 := blk_keep HX1.out hN2.keep (fun f => f ((HW1.out.nx.cols _ hXl).trans hX0))
            have s0 := cell_blk hX2 0
            simp at s0
            have hXl2 := lt_blk hX2
            have hA2 : Below w2.heap.size w2 (w2.alloc (.cells #[.int .i64 0, .int .i64 0] 48)) := below_al (Below.refl _ _) _
            have HW2 := Aside0.mk ((HW1.out.slab hN2 hI2).below hA2)
            clear hI2 hN2 hTO hI3 hX2 hbL
            go_wp2
            go_roundw
            case rel => exact ⟨k + 1, by omega, by go_num, ⟨⟨_, had, book, col2, cc, HW2.out, HI3.out.mono (by omega)⟩⟩⟩
            case measure => simp [intOf]; omega
          | some x =>
            have hTO : takeS s n = (givenS (slotS s n).1 x.toNat, x, (slotS s n).1.gens.getD x.toNat 0 + 1, 0) := takeS_some hprn hs
            have hTR := take_some HI.out.wf hnl hs
            have HT := take_slab n _ hbase1 HW1.out.sl hOK
            go_wp2_with fail
            refine HT.mono ?_
            clear HT
            rintro e w2 ⟨col2, rfl, hI2, hN2⟩
            rw [hTO] at hI2 ⊢
            have hfr := HI.out.fresh hTR
            have HI3 := Aside0.mk (HI.out.take hTR)
            generalize givenS (slotS s n).1 x.toNat = s3 at *
            generalize (slotS s n).1.gens.getD x.toNat 0 + 1 = g at *
            have HF := Aside0.mk hfr
            have HW2 := Aside0.mk (HW1.out.slab hN2 hI2)
            have hA2 : Below w2.heap.size w2 (w2.alloc (.cells #[.int .i64 x, .int .i64 g] 48)) := below_al (Below.refl _ _) _
            have hN := (w2.alloc (.cells #[.int .i64 x, .int .i64 g] 48)).heap.size
            have hT : (w2.alloc (.cells #[.int .i64 x, .int .i64 g] 48)).heap[w2.heap.size]? = some (.cells #[.int .i64 x, .int .i64 g] 48 (0, 0)) := blk_new _ _
            have HW3 := Aside0.mk (HW2.out.below hA2)
            have HT3 := Aside0.mk hT
            have hTl := lt_blk hT
            have hccT : cc w2.heap.size = 0 := by
              by_cases e : cc w2.heap.size = 0
              · exact e
              · have := (HW2.out.cz _ e).2.2; omega
            clear hI2 hN2 hTO hTR hfr hN hT HW2
            go_wp2_with fail
            generalize w2.alloc (.cells #[.int .i64 x, .int .i64 g] 48) = W3 at *
            clear hA2
            go_loopw [14] (fun i wr => ∃ m : Nat, m ≤ had.length ∧ i = .int .i64 m ∧ Aside0 (Below W3.heap.size W3 wr)) (fun i _ => had.length - (intOf i).toNat)
            case atStart => exact ⟨0, by omega, rfl, ⟨Below.refl _ _⟩⟩
            case round =>
              obtain ⟨m, hm, rfl, HBq⟩ := hrel
              have HW4 := Aside0.mk (HW3.out.below HBq.out)
              have hT4 := blk_below HT3.out HBq.out
              have t0 := cell_blk hT4 0; have t1 := cell_blk hT4 1
              simp at t0 t1
              have hTl4 := lt_blk hT4
              have HT4 := Aside0.mk hT4
              obtain ⟨AH', cH', he, -, hCH4⟩ := gid_rd HW4.out.h
              injection he with he1 he2 he3
              subst he1; subst he3
              clear hT4 he2
              by_cases hmt : m < had.length
              · obtain ⟨hb', ho', rfl, hhb⟩ := C_form hCH4 (by omega) (by decide)
                obtain ⟨e, he, c0, c1⟩ := gid_at hCH4 m hmt
                have hne : (e.1 == x && (e.2 == g)) = false := by
                  rw [Bool.eq_false_iff]
                  intro hx
                  simp only [Bool.and_eq_true, beq_iff_eq] at hx
                  exact HF.out.1 (by rw [← hx.1, ← hx.2]; exact List.mem_of_getElem? he)
                have hmi : (0 : Int) ≤ (m : Int) := by omega
                have hml : (m : Int) < (had.length : Int) := by omega
                clear he hCH4
                go_wp2
                go_region
                go_wp2
                go_roundw
                case rel => exact ⟨m + 1, by omega, by go_num, ⟨HBq.out.drew⟩⟩
                case measure => simp [intOf]; omega
              · obtain rfl : m = had.length := by omega
                have hgl := HW4.out.nx.keep.size
                have hhl2 : (had.length + 1) * 16 ≤ 140737488355328 := by omega
                have hbl2 : (book.length + 1) * 16 ≤ 140737488355328 := by omega
                clear hCH4
                go_wp2_with (first | ((with_reducible refine gate_builtin (b := .append) (xs := #[.tmp 84, .tmp 86]) rfl ?_); at_builtin; refine Kd.R_append kG (w0 := wr) W.heap.size rfl (.tmp 84) (.tmp 86) 39 48 (.agg #[.int .i64 0, .int .i64 0]) 16 rfl Try.underlying39 infoG rfl (by decide) (by omega) (.slice AH had.length cH) had (x, g) [.int .i64 x, .int .i64 g] (fun i => cc i = 1 ∨ wr.heap.size ≤ i) (fun _ => False) rfl ?aX ?aM (fun _ h => h.elim) ?aF ?aO ?aB ?aS ?aL ?_; (case aX => first | rfl | exact congrArg (fun n => Value.slice (some ⟨n, 0, none⟩) 1 1) (by simp)); (case aM => exact kG_mkM _ _ _ _); (case aF => exact fun _ h => .inr h); (case aO => exact (Kd.R_mono HW4.out.h (fun _ h => .inl h))); (case aB => exact Below.refl _ _); (case aS => omega); (case aL => omega); intro v5 w5 ho5 hb5 hg5 hat5; have hk5 := grown_keep hg5 (fun i hi => HW4.out.h.1 i hi); have ht5 := blk_keep HT4.out hk5 (by omega); have t0 := cell_blk ht5 0; have t1 := cell_blk ht5 1; simp at t0 t1; have hTl5 := lt_blk ht5; obtain ⟨cc5, hW5⟩ := HW4.out.turnH hk5 ho5; have HW5 := Aside0.mk hW5; have hs5 := HW5.out.nx.keep.size; clear hW5 ht5) | ((with_reducible refine gate_builtin (b := .append) (xs := #[.tmp 88, .tmp 90]) rfl ?_); at_builtin; refine Kd.R_append kG (w0 := w5) W.heap.size rfl (.tmp 88) (.tmp 90) 39 48 (.agg #[.int .i64 0, .int .i64 0]) 16 rfl Try.underlying39 infoG rfl (by decide) (by omega) (.slice AB book.length cB) book (x, g) [.int .i64 x, .int .i64 g] (fun i => cc5 i = 2 ∨ w5.heap.size ≤ i) (fun _ => False) rfl ?aX ?aM (fun _ h => h.elim) ?aF ?aO ?aB ?aS ?aL ?_; (case aX => first | rfl | exact congrArg (fun n => Value.slice (some ⟨n, 0, none⟩) 1 1) (by simp)); (case aM => exact kG_mkM _ _ _ _); (case aF => exact fun _ h => .inr h); (case aO => exact (Kd.R_mono HW5.out.a (fun _ h => .inl h))); (case aB => exact Below.refl _ _); (case aS => omega); (case aL => omega); intro v6 w6 ho6 hb6 hg6 hat6; obtain ⟨cc6, hW6⟩ := HW5.out.turnA (grown_keep hg6 (fun i hi => HW5.out.a.1 i hi)) ho6; have HW6 := Aside0.mk hW6; clear hW6))
                go_roundw
                case rel => exact ⟨k + 1, by omega, by go_num, ⟨⟨_, _, _, col2, cc6, HW6.out, HI3.out⟩⟩⟩
                case measure => simp [intOf]; omega
        · have HT := name_any ⟨1, p, q, (g1, g2)⟩ AH cH had (wr.alloc (.cells #[.int .i64 1, .int .i64 p, .int .i64 q, .int .i64 g1, .int .i64 g2] 55)) HCH1.out hcH
          go_wp2_with fail
          refine HT.mono ?_
          clear HT
          rintro e w2 ⟨rfl, hB2⟩
          simp only
          have hnm : nameS q (g1, g2) had = ((nameS q (g1, g2) had).1, (nameS q (g1, g2) had).2) := rfl
          generalize (nameS q (g1, g2) had).1 = x at *
          generalize (nameS q (g1, g2) had).2 = g at *
          clear hnm
          have hA2 : Below w2.heap.size w2 (w2.alloc (.cells #[.int .i64 x, .int .i64 g] 48)) := below_al (Below.refl _ _) _
          have hT : (w2.alloc (.cells #[.int .i64 x, .int .i64 g] 48)).heap[w2.heap.size]? = some (.cells #[.int .i64 x, .int .i64 g] 48 (0, 0)) := blk_new _ _
          have hB3 := below_then hB2 hA2
          have HW3 := Aside0.mk (HW1.out.below hB3)
          have HT3 := Aside0.mk hT
          have HO3 := Aside0.mk (blk_below HO1.out hB3)
          have hTl := lt_blk hT
          have hWs3 := hB3.size
          clear hT hB2 hB3
          go_wp2_with fail
          generalize w2.alloc (.cells #[.int .i64 x, .int .i64 g] 48) = W3 at *
          clear hA2
          go_loopw [16, 17] (fun at_ i wr => ∃ m : Nat, m ≤ book.length ∧ i = .int .i64 m ∧ at_ = .int .i64 (atTo book (x, g) m) ∧ Aside0 (Below W3.heap.size W3 wr)) (fun _ i _ => book.length - (intOf i).toNat)
          case atStart => exact ⟨0, by omega, rfl, rfl, ⟨Below.refl _ _⟩⟩
          case round =>
            obtain ⟨m, hm, rfl, rfl, HBq⟩ := hrel
            have HW4 := Aside0.mk (HW3.out.below HBq.out)
            have hT4 := blk_below HT3.out HBq.out
            have t0 := cell_blk hT4 0; have t1 := cell_blk hT4 1
            simp at t0 t1
            have hTl4 := lt_blk hT4
            have HT4 := Aside0.mk hT4
            have HO4 := Aside0.mk (blk_below HO3.out HBq.out)
            obtain ⟨AB', cB', he, -, hCB4⟩ := gid_rd HW4.out.a
            injection he with he1 he2 he3
            subst he1; subst he3
            clear hT4 he2
            by_cases hmt : m < book.length
            · obtain ⟨hb', ho', rfl, hhb⟩ := C_form hCB4 (by omega) (by decide)
              obtain ⟨e, he, c0, c1⟩ := gid_at hCB4 m hmt
              have hmi : (0 : Int) ≤ (m : Int) := by omega
              have hml : (m : Int) < (book.length : Int) := by omega
              have hst : atTo book (x, g) (m + 1) = if (e.1 == x && (e.2 == g)) then (m : Int) else atTo book (x, g) m := by
                rw [atTo, List.getD_eq_getElem?_getD, he]
                show (if e = (x, g) then _ else _) = _
                by_cases h : e = (x, g)
                · rw [if_pos h, if_pos (by rw [h]; simp)]
                · rw [if_neg h, if_neg (fun h2 => h (by simp only [Bool.and_eq_true, beq_iff_eq] at h2; exact Prod.ext h2.1 h2.2))]
              have HST := Aside0.mk hst
              clear hst he hCB4
              generalize atTo book (x, g) m = am at *
              cases heq : (e.1 == x && (e.2 == g)) with
              | true =>
                rw [heq] at HST
                go_wp2
                go_region
                go_wp2
                go_roundw
                case rel => exact ⟨m + 1, by omega, by go_num, by rw [HST.out]; rfl, ⟨HBq.out.drew⟩⟩
                case measure => simp [intOf]; omega
              | false =>
                rw [heq] at HST
                go_wp2
                go_region
                go_wp2
                go_roundw
                case rel => exact ⟨m + 1, by omega, by go_num, by rw [HST.out]; rfl, ⟨HBq.out.drew⟩⟩
                case measure => simp [intOf]; omega
            · obtain rfl : m = book.length := by omega
              have hsz4 := HBq.out.size
              have o1 := cell_blk HO4.out 1
              simp at o1
              have hOl4 := lt_blk HO4.out
              obtain ⟨n, rfl⟩ := Int.eq_ofNat_of_zero_le a1
              have hclP := HI.out.cl
              have hnl : n < s.caches.length := by omega
              have HT := give_slab n x g _ (by omega) HW4.out.sl hOK HI.out.wf.cl
              cases hal : aliveS s x g with
              | false =>
                have hGO : giveS s n x g = (s, 41) := by rw [giveS, if_pos hth.out.symm, hal]; rfl
                have hat : atTo book (x, g) book.length = -1 := by
                  rcases atTo_spec book (x, g) book.length with ⟨h1, _⟩ | ⟨j, h1, h2, h3⟩
                  · exact h1
                  · exfalso
                    have := atTo_mem.1 (show 0 ≤ atTo book (x, g) book.length by omega)
                    rw [HI.out.bk, hal] at this
                    cases this
                rw [hGO] at HT
                rw [hat]
                clear hCB4 hat
                go_wp2_with fail
                refine HT.mono ?_
                clear HT
                rintro e w5 ⟨col2, rfl, hI5, hN5⟩
                have HW5 := Aside0.mk (HW4.out.slab hN5 hI5)
                clear hI5 hN5 hGO
                go_wp2
                go_roundw
                case rel => exact ⟨k + 1, by omega, by go_num, ⟨⟨s, had, book, col2, cc, HW5.out, HI.out.mono (by omega)⟩⟩⟩
                case measure => simp [intOf]; omega
              | true =>
                obtain ⟨hGR, hG0⟩ := give_alive (p := n) HI.out.wf hnl hal
                obtain ⟨j, hj, hjl, hje⟩ : ∃ j : Nat, atTo book (x, g) book.length = j ∧ j < book.length ∧ book.getD j (0, 0) = (x, g) := by
                  rcases atTo_spec book (x, g) book.length with ⟨h1, _⟩ | h
                  · exfalso
                    have := atTo_mem.2 ((HI.out.bk (x, g)).2 hal)
                    omega
                  · exact h
                rw [hj]
                have HI5 := Aside0.mk (HI.out.give hGR hjl hje)
                clear hCB4 hj
                go_wp2_with fail
                refine HT.mono ?_
                clear HT
                rintro e w5 ⟨col2, rfl, hI5, hN5⟩
                rw [hG0]
                have HW5 := Aside0.mk (HW4.out.slab hN5 hI5)
                obtain ⟨AB5, cB5, he, hcB5, hCB5⟩ := gid_rd HW5.out.a
                injection he with he1 he2 he3
                subst he1; subst he3; clear he2
                obtain ⟨gB, oB, rfl, hgB⟩ := C_form hCB5 (by omega) (by decide)
                obtain ⟨gB', hgB'⟩ := Kd.R_head HW5.out.a
                injection hgB' with hh1 hh2 hh3
                subst hh1; subst hh2; clear hh3
                have hN1 : book.length - 1 < book.length := by omega
                obtain ⟨ez, hez, z0, z1⟩ := gid_at hCB5 (book.length - 1) hN1
                obtain ⟨ej, hejj, j0, j1⟩ := gid_at hCB5 j hjl
                obtain ⟨cj, hcjl, -, hcjc, hcjf⟩ := Kd.R_elem HW5.out.a (0, 0) (j : Int) (by omega) (by omega)
                have hf0 := hcjf 0
                have hf1 := hcjf 1
                simp only [Int.toNat_natCast, show kG.sz = 2 from rfl, Nat.add_zero] at hf0 hf1 hcjc
                simp only [Nat.zero_add] at z0 z1 j0 j1
                have hezd : book.getD (book.length - 1) (0, 0) = ez := by rw [List.getD_eq_getElem?_getD, hez]; rfl
                have hjj : (0 : Int) ≤ (j : Int) ∧ (j : Int) < (book.length : Int) := by omega
                have hw1 : wrap64 ((book.length : Int) - 1) = ((book.length - 1 : Nat) : Int) := by unfold wrap64; omega
                have hw2 : IntKind.i64.wrap ((book.length - 1 : Nat) : Int) = ((book.length - 1 : Nat) : Int) := IntWalk.i64_in _ (by omega)
                have hw3 : (0 : Int) ≤ ((book.length - 1 : Nat) : Int) ∧ ((book.length - 1 : Nat) : Int) < (book.length : Int) := by omega
                have hw4 : ((book.length - 1 : Nat) : Int) ≤ (cB : Int) := by omega
                have hSeg := Kd.R_seg HW5.out.a (j : Int) (by omega) (by omega) (c := cj) (seg := [.int .i64 ez.1, .int .i64 ez.2]) (j := 0) (x' := ez) (okp := fun _ => False) hcjl hcjc (by show 0 + 2 ≤ 2; omega) (by
                  have h0 : cj.take 0 ++ [Value.int .i64 ez.1, Value.int .i64 ez.2] ++ cj.drop (0 + [Value.int .i64 ez.1, Value.int .i64 ez.2].length) = [Value.int .i64 ez.1, Value.int .i64 ez.2] := by
                    rw [List.drop_eq_nil_of_le (by rw [hcjl]; exact Nat.le_refl _)]; simp
                  rw [h0]; exact kG_mkM _ _ _ ez) (fun _ h => h.elim)
                rw [Int.toNat_natCast] at hSeg
                have HSeg := Aside0.mk hSeg
                have HEZ := Aside0.mk hezd
                clear hI5 hN5 hG0 hCB5 hez hejj hSeg hezd hGR hje hcjc hcjf
                skip
                go_wp2
                go_roundw
                case rel =>
                  obtain ⟨hs1, hs2⟩ := HSeg.out
                  have hK : Keep (fun i => cc i = 2) w5 ((w5.setCell ⟨gB, j * 2, none⟩ (.int .i64 ez.1)).setCell ⟨gB, j * 2 + 1, none⟩ (.int .i64 ez.2)) := grown_keep (v := .slice (some ⟨gB, 0, none⟩) book.length cB) hs2 (fun i hi => HW5.out.a.1 i hi)
                  have hr := Kd.R_take hs1 (m := book.length - 1) (by rw [List.length_set]; omega)
                  obtain ⟨cc6, hW6⟩ := HW5.out.turnA hK (Kd.R_mono hr (fun _ h => .inl h))
                  exact ⟨k + 1, by omega, by go_num, ⟨⟨_, had, swapOut book j, col2, cc6, by rw [swapOut, HEZ.out]; exact hW6, HI5.out.mono (by omega)⟩⟩⟩
                case measure => simp [intOf]; omega
        · obtain ⟨n, rfl⟩ := Int.eq_ofNat_of_zero_le a1
          have hclP := HI.out.cl
          have hFO : (flushS s n).2 = 0 := (flush_wf HI.out.wf (show n < s.caches.length by omega)).2.1
          have hFI := HI.out.flush n
          have HT := flush_slab n _ hbase1 HW1.out.sl hOK
          have HFI := Aside0.mk hFI
          clear hFI
          go_wp2_with fail
          refine HT.mono ?_
          clear HT
          rintro e w2 ⟨col2, rfl, hI2, hN2⟩
          rw [hFO]
          have HW2 := Aside0.mk (HW1.out.slab hN2 hI2)
          clear hI2 hN2 hFO
          go_wp2
          go_roundw
          case rel => exact ⟨k + 1, by omega, by go_num, ⟨⟨_, had, book, col2, cc, HW2.out, HFI.out.mono (by omega)⟩⟩⟩
          case measure => simp [intOf]; omega
        · go_wp2
          go_roundw
          case rel => exact ⟨k + 1, by omega, by go_num, ⟨⟨s, had, book, col, cc, HW1.out, HI.out.mono (by omega)⟩⟩⟩
          case measure => simp [intOf]; omega
      · rcases (show d = 0 ∨ d = 1 ∨ d = 2 ∨ (d ≠ 0 ∧ d ≠ 1 ∧ d ≠ 2) by omega) with rfl | rfl | rfl | ⟨hd, hd', hd''⟩
        · have hTO : takeS s p = (s, 0, 0, 1) := by rw [takeS, if_neg (by rw [← hth.out]; decide)]
          have HT := take_slab p _ hbase1 HW1.out.sl hOK
          go_wp2_with fail
          refine HT.mono ?_
          clear HT
          rintro e w2 ⟨col2, rfl, hI2, hN2⟩
          rw [hTO] at hI2 ⊢
          have hA2 : Below w2.heap.size w2 (w2.alloc (.cells #[.int .i64 0, .int .i64 0] 48)) := below_al (Below.refl _ _) _
          have HW2 := Aside0.mk ((HW1.out.slab hN2 hI2).below hA2)
          clear hI2 hN2 hTO
          go_wp2
          go_roundw
          case rel => exact ⟨k + 1, by omega, by go_num, ⟨⟨s, had, book, col2, cc, HW2.out, HI.out.mono (by omega)⟩⟩⟩
          case measure => simp [intOf]; omega
        · have HT := name_any ⟨1, p, q, (g1, g2)⟩ AH cH had (wr.alloc (.cells #[.int .i64 1, .int .i64 p, .int .i64 q, .int .i64 g1, .int .i64 g2] 55)) HCH1.out hcH
          go_wp2_with fail
          refine HT.mono ?_
          clear HT
          rintro e w2 ⟨rfl, hB2⟩
          simp only
          have hnm : nameS q (g1, g2) had = ((nameS q (g1, g2) had).1, (nameS q (g1, g2) had).2) := rfl
          generalize (nameS q (g1, g2) had).1 = x at *
          generalize (nameS q (g1, g2) had).2 = g at *
          clear hnm
          have hA2 : Below w2.heap.size w2 (w2.alloc (.cells #[.int .i64 x, .int .i64 g] 48)) := below_al (Below.refl _ _) _
          have hT : (w2.alloc (.cells #[.int .i64 x, .int .i64 g] 48)).heap[w2.heap.size]? = some (.cells #[.int .i64 x, .int .i64 g] 48 (0, 0)) := blk_new _ _
          have hB3 := below_then hB2 hA2
          have HW3 := Aside0.mk (HW1.out.below hB3)
          have HT3 := Aside0.mk hT
          have HO3 := Aside0.mk (blk_below HO1.out hB3)
          have hTl := lt_blk hT
          have hWs3 := hB3.size
          clear hT hB2 hB3
          go_wp2_with fail
          generalize w2.alloc (.cells #[.int .i64 x, .int .i64 g] 48) = W3 at *
          clear hA2
          go_loopw [16, 17] (fun at_ i wr => ∃ m : Nat, m ≤ book.length ∧ i = .int .i64 m ∧ at_ = .int .i64 (atTo book (x, g) m) ∧ Aside0 (Below W3.heap.size W3 wr)) (fun _ i _ => book.length - (intOf i).toNat)
          case atStart => exact ⟨0, by omega, rfl, rfl, ⟨Below.refl _ _⟩⟩
          case round =>
            obtain ⟨m, hm, rfl, rfl, HBq⟩ := hrel
            have HW4 := Aside0.mk (HW3.out.below HBq.out)
            have hT4 := blk_below HT3.out HBq.out
            have t0 := cell_blk hT4 0; have t1 := cell_blk hT4 1
            simp at t0 t1
            have hTl4 := lt_blk hT4
            have HT4 := Aside0.mk hT4
            have HO4 := Aside0.mk (blk_below HO3.out HBq.out)
            obtain ⟨AB', cB', he, -, hCB4⟩ := gid_rd HW4.out.a
            injection he with he1 he2 he3
            subst he1; subst he3
            clear hT4 he2
            by_cases hmt : m < book.length
            · obtain ⟨hb', ho', rfl, hhb⟩ := C_form hCB4 (by omega) (by decide)
              obtain ⟨e, he, c0, c1⟩ := gid_at hCB4 m hmt
              have hmi : (0 : Int) ≤ (m : Int) := by omega
              have hml : (m : Int) < (book.length : Int) := by omega
              have hst : atTo book (x, g) (m + 1) = if (e.1 == x && (e.2 == g)) then (m : Int) else atTo book (x, g) m := by
                rw [atTo, List.getD_eq_getElem?_getD, he]
                show (if e = (x, g) then _ else _) = _
                by_cases h : e = (x, g)
                · rw [if_pos h, if_pos (by rw [h]; simp)]
                · rw [if_neg h, if_neg (fun h2 => h (by simp only [Bool.and_eq_true, beq_iff_eq] at h2; exact Prod.ext h2.1 h2.2))]
              have HST := Aside0.mk hst
              clear hst he hCB4
              generalize atTo book (x, g) m = am at *
              cases heq : (e.1 == x && (e.2 == g)) with
              | true =>
                rw [heq] at HST
                go_wp2
                go_region
                go_wp2
                go_roundw
                case rel => exact ⟨m + 1, by omega, by go_num, by rw [HST.out]; rfl, ⟨HBq.out.drew⟩⟩
                case measure => simp [intOf]; omega
              | false =>
                rw [heq] at HST
                go_wp2
                go_region
                go_wp2
                go_roundw
                case rel => exact ⟨m + 1, by omega, by go_num, by rw [HST.out]; rfl, ⟨HBq.out.drew⟩⟩
                case measure => simp [intOf]; omega
            · obtain rfl : m = book.length := by omega
              have hsz4 := HBq.out.size
              have o1 := cell_blk HO4.out 1
              simp at o1
              have hOl4 := lt_blk HO4.out
              have hGO : giveS s p x g = (s, 1) := by rw [giveS, if_neg (by rw [← hth.out]; decide)]
              have HT := give_slab p x g _ (by omega) HW4.out.sl hOK HI.out.wf.cl
              rw [hGO] at HT
              clear hCB4
              go_wp2_with fail
              refine HT.mono ?_
              clear HT
              rintro e w5 ⟨col2, rfl, hI5, hN5⟩
              have HW5 := Aside0.mk (HW4.out.slab hN5 hI5)
              clear hI5 hN5 hGO
              go_wp2
              go_roundw
              case rel => exact ⟨k + 1, by omega, by go_num, ⟨⟨s, had, book, col2, cc, HW5.out, HI.out.mono (by omega)⟩⟩⟩
              case measure => simp [intOf]; omega
        · have hFO : (flushS s p).2 = 1 := by rw [flushS, if_neg (by rw [← hth.out]; decide)]
          have hFI := HI.out.flush p
          have HT := flush_slab p _ hbase1 HW1.out.sl hOK
          have HFI := Aside0.mk hFI
          clear hFI
          go_wp2_with fail
          refine HT.mono ?_
          clear HT
          rintro e w2 ⟨col2, rfl, hI2, hN2⟩
          rw [hFO]
          have HW2 := Aside0.mk (HW1.out.slab hN2 hI2)
          clear hI2 hN2 hFO
          go_wp2
          go_roundw
          case rel => exact ⟨k + 1, by omega, by go_num, ⟨⟨_, had, book, col2, cc, HW2.out, HFI.out.mono (by omega)⟩⟩⟩
          case measure => simp [intOf]; omega
        · go_wp2
          go_roundw
          case rel => exact ⟨k + 1, by omega, by go_num, ⟨⟨s, had, book, col, cc, HW1.out, HI.out.mono (by omega)⟩⟩⟩
          case measure => simp [intOf]; omega
    · obtain rfl : k = ops.length := by omega
      go_wp2
      go_ret3
      have hh := HW.out
      exact ⟨_, _, s, had, book, col, rfl, (Nx.of_below HWW.out).trans hh.nx, hh.sl, Kd.R_lower (Kd.R_mono hh.h (fun i hi => (hh.cz i (by rw [hi]; decide)).1)) HWW.out.size, Kd.R_lower (Kd.R_mono hh.a (fun i hi => (hh.cz i (by rw [hi]; decide)).1)) HWW.out.size, HI.out⟩
end Go.Proofs.Ytnglgjegkjfnaaa
set_option linter.unusedSimpArgs false
set_option linter.unusedVariables false
namespace Go.Proofs.Ytnglgjegkjfnaaa
open Go.RowKit Go.ChangeShapes Go.WideShapes Go.ChangeAt Go.Proofs.YtnglgjegkjfnaaaW.PrintWords Go.Proofs.YtnglgjegkjfnaaaW.PrintMore Go.Proofs.YtnglgjegkjfnaaaW.PrintLast
/-! awake. -/
def awS : Sl := ⟨1, [1], [true], [[]], []⟩
theorem aw_wf : Wf awS := (take_some (x := 0) (p := 0) (new_wf (limit := 1) (procs := 1) rfl) (by decide) rfl).wf
set_option maxHeartbeats 2000000 in
theorem awake_any (w : World) : Calls Try.prog 20 #[] w fun e w' => e = .returned (.bool true) ∧ Below w.heap.size w w' := by
  go_enter Try.func20, Try.ntmps20
  go_wp2_with fail
  refine (snew_any 1 1 w).mono ?_
  rintro e w1 ⟨hB1, ⟨-, b, col, rfl, hS1, hc1⟩ | ⟨h0, -⟩⟩
  · have hO1 := (new_wf (limit := 1) (procs := 1) rfl).ok
    have h1s := hB1.size
    have HT := take_slab 0 w1 (by omega) hS1 hO1
    have e1 : takeS (newS 1 1) 0 = (awS, 0, 1, 0) := rfl
    have HB1 := Aside0.mk hB1
    go_wp2_with fail
    refine HT.mono ?_
    clear HT
    rintro e w2 ⟨col2, rfl, hS2, hN2⟩
    rw [e1] at hS2 ⊢
    have hA2 : Below w2.heap.size w2 (w2.alloc (.cells #[.int .i64 0, .int .i64 1] 48)) := below_al (Below.refl _ _) _
    have hT2 : (w2.alloc (.cells #[.int .i64 0, .int .i64 1] 48)).heap[w2.heap.size]? = some (.cells #[.int .i64 0, .int .i64 1] 48 (0, 0)) := blk_new _ _
    have hN3 := hN2.trans (Nx.of_below hA2)
    have hS3 := hS2.below hA2
    have hT0 : col2 w2.heap.size = 0 := hS2.z _ (Nat.le_refl _)
    have h3s := hN3.keep.size
    have HT := take_slab 0 _ (by omega) hS3 aw_wf.ok
    have e2 : takeS awS 0 = (awS, 0, 0, 2) := rfl
    have hTl := lt_blk hT2
    have HN3 := Aside0.mk hN3
    have HT2 := Aside0.mk hT2
    clear hS2 hN2 hN3 hT2
    go_wp2_with fail
    generalize w2.alloc (.cells #[.int .i64 0, .int .i64 1] 48) = W3 at *
    refine HT.mono ?_
    clear HT
    rintro e w4 ⟨col4, rfl, hS4, hN4⟩
    rw [e2] at hS4 ⊢
    have hA4 : Below w4.heap.size w4 (w4.alloc (.cells #[.int .i64 0, .int .i64 0] 48)) := below_al (Below.refl _ _) _
    have hN5 := (HN3.out.trans hN4).trans (Nx.of_below hA4)
    have hS5 := hS4.below hA4
    have hT5 := blk_below (blk_keep HT2.out hN4.keep (fun f => f hT0)) hA4
    have t0 := cell_blk hT5 0; have t1 := cell_blk hT5 1
    simp at t0 t1
    have hTl5 := lt_blk hT5
    have HN5 := Aside0.mk hN5
    have hT1 := alive_slab 0 1 _ hS5 (by decide) rfl
    have HS5 := Aside0.mk hS5
    have a1 : aliveS awS 0 1 = true := rfl
    have a2 : aliveS awS 0 2 = false := rfl
    rw [a1] at hT1
    clear hS4 hN4 hN5 hT5 hA2 hS3
    go_wp2_with fail
    generalize w4.alloc (.cells #[.int .i64 0, .int .i64 0] 48) = W5 at *
    refine hT1.mono ?_
    clear hT1
    rintro e w6 ⟨rfl, hB6⟩
    have hT1 := alive_slab 0 2 _ (HS5.out.below hB6) (by decide) rfl
    rw [a2] at hT1
    go_wp2_with fail
    refine hT1.mono ?_
    clear hT1
    rintro e w7 ⟨rfl, hB7⟩
    go_wp2
    go_ret
    have hN7 := (HN5.out.trans (Nx.of_below hB6)).trans (Nx.of_below hB7)
    exact ⟨rfl, below_then_keep HB1.out h1s hN7.keep (fun i hi => by
      rcases Nat.lt_or_ge i w.heap.size with h | h
      · exact absurd (hc1 i h) hi
      · exact h)⟩
  · cases h0
end Go.Proofs.Ytnglgjegkjfnaaa
set_option linter.unusedSimpArgs false
set_option linter.unusedVariables false
namespace Go.Proofs.Ytnglgjegkjfnaaa
open Go.RowKit Go.ChangeShapes Go.WideShapes Go.ChangeAt Go.Proofs.YtnglgjegkjfnaaaW.PrintWords Go.Proofs.YtnglgjegkjfnaaaW.PrintMore Go.Proofs.YtnglgjegkjfnaaaW.PrintLast
/-! A script, read. -/
def kScr : Kd (Int × Int × List SOp) := Kd.pair (Kd.int .i64) (Kd.pair (Kd.int .i64) (Kd.slice 55 kSOp))
theorem kScr_open {w : World} {x : Int × Int × List SOp} {cs : List Value} (h : kScr.K w x cs) : ∃ A c, cs = [.int .i64 x.1, .int .i64 x.2.1, .slice A x.2.2.length c] ∧ x.2.2.length ≤ c ∧ kSOp.C w A x.2.2.length x.2.2 := by
  obtain ⟨_, _, rfl, rfl, _, _, rfl, rfl, A, c, rfl, hc, hC⟩ := h
  exact ⟨A, c, rfl, hc, hC⟩
theorem opensSOp : Op.Opens Try.prog kSOp 55 (fun _ => True) (fun _ => 1) :=
  Op.opens_mono (Op.opens_struct Try.underlying55 (by kernel_rfl) (Op.opens_isoF (Op.opensF_cons rfl (by kernel_rfl) (by decide) (Op.opens_int Try.underlying3) (Op.opensF_cons rfl (by kernel_rfl) (by decide) (Op.opens_int Try.underlying3) (Op.opensF_cons rfl (by kernel_rfl) (by decide) (Op.opens_int Try.underlying3)
    (Op.opensF_last rfl (by kernel_rfl) (Op.opens_struct Try.underlying48 (by kernel_rfl) (Op.opensF_cons rfl (by kernel_rfl) (by decide) (Op.opens_int Try.underlying3) (Op.opensF_last rfl (by kernel_rfl) (Op.opens_int Try.underlying3))))))))
      (fun o : SOp => (o.d, o.p, o.k, o.g.1, o.g.2)) (fun x => ⟨x.1, x.2.1, x.2.2.1, x.2.2.2.1, x.2.2.2.2⟩) (fun _ => rfl))) (fun _ _ => trivial) (fun _ => by simp)
theorem sum_one {α : Type} (xs : List α) : xs.length ≤ (xs.map (fun _ => 1)).sum + 1 := by
  induction xs with
  | nil => exact Nat.zero_le _
  | cons x xs ih => rw [List.map_cons, List.sum_cons, List.length_cons]; omega
/-- Is one of the first m of the book g? -/
def anyTo (book : List (Int × Int)) (g : Int × Int) : Nat → Bool
  | 0 => false
  | m + 1 => anyTo book g m || (book.getD m (0, 0) == g)
/-- The slab and the book behind names, for the laws. -/
structure After (w wr : World) (base b : Nat) (col : Nat → Nat) (L P : Int) (k : Nat) (s : Sl) (vh va : Value) (had book : List (Int × Int)) : Prop where
  below : Below w.heap.size w wr
  sl : IsSlab TS wr base b col s
  h : kG.R 48 wr base (fun i => col i = 0) vh had
  a : kG.R 48 wr base (fun i => col i = 0) va book
  i : NmI k L P s had book
  cb : ∀ i, col i ≠ 0 → w.heap.size ≤ i
  bs : base ≤ wr.heap.size
theorem After.then {w wr w' : World} {base b k : Nat} {col : Nat → Nat} {L P : Int} {s : Sl} {vh va : Value} {had book : List (Int × Int)} (h : After w wr base b col L P k s vh va had book) (hB : Below wr.heap.size wr w') : After w w' base b col L P k s vh va had book :=
  ⟨below_then h.below hB, h.sl.below hB, Kd.R_below h.h hB, Kd.R_below h.a hB, h.i, h.cb, by have := h.bs; have := hB.size; omega⟩
theorem after_names {w0 w w' : World} {b : Nat} {col0 : Nat → Nat} {L P : Int} {k : Nat} {e : Ending} (hB : Below w0.heap.size w0 w) (hz : ∀ i, w.heap.size ≤ i → col0 i = 0) (hc : ∀ i, i < w0.heap.size → col0 i = 0) (h : NamesP w w0.heap.size b col0 L P k e w') : ∃ vh va s had book col, e = .returned (.tuple #[vh, va, .bool true]) ∧ After w0 w' w0.heap.size b col L P k s vh va had book := by
  obtain ⟨vh, va, s, had, book, col, he, hN, hS, hh, ha, hI⟩ := h
  have hs := hB.size
  refine ⟨vh, va, s, had, book, col, he, ⟨below_then_keep hB hs hN.keep (fun i hi => ?_), hS, Kd.R_lower hh hs, Kd.R_lower ha hs, hI, hS.base_le, by have := hN.keep.size; omega⟩⟩
  rcases Nat.lt_or_ge i w0.heap.size with h | h
  · exact absurd (hc i h) hi
  · exact h
end Go.Proofs.Ytnglgjegkjfnaaa
