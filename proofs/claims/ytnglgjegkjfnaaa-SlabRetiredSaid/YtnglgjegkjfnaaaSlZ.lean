import Derived.Test.YtnglgjegkjfnaaaSlY
set_option linter.unusedSimpArgs false
set_option linter.unusedVariables false
namespace Go.Proofs.Ytnglgjegkjfnaaa
open Go.RowKit Go.ChangeShapes Go.WideShapes Go.ChangeAt Go.Proofs.YtnglgjegkjfnaaaW.PrintWords Go.Proofs.YtnglgjegkjfnaaaW.PrintMore Go.Proofs.YtnglgjegkjfnaaaW.PrintLast
/-! The statement's own book: what holds behind k calls. -/
structure NmI (k : Nat) (L P : Int) (s : Sl) (had book : List (Int × Int)) : Prop where
  wf : Wf s
  lim : s.limit = L
  cl : (s.caches.length : Int) = P
  hh : ∀ q ∈ had, 0 ≤ q.1 ∧ q.2 ≤ genAt s q.1.toNat
  bd : book.Nodup
  bk : ∀ q : Int × Int, q ∈ book ↔ aliveS s q.1 q.2 = true
  bl : book.length = liveS s
  gn : ∀ i, genAt s i ≤ k
  hl : had.length ≤ k
theorem NmI.mono {k m : Nat} {L P : Int} {s : Sl} {had book : List (Int × Int)} (h : NmI k L P s had book) (hk : k ≤ m) : NmI m L P s had book :=
  ⟨h.wf, h.lim, h.cl, h.hh, h.bd, h.bk, h.bl, fun i => by have := h.gn i; omega, by have := h.hl; omega⟩
theorem NmI.fresh {k : Nat} {L P : Int} {s s' : Sl} {had book : List (Int × Int)} {x g : Int} (h : NmI k L P s had book) (ht : TakeR s s' x g) : (x, g) ∉ had ∧ (x, g) ∉ book := by
  refine ⟨fun hm => ?_, fun hm => ?_⟩
  · have h1 := (h.hh _ hm).2
    have h2 := ht.ge
    simp only at h1
    omega
  · have h1 := (aliveS_iff h.wf.a).1 ((h.bk _).1 hm)
    have h2 := ht.ge
    have h3 := h1.2.2
    simp only at h3
    omega
theorem NmI.take {k : Nat} {L P : Int} {s s' : Sl} {had book : List (Int × Int)} {x g : Int} (h : NmI k L P s had book) (ht : TakeR s s' x g) : NmI (k + 1) L P s' (had ++ [(x, g)]) (book ++ [(x, g)]) := by
  obtain ⟨f1, f2⟩ := h.fresh ht
  refine ⟨ht.wf, ht.lim.trans h.lim, by rw [ht.cl]; exact h.cl, fun q hq => ?_, ?_, fun q => ?_, ?_, fun i => ?_, by rw [List.length_append, List.length_singleton]; have := h.hl; omega⟩
  · rw [ht.gen]
    rcases List.mem_append.1 hq with hq | hq
    · obtain ⟨h1, h2⟩ := h.hh q hq
      refine ⟨h1, ?_⟩
      split
      · rename_i e; rw [e] at h2; have := ht.ge; omega
      · exact h2
    · rw [List.mem_singleton.1 hq]
      exact ⟨ht.x0, by rw [if_pos rfl]; exact Int.le_refl _⟩
  · exact List.nodup_append.2 ⟨h.bd, by simp, fun a ha b hb => by rw [List.mem_singleton.1 hb]; rintro rfl; exact f2 ha⟩
  · rw [ht.al, List.mem_append, List.mem_singleton]
    constructor
    · rintro (hq | rfl)
      · by_cases e : q.1 = x
        · have h1 := (h.bk q).1 hq
          have h2 := ((ht.al q.1 q.2)).2
          -- x was not alive
          exfalso
          have h3 := (aliveS_iff h.wf.a).1 h1
          have h4 : aliveS s' x (genAt s x.toNat) = true ↔ _ := ht.al x (genAt s x.toNat)
          have h5 := ht.live
          have hlive : aliveAt s x.toNat = false := by
            cases ha : aliveAt s x.toNat with
            | false => rfl
            | true =>
              exfalso
              have key := ht.al
              have : s'.alive.countP id = s.alive.countP id + 1 := h5
              -- alive in s, so every mark of s' is one of s
              have hsub : ∀ j, aliveAt s' j = true → aliveAt s j = true := fun j hj => by
                by_cases ej : (j : Int) = x
                · rw [← ej, Int.toNat_natCast] at ha; exact ha
                · have h6 := (key j (genAt s' j)).1 ((aliveS_iff ht.wf.a).2 ⟨by omega, by rw [Int.toNat_natCast]; exact hj, by rw [Int.toNat_natCast]⟩)
                  rcases h6 with ⟨h6, _⟩ | ⟨_, h6⟩
                  · exact absurd h6 ej
                  · have h7 := ((aliveS_iff h.wf.a).1 h6).2.1
                    rw [Int.toNat_natCast] at h7
                    exact h7
              have hle : ∀ (a b : List Bool), (∀ j, a.getD j false = true → b.getD j false = true) → a.countP id ≤ b.countP id := by
                intro a
                induction a with
                | nil => intro b _; simp
                | cons v a ih =>
                  intro b hb
                  cases b with
                  | nil =>
                    have : ∀ u ∈ v :: a, u = false := fun u hu => by
                      obtain ⟨j, hj, rfl⟩ := List.getElem_of_mem hu
                      cases hv : (v :: a)[j] with
                      | false => rfl
                      | true =>
                        have h8 := hb j (by rw [List.getD_eq_getElem?_getD, List.getElem?_eq_getElem hj, hv]; rfl)
                        simp at h8
                    have h9 : (v :: a).countP id = 0 := List.countP_eq_zero.2 fun u hu => by rw [this u hu]; decide
                    rw [h9]; exact Nat.zero_le _
                  | cons u b =>
                    have h8 := ih b (fun j hj => hb (j + 1) hj)
                    have h9 := hb 0
                    simp only [List.getD_cons_zero] at h9
                    simp only [List.countP_cons]
                    cases v with
                    | false => simp; omega
                    | true => rw [h9 rfl]; simp; omega
              have := hle s'.alive s.alive hsub
              omega
          rw [e, hlive] at h3
          cases h3.2.1
        · exact .inr ⟨e, (h.bk q).1 hq⟩
      · exact .inl ⟨rfl, rfl⟩
    · rintro (⟨h1, h2⟩ | ⟨_, h2⟩)
      · exact .inr (Prod.ext h1 h2)
      · exact .inl ((h.bk q).2 h2)
  · rw [List.length_append, List.length_singleton, h.bl, ht.live]
  · rw [ht.gen]
    split
    · have := ht.ge; have := h.gn x.toNat; omega
    · have := h.gn i; omega
/-- The place of the last one that is g; -1: it stands nowhere. -/
def atTo (book : List (Int × Int)) (g : Int × Int) : Nat → Int
  | 0 => -1
  | k + 1 => if book.getD k (0, 0) = g then (k : Int) else atTo book g k
/-- The last one in the place of the one that goes. -/
def swapOut (book : List (Int × Int)) (j : Nat) : List (Int × Int) := (book.set j (book.getD (book.length - 1) (0, 0))).take (book.length - 1)
/-! In memory. -/
structure NmW (w wr : World) (base b : Nat) (col0 col cc : Nat → Nat) (s : Sl) (vh va : Value) (had book : List (Int × Int)) : Prop where
  nx : Nx w col0 wr col
  sl : IsSlab TS wr base b col s
  h : kG.R 48 wr w.heap.size (fun k => cc k = 1) vh had
  a : kG.R 48 wr w.heap.size (fun k => cc k = 2) va book
  cz : ∀ k, cc k ≠ 0 → col k = 0 ∧ w.heap.size ≤ k ∧ k < wr.heap.size
section
variable {w wr w' : World} {base b : Nat} {col0 col col' cc : Nat → Nat} {s s' : Sl} {vh va v1 : Value} {had book l1 : List (Int × Int)}
theorem NmW.below (h : NmW w wr base b col0 col cc s vh va had book) (hB : Below wr.heap.size wr w') : NmW w w' base b col0 col cc s vh va had book :=
  ⟨h.nx.trans (Nx.of_below hB), h.sl.below hB, Kd.R_below h.h hB, Kd.R_below h.a hB, fun k hk => by have := h.cz k hk; have := hB.size; omega⟩
theorem NmW.slab (h : NmW w wr base b col0 col cc s vh va had book) (hN : Nx wr col w' col') (hS : IsSlab TS w' base b col' s') : NmW w w' base b col0 col' cc s' vh va had book :=
  ⟨h.nx.trans hN, hS, Kd.R_step h.h (fun k hk hl => hN.keep.block k hl (fun f => f (h.cz k (by rw [hk]; decide)).1)), Kd.R_step h.a (fun k hk hl => hN.keep.block k hl (fun f => f (h.cz k (by rw [hk]; decide)).1)),
   fun k hk => by have h1 := h.cz k hk; have := hN.keep.size; exact ⟨(hN.cols k h1.2.2).trans h1.1, h1.2.1, by omega⟩⟩
/-- One of the two rows is turned (1: had, 2: book). -/
theorem NmW.turn (h : NmW w wr base b col0 col cc s vh va had book) {c : Nat} (hc : c = 1 ∨ c = 2) (hk : Keep (fun k => cc k = c) wr w') (hr : kG.R 48 w' w.heap.size (fun k => cc k = c ∨ wr.heap.size ≤ k) v1 l1) :
    ∃ cc', NmW w w' base b col0 col cc' s (if c = 1 then v1 else vh) (if c = 1 then va else v1) (if c = 1 then l1 else had) (if c = 1 then book else l1) := by
  have hcn : c ≠ 0 := by omega
  have hcol : ∀ k, cc k = c → col k = 0 := fun k hk => (h.cz k (by rw [hk]; exact hcn)).1
  have hzl : ∀ k, wr.heap.size ≤ k → cc k = 0 := fun k hk => by
    by_cases e : cc k = 0
    · exact e
    · have := (h.cz k e).2.2; omega
  have hz := h.sl.z
  have hs := hk.size
  have hold : ∀ {d : Nat} {v : Value} {l : List (Int × Int)}, d ≠ c → kG.R 48 wr w.heap.size (fun k => cc k = d) v l → kG.R 48 w' w.heap.size (fun k => paint cc c wr.heap.size w'.heap.size k = d) v l := fun {d v l} hd hr =>
    Kd.R_mono (Kd.R_step (Kd.R_bound hr) (fun k ho hl => hk.block k hl (fun f => hd (ho.1.symm.trans f)))) (fun k ho => by rw [paint_old ho.2.2.1]; exact ho.1)
  have hnew : kG.R 48 w' w.heap.size (fun k => paint cc c wr.heap.size w'.heap.size k = c) v1 l1 := Kd.R_mono (Kd.R_bound hr) (fun k ho => by
    rcases Nat.lt_or_ge k wr.heap.size with hl | hl
    · rw [paint_old hl]
      rcases ho.1 with h1 | h1
      · exact h1
      · omega
    · exact paint_new hl ho.2.2.1)
  have hslab : IsSlab TS w' base b col s := h.sl.keep hk hcol
  have hnx : Nx w col0 w' col := ⟨h.nx.keep.trans' hk (fun i hi f => by have := (h.cz i (by rw [f]; exact hcn)).2.1; omega), h.nx.cols⟩
  have hcz : ∀ k, paint cc c wr.heap.size w'.heap.size k ≠ 0 → col k = 0 ∧ w.heap.size ≤ k ∧ k < w'.heap.size := fun k hk' => by
    by_cases hn : wr.heap.size ≤ k ∧ k < w'.heap.size
    · exact ⟨hz k hn.1, Nat.le_trans h.nx.keep.size hn.1, hn.2⟩
    · unfold paint at hk'
      rw [if_neg hn] at hk'
      have := h.cz k hk'
      exact ⟨this.1, this.2.1, by omega⟩
  refine ⟨paint cc c wr.heap.size w'.heap.size, hnx, hslab, ?_, ?_, hcz⟩
  · rcases hc with rfl | rfl
    · exact hnew
    · exact hold (by decide) h.h
  · rcases hc with rfl | rfl
    · exact hold (by decide) h.a
    · exact hnew
end
end Go.Proofs.Ytnglgjegkjfnaaa
