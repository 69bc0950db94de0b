import Derived.Test.YtnglgjegkjfnaaaSlY
import Derived.Deep.DrawnRows
set_option linter.unusedSimpArgs false
set_option linter.unusedVariables false
namespace Go.Proofs.Ytnglgjegkjfnaaa
open Go.RowKit Go.ChangeShapes Go.WideShapes Go.ChangeAt Go.Proofs.YtnglgjegkjfnaaaW.PrintWords Go.Proofs.YtnglgjegkjfnaaaW.PrintMore Go.Proofs.YtnglgjegkjfnaaaW.PrintLast
/-! The statement's own book: what holds behind k calls. -/
structure NmI (k : Nat) (L P : Int) (s : Sl) (had book : List (Int × Int)) : Prop where
  wf : Wf s
  lim : s.limit = L
  cl : (s.caches.length : Int) = P
  hh : ∀ q ∈ had, 0 ≤ q.1 ∧ q.2 ≤ genAt s q.1.toNat
  bd : book.Nodup
  bk : ∀ q : Int × Int, q ∈ book ↔ aliveS s q.1 q.2 = true
  bl : book.length = liveS s
  gn : ∀ i, genAt s i ≤ k
  hl : had.length ≤ k
/-- The place of the last one that is g; -1: it stands nowhere. -/
def atTo (book : List (Int × Int)) (g : Int × Int) : Nat → Int
  | 0 => -1
  | k + 1 => if book.getD k (0, 0) = g then (k : Int) else atTo book g k
/-- The last one in the place of the one that goes. -/
def swapOut (book : List (Int × Int)) (j : Nat) : List (Int × Int) := (book.set j (book.getD (book.length - 1) (0, 0))).take (book.length - 1)
/-! In memory. -/
structure NmW (w wr : World) (base b : Nat) (col0 col cc : Nat → Nat) (s : Sl) (vh va : Value) (had book : List (Int × Int)) : Prop where
  nx : Nx w col0 wr col
  sl : IsSlab TS wr base b col s
  h : kG.R 48 wr w.heap.size (fun k => cc k = 1) vh had
  a : kG.R 48 wr w.heap.size (fun k => cc k = 2) va book
  cz : ∀ k, cc k ≠ 0 → col k = 0 ∧ w.heap.size ≤ k ∧ k < wr.heap.size
section
variable {w wr w' : World} {base b : Nat} {col0 col col' cc : Nat → Nat} {s s' : Sl} {vh va v1 : Value} {had book l1 : List (Int × Int)}
/-- One of the two rows is turned (1: had, 2: book). -/
theorem NmW.turn (h : NmW w wr base b col0 col cc s vh va had book) {c : Nat} (hc : c = 1 ∨ c = 2) (hk : Keep (fun k => cc k = c) wr w') (hr : kG.R 48 w' w.heap.size (fun k => cc k = c ∨ wr.heap.size ≤ k) v1 l1) :
    ∃ cc', NmW w w' base b col0 col cc' s (if c = 1 then v1 else vh) (if c = 1 then va else v1) (if c = 1 then l1 else had) (if c = 1 then book else l1) := by
  have hcn : c ≠ 0 := by omega
  have hcol : ∀ k, cc k = c → col k = 0 := fun k hk => (h.cz k (by rw [hk]; exact hcn)).1
  have hzl : ∀ k, wr.heap.size ≤ k → cc k = 0 := fun k hk => by
    by_cases e : cc k = 0
    · exact e
    · have := (h.cz k e).2.2; omega
  have hz := h.sl.z
  have hs := hk.size
  have hold : ∀ {d : Nat} {v : Value} {l : List (Int × Int)}, d ≠ c → kG.R 48 wr w.heap.size (fun k => cc k = d) v l → kG.R 48 w' w.heap.size (fun k => paint cc c wr.heap.size w'.heap.size k = d) v l := fun {d v l} hd hr =>
    Kd.R_mono (Kd.R_step (Kd.R_bound hr) (fun k ho hl => hk.block k hl (fun f => hd (ho.1.symm.trans f)))) (fun k ho => by rw [paint_old ho.2.2.1]; exact ho.1)
  have hnew : kG.R 48 w' w.heap.size (fun k => paint cc c wr.heap.size w'.heap.size k = c) v1 l1 := Kd.R_mono (Kd.R_bound hr) (fun k ho => by
    rcases Nat.lt_or_ge k wr.heap.size with hl | hl
    · rw [paint_old hl]
      rcases ho.1 with h1 | h1
      · exact h1
      · omega
    · exact paint_new hl ho.2.2.1)
  have hslab : IsSlab TS w' base b col s := h.sl.keep hk hcol
  have hnx : Nx w col0 w' col := ⟨h.nx.keep.trans' hk (fun i hi f => by have := (h.cz i (by rw [f]; exact hcn)).2.1; omega), h.nx.cols⟩
  have hcz : ∀ k, paint cc c wr.heap.size w'.heap.size k ≠ 0 → col k = 0 ∧ w.heap.size ≤ k ∧ k < w'.heap.size := fun k hk' => by
    by_cases hn : wr.heap.size ≤ k ∧ k < w'.heap.size
    · exact ⟨hz k hn.1, Nat.le_trans h.nx.keep.size hn.1, hn.2⟩
    · unfold paint at hk'
      rw [if_neg hn] at hk'
      have := h.cz k hk'
      exact ⟨this.1, this.2.1, by omega⟩
  refine ⟨paint cc c wr.heap.size w'.heap.size, hnx, hslab, ?_, ?_, hcz⟩
  · rcases hc with rfl | rfl
    · exact hnew
    · exact hold (by decide) h.h
  · rcases hc with rfl | rfl
    · exact hold (by decide) h.a
    · exact hnew
end
end Go.Proofs.Ytnglgjegkjfnaaa
set_option linter.unusedSimpArgs false
set_option linter.unusedVariables false
namespace Go.Proofs.Ytnglgjegkjfnaaa
open Go.RowKit Go.ChangeShapes Go.WideShapes Go.ChangeAt Go.Proofs.YtnglgjegkjfnaaaW.PrintWords Go.Proofs.YtnglgjegkjfnaaaW.PrintMore Go.Proofs.YtnglgjegkjfnaaaW.PrintLast
/-! names: printed by gen04f.py. -/
def kSOp : Kd SOp := Kd.iso (Kd.pair (Kd.int .i64) (Kd.pair (Kd.int .i64) (Kd.pair (Kd.int .i64) (Kd.pair (Kd.int .i64) (Kd.int .i64))))) (fun o : SOp => (o.d, o.p, o.k, o.g.1, o.g.2))
theorem kSOp_open {w : World} {o : SOp} {cs : List Value} (h : kSOp.K w o cs) : cs = [.int .i64 o.d, .int .i64 o.p, .int .i64 o.k, .int .i64 o.g.1, .int .i64 o.g.2] := by
  obtain ⟨_, _, rfl, rfl, _, _, rfl, rfl, _, _, rfl, rfl, _, _, rfl, rfl, rfl⟩ := h
  rfl
theorem sop_at {w : World} {b off n : Nat} {xs : List SOp} (h : kSOp.C w (some ⟨b, off, none⟩) n xs) (i : Nat) (hi : i < n) : ∃ o, xs[i]? = some o ∧ w.cell? ⟨b, off + i * 5, none⟩ = some (.int .i64 o.d) ∧ w.cell? ⟨b, off + i * 5 + 1, none⟩ = some (.int .i64 o.p) ∧ w.cell? ⟨b, off + i * 5 + 2, none⟩ = some (.int .i64 o.k) ∧ w.cell? ⟨b, off + i * 5 + 3, none⟩ = some (.int .i64 o.g.1) ∧ w.cell? ⟨b, off + i * 5 + 4, none⟩ = some (.int .i64 o.g.2) := by
  obtain ⟨ad, e, hc⟩ := h.2.2 (by omega)
  injection e with e
  subst e
  have hl : i < xs.length := by have := h.1; omega
  obtain ⟨cs, hcl, hK, hat⟩ := hc i _ (List.getElem?_eq_getElem hl)
  obtain rfl := kSOp_open hK
  refine ⟨_, List.getElem?_eq_getElem hl, ?_, ?_, ?_, ?_, ?_⟩
  · have := hat 0 _ rfl; rw [adds] at this; exact this
  · have := hat 1 _ rfl; rw [adds, ← Nat.add_assoc] at this; exact this
  · have := hat 2 _ rfl; rw [adds, ← Nat.add_assoc] at this; exact this
  · have := hat 3 _ rfl; rw [adds, ← Nat.add_assoc] at this; exact this
  · have := hat 4 _ rfl; rw [adds, ← Nat.add_assoc] at this; exact this
/-- What names keeps from round to round. -/
def NmL (W : World) (base b : Nat) (col0 : Nat → Nat) (L P : Int) (k : Nat) (vh va : Value) (wr : World) : Prop := ∃ s had book col cc, NmW W wr base b col0 col cc s vh va had book ∧ NmI k L P s had book
theorem gid_rd {w : World} {base : Nat} {ok : Nat → Prop} {v : Value} {l : List (Int × Int)} (h : kG.R 48 w base ok v l) : ∃ A c, v = .slice A l.length c ∧ l.length ≤ c ∧ kG.C w A l.length l := Kd.R_reads h
attribute [local go_sem high] eqG
end Go.Proofs.Ytnglgjegkjfnaaa
set_option linter.unusedSimpArgs false
set_option linter.unusedVariables false
namespace Go.Proofs.Ytnglgjegkjfnaaa
open Go.RowKit Go.ChangeShapes Go.WideShapes Go.ChangeAt Go.Proofs.YtnglgjegkjfnaaaW.PrintWords Go.Proofs.YtnglgjegkjfnaaaW.PrintMore Go.Proofs.YtnglgjegkjfnaaaW.PrintLast
/-! awake. -/
def awS : Sl := ⟨1, [1], [true], [[]], []⟩
theorem aw_wf : Wf awS := (take_some (x := 0) (p := 0) (new_wf (limit := 1) (procs := 1) rfl) (by decide) rfl).wf
set_option maxHeartbeats 2000000 in
theorem awake_any (w : World) : Calls Try.prog 20 #[] w fun e w' => e = .returned (.bool true) ∧ Below w.heap.size w w' := by
  go_enter Try.func20, Try.ntmps20
  go_wp2_with fail
  refine (snew_any 1 1 w).mono ?_
  rintro e w1 ⟨hB1, ⟨-, b, col, rfl, hS1, hc1⟩ | ⟨h0, -⟩⟩
  · have hO1 := (new_wf (limit := 1) (procs := 1) rfl).ok
    have h1s := hB1.size
    have HT := take_slab 0 w1 (by omega) hS1 hO1
    have e1 : takeS (newS 1 1) 0 = (awS, 0, 1, 0) := rfl
    have HB1 := Aside0.mk hB1
    go_wp2_with fail
    refine HT.mono ?_
    clear HT
    rintro e w2 ⟨col2, rfl, hS2, hN2⟩
    rw [e1] at hS2 ⊢
    have hA2 : Below w2.heap.size w2 (w2.alloc (.cells #[.int .i64 0, .int .i64 1] 48)) := below_al (Below.refl _ _) _
    have hT2 : (w2.alloc (.cells #[.int .i64 0, .int .i64 1] 48)).heap[w2.heap.size]? = some (.cells #[.int .i64 0, .int .i64 1] 48 (0, 0)) := blk_new _ _
    have hN3 := hN2.trans (Nx.of_below hA2)
    have hS3 := hS2.below hA2
    have hT0 : col2 w2.heap.size = 0 := hS2.z _ (Nat.le_refl _)
    have h3s := hN3.keep.size
    have HT := take_slab 0 _ (by omega) hS3 aw_wf.ok
    have e2 : takeS awS 0 = (awS, 0, 0, 2) := rfl
    have hTl := lt_blk hT2
    have HN3 := Aside0.mk hN3
    have HT2 := Aside0.mk hT2
    clear hS2 hN2 hN3 hT2
    go_wp2_with fail
    generalize w2.alloc (.cells #[.int .i64 0, .int .i64 1] 48) = W3 at *
    refine HT.mono ?_
    clear HT
    rintro e w4 ⟨col4, rfl, hS4, hN4⟩
    rw [e2] at hS4 ⊢
    have hA4 : Below w4.heap.size w4 (w4.alloc (.cells #[.int .i64 0, .int .i64 0] 48)) := below_al (Below.refl _ _) _
    have hN5 := (HN3.out.trans hN4).trans (Nx.of_below hA4)
    have hS5 := hS4.below hA4
    have hT5 := blk_below (blk_keep HT2.out hN4.keep (fun f => f hT0)) hA4
    have t0 := cell_blk hT5 0; have t1 := cell_blk hT5 1
    simp at t0 t1
    have hTl5 := lt_blk hT5
    have HN5 := Aside0.mk hN5
    have hT1 := alive_slab 0 1 _ hS5 (by decide) rfl
    have HS5 := Aside0.mk hS5
    have a1 : aliveS awS 0 1 = true := rfl
    have a2 : aliveS awS 0 2 = false := rfl
    rw [a1] at hT1
    clear hS4 hN4 hN5 hT5 hA2 hS3
    go_wp2_with fail
    generalize w4.alloc (.cells #[.int .i64 0, .int .i64 0] 48) = W5 at *
    refine hT1.mono ?_
    clear hT1
    rintro e w6 ⟨rfl, hB6⟩
    have hT1 := alive_slab 0 2 _ (HS5.out.below hB6) (by decide) rfl
    rw [a2] at hT1
    go_wp2_with fail
    refine hT1.mono ?_
    clear hT1
    rintro e w7 ⟨rfl, hB7⟩
    go_wp2
    go_ret
    have hN7 := (HN5.out.trans (Nx.of_below hB6)).trans (Nx.of_below hB7)
    exact ⟨rfl, below_then_keep HB1.out h1s hN7.keep (fun i hi => by
      rcases Nat.lt_or_ge i w.heap.size with h | h
      · exact absurd (hc1 i h) hi
      · exact h)⟩
  · cases h0
end Go.Proofs.Ytnglgjegkjfnaaa
set_option linter.unusedSimpArgs false
set_option linter.unusedVariables false
namespace Go.Proofs.Ytnglgjegkjfnaaa
open Go.RowKit Go.ChangeShapes Go.WideShapes Go.ChangeAt Go.Proofs.YtnglgjegkjfnaaaW.PrintWords Go.Proofs.YtnglgjegkjfnaaaW.PrintMore Go.Proofs.YtnglgjegkjfnaaaW.PrintLast
/-! A script, read. -/
theorem opensSOp : Op.Opens Try.prog kSOp 55 (fun _ => True) (fun _ => 1) :=
  Op.opens_mono (Op.opens_struct Try.underlying55 (by kernel_rfl) (Op.opens_isoF (Op.opensF_cons rfl (by kernel_rfl) (by decide) (Op.opens_int Try.underlying3) (Op.opensF_cons rfl (by kernel_rfl) (by decide) (Op.opens_int Try.underlying3) (Op.opensF_cons rfl (by kernel_rfl) (by decide) (Op.opens_int Try.underlying3)
    (Op.opensF_last rfl (by kernel_rfl) (Op.opens_struct Try.underlying48 (by kernel_rfl) (Op.opensF_cons rfl (by kernel_rfl) (by decide) (Op.opens_int Try.underlying3) (Op.opensF_last rfl (by kernel_rfl) (Op.opens_int Try.underlying3))))))))
      (fun o : SOp => (o.d, o.p, o.k, o.g.1, o.g.2)) (fun x => ⟨x.1, x.2.1, x.2.2.1, x.2.2.2.1, x.2.2.2.2⟩) (fun _ => rfl))) (fun _ _ => trivial) (fun _ => by simp)
/-- Is one of the first m of the book g? -/
def anyTo (book : List (Int × Int)) (g : Int × Int) : Nat → Bool
  | 0 => false
  | m + 1 => anyTo book g m || (book.getD m (0, 0) == g)
/-- The slab and the book behind names, for the laws. -/
structure After (w wr : World) (base b : Nat) (col : Nat → Nat) (L P : Int) (k : Nat) (s : Sl) (vh va : Value) (had book : List (Int × Int)) : Prop where
  below : Below w.heap.size w wr
  sl : IsSlab TS wr base b col s
  h : kG.R 48 wr base (fun i => col i = 0) vh had
  a : kG.R 48 wr base (fun i => col i = 0) va book
  i : NmI k L P s had book
  cb : ∀ i, col i ≠ 0 → w.heap.size ≤ i
  bs : base ≤ wr.heap.size
end Go.Proofs.Ytnglgjegkjfnaaa
