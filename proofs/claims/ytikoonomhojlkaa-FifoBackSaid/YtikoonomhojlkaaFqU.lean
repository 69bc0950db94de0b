import Derived.Test.YtikoonomhojlkaaFqL
import Derived.Test.YtikoonomhojlkaaFqP
import Derived.Test.YtikoonomhojlkaaPFifoLoadsx3
import Derived.Test.YtikoonomhojlkaaPFifoLoadsx4
import Derived.Test.YtikoonomhojlkaaPFifoLoadsx5
set_option linter.unusedSimpArgs false
set_option linter.unusedVariables false
namespace Go.Proofs.Ytikoonomhojlkaa
open Go.RowKit Go.Proofs.YtikoonomhojlkaaW.PrintWords Go.Proofs.YtikoonomhojlkaaW.PrintMore Go.Proofs.YtikoonomhojlkaaW.PrintLast PFifoLoads
/-! The document's functions (the print's plain words) are the plain words of the queue. -/
theorem wr1 {i : Nat} (h : i < 8796093022208000) : wrap64 ((i : Int) + 1) = ((i + 1 : Nat) : Int) := by unfold wrap64; omega
theorem rdW_at {l : List Wt} {i : Nat} {x : Wt} (h : l[i]? = some x) : rd_T32 l (i : Int) = x := by
  show l.getD _ _ = x
  rw [Int.toNat_natCast, List.getD_eq_getElem?_getD, h]
  rfl
theorem at_ {α : Type} {l : List α} {i : Nat} (h : i < l.length) : ∃ x, l[i]? = some x := ⟨_, List.getElem?_eq_getElem h⟩
theorem drop_cons {l : List Wt} {i : Nat} {x : Wt} (h : l[i]? = some x) : l.drop i = x :: l.drop (i + 1) := by
  obtain ⟨hi, rfl⟩ := List.getElem?_eq_some_iff.1 h
  exact List.drop_eq_getElem_cons hi
theorem take_snoc {α : Type} {l : List α} {k : Nat} {x : α} (h : l[k]? = some x) : l.take (k + 1) = l.take k ++ [x] := by
  rw [List.take_add_one, h]; rfl
end Go.Proofs.Ytikoonomhojlkaa
set_option linter.unusedSimpArgs false
set_option linter.unusedVariables false
namespace Go.Proofs.Ytikoonomhojlkaa
open Go.RowKit Go.Proofs.YtikoonomhojlkaaW.PrintWords Go.Proofs.YtikoonomhojlkaaW.PrintMore Go.Proofs.YtikoonomhojlkaaW.PrintLast PFifoLoads
/-! Put, Load, same in plain words. -/
theorem put_l1d (l : List Wt) (x : Wt) (hl : l.length ≤ 4096) (d : Nat) : ∀ (k i : Nat) (acc : List Wt), i ≤ l.length → l.length - i = d → d < k → acc.length ≤ i + 1 → rotaref03_Put.l1 k l acc true i x.f0.f0 x.f0.f1 x.f1 = some (acc ++ l.drop i, 0) := by
  induction d with
  | zero =>
    intro k i acc h1 h2 hk ha
    obtain ⟨k, rfl⟩ : ∃ m, k = m + 1 := ⟨k - 1, by omega⟩
    obtain rfl : i = l.length := by omega
    simp only [rotaref03_Put.l1]
    rw [if_neg (by omega), if_pos trivial, List.drop_length, List.append_nil]
  | succ d ih =>
    intro k i acc h1 h2 hk ha
    obtain ⟨k, rfl⟩ : ∃ m, k = m + 1 := ⟨k - 1, by omega⟩
    obtain ⟨y, hy⟩ := at_ (l := l) (i := i) (by omega)
    simp only [rotaref03_Put.l1]
    rw [if_pos (by omega), if_pos trivial, if_pos (by omega), if_pos (by omega), wr1 (by omega), rdW_at hy, show (⟨⟨y.f0.f0, y.f0.f1⟩, y.f1⟩ : Wt) = y from rfl, ih k (i + 1) (acc ++ [y]) (by omega) (by omega) (by omega) (by simp; omega), drop_cons hy]
    simp
theorem put_l1 (l : List Wt) (x : Wt) (hl : l.length ≤ 4096) (hn : l.any (eqT x.f1) = false) (d : Nat) : ∀ (k i : Nat) (acc : List Wt), i ≤ l.length → l.length - i = d → d < k → acc.length ≤ i → rotaref03_Put.l1 k l acc false i x.f0.f0 x.f0.f1 x.f1 = some (acc ++ insL (l.drop i) x, 0) := by
  induction d with
  | zero =>
    intro k i acc h1 h2 hk ha
    obtain ⟨k, rfl⟩ : ∃ m, k = m + 1 := ⟨k - 1, by omega⟩
    obtain rfl : i = l.length := by omega
    simp only [rotaref03_Put.l1]
    rw [if_neg (by omega), if_neg (by decide), if_pos (by omega), List.drop_length]
    rfl
  | succ d ih =>
    intro k i acc h1 h2 hk ha
    obtain ⟨k, rfl⟩ : ∃ m, k = m + 1 := ⟨k - 1, by omega⟩
    obtain ⟨y, hy⟩ := at_ (l := l) (i := i) (by omega)
    have hne : y.f1 ≠ x.f1 := fun e => by
      have := List.any_eq_false.1 hn y (List.mem_of_getElem? hy)
      exact this (by simp [eqT, e])
    simp only [rotaref03_Put.l1]
    rw [if_pos (by omega), if_neg (by decide), if_pos (by omega), rdW_at hy, drop_cons hy]
    by_cases hg : y.f1 > x.f1
    · rw [if_pos hg, if_pos (by omega)]
      simp only [Option.bind_some]
      rw [if_pos (by simp; omega), wr1 (by omega), show (⟨⟨y.f0.f0, y.f0.f1⟩, y.f1⟩ : Wt) = y from rfl, put_l1d l x hl d k (i + 1) _ (by omega) (by omega) (by omega) (by simp; omega)]
      have hlt : ltT x.f1 y = false := by simp [ltT]; omega
      rw [insL, List.takeWhile_cons, List.dropWhile_cons, hlt]
      simp
    · rw [if_neg hg, if_pos (by omega), wr1 (by omega), show (⟨⟨y.f0.f0, y.f0.f1⟩, y.f1⟩ : Wt) = y from rfl, ih k (i + 1) _ (by omega) (by omega) (by omega) (by simp; omega)]
      have hlt : ltT x.f1 y = true := by simp [ltT]; omega
      rw [insL, insL, List.takeWhile_cons, List.dropWhile_cons, hlt]
      simp
theorem put_l0 (l : List Wt) (x : Wt) (hl : l.length ≤ 4096) (ha : l.any (isB x.f0.f0 x.f0.f1) = false) (d : Nat) : ∀ (k i : Nat), i ≤ l.length → l.length - i = d → d + l.length + 1 < k → (l.take i).any (eqT x.f1) = false → rotaref03_Put.l0 k l i x.f0.f0 x.f0.f1 x.f1 = some (putL l x) := by
  induction d with
  | zero =>
    intro k i h1 h2 hk hn
    obtain ⟨k, rfl⟩ : ∃ m, k = m + 1 := ⟨k - 1, by omega⟩
    obtain rfl : i = l.length := by omega
    rw [List.take_length] at hn
    have hP : putL l x = if 4096 ≤ l.length then (l, 2) else (insL l x, 0) := by rw [putL, ha, hn, Bool.or_false, if_neg (by decide)]
    simp only [rotaref03_Put.l0]
    rw [if_neg (by omega), hP]
    by_cases hf : 4096 ≤ l.length
    · rw [if_pos (by omega), if_pos hf]
    · rw [if_neg (by omega), if_neg hf]
      have := put_l1 l x hl hn l.length k 0 [] (by omega) (by omega) (by omega) (by simp)
      rw [show ((0 : Nat) : Int) = 0 from rfl] at this
      rw [this]
      simp
  | succ d ih =>
    intro k i h1 h2 hk hn
    obtain ⟨k, rfl⟩ : ∃ m, k = m + 1 := ⟨k - 1, by omega⟩
    obtain ⟨y, hy⟩ := at_ (l := l) (i := i) (by omega)
    simp only [rotaref03_Put.l0]
    rw [if_pos (by omega), if_pos (by omega), rdW_at hy]
    by_cases he : y.f1 = x.f1
    · have : l.any (eqT x.f1) = true := any_iff.2 ⟨i, y, hy, by simp [eqT, he]⟩
      rw [if_pos he, putL, this, Bool.or_true, if_pos rfl]
    · rw [if_neg he, wr1 (by omega)]
      refine ih k (i + 1) (by omega) (by omega) (by omega) ?_
      rw [take_snoc hy, List.any_append, hn]
      simp [eqT, he]
theorem same_l0 (l : List Wt) (hl : l.length ≤ 8796093022208) (d : Nat) : ∀ (k i : Nat), i ≤ l.length → l.length - i = d → d < k → rotalaw03_same.l0 k l l i = some true := by
  induction d with
  | zero =>
    intro k i h1 h2 hk
    obtain ⟨k, rfl⟩ : ∃ m, k = m + 1 := ⟨k - 1, by omega⟩
    obtain rfl : i = l.length := by omega
    simp only [rotalaw03_same.l0]
    rw [if_neg (by omega)]
  | succ d ih =>
    intro k i h1 h2 hk
    obtain ⟨k, rfl⟩ : ∃ m, k = m + 1 := ⟨k - 1, by omega⟩
    simp only [rotalaw03_same.l0]
    rw [if_pos (by omega), if_pos (by omega), if_pos (by omega), if_neg (by simp), wr1 (by omega)]
    exact ih k (i + 1) (by omega) (by omega) (by omega)
theorem same_ok (l : List Wt) (hl : l.length ≤ 8796093022208) : rotalaw03_same.f (l.length + 1) l l = some true := by
  unfold rotalaw03_same.f
  rw [if_pos rfl]
  have := same_l0 l hl l.length (l.length + 1) 0 (by omega) (by omega) (by omega)
  rw [show ((0 : Nat) : Int) = 0 from rfl] at this
  exact this
/-- Load: one Put behind the other. -/
def loadF : List Wt → List Wt → List Wt × Int
  | [], q => (q, 0)
  | x :: r, q => if (putL q x).2 = 0 then loadF r (putL q x).1 else ([], (putL q x).2)
end Go.Proofs.Ytikoonomhojlkaa
set_option linter.unusedSimpArgs false
set_option linter.unusedVariables false
namespace Go.Proofs.Ytikoonomhojlkaa
open Go.RowKit Go.Proofs.YtikoonomhojlkaaW.PrintWords Go.Proofs.YtikoonomhojlkaaW.PrintMore Go.Proofs.YtikoonomhojlkaaW.PrintLast PFifoLoads
/-! The document's Batch: walked. -/
/-- Behind k: what is left, what came out. -/
structure BI (w : World) (base : Nat) (ok : Nat → Prop) (l : List Wt) (k : Nat) (vq vo : Value) (wr : World) : Prop where
  below : Below w.heap.size w wr
  q : Kd.R kW TW wr base (fun j => ok j ∨ w.heap.size ≤ j) vq (l.drop k)
  o : Kd.R kW TW wr w.heap.size (fun _ => True) vo (l.take k)
  ne : ∀ j, vq.ownBlock = some j → vo.ownBlock = some j → False
theorem grown_keep {w w1 : World} {v : Value} (hg : w.grownBy w1 v.ownBlock) : Keep (fun k => v.ownBlock = some k) w w1 :=
  ⟨hg.os, hg.tape, hg.output, hg.size, fun k hk hn => hg.block k hk (fun e => hn e.symm)⟩
theorem R_away {base : Nat} {ok F : Nat → Prop} {w w1 : World} {v : Value} {xs : List Wt} (h : Kd.R kW TW w base ok v xs) (hk : Keep F w w1) (hF : ∀ k, F k → v.ownBlock = some k → False) : Kd.R kW TW w1 base ok v xs := by
  obtain ⟨hok, ho⟩ := (flat_R flatW).1 h
  refine (flat_R flatW).2 ⟨hok, own_move ho (fun k e => hk.block k (by obtain ⟨cs, hc⟩ := R_typed' h k e; exact lt_blk hc) (fun f => hF k f e))⟩
end Go.Proofs.Ytikoonomhojlkaa
set_option linter.unusedSimpArgs false
set_option linter.unusedVariables false
namespace Go.Proofs.Ytikoonomhojlkaa
open Go.RowKit Go.Proofs.YtikoonomhojlkaaW.PrintWords Go.Proofs.YtikoonomhojlkaaW.PrintMore Go.Proofs.YtikoonomhojlkaaW.PrintLast PFifoLoads
/-! The document's calls on a row of its own; told. -/
section
variable {w0 w : World} {P : Nat → Prop} {v : Value} {l : List Wt}
theorem R_new {w' : World} {xs : List Wt} {v' : Value} (h : Kd.R kW TW w' w0.heap.size (fun k => P k ∨ w.heap.size ≤ k) v' xs) : Kd.R kW TW w' w0.heap.size (Ex P w w') v' xs :=
  Kd.R_mono (Kd.R_bound h) (fun k hk => hk.1.imp id (fun h => ⟨h, hk.2.2.1⟩))
theorem same_any {base base' : Nat} {P' : Nat → Prop} {v' : Value} (h : Kd.R kW TW w base P v l) (h' : Kd.R kW TW w base' P' v' l) (hl : l.length ≤ 8796093022208) : Calls Try.prog 16 #[v, v'] w fun e w' => e = .returned (.bool true) ∧ Below w.heap.size w w' := by
  obtain ⟨A, c, rfl, hc, hC⟩ := Kd.R_reads h
  obtain ⟨A', c', rfl, hc', hC'⟩ := Kd.R_reads h'
  exact (rotalaw03_same.calls (l.length + 1) A c l A' c' l _ w hC hc hC' hc' (same_ok l hl)).mono fun e w' ⟨he, hd⟩ => ⟨he, hd.below⟩
end
/-- The queue, and the document's list. -/
structure DQ (w0 : World) (b : Nat) (lq l : List Wt) (v vl : Value) (ok P : Nat → Prop) (wr : World) : Prop where
  q : Que w0 b lq ok v wr
  r : Kd.R kW TW wr w0.heap.size P vl l
  zp : ∀ k, P k → w0.heap.size ≤ k ∧ k < wr.heap.size ∧ ¬ ok k
section
variable {w0 wr w' : World} {b : Nat} {lq l l' : List Wt} {v vl v' vl' : Value} {ok P F : Nat → Prop}
theorem DQ.then (h : DQ w0 b lq l v vl ok P wr) (hB : Below wr.heap.size wr w') : DQ w0 b lq l v vl ok P w' :=
  ⟨h.q.then hB, Kd.R_below h.r hB, fun k hk => by obtain ⟨a, c, d⟩ := h.zp k hk; exact ⟨a, Nat.lt_of_lt_of_le c hB.size, d⟩⟩
theorem DQ.qstep (h : DQ w0 b lq l v vl ok P wr) (hQ : Que w0 b l' (Ex ok wr w') v' w') (hk : Keep ok wr w') : DQ w0 b l' l v' vl (Ex ok wr w') P w' :=
  ⟨hQ, Kd.R_step h.r (fun k hp hl => hk.block k hl (fun ho => (h.zp k hp).2.2 ho)), fun k hk' => by obtain ⟨a, c, d⟩ := h.zp k hk'; exact ⟨a, Nat.lt_of_lt_of_le c hk.size, fun hE => hE.elim d (fun hE => by omega)⟩⟩
theorem DQ.rstep (h : DQ w0 b lq l v vl ok P wr) (hR : Kd.R kW TW w' w0.heap.size (Ex P wr w') vl' l') (hk : Keep P wr w') : DQ w0 b lq l' v vl' ok (Ex P wr w') w' :=
  ⟨⟨below_then_keep h.q.below h.q.below.size hk (fun i hi => (h.zp i hi).1), h.q.q.keep hk (fun k hp ho => (h.zp k hp).2.2 ho), h.q.g⟩, hR, fun k hk' => by
    have hs := hk.size
    have hw := h.q.below.size
    rcases hk' with hk' | hk'
    · obtain ⟨a, c, d⟩ := h.zp k hk'; exact ⟨a, Nat.lt_of_lt_of_le c hs, d⟩
    · exact ⟨by omega, hk'.2, fun ho => by have := (h.q.q.z k ho).2; omega⟩⟩
theorem DQ.far (h : DQ w0 b lq l v vl ok P wr) (hk : Keep F wr w') (hF : ∀ k, F k → w0.heap.size ≤ k ∧ ¬ ok k ∧ ¬ P k) : DQ w0 b lq l v vl ok P w' :=
  ⟨⟨below_then_keep h.q.below h.q.below.size hk (fun i hi => (hF i hi).1), h.q.q.keep hk (fun k f => (hF k f).2.1), h.q.g⟩, Kd.R_step h.r (fun k hp hl => hk.block k hl (fun f => (hF k f).2.2 hp)), fun k hk' => by obtain ⟨a, c, d⟩ := h.zp k hk'; exact ⟨a, Nat.lt_of_lt_of_le c hk.size, d⟩⟩
end
end Go.Proofs.Ytikoonomhojlkaa
