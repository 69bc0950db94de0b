import Derived.Test.YtnglgjegkjfnaaaSlRd
import Derived.Deep.DrawnRows
import Derived.Deep.DeepCutAuto
set_option linter.unusedSimpArgs false
set_option linter.unusedVariables false
namespace Go.Proofs.Ytnglgjegkjfnaaa
open Go.RowKit Go.ChangeShapes Go.WideShapes Go.ChangeAt Go.Proofs.YtnglgjegkjfnaaaW.PrintWords Go.Proofs.YtnglgjegkjfnaaaW.PrintMore
/-! slices.Contains at bools, as slab.Load asks it. -/
end Go.Proofs.Ytnglgjegkjfnaaa
set_option linter.unusedSimpArgs false
set_option linter.unusedVariables false
namespace Go.Proofs.Ytnglgjegkjfnaaa
open Go.RowKit Go.ChangeShapes Go.WideShapes Go.ChangeAt Go.Proofs.YtnglgjegkjfnaaaW.PrintWords Go.Proofs.YtnglgjegkjfnaaaW.PrintMore
/-! slices.ContainsFunc with slab.Load's own test. -/
end Go.Proofs.Ytnglgjegkjfnaaa
set_option linter.unusedSimpArgs false
set_option linter.unusedVariables false
namespace Go.Proofs.Ytnglgjegkjfnaaa
open Go.RowKit Go.ChangeShapes Go.WideShapes Go.ChangeAt Go.Proofs.YtnglgjegkjfnaaaW.PrintWords Go.Proofs.YtnglgjegkjfnaaaW.PrintMore Go.Proofs.YtnglgjegkjfnaaaW.PrintLast
/-! A state as a parameter: boxed; a state stored into its box. -/
section
variable {w w1 w' : World} {base b : Nat} {col : Nat → Nat} {s : Sl} {vG vA vC vF : Value} {vs : List Value}
theorem SlV.recol {col' : Nat → Nat} (h : SlV w base col s vG vA vC vF vs) (hc : ∀ k, k < w.heap.size → col k ≠ 0 → col' k = col k) (hz : ∀ k, w.heap.size ≤ k → col' k = 0) (hb : ∀ k, col' k ≠ 0 → base ≤ k) : SlV w base col' s vG vA vC vF vs :=
  ⟨h.g.mono fun k hl ho => by rw [hc k hl (by rw [ho]; decide)]; exact ho, h.a.mono fun k hl ho => by rw [hc k hl (by rw [ho]; decide)]; exact ho, h.c.mono fun k hl ho => by rw [hc k hl (by rw [ho]; decide)]; exact ho, h.f.mono fun k hl ho => by rw [hc k hl (by rw [ho]; decide)]; exact ho, h.l,
   fun i x hx => by obtain ⟨v, hv, hr⟩ := h.v i x hx; exact ⟨v, hv, hr.mono fun k hl ho => by rw [hc k hl (by rw [ho]; omega)]; exact ho⟩, hz, hb⟩
theorem SlV.box (h : SlV w base col s vG vA vC vF vs) (hb : base ≤ w.heap.size) : ∃ col', SlB TT (w.alloc (.cells #[.int .i64 s.limit, vG, vA, vC, vF] TT)) base w.heap.size col' s vG vA vC vF vs ∧ Nx w col (w.alloc (.cells #[.int .i64 s.limit, vG, vA, vC, vF] TT)) col' := by
  have hB : Below w.heap.size w (w.alloc (.cells #[.int .i64 s.limit, vG, vA, vC, vF] TT)) := below_al (Below.refl _ _) _
  have hs : (w.alloc (.cells #[.int .i64 s.limit, vG, vA, vC, vF] TT)).heap.size = w.heap.size + 1 := by simp
  refine ⟨paint col 1 w.heap.size (w.heap.size + 1), ⟨(h.below hB).recol (fun k _ hk => ?_) (fun k hk => ?_) (fun k hk => ?_), blk_new _ _, paint_new (Nat.le_refl _) (by omega)⟩, ⟨Keep.of_below hB, fun k hk => paint_old hk⟩⟩
  · have : ¬ w.heap.size ≤ k := fun hl => hk (h.z k hl)
    exact paint_old (by omega)
  · rw [paint_far (by omega)]; exact h.z k (by omega)
  · by_cases hk' : k < w.heap.size
    · rw [paint_old hk'] at hk; exact h.b k hk
    · omega
/-- A state of one's own is stored into a box. -/
theorem SlV.into {a0 a1 a2 a3 a4 : Value} (h : SlV w base col s vG vA vC vF vs) (hblk : w.heap[b]? = some (.cells #[a0, a1, a2, a3, a4] TT (0, 0))) (hb : base ≤ b) (hz : col b = 0) :
    ∃ col', SlB TT (((((w.setCell ⟨b, 0, none⟩ (.int .i64 s.limit)).setCell ⟨b, 1, none⟩ vG).setCell ⟨b, 2, none⟩ vA).setCell ⟨b, 3, none⟩ vC).setCell ⟨b, 4, none⟩ vF) base b col' s vG vA vC vF vs ∧ ∀ k, k ≠ b → col' k = col k := by
  have hK0 : Keep (fun k => k = b) w (((((w.setCell ⟨b, 0, none⟩ (.int .i64 s.limit)).setCell ⟨b, 1, none⟩ vG).setCell ⟨b, 2, none⟩ vA).setCell ⟨b, 3, none⟩ vC).setCell ⟨b, 4, none⟩ vF) := set5_keep _ _ _ _ _ _ _
  have h5 := blk_set5 (u0 := .int .i64 s.limit) (u1 := vG) (u2 := vA) (u3 := vC) (u4 := vF) hblk
  have hl := lt_blk h5
  refine ⟨fun k => if k = b then 1 else col k, ⟨(h.keep hK0 (fun k e => by subst e; omega)).recol (fun k _ hk => ?_) (fun k hk => ?_) (fun k hk => ?_), h5, if_pos rfl⟩, fun k hk => if_neg hk⟩
  · have : k ≠ b := fun e => by subst e; exact hk hz
    exact if_neg this
  · show (if k = b then 1 else col k) = 0
    rw [if_neg (by omega)]
    exact h.z k (by have := hl; have := lt_blk hblk; simp [World.setCell] at hk; omega)
  · by_cases e : k = b
    · omega
    · have : col k ≠ 0 := by simpa [e] using hk
      exact h.b k this
theorem SlB.lower {T : TypeId} {base' : Nat} (h : SlB T w base b col s vG vA vC vF vs) (hb : base' ≤ base) : SlB T w base' b col s vG vA vC vF vs := ⟨h.r.lower hb, h.blk, h.one⟩
/-- The rows behind a box. -/
theorem Nx.new_old {c c1 : Nat → Nat} (h : Nx w c w1 c1) : ∀ k, c1 k ≠ 0 → c k ≠ 0 ∨ w.heap.size ≤ k := fun k hk => by
  rcases Nat.lt_or_ge k w.heap.size with hl | hl
  · exact .inl (by rw [← h.cols k hl]; exact hk)
  · exact .inr hl
end
end Go.Proofs.Ytnglgjegkjfnaaa
set_option linter.unusedSimpArgs false
set_option linter.unusedVariables false
namespace Go.Proofs.Ytnglgjegkjfnaaa
open Go.RowKit Go.ChangeShapes Go.WideShapes Go.ChangeAt Go.Proofs.YtnglgjegkjfnaaaW.PrintWords Go.Proofs.YtnglgjegkjfnaaaW.PrintMore Go.Proofs.YtnglgjegkjfnaaaW.PrintLast
/-! The document's ints, Copy: printed by gen04l.py. -/
set_option maxHeartbeats 1000000 in
theorem ints_ref (v : Value) (xs : List Int) (w : World) (h : Rdv w v (ints xs)) (hm : xs.length * 8 ≤ 140737488355328) :
    Calls Try.prog 47 #[v] w fun e w' => ∃ v', e = .returned v' ∧ Row w' w.heap.size (fun _ => True) 3 v' (ints xs) ∧ Below w.heap.size w w' := by
  obtain ⟨A0, n, c, rfl, hl, hc, hx, hcell, h1⟩ := h
  obtain ⟨v1, w1, hr, hrow, hg⟩ := row_append (P := Try.prog) (t := 26) Try.underlying26 infoIn rfl (by omega) (Row.nil w w.heap.size (fun _ => True) 3) A0 n c (ints xs) hl hcell h1 (by rw [← hl, ints_len]; simpa using hm) (Nat.le_refl _)
  have HR := Aside0.mk hrow
  have HB := Aside0.mk ((grown_keep (ok := fun _ => False) hg (fun k hk => by simp [Value.ownBlock] at hk)).below (fun _ _ f => f))
  clear hrow hg hcell
  go_enter Try.func47, Try.ntmps47
  go_wp2_with (first | ((with_reducible refine gate_builtin (b := .append) (xs := #[.tmp 4, .tmp 5]) rfl ?_); at_builtin; refine appL_ rfl (.tmp 4) (.tmp 5) 26 rfl rfl rfl hr ?_))
  go_ret
  exact ⟨v1, rfl, by simpa using HR.out.mono (fun _ _ _ => trivial), HB.out⟩
/-- Behind the first region of Copy. -/
structure CpA (W wr : World) (base P B : Nat) (col : Nat → Nat) (s : Sl) (vG vA vC vF : Value) (vs : List Value) (uG uF : Value) : Prop where
  below : Below W.heap.size W wr
  p : SlB TT wr base P col s vG vA vC vF vs
  g : Row wr W.heap.size (fun _ => True) 3 uG (ints s.gens)
  f : Row wr W.heap.size (fun _ => True) 3 uF (ints s.free)
  ne : ∀ k, uG.ownBlock = some k → uF.ownBlock = some k → False
  b : wr.heap[B]? = some (.cells #[.int .i64 s.limit, uG, .slice none 0 0, .slice none 0 0, uF] TT (0, 0))
  bb : W.heap.size ≤ B
/-- Behind k caches. -/
def CpI (W : World) (base P : Nat) (col : Nat → Nat) (s : Sl) (vG vA vC vF : Value) (vs : List Value) (B : Nat) (uG uA uF : Value) (k : Nat) (wr : World) : Prop := ∃ vC' vs' col', Below W.heap.size W wr ∧ SlB TT wr base P col s vG vA vC vF vs ∧ SlB TT wr W.heap.size B col' ⟨s.limit, s.gens, s.alive, s.caches.take k, s.free⟩ uG uA vC' uF vs' ∧ ∀ k, k < W.heap.size → col' k = 0
end Go.Proofs.Ytnglgjegkjfnaaa
