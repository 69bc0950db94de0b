import Derived.Test.YtnglgjegkjfnaaaTkB
import Derived.Test.YtnglgjegkjfnaaaTkD
import Derived.Test.YtnglgjegkjfnaaaSlAC
set_option linter.unusedSimpArgs false
set_option linter.unusedVariables false
namespace Go.Proofs.Ytnglgjegkjfnaaa
open Go.RowKit Go.ChangeShapes Go.WideShapes Go.ChangeAt Go.Proofs.YtnglgjegkjfnaaaW.PrintWords Go.Proofs.YtnglgjegkjfnaaaW.PrintMore Go.Proofs.YtnglgjegkjfnaaaW.PrintLast
/-! rotaref04.Take on a state that is only read: all its roads. -/
theorem slot_gen {s : Sl} {x : Int} (h : 0 ≤ x ∧ x < s.gens.length) : ∃ (i : Nat) (z : Int), x = (i : Int) ∧ s.gens[i]? = some z := by
  obtain ⟨i, rfl⟩ := Int.eq_ofNat_of_zero_le h.1
  exact ⟨i, _, rfl, List.getElem?_eq_getElem (by omega)⟩
theorem take_rd {I : Nat → Prop} {s : Sl} {vG vA vC vF : Value} {vs : List Value} (p : Int) (w : World) (h : SlR w s vG vA vC vF vs) (hI : OwnS I vG vA vC vF vs) (hO : Ok s) : Calls Try.prog 39 #[.agg #[.int .i64 s.limit, vG, vA, vC, vF], .int .i64 p] w (TakeRP I w (takeS s p)) := by
  cases hpr : procS s p with
  | false => exact take_out p w h hI hpr
  | true =>
    obtain ⟨h0, h1⟩ := procS_iff.1 hpr
    obtain ⟨n, rfl⟩ := Int.eq_ofNat_of_zero_le h0
    have hn : n < s.caches.length := by omega
    obtain ⟨y, hy⟩ : ∃ y, s.caches[n]? = some y := ⟨_, List.getElem?_eq_getElem hn⟩
    rcases List.eq_nil_or_concat y with rfl | ⟨t, x, rfl⟩
    · by_cases hfr : s.free = []
      · by_cases hg : (s.gens.length : Int) < s.limit
        · exact take_grow n w h hO hpr hy hfr hg
        · exact take_rob n w h hO hpr hy hfr hg
      · rcases List.eq_nil_or_concat (s.free.take 16) with e | ⟨t, x, e⟩
        · rw [List.take_eq_nil_iff] at e
          rcases e with e | e
          · omega
          · exact absurd e hfr
        · rw [List.concat_eq_append] at e
          obtain ⟨i, z, rfl, hz⟩ := slot_gen (hO.fb x (List.mem_of_mem_take (by rw [e]; simp)))
          by_cases hm : 16 < s.free.length
          · exact take_fill_gt n t i z w h hO hpr hy e hm hz
          · exact take_fill_le n t i z w h hO hpr hy e (by omega) hz
    · rw [List.concat_eq_append] at hy
      obtain ⟨i, z, rfl, hz⟩ := slot_gen (hO.cb _ (List.mem_of_getElem? hy) x (by simp))
      exact take_pop n t i z w h hO hpr hy hz
end Go.Proofs.Ytnglgjegkjfnaaa
set_option linter.unusedSimpArgs false
set_option linter.unusedVariables false
namespace Go.Proofs.Ytnglgjegkjfnaaa
open Go.RowKit Go.ChangeShapes Go.WideShapes Go.ChangeAt Go.Proofs.YtnglgjegkjfnaaaW.PrintWords Go.Proofs.YtnglgjegkjfnaaaW.PrintMore Go.Proofs.YtnglgjegkjfnaaaW.PrintLast
/-! What calls (rotalaw04) keeps: a slab, the document's state, the names that were answered (hc: 1), boxes of a call (hc: 2). -/
theorem Rdf.keep {w w' : World} {F : Nat → Prop} {v : Value} {vals : List Value} (h : Rdf w v vals) (hk : Keep F w w') (hF : ∀ k, v.ownBlock = some k → ¬ F k) : Rdf w' v vals :=
  ⟨h.ex, h.mx, fun h0 => by
    obtain ⟨g, o, c, he, hg, hat⟩ := h.at_ h0
    have hn : ¬ F g := hF g (by rw [he]; simp [Value.ownBlock])
    exact ⟨g, o, c, he, Nat.lt_of_lt_of_le hg hk.size, fun j u hj => (keep_cell hk hg hn (o + j)).1.trans (hat j u hj)⟩, h.one⟩
theorem SlR.keep {w w' : World} {F I : Nat → Prop} {s : Sl} {vG vA vC vF : Value} {vs : List Value} (h : SlR w s vG vA vC vF vs) (hO : OwnS I vG vA vC vF vs) (hk : Keep F w w') (hF : ∀ k, I k → ¬ F k) : SlR w' s vG vA vC vF vs :=
  ⟨h.g.keep hk (fun k e => hF k (hO.1 k e)), h.a.keep hk (fun k e => hF k (hO.2.1 k e)), h.c.keep hk (fun k e => hF k (hO.2.2.1 k e)), h.f.keep hk (fun k e => hF k (hO.2.2.2.1 k e)), h.l, fun i x hx => by
    obtain ⟨v, hv, hr⟩ := h.v i x hx
    exact ⟨v, hv, hr.keep hk (fun k e => hF k (hO.2.2.2.2 v (List.mem_of_getElem? hv) k e))⟩⟩
structure CaW (w0 wr : World) (b : Nat) (col hc : Nat → Nat) (s m : Sl) (vG vA vC vF : Value) (vs : List Value) (vh : Value) (had : List (Int × Int)) : Prop where
  b0 : Below w0.heap.size w0 wr
  sl : IsSlab TS wr w0.heap.size b col s
  rd : SlR wr m vG vA vC vF vs
  own : OwnS (fun k => k < wr.heap.size ∧ col k = 0 ∧ hc k = 0) vG vA vC vF vs
  h : kG.R 48 wr w0.heap.size (fun k => hc k = 1) vh had
  cz : ∀ k, hc k ≠ 0 → col k = 0 ∧ w0.heap.size ≤ k ∧ k < wr.heap.size
section
variable {w0 w wr w' : World} {b : Nat} {col col' hc : Nat → Nat} {s s' m m' : Sl} {vG vA vC vF uG uA uC uF : Value} {vs us : List Value} {vh v1 : Value} {had l1 : List (Int × Int)}
theorem CaW.hz (h : CaW w0 wr b col hc s m vG vA vC vF vs vh had) (k : Nat) (hk : wr.heap.size ≤ k) : hc k = 0 := by
  by_cases e : hc k = 0
  · exact e
  · have := (h.cz k e).2.2
    omega
theorem CaW.then (h : CaW w0 wr b col hc s m vG vA vC vF vs vh had) (hB : Below wr.heap.size wr w') : CaW w0 w' b col hc s m vG vA vC vF vs vh had :=
  ⟨below_then h.b0 hB, h.sl.below hB, h.rd.below hB, h.own.mono (fun k hk => ⟨Nat.lt_of_lt_of_le hk.1 hB.size, hk.2⟩), Kd.R_below h.h hB, fun k hk => by have := h.cz k hk; have := hB.size; omega⟩
theorem CaW.slab (h : CaW w0 wr b col hc s m vG vA vC vF vs vh had) (hN : Nx wr col w' col') (hS : IsSlab TS w' w0.heap.size b col' s') : CaW w0 w' b col' hc s' m vG vA vC vF vs vh had :=
  ⟨below_then_keep h.b0 h.b0.size hN.keep (fun k hk => h.sl.base_le k hk), hS, h.rd.keep h.own hN.keep (fun k hk f => f hk.2.1), h.own.mono (fun k hk => ⟨Nat.lt_of_lt_of_le hk.1 hN.keep.size, (hN.cols k hk.1).trans hk.2.1, hk.2.2⟩),
   Kd.R_step h.h (fun k hk hl => hN.keep.block k hl (fun f => f (h.cz k (by rw [hk]; decide)).1)),
   fun k hk => by have h1 := h.cz k hk; have := hN.keep.size; exact ⟨(hN.cols k h1.2.2).trans h1.1, h1.2.1, by omega⟩⟩
theorem CaW.model (h : CaW w0 wr b col hc s m vG vA vC vF vs vh had) (hB : Below wr.heap.size wr w') (hm : SlO (fun k => (k < wr.heap.size ∧ col k = 0 ∧ hc k = 0) ∨ wr.heap.size ≤ k ∧ k < w'.heap.size) w' m' uG uA uC uF us) : CaW w0 w' b col hc s m' uG uA uC uF us vh had :=
  have h1 := h.then hB
  ⟨h1.b0, h1.sl, hm.rd, hm.own.mono (fun k hk => by
    rcases hk with hk | hk
    · exact ⟨Nat.lt_of_lt_of_le hk.1 hB.size, hk.2⟩
    · exact ⟨hk.2, h.sl.z k hk.1, h.hz k hk.1⟩), h1.h, h1.cz⟩
theorem CaW.turn (h : CaW w0 wr b col hc s m vG vA vC vF vs vh had) (hk : Keep (fun k => hc k = 1) wr w') (hr : kG.R 48 w' w0.heap.size (fun k => hc k = 1 ∨ wr.heap.size ≤ k) v1 l1) :
    CaW w0 w' b col (paint hc 1 wr.heap.size w'.heap.size) s m vG vA vC vF vs v1 l1 := by
  have hs := hk.size
  have hs0 := h.b0.size
  refine ⟨below_then_keep h.b0 h.b0.size hk (fun k e => (h.cz k (by rw [e]; decide)).2.1), h.sl.keep hk (fun k e => (h.cz k (by rw [e]; decide)).1), h.rd.keep h.own hk (fun k hk f => by omega), h.own.mono (fun k hk => ⟨by omega, hk.2.1, by rw [paint_old hk.1]; exact hk.2.2⟩), ?_, fun k hk' => ?_⟩
  · exact Kd.R_mono (Kd.R_bound hr) (fun k ho => by
      rcases Nat.lt_or_ge k wr.heap.size with hl | hl
      · rw [paint_old hl]
        rcases ho.1 with h1 | h1
        · exact h1
        · omega
      · exact paint_new hl ho.2.2.1)
  · by_cases hn : wr.heap.size ≤ k ∧ k < w'.heap.size
    · exact ⟨h.sl.z k hn.1, by omega, hn.2⟩
    · unfold paint at hk'
      rw [if_neg hn] at hk'
      have := h.cz k hk'
      exact ⟨this.1, this.2.1, by omega⟩
/-- Within a call: its three boxes. -/
structure CkW (w0 w wr : World) (b : Nat) (col hc0 hc : Nat → Nat) (s m : Sl) (vG vA vC vF : Value) (vs : List Value) (vh : Value) (had : List (Int × Int)) (P : Array Value) (o : SOp) : Prop where
  ca : CaW w0 wr b col hc s m vG vA vC vF vs vh had
  p : wr.heap[w.heap.size]? = some (.cells P TT (0, 0))
  o : wr.heap[w.heap.size + 1]? = some (.cells o.cells 55 (0, 0))
  r : wr.heap[w.heap.size + 2]? = some (.cells #[.int .i64 0, .slice none 0 0, .slice none 0 0, .slice none 0 0, .slice none 0 0] 30 (0, 0))
  z : ∀ k, w.heap.size ≤ k → k ≤ w.heap.size + 2 → hc k = 2
  k3 : ∀ k, hc0 k = 3 → hc k = 3 ∧ wr.heap[k]? = w.heap[k]?
variable {P : Array Value} {o : SOp} {hc0 : Nat → Nat}
theorem CkW.zc (h : CkW w0 w wr b col hc0 hc s m vG vA vC vF vs vh had P o) (k : Nat) (h0 : w.heap.size ≤ k) (h1 : k ≤ w.heap.size + 2) : col k = 0 := (h.ca.cz k (by rw [h.z k h0 h1]; decide)).1
theorem CkW.base (h : CkW w0 w wr b col hc0 hc s m vG vA vC vF vs vh had P o) : w0.heap.size ≤ wr.heap.size := h.ca.b0.size
theorem CkW.step (hca : CaW w0 w' b col' hc s' m' uG uA uC uF us v1 l1) (h : CkW w0 w wr b col hc0 hc s m vG vA vC vF vs vh had P o) {F : Nat → Prop} (hk : Keep F wr w') (hF : ∀ k, F k → col k = 0 → 2 ≤ hc k → False) : CkW w0 w w' b col' hc0 hc s' m' uG uA uC uF us v1 l1 P o :=
  ⟨hca, blk_keep h.p hk (fun f => hF _ f (h.zc _ (by omega) (by omega)) (by rw [h.z _ (by omega) (by omega)]; omega)), blk_keep h.o hk (fun f => hF _ f (h.zc _ (by omega) (by omega)) (by rw [h.z _ (by omega) (by omega)]; omega)), blk_keep h.r hk (fun f => hF _ f (h.zc _ (by omega) (by omega)) (by rw [h.z _ (by omega) (by omega)]; omega)), h.z, fun k e => by
    have h3 := h.k3 k e
    have hz := h.ca.cz k (by rw [h3.1]; decide)
    exact ⟨h3.1, (hk.block k hz.2.2 (fun f => hF k f hz.1 (by rw [h3.1]; omega))).trans h3.2⟩⟩
theorem CkW.then (h : CkW w0 w wr b col hc0 hc s m vG vA vC vF vs vh had P o) (hB : Below wr.heap.size wr w') : CkW w0 w w' b col hc0 hc s m vG vA vC vF vs vh had P o := CkW.step (h.ca.then hB) h (F := fun _ => False) (Keep.of_below hB) (fun _ f _ _ => f)
theorem CkW.slab (h : CkW w0 w wr b col hc0 hc s m vG vA vC vF vs vh had P o) (hN : Nx wr col w' col') (hS : IsSlab TS w' w0.heap.size b col' s') : CkW w0 w w' b col' hc0 hc s' m vG vA vC vF vs vh had P o := CkW.step (h.ca.slab hN hS) h hN.keep (fun _ f e _ => f e)
theorem CkW.model (h : CkW w0 w wr b col hc0 hc s m vG vA vC vF vs vh had P o) (hB : Below wr.heap.size wr w') (hm : SlO (fun k => (k < wr.heap.size ∧ col k = 0 ∧ hc k = 0) ∨ wr.heap.size ≤ k ∧ k < w'.heap.size) w' m' uG uA uC uF us) : CkW w0 w w' b col hc0 hc s m' uG uA uC uF us vh had P o := CkW.step (h.ca.model hB hm) h (F := fun _ => False) (Keep.of_below hB) (fun _ f _ _ => f)
theorem CkW.turn (h : CkW w0 w wr b col hc0 hc s m vG vA vC vF vs vh had P o) (hk : Keep (fun k => hc k = 1) wr w') (hr : kG.R 48 w' w0.heap.size (fun k => hc k = 1 ∨ wr.heap.size ≤ k) v1 l1) :
    CkW w0 w w' b col hc0 (paint hc 1 wr.heap.size w'.heap.size) s m vG vA vC vF vs v1 l1 P o :=
  have hl := lt_blk h.r
  ⟨h.ca.turn hk hr, blk_keep h.p hk (fun f => by have := h.z w.heap.size (by omega) (by omega); omega), blk_keep h.o hk (fun f => by have := h.z (w.heap.size + 1) (by omega) (by omega); omega), blk_keep h.r hk (fun f => by have := h.z (w.heap.size + 2) (by omega) (by omega); omega), fun k h0 h1 => by rw [paint_old (by omega)]; exact h.z k h0 h1, fun k e => by
    have h3 := h.k3 k e
    have hz := h.ca.cz k (by rw [h3.1]; decide)
    exact ⟨by rw [paint_old hz.2.2]; exact h3.1, (hk.block k hz.2.2 (fun f => by rw [h3.1] at f; exact absurd f (by decide))).trans h3.2⟩⟩
theorem CaW.start (h : CaW w0 w b col hc s m vG vA vC vF vs vh had) {W : World} (hB : Below w.heap.size w W) (hs : W.heap.size = w.heap.size + 3) (hp : W.heap[w.heap.size]? = some (.cells P TT (0, 0))) (ho : W.heap[w.heap.size + 1]? = some (.cells o.cells 55 (0, 0)))
    (hr : W.heap[w.heap.size + 2]? = some (.cells #[.int .i64 0, .slice none 0 0, .slice none 0 0, .slice none 0 0, .slice none 0 0] 30 (0, 0))) : CkW w0 w W b col hc (paint hc 2 w.heap.size (w.heap.size + 3)) s m vG vA vC vF vs vh had P o := by
  have h1 := h.then hB
  have hb := h.b0.size
  refine ⟨⟨h1.b0, h1.sl, h1.rd, h.own.mono (fun k hk => ⟨by omega, hk.2.1, by rw [paint_old hk.1]; exact hk.2.2⟩), Kd.R_mono (Kd.R_bound (Kd.R_below h.h hB)) (fun k ho => by rw [paint_old (h.cz k (by rw [ho.1]; decide)).2.2]; exact ho.1), fun k hk => ?_⟩, hp, ho, hr, fun k h0 h1 => paint_new h0 (by omega), fun k e => by
    have hz := h.cz k (by rw [e]; decide)
    exact ⟨by rw [paint_old hz.2.2]; exact e, hB.block k hz.2.2⟩⟩
  by_cases hn : w.heap.size ≤ k ∧ k < w.heap.size + 3
  · exact ⟨h.sl.z k hn.1, by omega, by omega⟩
  · unfold paint at hk
    rw [if_neg hn] at hk
    have := h.cz k hk
    exact ⟨this.1, this.2.1, by omega⟩
theorem CkW.done (h : CkW w0 w wr b col hc0 hc s m vG vA vC vF vs vh had P o) (hk : Keep (fun i => i = w.heap.size + 2) wr w') : CaW w0 w' b col (fun k => if hc k = 2 then 0 else hc k) s m vG vA vC vF vs vh had ∧ ∀ k, hc0 k = 3 → (if hc k = 2 then 0 else hc k) = 3 ∧ w'.heap[k]? = w.heap[k]? := by
  have hz := h.z (w.heap.size + 2) (by omega) (by omega)
  have hcl := h.zc (w.heap.size + 2) (by omega) (by omega)
  have hb := (h.ca.cz (w.heap.size + 2) (by rw [hz]; decide)).2.1
  refine ⟨?_, fun k e => by
    have h3 := h.k3 k e
    have hl := (h.ca.cz k (by rw [h3.1]; decide)).2.2
    exact ⟨by rw [h3.1]; decide, (hk.block k hl (fun f => by rw [f, hz] at h3; exact absurd h3.1 (by decide))).trans h3.2⟩⟩
  refine ⟨below_then_keep h.ca.b0 h.ca.b0.size hk (fun i e => by omega), h.ca.sl.keep hk (fun i e => by rw [e]; exact hcl), h.ca.rd.keep h.ca.own hk (fun k e f => by rw [f, hz] at e; exact absurd e.2.2 (by decide)), h.ca.own.mono (fun k e => ⟨Nat.lt_of_lt_of_le e.1 hk.size, e.2.1, by rw [e.2.2]; decide⟩),
    Kd.R_mono (Kd.R_step h.ca.h (fun k e hl => hk.block k hl (fun f => by rw [f, hz] at e; exact absurd e (by decide)))) (fun k e => by rw [e]; decide), fun k e => ?_⟩
  have e' : hc k ≠ 0 := fun h0 => e (by rw [h0]; decide)
  have := h.ca.cz k e'
  exact ⟨this.1, this.2.1, by have := hk.size; omega⟩
end
/-- A call, in plain words. -/
def callS (s : Sl) (had : List (Int × Int)) (o : SOp) : Sl × List (Int × Int) :=
  if o.d = 0 then ((takeS s o.p).1, if (takeS s o.p).2.2.2 = 0 then had ++ [((takeS s o.p).2.1, (takeS s o.p).2.2.1)] else had)
  else if o.d = 1 then ((giveS s o.p (nameS o.k o.g had).1 (nameS o.k o.g had).2).1, had)
  else if o.d = 2 then ((flushS s o.p).1, had)
  else (s, had)
def CallsP (w0 w : World) (hc0 : Nat → Nat) (b : Nat) (r : Sl × List (Int × Int)) (e : Ending) (w' : World) : Prop := ∃ vG vA vC vF vs vh col hc, e = .returned (.tuple #[.agg #[.int .i64 r.1.limit, vG, vA, vC, vF], vh, .bool true]) ∧ CaW w0 w' b col hc r.1 r.1 vG vA vC vF vs vh r.2 ∧ ∀ k, hc0 k = 3 → hc k = 3 ∧ w'.heap[k]? = w.heap[k]?
end Go.Proofs.Ytnglgjegkjfnaaa
