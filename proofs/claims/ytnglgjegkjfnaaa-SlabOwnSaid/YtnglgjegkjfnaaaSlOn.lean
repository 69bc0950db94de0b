import Derived.Test.YtnglgjegkjfnaaaSlCe
import Derived.Test.YtnglgjegkjfnaaaSlTT
import Derived.Test.YtnglgjegkjfnaaaSlAC
import Derived.Deep.DrawnRows
import Derived.Test.YtnglgjegkjfnaaaSlLs
set_option linter.unusedSimpArgs false
set_option linter.unusedVariables false
namespace Go.Proofs.Ytnglgjegkjfnaaa
open Go.RowKit Go.ChangeShapes Go.WideShapes Go.ChangeAt Go.Proofs.YtnglgjegkjfnaaaW.PrintWords Go.Proofs.YtnglgjegkjfnaaaW.PrintMore Go.Proofs.YtnglgjegkjfnaaaW.PrintLast
/-! What SlabPlays and SlabLoads keep: printed by gen04ee.py. -/
attribute [local go_sem high] eqG
/-- From round to round: S holds the document's state. -/
structure PlW (w0 wr : World) (b S : Nat) (col hc : Nat → Nat) (s : Sl) (vG vA vC vF : Value) (vs : List Value) (vh : Value) (had : List (Int × Int)) (k : Nat) : Prop where
  ca : CaW w0 wr b col hc s s vG vA vC vF vs vh had
  m : wr.heap[S]? = some (.cells #[.int .i64 s.limit, vG, vA, vC, vF] TT (0, 0))
  hm : hc S = 3
  wf : Wf s
  hl : had.length ≤ k
section
variable {w0 wr w' : World} {b S : Nat} {col col' hc hc' : Nat → Nat} {s s' m : Sl} {vG vA vC vF uG uA uC uF : Value} {vs us : List Value} {vh v1 : Value} {had l1 : List (Int × Int)} {k : Nat}
theorem PlW.then (h : PlW w0 wr b S col hc s vG vA vC vF vs vh had k) (hB : Below wr.heap.size wr w') : PlW w0 w' b S col hc s vG vA vC vF vs vh had k := ⟨h.ca.then hB, blk_below h.m hB, h.hm, h.wf, h.hl⟩
theorem CaW.box3 (h : CaW w0 wr b col hc s m vG vA vC vF vs vh had) (hS : hc S = 3) (hk : Keep (fun i => i = S) wr w') : CaW w0 w' b col hc s m vG vA vC vF vs vh had := by
  have hz := h.cz S (by rw [hS]; decide)
  exact ⟨below_then_keep h.b0 h.b0.size hk (fun i e => by omega), h.sl.keep hk (fun i e => by rw [e]; exact hz.1), h.rd.keep h.own hk (fun k e f => by rw [f, hS] at e; exact absurd e.2.2 (by decide)), h.own.mono (fun k e => ⟨Nat.lt_of_lt_of_le e.1 hk.size, e.2⟩),
    Kd.R_step h.h (fun k e hl => hk.block k hl (fun f => by rw [f, hS] at e; exact absurd e (by decide))), fun k e => by have := h.cz k e; exact ⟨this.1, this.2.1, Nat.lt_of_lt_of_le this.2.2 hk.size⟩⟩
theorem PlW.next {w5 : World} (h : PlW w0 wr b S col hc s vG vA vC vF vs vh had k) (hCA : CaW w0 w5 b col' hc' s' s' uG uA uC uF us v1 l1) (hk3 : ∀ k, hc k = 3 → hc' k = 3 ∧ w5.heap[k]? = wr.heap[k]?) (hwf : Wf s') (hll : l1.length ≤ had.length + 1) :
    PlW w0 ((((((w5.setCell ⟨S, 0, none⟩ (.int .i64 s'.limit)).setCell ⟨S, 1, none⟩ (uG)).setCell ⟨S, 2, none⟩ (uA)).setCell ⟨S, 3, none⟩ (uC)).setCell ⟨S, 4, none⟩ (uF))) b S col' hc' s' uG uA uC uF us v1 l1 (k + 1) := by
  have h3 := hk3 S h.hm
  have hm5 := h3.2.trans h.m
  have hk : Keep (fun i => i = S) w5 ((((((w5.setCell ⟨S, 0, none⟩ (.int .i64 s'.limit)).setCell ⟨S, 1, none⟩ (uG)).setCell ⟨S, 2, none⟩ (uA)).setCell ⟨S, 3, none⟩ (uC)).setCell ⟨S, 4, none⟩ (uF))) := set5_keep _ _ _ _ _ _ _
  have := h.hl
  exact ⟨hCA.box3 h3.1 hk, blk_set5 hm5, h3.1, hwf, by omega⟩
end
def PlL (w0 : World) (b S k : Nat) (vh : Value) (wr : World) : Prop := ∃ s vG vA vC vF vs had col hc, PlW w0 wr b S col hc s vG vA vC vF vs vh had k
end Go.Proofs.Ytnglgjegkjfnaaa
set_option linter.unusedSimpArgs false
set_option linter.unusedVariables false
namespace Go.Proofs.Ytnglgjegkjfnaaa
open Go.RowKit Go.ChangeShapes Go.WideShapes Go.ChangeAt Go.Proofs.YtnglgjegkjfnaaaW.PrintWords Go.Proofs.YtnglgjegkjfnaaaW.PrintMore Go.Proofs.YtnglgjegkjfnaaaW.PrintLast
/-! rotalaw04.spoil: printed by gen04ff.py. -/
attribute [local go_sem high] eqG
theorem SlV.setG {w : World} {base g o n c i : Nat} {col : Nat → Nat} {s : Sl} {vA vC vF : Value} {vs : List Value} (h : SlV w base col s (.slice (some ⟨g, o, none⟩) n c) vA vC vF vs) (hi : i < s.gens.length) (z : Int) : SlV (w.setCell ⟨g, o + i, none⟩ (.int .i64 z)) base col { s with gens := s.gens.set i z } (.slice (some ⟨g, o, none⟩) n c) vA vC vF vs ∧ Keep (fun k => col k = 2) w (w.setCell ⟨g, o + i, none⟩ (.int .i64 z)) := by
  have hg2 : col g = 2 := h.g.own g (by simp [Value.ownBlock])
  have k1 : Keep (fun k => k = g) w (w.setCell ⟨g, o + i, none⟩ (.int .i64 z)) := (by repeat (first | (with_reducible exact Keep.refl _ _) | (with_reducible refine Keep.drewN ?_ _) | (with_reducible refine Keep.drew ?_) | (with_reducible refine Keep.setCell ?_ _ _ (by first | (right; with_reducible rfl) | (left; simp; done) | (left; simp; omega) | (right; simp; done) | (right; assumption))) | (with_reducible refine Keep.alloc ?_ _)))
  have hG := h.g.set (i := i) (u := .int .i64 z) (by rw [ints_len]; exact hi) rfl
  rw [← ints_set] at hG
  refine ⟨⟨hG, h.a.keep k1 (fun j e h => by subst e; omega), h.c.keep k1 (fun j e h => by subst e; omega), h.f.keep k1 (fun j e h => by subst e; omega), h.l, fun i y hy => ?_, fun k hk => h.z k (by have := k1.size; omega), h.b⟩, k1.mono (fun _ _ e => by subst e; exact hg2)⟩
  obtain ⟨v, hv, hr⟩ := h.v i y hy
  exact ⟨v, hv, hr.keep k1 (fun j e h => by subst e; omega)⟩
theorem SlV.setA {w : World} {base g o n c i : Nat} {col : Nat → Nat} {s : Sl} {vG vC vF : Value} {vs : List Value} (h : SlV w base col s vG (.slice (some ⟨g, o, none⟩) n c) vC vF vs) (hi : i < s.alive.length) (z : Bool) : SlV (w.setCell ⟨g, o + i, none⟩ (.bool z)) base col { s with alive := s.alive.set i z } vG (.slice (some ⟨g, o, none⟩) n c) vC vF vs ∧ Keep (fun k => col k = 3) w (w.setCell ⟨g, o + i, none⟩ (.bool z)) := by
  have hg2 : col g = 3 := h.a.own g (by simp [Value.ownBlock])
  have k1 : Keep (fun k => k = g) w (w.setCell ⟨g, o + i, none⟩ (.bool z)) := (by repeat (first | (with_reducible exact Keep.refl _ _) | (with_reducible refine Keep.drewN ?_ _) | (with_reducible refine Keep.drew ?_) | (with_reducible refine Keep.setCell ?_ _ _ (by first | (right; with_reducible rfl) | (left; simp; done) | (left; simp; omega) | (right; simp; done) | (right; assumption))) | (with_reducible refine Keep.alloc ?_ _)))
  have hG := h.a.set (i := i) (u := .bool z) (by rw [bools_len]; exact hi) rfl
  rw [← bools_set] at hG
  refine ⟨⟨h.g.keep k1 (fun j e h => by subst e; omega), hG, h.c.keep k1 (fun j e h => by subst e; omega), h.f.keep k1 (fun j e h => by subst e; omega), h.l, fun i y hy => ?_, fun k hk => h.z k (by have := k1.size; omega), h.b⟩, k1.mono (fun _ _ e => by subst e; exact hg2)⟩
  obtain ⟨v, hv, hr⟩ := h.v i y hy
  exact ⟨v, hv, hr.keep k1 (fun j e h => by subst e; omega)⟩
theorem SlV.setF {w : World} {base g o n c i : Nat} {col : Nat → Nat} {s : Sl} {vG vA vC : Value} {vs : List Value} (h : SlV w base col s vG vA vC (.slice (some ⟨g, o, none⟩) n c) vs) (hi : i < s.free.length) (z : Int) : SlV (w.setCell ⟨g, o + i, none⟩ (.int .i64 z)) base col { s with free := s.free.set i z } vG vA vC (.slice (some ⟨g, o, none⟩) n c) vs ∧ Keep (fun k => col k = 5) w (w.setCell ⟨g, o + i, none⟩ (.int .i64 z)) := by
  have hg2 : col g = 5 := h.f.own g (by simp [Value.ownBlock])
  have k1 : Keep (fun k => k = g) w (w.setCell ⟨g, o + i, none⟩ (.int .i64 z)) := (by repeat (first | (with_reducible exact Keep.refl _ _) | (with_reducible refine Keep.drewN ?_ _) | (with_reducible refine Keep.drew ?_) | (with_reducible refine Keep.setCell ?_ _ _ (by first | (right; with_reducible rfl) | (left; simp; done) | (left; simp; omega) | (right; simp; done) | (right; assumption))) | (with_reducible refine Keep.alloc ?_ _)))
  have hG := h.f.set (i := i) (u := .int .i64 z) (by rw [ints_len]; exact hi) rfl
  rw [← ints_set] at hG
  refine ⟨⟨h.g.keep k1 (fun j e h => by subst e; omega), h.a.keep k1 (fun j e h => by subst e; omega), h.c.keep k1 (fun j e h => by subst e; omega), hG, h.l, fun i y hy => ?_, fun k hk => h.z k (by have := k1.size; omega), h.b⟩, k1.mono (fun _ _ e => by subst e; exact hg2)⟩
  obtain ⟨v, hv, hr⟩ := h.v i y hy
  exact ⟨v, hv, hr.keep k1 (fun j e h => by subst e; omega)⟩
theorem SlV.setK {w : World} {base g o n c p k : Nat} {col : Nat → Nat} {s : Sl} {vG vA vC vF : Value} {vs : List Value} {x : List Int} (h : SlV w base col s vG vA vC vF vs) (hx : s.caches[p]? = some x) (hv : vs[p]? = some (.slice (some ⟨g, o, none⟩) n c)) (hk : k < x.length) (z : Int) : SlV (w.setCell ⟨g, o + k, none⟩ (.int .i64 z)) base col { s with caches := s.caches.set p (x.set k z) } vG vA vC vF vs ∧ Keep (fun k => col k = 6 + p) w (w.setCell ⟨g, o + k, none⟩ (.int .i64 z)) := by
  obtain ⟨v, hv', hr⟩ := h.v p x hx
  rw [hv] at hv'
  injection hv' with hv'
  subst hv'
  have hg2 : col g = 6 + p := hr.own g (by simp [Value.ownBlock])
  have k1 : Keep (fun k => k = g) w (w.setCell ⟨g, o + k, none⟩ (.int .i64 z)) := (by repeat (first | (with_reducible exact Keep.refl _ _) | (with_reducible refine Keep.drewN ?_ _) | (with_reducible refine Keep.drew ?_) | (with_reducible refine Keep.setCell ?_ _ _ (by first | (right; with_reducible rfl) | (left; simp; done) | (left; simp; omega) | (right; simp; done) | (right; assumption))) | (with_reducible refine Keep.alloc ?_ _)))
  have hG := hr.set (i := k) (u := .int .i64 z) (by rw [ints_len]; exact hk) rfl
  rw [← ints_set] at hG
  have hp := (List.getElem?_eq_some_iff.1 hx).1
  refine ⟨⟨h.g.keep k1 (fun j e h => by subst e; omega), h.a.keep k1 (fun j e h => by subst e; omega), h.c.keep k1 (fun j e h => by subst e; omega), h.f.keep k1 (fun j e h => by subst e; omega), by rw [List.length_set]; exact h.l, fun i y hy => ?_, fun k hk => h.z k (by have := k1.size; omega), h.b⟩, k1.mono (fun _ _ e => by subst e; exact hg2)⟩
  by_cases e : i = p
  · subst e
    rw [List.getElem?_set_self hp] at hy
    injection hy with hy
    subst hy
    exact ⟨_, hv, hG⟩
  · rw [List.getElem?_set_ne (Ne.symm e)] at hy
    obtain ⟨v, hv, hr⟩ := h.v i y hy
    exact ⟨v, hv, hr.keep k1 (fun j e h => by subst e; omega)⟩
/-- A state that is being spoilt, in block B. -/
structure SpW (W wr : World) (base B : Nat) (col0 col : Nat → Nat) (s s' : Sl) (vG vA vC vF : Value) (vs : List Value) (N : Nat) : Prop where
  q : SlB TT wr base B col s' vG vA vC vF vs
  nx : Nx W col0 wr col
  lim : s'.limit = s.limit
  g : s'.gens.length = s.gens.length
  a : s'.alive.length = s.alive.length
  f : s'.free.length = s.free.length
  c : s'.caches.length = s.caches.length
  e : ∀ x ∈ s'.caches, x.length ≤ N
def SpE (W : World) (base B : Nat) (col0 : Nat → Nat) (s : Sl) (vG vA vC vF : Value) (N : Nat) (wr : World) : Prop := ∃ s' vs col, SpW W wr base B col0 col s s' vG vA vC vF vs N
section
variable {W wr w' : World} {base B g o n c i k N p : Nat} {col0 col : Nat → Nat} {s s' : Sl} {vG vA vC vF : Value} {vs : List Value} {x : List Int}
theorem SpW.blk2 (h : SpW W wr base B col0 col s s' vG vA vC vF vs N) {s2 : Sl} (hV : SlV w' base col s2 vG vA vC vF vs) {c : Nat} (hc : 2 ≤ c) (hk : Keep (fun k => col k = c) wr w') (h1 : s2.limit = s'.limit) (h2 : s2.gens.length = s'.gens.length) (h3 : s2.alive.length = s'.alive.length) (h4 : s2.free.length = s'.free.length) (h5 : s2.caches.length = s'.caches.length) (h6 : ∀ x ∈ s2.caches, x.length ≤ N) : SpW W w' base B col0 col s s2 vG vA vC vF vs N := by
  have hb := blk_keep h.q.blk hk (by have := h.q.one; omega)
  rw [← h1] at hb
  exact ⟨⟨hV, hb, h.q.one⟩, h.nx.trans ⟨hk.mono (fun _ _ e => by omega), fun _ _ => rfl⟩, h1.trans h.lim, h2.trans h.g, h3.trans h.a, h4.trans h.f, h5.trans h.c, h6⟩
theorem SpW.setG (h : SpW W wr base B col0 col s s' (.slice (some ⟨g, o, none⟩) n c) vA vC vF vs N) (hi : i < s'.gens.length) (z : Int) : SpE W base B col0 s (.slice (some ⟨g, o, none⟩) n c) vA vC vF N (wr.setCell ⟨g, o + i, none⟩ (.int .i64 z)) :=
  have h1 := h.q.r.setG hi z
  ⟨_, _, _, h.blk2 h1.1 (by omega) h1.2 rfl (by simp) rfl rfl rfl h.e⟩
theorem SpW.setA (h : SpW W wr base B col0 col s s' vG (.slice (some ⟨g, o, none⟩) n c) vC vF vs N) (hi : i < s'.alive.length) (z : Bool) : SpE W base B col0 s vG (.slice (some ⟨g, o, none⟩) n c) vC vF N (wr.setCell ⟨g, o + i, none⟩ (.bool z)) :=
  have h1 := h.q.r.setA hi z
  ⟨_, _, _, h.blk2 h1.1 (by omega) h1.2 rfl rfl (by simp) rfl rfl h.e⟩
theorem SpW.setF (h : SpW W wr base B col0 col s s' vG vA vC (.slice (some ⟨g, o, none⟩) n c) vs N) (hi : i < s'.free.length) (z : Int) : SpE W base B col0 s vG vA vC (.slice (some ⟨g, o, none⟩) n c) N (wr.setCell ⟨g, o + i, none⟩ (.int .i64 z)) :=
  have h1 := h.q.r.setF hi z
  ⟨_, _, _, h.blk2 h1.1 (by omega) h1.2 rfl rfl rfl (by simp) rfl h.e⟩
theorem SpW.setK (h : SpW W wr base B col0 col s s' vG vA vC vF vs N) (hx : s'.caches[p]? = some x) (hv : vs[p]? = some (.slice (some ⟨g, o, none⟩) n c)) (hk : k < x.length) (z : Int) : SpW W (wr.setCell ⟨g, o + k, none⟩ (.int .i64 z)) base B col0 col s { s' with caches := s'.caches.set p (x.set k z) } vG vA vC vF vs N :=
  have h1 := h.q.r.setK hx hv hk z
  h.blk2 h1.1 (by omega) h1.2 rfl rfl rfl rfl (by simp) (fun y hy => by
    rcases List.mem_or_eq_of_mem_set hy with hy | rfl
    · exact h.e y hy
    · rw [List.length_set]; exact h.e x (List.mem_of_getElem? hx))
/-- The p-th cache, its length m, its value in the row. -/
def SpI (W : World) (base B : Nat) (col0 : Nat → Nat) (s : Sl) (vG vA vC vF : Value) (N p : Nat) (v : Value) (m : Nat) (wr : World) : Prop := ∃ s' vs col x, SpW W wr base B col0 col s s' vG vA vC vF vs N ∧ s'.caches[p]? = some x ∧ x.length = m ∧ vs[p]? = some v
theorem SpW.then (h : SpW W wr base B col0 col s s' vG vA vC vF vs N) (hB : Below wr.heap.size wr w') : SpW W w' base B col0 col s s' vG vA vC vF vs N := ⟨h.q.below hB, h.nx.trans (Nx.of_below hB), h.lim, h.g, h.a, h.f, h.c, h.e⟩
end
set_option maxRecDepth 100000 in
set_option maxHeartbeats 16000000 in
theorem spoil_slab {w : World} {base : Nat} {col : Nat → Nat} {s : Sl} {vG vA vC vF : Value} {vs : List Value} (hb : base ≤ w.heap.size) (h : SlV w base col s vG vA vC vF vs) (hO : Ok s) : Calls Try.prog 31 #[.agg #[.int .i64 s.limit, vG, vA, vC, vF]] w fun e w' => e = .returned (.tuple #[]) ∧ Keep (fun k => col k ≠ 0) w w' := by
  obtain ⟨AG, cG, e1, -⟩ := h.g.slice
  obtain ⟨AA, cA, e2, -⟩ := h.a.slice
  obtain ⟨AC, cC, e3, -⟩ := h.c.slice
  obtain ⟨AF, cF, e4, -⟩ := h.f.slice
  rw [ints_len] at e1 e4
  rw [bools_len] at e2
  rw [h.l] at e3
  subst e1 e2 e3 e4
  have hW : Below w.heap.size w (w.alloc (.cells #[.int .i64 s.limit, (.slice AG s.gens.length cG), (.slice AA s.alive.length cA), (.slice AC s.caches.length cC), (.slice AF s.free.length cF)] TT)) := below_al (Below.refl _ _) _
  have hsz : (w.alloc (.cells #[.int .i64 s.limit, (.slice AG s.gens.length cG), (.slice AA s.alive.length cA), (.slice AC s.caches.length cC), (.slice AF s.free.length cF)] TT)).heap.size = w.heap.size + 1 := by simp
  have hV := h.below hW
  have hz := h.z
  have hbb := h.b
  obtain ⟨col1, hcol1⟩ : ∃ c : Nat → Nat, c = fun k => if k = w.heap.size then 1 else col k := ⟨_, rfl⟩
  have hc1 : ∀ k, k ≠ w.heap.size → col1 k = col k := fun k hk => by rw [hcol1]; exact if_neg hk
  have hcw : col1 w.heap.size = 1 := by rw [hcol1]; exact if_pos rfl
  have hlow : ∀ k c, 2 ≤ c → col k = c → col1 k = c := fun k c h2 hc => by
    rw [hc1 k (fun e => by subst e; have := hz _ (Nat.le_refl _); omega)]; exact hc
  have HE : Aside0 (SpE (w.alloc (.cells #[.int .i64 s.limit, (.slice AG s.gens.length cG), (.slice AA s.alive.length cA), (.slice AC s.caches.length cC), (.slice AF s.free.length cF)] TT)) base w.heap.size col1 s (.slice AG s.gens.length cG) (.slice AA s.alive.length cA) (.slice AC s.caches.length cC) (.slice AF s.free.length cF) 64 (w.alloc (.cells #[.int .i64 s.limit, (.slice AG s.gens.length cG), (.slice AA s.alive.length cA), (.slice AC s.caches.length cC), (.slice AF s.free.length cF)] TT))) := ⟨⟨s, vs, col1, ⟨⟨hV.g.mono (fun k _ e => hlow k 2 (by omega) e), hV.a.mono (fun k _ e => hlow k 3 (by omega) e), hV.c.mono (fun k _ e => hlow k 4 (by omega) e), hV.f.mono (fun k _ e => hlow k 5 (by omega) e), hV.l, fun i x hx => by
    obtain ⟨v, hv, hr⟩ := hV.v i x hx
    exact ⟨v, hv, hr.mono (fun k _ e => hlow k (6 + i) (by omega) e)⟩, fun k hk => by rw [hc1 k (by omega)]; exact hz k (by omega), fun k hk => by
    by_cases e : k = w.heap.size
    · omega
    · rw [hc1 k e] at hk; exact hbb k hk⟩, blk_new _ _, hcw⟩, Nx.refl _ _, rfl, rfl, rfl, rfl, rfl, fun x hx => hO.cl x hx⟩⟩
  have HFIN : Aside0 (∀ wr N, SpE (w.alloc (.cells #[.int .i64 s.limit, (.slice AG s.gens.length cG), (.slice AA s.alive.length cA), (.slice AC s.caches.length cC), (.slice AF s.free.length cF)] TT)) base w.heap.size col1 s (.slice AG s.gens.length cG) (.slice AA s.alive.length cA) (.slice AC s.caches.length cC) (.slice AF s.free.length cF) N wr → Keep (fun k => col k ≠ 0) w wr) := ⟨fun wr N hE => by
    obtain ⟨s', vs', col', hS⟩ := hE
    exact (Keep.of_below hW).trans' hS.nx.keep (fun i hi f => by rw [hc1 i (by omega)] at f; exact f)⟩
  have hc64 := hO.c1
  have hgb := hO.g
  have hfb := hO.fl
  have hl1 := hO.l1
  have hab2 : s.alive.length ≤ 4096 := by have := hO.a; omega
  clear h hV hz hbb hW hcol1 hc1 hcw hlow
  go_enter Try.func31, Try.ntmps31
  go_wp2_with fail
  --MARK1
  generalize (w.alloc (.cells #[.int .i64 s.limit, (.slice AG s.gens.length cG), (.slice AA s.alive.length cA), (.slice AC s.caches.length cC), (.slice AF s.free.length cF)] TT)) = W at *
  obtain ⟨B, hB⟩ : ∃ B, w.heap.size = B := ⟨_, rfl⟩
  have hbW : base ≤ W.heap.size := by omega
  rw [hB] at HE HFIN ⊢
  clear hsz
  go_loopw [2] (fun i wr => ∃ k : Nat, k ≤ s.gens.length ∧ i = .int .i64 k ∧ Aside0 (SpE W base B col1 s (.slice AG s.gens.length cG) (.slice AA s.alive.length cA) (.slice AC s.caches.length cC) (.slice AF s.free.length cF) (64) wr)) (fun i _ => s.gens.length - (intOf i).toNat)
  case atStart => exact ⟨0, by omega, rfl, HE⟩
  case round =>
    clear HE
    obtain ⟨k, hk, rfl, HE⟩ := hrel
    obtain ⟨s', vs', col, hS⟩ := HE.out
    obtain ⟨x0, x1, x2, x3, x4⟩ := cells5 hS.q.blk
    have hPl := lt_blk hS.q.blk
    by_cases hlt : k < s.gens.length
    · have hki : (0 : Int) ≤ (k : Int) := by omega
      have hkl : (k : Int) < (s.gens.length : Int) := by omega
      have hk' : k < s'.gens.length := by rw [hS.g]; exact hlt
      obtain ⟨g, o, c1, he, hgl, -, hat⟩ := hS.q.r.g.form (by rw [ints_len]; omega)
      injection he with he1 he2 he3
      subst he1
      obtain ⟨y, hy⟩ : ∃ y, s'.gens[k]? = some y := ⟨_, List.getElem?_eq_getElem hk'⟩
      have hc1 := (hat k).1 _ (ints_get hy)
      have hfz := (hat k).2
      have HE2 := Aside0.mk (hS.setG hk' 77)
      clear hat he2 he3 hk' hS HE hy
      go_wp2
      go_roundw
      case rel => exact ⟨k + 1, by omega, by go_num, HE2⟩
      case measure => simp [intOf]; omega
    · obtain rfl : k = s.gens.length := by omega
      clear hS hlt hk
      go_wp2_with fail
      clear x0 x1 x2 x3 x4 hPl
      --MARK2
      go_loopw [3] (fun i wr => ∃ k : Nat, k ≤ s.alive.length ∧ i = .int .i64 k ∧ Aside0 (SpE W base B col1 s (.slice AG s.gens.length cG) (.slice AA s.alive.length cA) (.slice AC s.caches.length cC) (.slice AF s.free.length cF) (64) wr)) (fun i _ => s.alive.length - (intOf i).toNat)
      case atStart => exact ⟨0, by omega, rfl, HE⟩
      case round =>
        clear HE
        obtain ⟨k, hk, rfl, HE⟩ := hrel
        obtain ⟨s', vs', col, hS⟩ := HE.out
        obtain ⟨x0, x1, x2, x3, x4⟩ := cells5 hS.q.blk
        have hPl := lt_blk hS.q.blk
        by_cases hlt : k < s.alive.length
        · have hki : (0 : Int) ≤ (k : Int) := by omega
          have hkl : (k : Int) < (s.alive.length : Int) := by omega
          have hk' : k < s'.alive.length := by rw [hS.a]; exact hlt
          obtain ⟨g, o, c1, he, hgl, -, hat⟩ := hS.q.r.a.form (by rw [bools_len]; omega)
          injection he with he1 he2 he3
          subst he1
          obtain ⟨y, hy⟩ : ∃ y, s'.alive[k]? = some y := ⟨_, List.getElem?_eq_getElem hk'⟩
          have hc1 := (hat k).1 _ (bools_get hy)
          have hfz := (hat k).2
          have hB0 : Below wr.heap.size wr wr.drew := (Below.refl _ _).drew
          have HW0 := Aside0.mk (hS.then hB0)
          have hk2 := hk'
          have k2 : wr.drew.cell? ⟨B, 2, none⟩ = some (.slice (some ⟨g, o, none⟩) s.alive.length cA) := x2
          have kc : wr.drew.cell? ⟨g, o + k, none⟩ = some (.bool y) := hc1
          have hfz : wr.drew.frozen? ⟨g, o + k, none⟩ = false := hfz
          have hgl : g < wr.drew.heap.size := hgl
          clear hat he2 he3 hS HE hy hB0
          go_wp2_with fail
          --MARK8
          refine start_ (n := 11) (S := fun w' => w'.cell? ⟨B, 2, none⟩ = some (.slice (some ⟨g, o, none⟩) s.alive.length cA) ∧ w'.cell? ⟨g, o + k, none⟩ = some (.bool y)) (ds := [10]) #[false, false, false, false, false, false, false, false, false, false, false] (by kernel_rfl) rfl rfl ⟨k2, kc⟩ (fun hHeld => ?_)
          generalize wr.drew = x9 at *
          refine pure_ (i := 0) (N := some 25) (v := ?_) (a' := ?_) #[true, false, false, false, false, false, false, false, false, false, false] rfl rfl (by kernel_rfl) (fun _ _ _ h => h) (Or.inl ⟨by rfl, ?_⟩) ?_ ?_
          rotate_left
          · intro w'
            go_simp
            with_reducible rfl
          rotate_left
          · simp only [Act.put, List.setIfInBounds_toArray, List.set_cons_zero, List.set_cons_succ, i64_w, i32_w]
            rfl
          refine pure_ (i := 2) (N := some 27) (v := ?_) (a' := ?_) #[true, false, true, false, false, false, false, false, false, false, false] rfl rfl (by kernel_rfl) (fun _ _ _ h => h) (Or.inl ⟨by rfl, ?_⟩) ?_ ?_
          rotate_left
          · intro w'
            go_simp
            with_reducible rfl
          rotate_left
          · simp only [Act.put, List.setIfInBounds_toArray, List.set_cons_zero, List.set_cons_succ, i64_w, i32_w]
            rfl
          refine pure_ (i := 3) (N := some 28) (v := ?_) (a' := ?_) #[true, false, true, true, false, false, false, false, false, false, false] rfl rfl (by kernel_rfl) (fun _ _ _ h => h) (Or.inl ⟨by rfl, ?_⟩) ?_ ?_
          rotate_left
          · intro w'
            go_simp
            with_reducible rfl
          rotate_left
          · simp only [Act.put, List.setIfInBounds_toArray, List.set_cons_zero, List.set_cons_succ, i64_w, i32_w]
            rfl
          refine pure_ (i := 5) (N := some 30) (v := ?_) (a' := ?_) #[true, false, true, true, false, true, false, false, false, false, false] rfl rfl (by kernel_rfl) (fun _ _ _ h => h) (Or.inl ⟨by rfl, ?_⟩) ?_ ?_
          rotate_left
          · intro w'
            go_simp
            with_reducible rfl
          rotate_left
          · simp only [Act.put, List.setIfInBounds_toArray, List.set_cons_zero, List.set_cons_succ, i64_w, i32_w]
            rfl
          refine take_ (i := 1) (N := some 26) (v := ?_) (a' := ?_) #[true, true, true, true, false, true, false, false, false, false, false] rfl rfl (by kernel_rfl) (fun _ _ _ h => h) (Or.inl ⟨by rfl, ?_⟩) hHeld ?_ ?_
          rotate_left
          · rintro w' ⟨s0, s1⟩
            go_simp
            with_reducible rfl
          rotate_left
          · simp only [Act.put, List.setIfInBounds_toArray, List.set_cons_zero, List.set_cons_succ, i64_w, i32_w]
            rfl
          refine take_ (i := 4) (N := some 29) (v := ?_) (a' := ?_) #[true, true, true, true, true, true, false, false, false, false, false] rfl rfl (by kernel_rfl) (fun _ _ _ h => h) (Or.inl ⟨by rfl, ?_⟩) hHeld ?_ ?_
          rotate_left
          · rintro w' ⟨s0, s1⟩
            go_simp
            with_reducible rfl
          rotate_left
          · simp only [Act.put, List.setIfInBounds_toArray, List.set_cons_zero, List.set_cons_succ, i64_w, i32_w]
            rfl
          refine pure_ (i := 6) (N := some 31) (v := ?_) (a' := ?_) #[true, true, true, true, true, true, true, false, false, false, false] rfl rfl (by kernel_rfl) (fun _ _ _ h => h) (Or.inl ⟨by rfl, ?_⟩) ?_ ?_
          rotate_left
          · intro w'
            go_simp
            with_reducible rfl
          rotate_left
          · simp only [Act.put, List.setIfInBounds_toArray, List.set_cons_zero, List.set_cons_succ, i64_w, i32_w]
            rfl
          refine take_ (i := 7) (N := some 32) (v := ?_) (a' := ?_) #[true, true, true, true, true, true, true, true, false, false, false] rfl rfl (by kernel_rfl) (fun _ _ _ h => h) (Or.inl ⟨by rfl, ?_⟩) hHeld ?_ ?_
          rotate_left
          · rintro w' ⟨s0, s1⟩
            go_simp
            with_reducible rfl
          rotate_left
          · simp only [Act.put, List.setIfInBounds_toArray, List.set_cons_zero, List.set_cons_succ, i64_w, i32_w]
            rfl
          refine pure_ (i := 8) (N := some 33) (v := ?_) (a' := ?_) #[true, true, true, true, true, true, true, true, true, false, false] rfl rfl (by kernel_rfl) (fun _ _ _ h => h) (Or.inl ⟨by rfl, ?_⟩) ?_ ?_
          rotate_left
          · intro w'
            go_simp
            with_reducible rfl
          rotate_left
          · simp only [Act.put, List.setIfInBounds_toArray, List.set_cons_zero, List.set_cons_succ, i64_w, i32_w]
            rfl
          refine pure_ (i := 9) (N := some 34) (v := ?_) (a' := ?_) #[true, true, true, true, true, true, true, true, true, true, false] rfl rfl (by kernel_rfl) (fun _ _ _ h => h) (Or.inl ⟨by rfl, ?_⟩) ?_ ?_
          rotate_left
          · intro w'
            go_simp
            with_reducible rfl
          rotate_left
          · simp only [Act.put, List.setIfInBounds_toArray, List.set_cons_zero, List.set_cons_succ, i64_w, i32_w]
            rfl
          refine last_ (i := 10) (N := none) #[true, true, true, true, true, true, true, true, true, true, true] rfl rfl (by kernel_rfl) (by decide) (fun K hK => ?_)
          refine skip_ (w1 := ?_) (by rfl) rfl ?_ ?_
          rotate_left
          · go_simp
            first | with_reducible rfl | rfl
          refine hK.out _ _ ?_
          clear hK K
          refine done_ (by kernel_rfl) ?_
          have HE3 := Aside0.mk (HW0.out.setA hk2 (!y))
          clear HW0 hHeld
          go_wp2
          go_roundw
          case rel => exact ⟨k + 1, by omega, by go_num, HE3⟩
          case measure => simp [intOf]; omega
        · obtain rfl : k = s.alive.length := by omega
          clear hS hlt hk
          go_wp2_with fail
          clear x0 x1 x2 x3 x4 hPl
          --MARK9
          go_loopw [4] (fun i wr => ∃ k : Nat, k ≤ s.free.length ∧ i = .int .i64 k ∧ Aside0 (SpE W base B col1 s (.slice AG s.gens.length cG) (.slice AA s.alive.length cA) (.slice AC s.caches.length cC) (.slice AF s.free.length cF) (64) wr)) (fun i _ => s.free.length - (intOf i).toNat)
          case atStart => exact ⟨0, by omega, rfl, HE⟩
          case round =>
            clear HE
            obtain ⟨k, hk, rfl, HE⟩ := hrel
            obtain ⟨s', vs', col, hS⟩ := HE.out
            obtain ⟨x0, x1, x2, x3, x4⟩ := cells5 hS.q.blk
            have hPl := lt_blk hS.q.blk
            by_cases hlt : k < s.free.length
            · have hki : (0 : Int) ≤ (k : Int) := by omega
              have hkl : (k : Int) < (s.free.length : Int) := by omega
              have hk' : k < s'.free.length := by rw [hS.f]; exact hlt
              obtain ⟨g, o, c1, he, hgl, -, hat⟩ := hS.q.r.f.form (by rw [ints_len]; omega)
              injection he with he1 he2 he3
              subst he1
              obtain ⟨y, hy⟩ : ∃ y, s'.free[k]? = some y := ⟨_, List.getElem?_eq_getElem hk'⟩
              have hc1 := (hat k).1 _ (ints_get hy)
              have hfz := (hat k).2
              have HE2 := Aside0.mk (hS.setF hk' 78)
              clear hat he2 he3 hk' hS HE hy
              go_wp2
              go_roundw
              case rel => exact ⟨k + 1, by omega, by go_num, HE2⟩
              case measure => simp [intOf]; omega
            · obtain rfl : k = s.free.length := by omega
              have HE5 : Aside0 (SpE W base B col1 s (.slice AG s.gens.length cG) (.slice AA s.alive.length cA) (.slice AC s.caches.length cC) (.slice AF s.free.length cF) (64 + 3 * 0) wr) := HE
              clear hS hlt hk HE
              go_wp2_with fail
              clear x0 x1 x2 x3 x4 hPl
              --MARK13
              go_loopw [5] (fun i wr => ∃ p : Nat, p ≤ s.caches.length ∧ i = .int .i64 p ∧ Aside0 (SpE W base B col1 s (.slice AG s.gens.length cG) (.slice AA s.alive.length cA) (.slice AC s.caches.length cC) (.slice AF s.free.length cF) (64 + 3 * p) wr)) (fun i _ => s.caches.length - (intOf i).toNat)
              case atStart => exact ⟨0, by omega, rfl, HE5⟩
              case round =>
                clear HE5
                obtain ⟨p, hp, rfl, HE⟩ := hrel
                obtain ⟨s', vs', col', hS⟩ := HE.out
                obtain ⟨x0, x1, x2, x3, x4⟩ := cells5 hS.q.blk
                have hPl := lt_blk hS.q.blk
                by_cases hlt : p < s.caches.length
                · have hki : (0 : Int) ≤ (p : Int) := by omega
                  have hkl : (p : Int) < (s.caches.length : Int) := by omega
                  have hk' : p < s'.caches.length := by rw [hS.c]; exact hlt
                  obtain ⟨x, hx⟩ : ∃ x, s'.caches[p]? = some x := ⟨_, List.getElem?_eq_getElem hk'⟩
                  obtain ⟨v, hv, hvrow⟩ := hS.q.r.v p x hx
                  obtain ⟨gC, oC, c1, he, hgC, hg4, hat⟩ := hS.q.r.c.form (by rw [hS.q.r.l]; omega)
                  injection he with he1 he2 he3
                  subst he1
                  obtain ⟨Av, cv, rfl, -⟩ := hvrow.slice
                  rw [ints_len] at hv
                  obtain ⟨m, hm⟩ : ∃ m, m = x.length := ⟨_, rfl⟩
                  rw [← hm] at hv
                  have HI : Aside0 (SpI W base B col1 s (.slice AG s.gens.length cG) (.slice AA s.alive.length cA) (.slice (some ⟨gC, oC, none⟩) s.caches.length cC) (.slice AF s.free.length cF) (64 + 3 * p) p (.slice Av m cv) m wr) := ⟨⟨s', vs', col', x, hS, hx, hm.symm, hv⟩⟩
                  have hmb : m ≤ 256 := by have := hS.e x (List.mem_of_getElem? hx); omega
                  clear hvrow hat he2 he3 hk' hS HE hx hm hgC hg4 hv
                  go_wp2_with fail
                  --MARK16
                  go_loopw [6] (fun i wr => ∃ k : Nat, k ≤ m ∧ i = .int .i64 k ∧ Aside0 (SpI W base B col1 s (.slice AG s.gens.length cG) (.slice AA s.alive.length cA) (.slice (some ⟨gC, oC, none⟩) s.caches.length cC) (.slice AF s.free.length cF) (64 + 3 * p) p (.slice Av m cv) m wr)) (fun i _ => m - (intOf i).toNat)
                  case atStart => exact ⟨0, by omega, rfl, HI⟩
                  case round =>
                    clear HI
                    obtain ⟨k, hk, rfl, HI⟩ := hrel
                    obtain ⟨s', vs', col', x, hS, hx, hm, hv⟩ := HI.out
                    obtain ⟨x0, x1, x2, x3, x4⟩ := cells5 hS.q.blk
                    have hPl := lt_blk hS.q.blk
                    obtain ⟨gC', oC', c1, he, hgC, hg4, hat⟩ := hS.q.r.c.form (by rw [hS.q.r.l, hS.c]; omega)
                    injection he with he1 he2 he3
                    injection he1 with he1
                    injection he1 with he4 he5
                    subst he4
                    subst he5
                    have hcc := (hat p).1 _ hv
                    have hcf := (hat p).2
                    obtain ⟨v, hv', hvrow⟩ := hS.q.r.v p x hx
                    rw [hv] at hv'
                    injection hv' with hv'
                    subst hv'
                    clear hat he2 he3
                    by_cases hlk : k < m
                    · obtain ⟨gV, oV, c2, he, hgV, hg6, hatV⟩ := hvrow.form (by rw [ints_len]; omega)
                      injection he with he1 he2 he3
                      subst he1
                      have hki2 : (0 : Int) ≤ (k : Int) := by omega
                      have hkl2 : (k : Int) < (m : Int) := by omega
                      have hkx : k < x.length := by omega
                      obtain ⟨y, hy⟩ : ∃ y, x[k]? = some y := ⟨_, List.getElem?_eq_getElem hkx⟩
                      have hcv := (hatV k).1 _ (ints_get hy)
                      have hfv := (hatV k).2
                      have HI2 : Aside0 (SpI W base B col1 s (.slice AG s.gens.length cG) (.slice AA s.alive.length cA) (.slice (some ⟨gC, oC, none⟩) s.caches.length cC) (.slice AF s.free.length cF) (64 + 3 * p) p (.slice (some ⟨gV, oV, none⟩) m cv) m (wr.setCell ⟨gV, oV + k, none⟩ (.int .i64 79))) := ⟨⟨_, _, _, x.set k 79, hS.setK hx hv hkx 79, by show (s'.caches.set p _)[p]? = _; rw [List.getElem?_set_self (List.getElem?_eq_some_iff.1 hx).1], by rw [List.length_set]; exact hm, hv⟩⟩
                      clear hatV he2 he3 hvrow hS HI hx hm hv hkx hg6 hg4 hy
                      go_wp2
                      go_roundw
                      case rel => exact ⟨k + 1, by omega, by go_num, HI2⟩
                      case measure => simp [intOf]; omega
                    · obtain rfl : k = m := by omega
                      have hB0 : Below wr.heap.size wr wr.drew := (Below.refl _ _).drew
                      have HW0 := Aside0.mk (hS.then hB0)
                      have HVR := Aside0.mk (hvrow.below hB0)
                      have HX := Aside0.mk hx
                      have hp2 : p < s'.caches.length := (List.getElem?_eq_some_iff.1 hx).1
                      have hxm := hm
                      have hx100 := hS.e x (List.mem_of_getElem? hx)
                      have h1B := hS.q.one
                      have hbr : base ≤ wr.drew.heap.size := by have := hS.nx.keep.size; have := hB0.size; omega
                      have k3 : wr.drew.cell? ⟨B, 3, none⟩ = some (.slice (some ⟨gC, oC, none⟩) s.caches.length cC) := x3
                      have kc : wr.drew.cell? ⟨gC, oC + p, none⟩ = some (.slice Av k cv) := hcc
                      have kf : wr.drew.frozen? ⟨gC, oC + p, none⟩ = false := hcf
                      have hgC0 : gC < wr.drew.heap.size := hgC
                      have hPl0 : B < wr.drew.heap.size := hPl
                      clear hvrow hS HI hx hm hv hB0 hlk
                      go_wp2_with fail
                      --MARK20
                      clear x0 x1 x2 x3 x4 hcc hcf
                      refine start_ (n := 12) (S := fun w' => w'.cell? ⟨B, 3, none⟩ = some (.slice (some ⟨gC, oC, none⟩) s.caches.length cC) ∧ w'.cell? ⟨gC, oC + p, none⟩ = some (.slice Av k cv)) (ds := [11]) #[false, false, false, false, false, false, false, false, false, false, false, false] (by kernel_rfl) rfl rfl ⟨k3, kc⟩ (fun hHeld => ?_)
                      generalize wr.drew = u0 at *
                      refine pure_ (i := 0) (N := some 70) (v := ?_) (a' := ?_) #[true, false, false, false, false, false, false, false, false, false, false, false] rfl rfl (by kernel_rfl) (fun _ _ _ h => h) (Or.inl ⟨by rfl, ?_⟩) ?_ ?_
                      rotate_left
                      · intro w'
                        go_simp
                        with_reducible rfl
                      rotate_left
                      · simp only [Act.put, List.setIfInBounds_toArray, List.set_cons_zero, List.set_cons_succ, i64_w, i32_w]
                        rfl
                      refine pure_ (i := 2) (N := some 72) (v := ?_) (a' := ?_) #[true, false, true, false, false, false, false, false, false, false, false, false] rfl rfl (by kernel_rfl) (fun _ _ _ h => h) (Or.inl ⟨by rfl, ?_⟩) ?_ ?_
                      rotate_left
                      · intro w'
                        go_simp
                        with_reducible rfl
                      rotate_left
                      · simp only [Act.put, List.setIfInBounds_toArray, List.set_cons_zero, List.set_cons_succ, i64_w, i32_w]
                        rfl
                      refine pure_ (i := 3) (N := some 73) (v := ?_) (a' := ?_) #[true, false, true, true, false, false, false, false, false, false, false, false] rfl rfl (by kernel_rfl) (fun _ _ _ h => h) (Or.inl ⟨by rfl, ?_⟩) ?_ ?_
                      rotate_left
                      · intro w'
                        go_simp
                        with_reducible rfl
                      rotate_left
                      · simp only [Act.put, List.setIfInBounds_toArray, List.set_cons_zero, List.set_cons_succ, i64_w, i32_w]
                        rfl
                      refine pure_ (i := 5) (N := some 75) (v := ?_) (a' := ?_) #[true, false, true, true, false, true, false, false, false, false, false, false] rfl rfl (by kernel_rfl) (fun _ _ _ h => h) (Or.inl ⟨by rfl, ?_⟩) ?_ ?_
                      rotate_left
                      · intro w'
                        go_simp
                        with_reducible rfl
                      rotate_left
                      · simp only [Act.put, List.setIfInBounds_toArray, List.set_cons_zero, List.set_cons_succ, i64_w, i32_w]
                        rfl
                      refine take_ (i := 1) (N := some 71) (v := ?_) (a' := ?_) #[true, true, true, true, false, true, false, false, false, false, false, false] rfl rfl (by kernel_rfl) (fun _ _ _ h => h) (Or.inl ⟨by rfl, ?_⟩) hHeld ?_ ?_
                      rotate_left
                      · rintro w' ⟨s0, s1⟩
                        go_simp
                        with_reducible rfl
                      rotate_left
                      · simp only [Act.put, List.setIfInBounds_toArray, List.set_cons_zero, List.set_cons_succ, i64_w, i32_w]
                        rfl
                      refine take_ (i := 4) (N := some 74) (v := ?_) (a' := ?_) #[true, true, true, true, true, true, false, false, false, false, false, false] rfl rfl (by kernel_rfl) (fun _ _ _ h => h) (Or.inl ⟨by rfl, ?_⟩) hHeld ?_ ?_
                      rotate_left
                      · rintro w' ⟨s0, s1⟩
                        go_simp
                        with_reducible rfl
                      rotate_left
                      · simp only [Act.put, List.setIfInBounds_toArray, List.set_cons_zero, List.set_cons_succ, i64_w, i32_w]
                        rfl
                      refine pure_ (i := 6) (N := some 76) (v := ?_) (a' := ?_) #[true, true, true, true, true, true, true, false, false, false, false, false] rfl rfl (by kernel_rfl) (fun _ _ _ h => h) (Or.inl ⟨by rfl, ?_⟩) ?_ ?_
                      rotate_left
                      · intro w'
                        go_simp
                        with_reducible rfl
                      rotate_left
                      · simp only [Act.put, List.setIfInBounds_toArray, List.set_cons_zero, List.set_cons_succ, i64_w, i32_w]
                        rfl
                      refine take_ (i := 7) (N := some 77) (v := ?_) (a' := ?_) #[true, true, true, true, true, true, true, true, false, false, false, false] rfl rfl (by kernel_rfl) (fun _ _ _ h => h) (Or.inl ⟨by rfl, ?_⟩) hHeld ?_ ?_
                      rotate_left
                      · rintro w' ⟨s0, s1⟩
                        go_simp
                        with_reducible rfl
                      rotate_left
                      · simp only [Act.put, List.setIfInBounds_toArray, List.set_cons_zero, List.set_cons_succ, i64_w, i32_w]
                        rfl
                      refine one_ (i := 8) (N := some 78) #[true, true, true, true, true, true, true, true, true, false, false, false] rfl rfl (by kernel_rfl) (by decide) (fun K hK => ?_)
                      refine value_ (w1 := ?_) (v := ?_) (by rfl) rfl ?_ ?_
                      rotate_left 2
                      · go_simp
                        constructor
                        · rfl
                        · rfl
                      have hS1 : Below u0.heap.size u0 (u0.alloc (.cells #[.int .i64 1, .int .i64 2, .int .i64 3] 3)) := below_al (Below.refl _ _) _
                      have hI : (u0.alloc (.cells #[.int .i64 1, .int .i64 2, .int .i64 3] 3)).heap[u0.heap.size]? = some (.cells #[.int .i64 1, .int .i64 2, .int .i64 3] 3 (0, 0)) := blk_new _ _
                      generalize u0.alloc (.cells #[.int .i64 1, .int .i64 2, .int .i64 3] 3) = u1 at *
                      have hz1 := hS1.size
                      refine hK.out _ _ ⟨pw_cell_below hS1 k3, pw_cell_below hS1 kc⟩ (fun hHeld => ?_)
                      clear hK K
                      refine norm_ (a' := ?_) ?_ ?_
                      rotate_left
                      · show Act.put _ (some 78) _ = _
                        simp only [Act.put, List.setIfInBounds_toArray, List.set_cons_zero, List.set_cons_succ, i64_w, i32_w]
                        rfl
                      refine one_ (i := 9) (N := some 79) #[true, true, true, true, true, true, true, true, true, true, false, false] rfl rfl (by kernel_rfl) (by decide) (fun K hK => ?_)
                      obtain ⟨v5, w5, hr5, hrow5, hg5⟩ := row_append (P := Try.prog) (t := 26) Try.underlying26 infoIn rfl (by omega) (HVR.out.below hS1) (some ⟨u0.heap.size, 0, none⟩) 3 3 (ints [1, 2, 3]) rfl (fun _ => ⟨_, rfl, fun j u hj => by match j, hj with | 0, hj => (obtain rfl : Value.int .i64 1 = u := by simpa [ints] using hj); rw [adds]; exact cell_blk hI 0 | 1, hj => (obtain rfl : Value.int .i64 2 = u := by simpa [ints] using hj); rw [adds]; exact cell_blk hI 1 | 2, hj => (obtain rfl : Value.int .i64 3 = u := by simpa [ints] using hj); rw [adds]; exact cell_blk hI 2 | j + 3, hj => simp [ints] at hj⟩) ints_one (by rw [ints_len]; omega) (by omega)
                      refine app_ (.tmp 77) (.tmp 78) 26 (by rfl) rfl rfl rfl rfl hr5 ?_
                      have hK5 := grown_keep hg5 HVR.out.own
                      obtain ⟨A5, c5, he5, -⟩ := hrow5.slice
                      rw [← ints_append] at hrow5 he5
                      rw [ints_len, List.length_append, hxm, show ([1, 2, 3] : List Int).length = 3 from rfl] at he5
                      subst he5
                      have hrow6 : Row w5 base (fun k => col' k = 6 + p ∨ u0.heap.size ≤ k) 3 (.slice A5 (k + 3) c5) (ints (x ++ [1, 2, 3])) := hrow5.mono (fun k _ h => h.imp id (fun h => by omega))
                      have hK05 : Keep (fun k => col' k = 6 + p) u0 w5 := (Keep.of_below hS1).trans hK5
                      have hz5 := hK05.size
                      have q3 := (keep_cell hK05 hPl0 (by omega) 3).1.trans k3
                      have qc := (keep_cell hK05 hgC0 (by omega) (oC + p)).1.trans kc
                      have qf := (keep_cell hK05 hgC0 (by omega) (oC + p)).2.trans kf
                      have hgC5 : gC < w5.heap.size := by omega
                      refine hK.out _ _ ⟨q3, qc⟩ (fun hHeld => ?_)
                      clear hK K
                      refine norm_ (a' := ?_) ?_ ?_
                      rotate_left
                      · show Act.put _ (some 79) _ = _
                        simp only [Act.put, List.setIfInBounds_toArray, List.set_cons_zero, List.set_cons_succ, i64_w, i32_w]
                        rfl
                      refine pure_ (i := 10) (N := some 80) (v := ?_) (a' := ?_) #[true, true, true, true, true, true, true, true, true, true, true, false] rfl rfl (by kernel_rfl) (fun _ _ _ h => h) (Or.inl ⟨by rfl, ?_⟩) ?_ ?_
                      rotate_left
                      · intro w'
                        go_simp
                        with_reducible rfl
                      rotate_left
                      · simp only [Act.put, List.setIfInBounds_toArray, List.set_cons_zero, List.set_cons_succ, i64_w, i32_w]
                        rfl
                      refine last_ (i := 11) (N := none) #[true, true, true, true, true, true, true, true, true, true, true, true] rfl rfl (by kernel_rfl) (by decide) (fun K hK => ?_)
                      refine skip_ (w1 := ?_) (by rfl) rfl ?_ ?_
                      rotate_left
                      · go_simp
                        first | with_reducible rfl | rfl
                      refine hK.out _ _ ?_
                      clear hK K
                      refine done_ (by kernel_rfl) ?_
                      obtain ⟨col9, hQ9, hN9⟩ := HW0.out.q.cache (w1 := w5) (v1 := .slice A5 (k + 3) c5) (ys := x ++ [1, 2, 3]) (by omega) rfl hp2 hK05 hrow6
                      have HE3 : Aside0 (SpE W base B col1 s (.slice AG s.gens.length cG) (.slice AA s.alive.length cA) (.slice (some ⟨gC, oC, none⟩) s.caches.length cC) (.slice AF s.free.length cF) (64 + 3 * (p + 1)) (w5.setCell ⟨gC, oC + p, none⟩ (.slice A5 (k + 3) c5))) := ⟨⟨_, _, _, hQ9, HW0.out.nx.trans hN9, HW0.out.lim, HW0.out.g, HW0.out.a, HW0.out.f, by show (s'.caches.set p _).length = _; rw [List.length_set]; exact HW0.out.c, fun y hy => by
                        rcases List.mem_or_eq_of_mem_set hy with hy | rfl
                        · have := HW0.out.e y hy; omega
                        · rw [List.length_append]; show x.length + 3 ≤ _; have := HW0.out.e x (List.mem_of_getElem? HX.out); omega⟩⟩
                      generalize (w5.setCell ⟨gC, oC + p, none⟩ (.slice A5 (k + 3) c5)) = W9 at *
                      clear HW0 hHeld hQ9 hN9 hrow6 hrow5 hK05 hK5 q3 qc qf hg5 hr5 hI hS1
                      go_wp2
                      go_roundw
                      case rel => exact ⟨p + 1, by omega, by go_num, HE3⟩
                      case measure => simp [intOf]; omega
                · obtain rfl : p = s.caches.length := by omega
                  clear hS
                  go_wp2
                  --MARKEND
                  exact bodyPost_end (v := .tuple #[]) (by simp [results, Try.results31, go_sem]) rfl ⟨rfl, HFIN.out _ _ HE.out⟩
end Go.Proofs.Ytnglgjegkjfnaaa
/- SlabOwn: a state that is handed in, and one that is told, may be written over: the slab, which answers any calls as the document does, keeps none of their memory. No condition. -/
set_option linter.unusedSimpArgs false
set_option linter.unusedVariables false
namespace Go.Proofs.Ytnglgjegkjfnaaa
open Go.RowKit Go.ChangeShapes Go.WideShapes Go.ChangeAt Go.Proofs.YtnglgjegkjfnaaaW.PrintWords Go.Proofs.YtnglgjegkjfnaaaW.PrintMore Go.Proofs.YtnglgjegkjfnaaaW.PrintLast
/-! SlabOwn: printed by gen04gg.py. -/
attribute [local go_sem high] eqG
theorem IsSlab.lower {T : TypeId} {w : World} {base base' b : Nat} {col : Nat → Nat} {s : Sl} (h : IsSlab T w base b col s) (hb : base' ≤ base) : IsSlab T w base' b col s := by
  obtain ⟨vG, vA, vC, vF, vs, h⟩ := h
  exact ⟨vG, vA, vC, vF, vs, h.lower hb⟩
set_option maxRecDepth 100000 in
set_option maxHeartbeats 16000000 in
theorem SlabOwn0.walk (w : World) {s : Sl} {vG vA vC vF : Value} {vs : List Value} (h : SlR w s vG vA vC vF vs) (hBd0 : Bd s) (A : Option Addr) (c : Nat) (ops : List SOp) (hC : kSOp.C w A ops.length ops) (hc : ops.length ≤ c) (hl : ops.length * 16 ≤ 140737488355328) :
    Calls Try.prog 12 #[.agg #[.int .i64 s.limit, vG, vA, vC, vF], .slice A ops.length c] w fun e w' => e = .returned (.bool true) ∧ Below w.heap.size w w' := by
  obtain ⟨AG0, cG0, rfl, -⟩ := h.g.slice
  obtain ⟨AA0, cA0, rfl, -⟩ := h.a.slice
  obtain ⟨AC0, cC0, rfl, -⟩ := h.c.slice
  obtain ⟨AF0, cF0, rfl, -⟩ := h.f.slice
  have hW : Below w.heap.size w (w.alloc (.cells #[.int .i64 s.limit, (.slice AG0 (ints s.gens).length cG0), (.slice AA0 (bools s.alive).length cA0), (.slice AC0 vs.length cC0), (.slice AF0 (ints s.free).length cF0)] 30)) := below_al (Below.refl _ _) _
  have HX : Aside0 ((w.alloc (.cells #[.int .i64 s.limit, (.slice AG0 (ints s.gens).length cG0), (.slice AA0 (bools s.alive).length cA0), (.slice AC0 vs.length cC0), (.slice AF0 (ints s.free).length cF0)] 30)).heap[w.heap.size]? = some (.cells #[.int .i64 s.limit, (.slice AG0 (ints s.gens).length cG0), (.slice AA0 (bools s.alive).length cA0), (.slice AC0 vs.length cC0), (.slice AF0 (ints s.free).length cF0)] 30 (0, 0))) := ⟨blk_new _ _⟩
  have HC := Aside0.mk (Kd.C_below hC hW)
  have HR := Aside0.mk (h.below hW)
  have HW := Aside0.mk hW
  have HBD := Aside0.mk hBd0
  clear hC hW h hBd0
  go_enter Try.func12, Try.ntmps12
  go_wp2_with fail
  generalize (w.alloc (.cells #[.int .i64 s.limit, (.slice AG0 (ints s.gens).length cG0), (.slice AA0 (bools s.alive).length cA0), (.slice AC0 vs.length cC0), (.slice AF0 (ints s.free).length cF0)] 30)) = W at *
  refine (copy_rd W HR.out HBD.out).mono ?_
  rintro e w1 ⟨vGi, vAi, vCi, vFi, usI, colI, rfl, hVI, hzI, hB1⟩
  obtain ⟨AGI, cGI, rfl, -⟩ := hVI.g.slice
  obtain ⟨AAI, cAI, rfl, -⟩ := hVI.a.slice
  obtain ⟨ACI, cCI, rfl, -⟩ := hVI.c.slice
  obtain ⟨AFI, cFI, rfl, -⟩ := hVI.f.slice
  have hA : Below w1.heap.size w1 (w1.alloc (.cells #[.int .i64 s.limit, (.slice AGI (ints s.gens).length cGI), (.slice AAI (bools s.alive).length cAI), (.slice ACI usI.length cCI), (.slice AFI (ints s.free).length cFI)] TT)) := below_al (Below.refl _ _) _
  have HVI := Aside0.mk (hVI.below hA)
  have HI : Aside0 ((w1.alloc (.cells #[.int .i64 s.limit, (.slice AGI (ints s.gens).length cGI), (.slice AAI (bools s.alive).length cAI), (.slice ACI usI.length cCI), (.slice AFI (ints s.free).length cFI)] TT)).heap[w1.heap.size]? = some (.cells #[.int .i64 s.limit, (.slice AGI (ints s.gens).length cGI), (.slice AAI (bools s.alive).length cAI), (.slice ACI usI.length cCI), (.slice AFI (ints s.free).length cFI)] TT (0, 0))) := ⟨blk_new _ _⟩
  have HB2 := Aside0.mk (below_then hB1 hA)
  have hzI1 := hVI.z
  have hw12 := hA.size
  clear hVI hzI hA
  go_wp2_with fail
  --MARK2
  generalize (w1.alloc (.cells #[.int .i64 s.limit, (.slice AGI (ints s.gens).length cGI), (.slice AAI (bools s.alive).length cAI), (.slice ACI usI.length cCI), (.slice AFI (ints s.free).length cFI)] TT)) = W2 at *
  refine (slload_any W2 HVI.out.rd HBD.out).mono ?_
  rintro e w2 ⟨hB2, hL2⟩
  have HB3 := Aside0.mk (below_then HB2.out hB2)
  have HX2 := Aside0.mk (blk_below HX.out HB3.out)
  have HI2 := Aside0.mk (blk_below HI.out hB2)
  have HV2 := Aside0.mk (HVI.out.below hB2)
  have HL := load_rd w2 (HR.out.below HB3.out) HBD.out
  obtain ⟨x0, x1, x2, x3, x4⟩ := cells5 HX2.out
  have hXl := lt_blk HX2.out
  obtain ⟨i0, i1, i2, i3, i4⟩ := cells5 HI2.out
  have hIl := lt_blk HI2.out
  rcases hL2 with ⟨hk, rfl⟩ | ⟨hk, hwf, b, col, rfl, hS1, hc1⟩ | ⟨hk, hwf, rfl⟩
  · have HK := Aside0.mk hk
    clear hk hB2
    go_wp2_with fail
    refine HL.mono ?_
    clear x0 x1 x2 x3 x4 hXl i0 i1 i2 i3 i4 hIl HL
    rintro e w3 ⟨hB3, ⟨hk2, rfl⟩ | ⟨hk2, -, rfl⟩ | ⟨hk2, -, rfl⟩⟩
    · have HB4 := Aside0.mk (below_then HB3.out hB3)
      have HX3 := Aside0.mk (blk_below HX.out HB4.out)
      have HI3 := Aside0.mk (blk_below HI2.out hB3)
      have HV3 := Aside0.mk (HV2.out.below hB3)
      have hSm := same_rd (L := s.limit) w3 HV3.out.rd (HR.out.below HB4.out) HBD.out
      obtain ⟨x0, x1, x2, x3, x4⟩ := cells5 HX3.out
      have hXl := lt_blk HX3.out
      obtain ⟨i0, i1, i2, i3, i4⟩ := cells5 HI3.out
      have hIl := lt_blk HI3.out
      clear hB3 hk2
      go_wp2_with fail
      refine hSm.mono ?_
      clear x0 x1 x2 x3 x4 hXl i0 i1 i2 i3 i4 hIl hSm
      rintro e w4 ⟨rfl, hB4⟩
      have HB4' := Aside0.mk (below_then HB4.out hB4)
      clear hB4
      go_wp2_with fail
      refine (awake_any w4).mono ?_
      rintro e w5 ⟨rfl, hB5⟩
      have HB5 := Aside0.mk (below_then HW.out (below_then HB4'.out hB5))
      clear hB5
      go_wp2
      go_ret
      exact ⟨by simp, HB5.out⟩
    · rw [HK.out] at hk2; cases hk2
    · rw [HK.out] at hk2; cases hk2
  · have HK := Aside0.mk hk
    have HWF := Aside0.mk hwf
    have hW2 := HB2.out.size
    have HS1 := Aside0.mk (hS1.lower hW2)
    have hbl : ∀ k, col k ≠ 0 → W2.heap.size ≤ k := hS1.base_le
    have HBL := Aside0.mk hbl
    clear hk hB2 hwf hS1 hc1 hbl
    go_wp2_with fail
    refine HL.mono ?_
    clear x0 x1 x2 x3 x4 hXl i0 i1 i2 i3 i4 hIl HL
    rintro e w3 ⟨hB3, ⟨hk2, rfl⟩ | ⟨hk2, -, rfl⟩ | ⟨-, hwf2, rfl⟩⟩
    · rw [HK.out] at hk2; cases hk2
    · have HB4 := Aside0.mk (below_then HB3.out hB3)
      have HX3 := Aside0.mk (blk_below HX.out HB4.out)
      have HI3 := Aside0.mk (blk_below HI2.out hB3)
      have HV3 := Aside0.mk (HV2.out.below hB3)
      have HS3 := Aside0.mk (HS1.out.below hB3)
      have hSm := same_rd (L := s.limit) w3 HV3.out.rd (HR.out.below HB4.out) HBD.out
      obtain ⟨x0, x1, x2, x3, x4⟩ := cells5 HX3.out
      have hXl := lt_blk HX3.out
      obtain ⟨i0, i1, i2, i3, i4⟩ := cells5 HI3.out
      have hIl := lt_blk HI3.out
      clear hB3 hk2
      go_wp2_with fail
      --MARKS
      refine hSm.mono ?_
      clear x0 x1 x2 x3 x4 hXl i0 i1 i2 i3 i4 hIl hSm
      rintro e w4 ⟨rfl, hB4⟩
      have HI4 := Aside0.mk (blk_below HI3.out hB4)
      have HV4 := Aside0.mk (HV3.out.below hB4)
      have HS4 := Aside0.mk (HS3.out.below hB4)
      have HB4' := Aside0.mk (below_then HB4.out hB4)
      have hSp := spoil_slab HB4'.out.size HV4.out HWF.out.ok
      obtain ⟨i0, i1, i2, i3, i4⟩ := cells5 HI4.out
      have hIl := lt_blk HI4.out
      clear hB4
      go_wp2_with fail
      --MARKP
      refine hSp.mono ?_
      clear hSp i0 i1 i2 i3 i4 hIl
      rintro e w5 ⟨rfl, hK5⟩
      have HB5 := Aside0.mk (below_then_keep HB4'.out HB4'.out.size hK5 (fun i hi => HV4.out.b i hi))
      have HX5 := Aside0.mk (blk_below HX.out HB5.out)
      have HS5 := Aside0.mk (HS4.out.keep hK5 (fun k hk => by
        by_cases e : col k = 0
        · exact e
        · have h1 := HBL.out k e
          exact absurd (hzI1 k (by omega)) hk))
      have hCP := copy_rd w5 (HR.out.below HB5.out) HBD.out
      obtain ⟨x0, x1, x2, x3, x4⟩ := cells5 HX5.out
      have hXl := lt_blk HX5.out
      clear hK5
      go_wp2_with fail
      --MARKC
      refine hCP.mono ?_
      clear hCP x0 x1 x2 x3 x4 hXl
      rintro e w6 ⟨vGm, vAm, vCm, vFm, usM, colM, rfl, hV6, hz6, hB6⟩
      obtain ⟨AGM, cGM, rfl, -⟩ := hV6.g.slice
      obtain ⟨AAM, cAM, rfl, -⟩ := hV6.a.slice
      obtain ⟨ACM, cCM, rfl, -⟩ := hV6.c.slice
      obtain ⟨AFM, cFM, rfl, -⟩ := hV6.f.slice
      have hA : Below w6.heap.size w6 (w6.alloc (.cells #[.int .i64 s.limit, (.slice AGM (ints s.gens).length cGM), (.slice AAM (bools s.alive).length cAM), (.slice ACM usM.length cCM), (.slice AFM (ints s.free).length cFM)] TT)) := below_al (Below.refl _ _) _
      have hV := hV6.rdo (I := fun _ => False)
      have hw5 := HB5.out.size
      have hw6 := hB6.size
      have hw7 : (w6.alloc (.cells #[.int .i64 s.limit, (.slice AGM (ints s.gens).length cGM), (.slice AAM (bools s.alive).length cAM), (.slice ACM usM.length cCM), (.slice AFM (ints s.free).length cFM)] TT)).heap.size = w6.heap.size + 1 := by simp
      have hc0 := HS5.out.z
      have HP : Aside0 (PlW W (w6.alloc (.cells #[.int .i64 s.limit, (.slice AGM (ints s.gens).length cGM), (.slice AAM (bools s.alive).length cAM), (.slice ACM usM.length cCM), (.slice AFM (ints s.free).length cFM)] TT)) b w6.heap.size col (fun k => if k = w6.heap.size then 3 else 0) s (.slice AGM (ints s.gens).length cGM) (.slice AAM (bools s.alive).length cAM) (.slice ACM usM.length cCM) (.slice AFM (ints s.free).length cFM) usM (.slice none 0 0) [] 0) :=
        ⟨⟨⟨below_then (below_then HB5.out hB6) hA, (HS5.out.below hB6).below hA, hV.rd.below hA, hV.own.mono (fun k hk => by
          rcases hk with hk | hk
          · exact hk.elim
          · exact ⟨by omega, hc0 k (by omega), if_neg (by omega)⟩), Kd.R_nil _ _ _ _ _, fun k hk => by
          by_cases e : k = w6.heap.size
          · subst e; exact ⟨hc0 _ (by omega), by omega, by omega⟩
          · exact absurd (if_neg e) hk⟩, blk_new _ _, if_pos rfl, HWF.out, Nat.le_refl _⟩⟩
      generalize (fun k => if k = w6.heap.size then 3 else 0) = hc3 at *
      clear hV hV6 hc0 hB6 hA hw7 hz6
      go_upto_region 9 with fail
      generalize (w6.alloc (.cells #[.int .i64 s.limit, (.slice AGM (ints s.gens).length cGM), (.slice AAM (bools s.alive).length cAM), (.slice ACM usM.length cCM), (.slice AFM (ints s.free).length cFM)] TT)) = W7 at *
      obtain ⟨S, hS⟩ : ∃ S, w6.heap.size = S := ⟨_, rfl⟩
      rw [hS] at HP ⊢
      clear hS
      obtain ⟨x0, x1, x2, x3, x4⟩ := cells5 HP.out.m
      have hSl := lt_blk HP.out.m
      have hIs := is_rd W7 HP.out.ca.sl HP.out.wf.l0 HP.out.wf.ok.bd (by have := HP.out.wf.a; have := HP.out.wf.g; have := HP.out.wf.l1; omega) HP.out.ca.rd
      go_wp2_with fail
      refine hIs.mono ?_
      clear hIs x0 x1 x2 x3 x4 hSl
      rintro e w8 ⟨rfl, hB8⟩
      have HP5 : Aside0 (PlL W b S 0 (.slice none 0 0) w8) := ⟨⟨_, _, _, _, _, _, _, _, _, HP.out.then hB8⟩⟩
      clear HP hB8
      go_wp2_with fail
      --MARKL
      go_loopw [9, 10, 11] (fun ok vh i wr => ∃ k : Nat, k ≤ ops.length ∧ ok = .bool true ∧ i = .int .i64 k ∧ Aside0 (PlL W b S k vh wr)) (fun _ _ i _ => ops.length - (intOf i).toNat)
      case atStart => exact ⟨0, by omega, rfl, rfl, HP5⟩
      case round =>
        clear HP5
        obtain ⟨k, hk, rfl, rfl, ⟨s1, vG, vA, vC, vF, vs1, had, col, hc, hP⟩⟩ := hrel
        obtain ⟨AG1, cG1, rfl, -⟩ := hP.ca.rd.g.slice
        obtain ⟨AA1, cA1, rfl, -⟩ := hP.ca.rd.a.slice
        obtain ⟨AC1, cC1, rfl, -⟩ := hP.ca.rd.c.slice
        obtain ⟨AF1, cF1, rfl, -⟩ := hP.ca.rd.f.slice
        obtain ⟨AH, cH, rfl, hcH, -⟩ := gid_rd hP.ca.h
        have HPo := Aside0.mk hP
        clear hP
        by_cases hlt : k < ops.length
        · skip
          have hkl0 : (k : Int) < (ops.length : Int) := by omega
          have hSt := state_slab wr HPo.out.ca.sl HPo.out.wf.l0 HPo.out.wf.ok.bd
          go_wp2_with fail
          refine hSt.mono ?_
          clear hSt
          rintro e wS ⟨vGs, vAs, vCs, vFs, vss, colS, rfl, hVS, hzS, hBS⟩
          obtain ⟨AGS, cGS, rfl, -⟩ := hVS.g.slice
          obtain ⟨AAS, cAS, rfl, -⟩ := hVS.a.slice
          obtain ⟨ACS, cCS, rfl, -⟩ := hVS.c.slice
          obtain ⟨AFS, cFS, rfl, -⟩ := hVS.f.slice
          have hSp := spoil_slab hBS.size hVS HPo.out.wf.ok
          have HVS := Aside0.mk hVS
          have HBS := Aside0.mk hBS
          clear hVS hBS hzS
          go_wp2_with fail
          refine hSp.mono ?_
          clear hSp
          rintro e wq ⟨rfl, hKS⟩
          have hBD : Below wr.heap.size wr wq := below_then_keep HBS.out HBS.out.size hKS (fun i hi => HVS.out.b i hi)
          have HP := Aside0.mk (HPo.out.then hBD)
          clear hKS HVS HBS
          obtain ⟨ab, off, rfl, hab⟩ := C_form HC.out (by omega) (by decide)
          obtain ⟨⟨d, p, q, g1, g2⟩, ho, e0, e1, e2, e3, e4⟩ := sop_at HC.out k hlt
          simp only at e0 e1 e2 e3 e4
          have hBr := HP.out.ca.b0
          have y0 := (hBr.cell (p := ⟨ab, off + k * 5, none⟩) hab).trans e0
          have y1 := (hBr.cell (p := ⟨ab, off + k * 5 + 1, none⟩) hab).trans e1
          have y2 := (hBr.cell (p := ⟨ab, off + k * 5 + 2, none⟩) hab).trans e2
          have y3 := (hBr.cell (p := ⟨ab, off + k * 5 + 3, none⟩) hab).trans e3
          have y4 := (hBr.cell (p := ⟨ab, off + k * 5 + 4, none⟩) hab).trans e4
          have hki : (0 : Int) ≤ (k : Int) := by omega
          have hkl : (k : Int) < (ops.length : Int) := by omega
          obtain ⟨s', had', hcs⟩ : ∃ s' had', callS s1 had ⟨d, p, q, (g1, g2)⟩ = (s', had') := ⟨_, _, rfl⟩
          have hin := callS_in (had := had) (o := ⟨d, p, q, (g1, g2)⟩) HP.out.wf
          rw [hcs] at hin
          have HIN := Aside0.mk hin
          have HCS := Aside0.mk hcs
          have hBd : Below wq.heap.size wq wq.drew := (Below.refl _ _).drew
          have HP0 := Aside0.mk (HP.out.then hBd)
          obtain ⟨k0, k1, k2, k3, k4⟩ := cells5 HP0.out.m
          have z0 : wq.drew.cell? ⟨ab, off + k * 5, none⟩ = some (.int .i64 d) := y0
          have z1 : wq.drew.cell? ⟨ab, off + k * 5 + 1, none⟩ = some (.int .i64 p) := y1
          have z2 : wq.drew.cell? ⟨ab, off + k * 5 + 2, none⟩ = some (.int .i64 q) := y2
          have z3 : wq.drew.cell? ⟨ab, off + k * 5 + 3, none⟩ = some (.int .i64 g1) := y3
          have z4 : wq.drew.cell? ⟨ab, off + k * 5 + 4, none⟩ = some (.int .i64 g2) := y4
          clear e0 e1 e2 e3 e4 hBr hin hcs hBd ho y0 y1 y2 y3 y4
          clear hBD HPo
          go_wp2_with fail
          --MARK15
          refine start_ (n := 15) (S := fun w' => w'.cell? ⟨S, 0, none⟩ = some (.int .i64 s1.limit) ∧ w'.cell? ⟨S, 1, none⟩ = some ((.slice AG1 (ints s1.gens).length cG1)) ∧ w'.cell? ⟨S, 2, none⟩ = some ((.slice AA1 (bools s1.alive).length cA1)) ∧ w'.cell? ⟨S, 3, none⟩ = some ((.slice AC1 vs1.length cC1)) ∧ w'.cell? ⟨S, 4, none⟩ = some ((.slice AF1 (ints s1.free).length cF1)) ∧ w'.cell? ⟨ab, off + k * 5, none⟩ = some (.int .i64 d) ∧ w'.cell? ⟨ab, off + k * 5 + 1, none⟩ = some (.int .i64 p) ∧ w'.cell? ⟨ab, off + k * 5 + 2, none⟩ = some (.int .i64 q) ∧ w'.cell? ⟨ab, off + k * 5 + 3, none⟩ = some (.int .i64 g1) ∧ w'.cell? ⟨ab, off + k * 5 + 4, none⟩ = some (.int .i64 g2)) (ds := [7, 12]) #[false, false, false, false, false, false, false, false, false, false, false, false, false, false, false] (by kernel_rfl) rfl rfl ⟨k0, k1, k2, k3, k4, z0, z1, z2, z3, z4⟩ (fun hHeld => ?_)
          generalize wq.drew = x9 at *
          refine pure_ (i := 0) (N := some 52) (v := ?_) (a' := ?_) #[true, false, false, false, false, false, false, false, false, false, false, false, false, false, false] rfl rfl (by kernel_rfl) (fun _ _ _ h => h) (Or.inl ⟨by rfl, ?_⟩) ?_ ?_
          rotate_left
          · intro w'
            go_simp
            with_reducible rfl
          rotate_left
          · simp only [Act.put, List.setIfInBounds_toArray, List.set_cons_zero, List.set_cons_succ, i64_w, i32_w]
            rfl
          refine pure_ (i := 2) (N := some 54) (v := ?_) (a' := ?_) #[true, false, true, false, false, false, false, false, false, false, false, false, false, false, false] rfl rfl (by kernel_rfl) (fun _ _ _ h => h) (Or.inl ⟨by rfl, ?_⟩) ?_ ?_
          rotate_left
          · intro w'
            go_simp
            with_reducible rfl
          rotate_left
          · simp only [Act.put, List.setIfInBounds_toArray, List.set_cons_zero, List.set_cons_succ, i64_w, i32_w]
            rfl
          refine pure_ (i := 3) (N := some 55) (v := ?_) (a' := ?_) #[true, false, true, true, false, false, false, false, false, false, false, false, false, false, false] rfl rfl (by kernel_rfl) (fun _ _ _ h => h) (Or.inl ⟨by rfl, ?_⟩) ?_ ?_
          rotate_left
          · intro w'
            go_simp
            with_reducible rfl
          rotate_left
          · simp only [Act.put, List.setIfInBounds_toArray, List.set_cons_zero, List.set_cons_succ, i64_w, i32_w]
            rfl
          refine pure_ (i := 4) (N := some 56) (v := ?_) (a' := ?_) #[true, false, true, true, true, false, false, false, false, false, false, false, false, false, false] rfl rfl (by kernel_rfl) (fun _ _ _ h => h) (Or.inl ⟨by rfl, ?_⟩) ?_ ?_
          rotate_left
          · intro w'
            go_simp
            with_reducible rfl
          rotate_left
          · simp only [Act.put, List.setIfInBounds_toArray, List.set_cons_zero, List.set_cons_succ, i64_w, i32_w]
            rfl
          refine pure_ (i := 6) (N := some 58) (v := ?_) (a' := ?_) #[true, false, true, true, true, false, true, false, false, false, false, false, false, false, false] rfl rfl (by kernel_rfl) (fun _ _ _ h => h) (Or.inl ⟨by rfl, ?_⟩) ?_ ?_
          rotate_left
          · intro w'
            go_simp
            with_reducible rfl
          rotate_left
          · simp only [Act.put, List.setIfInBounds_toArray, List.set_cons_zero, List.set_cons_succ, i64_w, i32_w]
            rfl
          refine take_ (i := 1) (N := some 53) (v := ?_) (a' := ?_) #[true, true, true, true, true, false, true, false, false, false, false, false, false, false, false] rfl rfl (by kernel_rfl) (fun _ _ _ h => h) (Or.inl ⟨by rfl, ?_⟩) hHeld ?_ ?_
          rotate_left
          · rintro w' ⟨s0, s1, s2, s3, s4, s5, s6, s7, s8, s9⟩
            go_simp
            with_reducible rfl
          rotate_left
          · simp only [Act.put, List.setIfInBounds_toArray, List.set_cons_zero, List.set_cons_succ, i64_w, i32_w]
            rfl
          refine take_ (i := 5) (N := some 57) (v := ?_) (a' := ?_) #[true, true, true, true, true, true, true, false, false, false, false, false, false, false, false] rfl rfl (by kernel_rfl) (fun _ _ _ h => h) (Or.inl ⟨by rfl, ?_⟩) hHeld ?_ ?_
          rotate_left
          · rintro w' ⟨s0, s1, s2, s3, s4, s5, s6, s7, s8, s9⟩
            go_simp
            with_reducible rfl
          rotate_left
          · simp only [Act.put, List.setIfInBounds_toArray, List.set_cons_zero, List.set_cons_succ, i64_w, i32_w]
            rfl
          refine last_ (i := 7) (N := some 59) #[true, true, true, true, true, true, true, true, false, false, false, false, false, false, false] rfl rfl (by kernel_rfl) (by decide) (fun K hK => ?_)
          have HCL := calls_law ⟨d, p, q, (g1, g2)⟩ HP0.out.ca HP0.out.wf (by have := HP0.out.hl; omega)
          rw [HCS.out] at HCL
          unfold CallsP at HCL
          refine goes_ Try.func26 (by kernel_rfl) rfl #[.pointer (some ⟨b, 0, none⟩), .agg #[.int .i64 s1.limit, (.slice AG1 (ints s1.gens).length cG1), (.slice AA1 (bools s1.alive).length cA1), (.slice AC1 vs1.length cC1), (.slice AF1 (ints s1.free).length cF1)], .agg #[.int .i64 d, .int .i64 p, .int .i64 q, .int .i64 g1, .int .i64 g2], .slice AH had.length cH] (by rfl) rfl rfl (by simp only [List.map_toArray, List.map_cons, List.map_nil]; rfl) ?_
          with_reducible refine (HCL).mono ?_
          rintro e w5 ⟨uG, uA, uC, uF, us, vh2, col2, hc2, rfl, hCA, hk3⟩
          refine ⟨_, rfl, ?_⟩
          obtain ⟨AG3, cG3, rfl, -⟩ := hCA.rd.g.slice
          obtain ⟨AA3, cA3, rfl, -⟩ := hCA.rd.a.slice
          obtain ⟨AC3, cC3, rfl, -⟩ := hCA.rd.c.slice
          obtain ⟨AF3, cF3, rfl, -⟩ := hCA.rd.f.slice
          obtain ⟨AH3, cH3, rfl, -, -⟩ := gid_rd hCA.h
          refine hK.out _ _ ?_
          clear hK K
          refine norm_ (a' := ?_) ?_ ?_
          rotate_left
          · show Act.put _ (some 59) _ = _
            simp only [Act.put, List.setIfInBounds_toArray, List.set_cons_zero, List.set_cons_succ, i64_w, i32_w]
            rfl
          refine pure_ (i := 8) (N := some 51) (v := ?_) (a' := ?_) #[true, true, true, true, true, true, true, true, true, false, false, false, false, false, false] rfl rfl (by kernel_rfl) (fun _ _ _ h => h) (Or.inl ⟨by rfl, ?_⟩) ?_ ?_
          rotate_left
          · intro w'
            go_simp
            with_reducible rfl
          rotate_left
          · simp only [Act.put, List.setIfInBounds_toArray, List.set_cons_zero, List.set_cons_succ, i64_w, i32_w]
            rfl
          refine pure_ (i := 9) (N := some 60) (v := ?_) (a' := ?_) #[true, true, true, true, true, true, true, true, true, true, false, false, false, false, false] rfl rfl (by kernel_rfl) (fun _ _ _ h => h) (Or.inl ⟨by rfl, ?_⟩) ?_ ?_
          rotate_left
          · intro w'
            go_simp
            with_reducible rfl
          rotate_left
          · simp only [Act.put, List.setIfInBounds_toArray, List.set_cons_zero, List.set_cons_succ, i64_w, i32_w]
            rfl
          refine pure_ (i := 10) (N := some 61) (v := ?_) (a' := ?_) #[true, true, true, true, true, true, true, true, true, true, true, false, false, false, false] rfl rfl (by kernel_rfl) (fun _ _ _ h => h) (Or.inl ⟨by rfl, ?_⟩) ?_ ?_
          rotate_left
          · intro w'
            go_simp
            with_reducible rfl
          rotate_left
          · simp only [Act.put, List.setIfInBounds_toArray, List.set_cons_zero, List.set_cons_succ, i64_w, i32_w]
            rfl
          refine pure_ (i := 11) (N := some 62) (v := ?_) (a' := ?_) #[true, true, true, true, true, true, true, true, true, true, true, true, false, false, false] rfl rfl (by kernel_rfl) (fun _ _ _ h => h) (Or.inl ⟨by rfl, ?_⟩) ?_ ?_
          rotate_left
          · intro w'
            go_simp
            with_reducible rfl
          rotate_left
          · simp only [Act.put, List.setIfInBounds_toArray, List.set_cons_zero, List.set_cons_succ, i64_w, i32_w]
            rfl
          refine last_ (i := 12) (N := none) #[true, true, true, true, true, true, true, true, true, true, true, true, true, false, false] rfl rfl (by kernel_rfl) (by decide) (fun K hK => ?_)
          have hm5 := (hk3 S HP0.out.hm).2.trans HP0.out.m
          obtain ⟨ra0, ra1, ra2, ra3, ra4⟩ := cells5 hm5
          obtain ⟨ga0, ga1, ga2, ga3, ga4⟩ := froz5 hm5
          have hRl := lt_blk hm5
          refine skip_ (w1 := ?_) (by rfl) rfl ?_ ?_
          rotate_left
          · go_simp
            first | with_reducible rfl | rfl
          refine hK.out _ _ ?_
          clear hK K
          refine pure_ (i := 13) (N := some 10) (v := ?_) (a' := ?_) #[true, true, true, true, true, true, true, true, true, true, true, true, true, true, false] rfl rfl (by kernel_rfl) (fun _ _ _ h => h) (Or.inl ⟨by rfl, ?_⟩) ?_ ?_
          rotate_left
          · intro w'
            go_simp
            with_reducible rfl
          rotate_left
          · simp only [Act.put, List.setIfInBounds_toArray, List.set_cons_zero, List.set_cons_succ, i64_w, i32_w]
            rfl
          refine pure_ (i := 14) (N := some 9) (v := ?_) (a' := ?_) #[true, true, true, true, true, true, true, true, true, true, true, true, true, true, true] rfl rfl (by kernel_rfl) (fun _ _ _ h => h) (Or.inl ⟨by rfl, ?_⟩) ?_ ?_
          rotate_left
          · intro w'
            go_simp
            with_reducible rfl
          rotate_left
          · simp only [Act.put, List.setIfInBounds_toArray, List.set_cons_zero, List.set_cons_succ, i64_w, i32_w]
            rfl
          refine done_ (by kernel_rfl) ?_
          have HP6 := Aside0.mk (HP0.out.next hCA hk3 HIN.out.1 HIN.out.2.2)
          generalize ((((((w5.setCell ⟨S, 0, none⟩ (.int .i64 s'.limit)).setCell ⟨S, 1, none⟩ ((.slice AG3 (ints s'.gens).length cG3))).setCell ⟨S, 2, none⟩ ((.slice AA3 (bools s'.alive).length cA3))).setCell ⟨S, 3, none⟩ ((.slice AC3 us.length cC3))).setCell ⟨S, 4, none⟩ ((.slice AF3 (ints s'.free).length cF3)))) = W6 at *
          clear ra0 ra1 ra2 ra3 ra4 ga0 ga1 ga2 ga3 ga4 hRl hCA hk3 hm5 HP0 HCL hHeld
          go_wp2
          go_roundw
          case rel => exact ⟨k + 1, by omega, rfl, by go_num, ⟨⟨_, _, _, _, _, _, _, _, _, HP6.out⟩⟩⟩
          case measure => simp [intOf]; omega
        · obtain rfl : k = ops.length := by omega
          have hSt := state_slab wr HPo.out.ca.sl HPo.out.wf.l0 HPo.out.wf.ok.bd
          go_wp2_with fail
          refine hSt.mono ?_
          clear hSt
          rintro e wS ⟨vGs, vAs, vCs, vFs, vss, colS, rfl, hVS, hzS, hBS⟩
          obtain ⟨AGS, cGS, rfl, -⟩ := hVS.g.slice
          obtain ⟨AAS, cAS, rfl, -⟩ := hVS.a.slice
          obtain ⟨ACS, cCS, rfl, -⟩ := hVS.c.slice
          obtain ⟨AFS, cFS, rfl, -⟩ := hVS.f.slice
          have hSp := spoil_slab hBS.size hVS HPo.out.wf.ok
          have HVS := Aside0.mk hVS
          have HBS := Aside0.mk hBS
          clear hVS hBS hzS
          go_wp2_with fail
          refine hSp.mono ?_
          clear hSp
          rintro e wq ⟨rfl, hKS⟩
          have hBD : Below wr.heap.size wr wq := below_then_keep HBS.out HBS.out.size hKS (fun i hi => HVS.out.b i hi)
          have HP := Aside0.mk (HPo.out.then hBD)
          clear hKS HVS HBS
          clear HPo hBD
          obtain ⟨x0, x1, x2, x3, x4⟩ := cells5 HP.out.m
          have hSl := lt_blk HP.out.m
          have hIs := is_rd wq HP.out.ca.sl HP.out.wf.l0 HP.out.wf.ok.bd (by have := HP.out.wf.a; have := HP.out.wf.g; have := HP.out.wf.l1; omega) HP.out.ca.rd
          go_wp2_with fail
          --MARK17
          refine hIs.mono ?_
          clear hIs x0 x1 x2 x3 x4 hSl
          rintro e w9 ⟨rfl, hB9⟩
          have HB9 := Aside0.mk (below_then HW.out (below_then HP.out.ca.b0 hB9))
          clear hB9
          go_wp2
          go_ret
          exact ⟨by simp, HB9.out⟩
    · exact absurd HWF.out hwf2
  · have HK := Aside0.mk hk
    have HWF := Aside0.mk hwf
    clear hk hB2 hwf
    go_wp2_with fail
    refine HL.mono ?_
    clear x0 x1 x2 x3 x4 hXl i0 i1 i2 i3 i4 hIl HL
    rintro e w3 ⟨hB3, ⟨hk2, rfl⟩ | ⟨-, hwf2, rfl⟩ | ⟨hk2, -, rfl⟩⟩
    · rw [HK.out] at hk2; cases hk2
    · exact absurd hwf2 HWF.out
    · have HB4 := Aside0.mk (below_then HB3.out hB3)
      have HX3 := Aside0.mk (blk_below HX.out HB4.out)
      have HI3 := Aside0.mk (blk_below HI2.out hB3)
      have HV3 := Aside0.mk (HV2.out.below hB3)
      have hSm := same_rd (L := s.limit) w3 HV3.out.rd (HR.out.below HB4.out) HBD.out
      obtain ⟨x0, x1, x2, x3, x4⟩ := cells5 HX3.out
      have hXl := lt_blk HX3.out
      obtain ⟨i0, i1, i2, i3, i4⟩ := cells5 HI3.out
      have hIl := lt_blk HI3.out
      clear hB3 hk2
      go_wp2_with fail
      refine hSm.mono ?_
      clear x0 x1 x2 x3 x4 hXl i0 i1 i2 i3 i4 hIl hSm
      rintro e w4 ⟨rfl, hB4⟩
      have HB4' := Aside0.mk (below_then HB4.out hB4)
      clear hB4
      go_wp2_with fail
      refine (awake_any w4).mono ?_
      rintro e w5 ⟨rfl, hB5⟩
      have HB5 := Aside0.mk (below_then HW.out (below_then HB4'.out hB5))
      clear hB5
      go_wp2
      go_ret
      exact ⟨by simp, HB5.out⟩
theorem slabOwn.walk (w : World) (cs : Array Value) (s : Sl) (hK : kSl.K w s cs.toList) (hG : Bd s) (A : Option Addr) (c : Nat) (ops : List SOp) (hc : ops.length ≤ c) (hC : kSOp.C w A ops.length ops) (hG2 : ops.length * Try.prog.bytesOf 55 ≤ reachBytes ∧ ops.length ≤ 9223372036854775807 ∧ ∀ x ∈ ops, True) :
    Calls Try.prog 12 #[.agg cs, .slice A ops.length c] w fun e w' => e = .returned (.bool true) ∧ Below w.heap.size w w' := by
  obtain ⟨vG, vA, vC, vF, vs, hcs, hR⟩ := kSl_open hK
  obtain rfl : cs = #[.int .i64 s.limit, vG, vA, vC, vF] := Array.toList_inj.1 hcs
  have hb : Try.prog.bytesOf 55 = 40 := by kernel_rfl
  rw [hb] at hG2
  have hg := hG2.1
  unfold reachBytes at hg
  exact SlabOwn0.walk w hR hG A c ops hC hc (by omega)
theorem slabOwn.own : ownKnob Try.prog.godebug = none := by kernel_rfl
theorem slabOwn.laidOut : laidOutB Try.prog = true := by kernel_rfl
set_option maxRecDepth 100000 in
set_option maxHeartbeats 1000000 in
theorem slabOwn.lifted (os : Os) (started : os.Started) (H : Type) (enc : TypeId × Value → H)
    : ReturnsInHanded {} Try.checked os 12 .any (Rows.slabOwnSpec.pre6 enc Try.prog Try.f12 Rows.slabOwnRow.domain false) (Rows.slabOwnSpec.post enc Try.prog Try.f12 false true false false) := by
  refine returnsInHanded_of_change_sized (C := Try.checked) slabOwn.own started (by kernel_rfl) Try.func12
    (ChangeSpec.witness6 (enc := enc) (C := Try.checked) false ⟨#[], #[.agg #[.int .i64 0, .slice none 0 0, .slice none 0 0, .slice none 0 0, .slice none 0 0], .slice none 0 0], []⟩ 8 (by kernel_rfl) (by kernel_rfl) (by kernel_rfl) (by kernel_rfl)) ?_
  intro W base args ds gs before hval0 hW hcnd hsz0 _
  have hsz : (DataW.weightsEach Try.prog (Try.f12.params.toList ++ Rows.slabOwnSpec.plain.varTypes Try.prog) (ds ++ gs)).all (· ≤ reachBytes) = true := hsz0
  have hval : ∀ (j : Nat) t v, Try.f12.params[j]? = some t → args[j]? = some v → Value.okWide Try.prog W .any base t v := hval0
  have hW' := hW
  obtain ⟨p, q, hA0, hV, rfl, hfz, hnd⟩ := hW
  have hA : DataW.TrodAll enc Try.prog W 0 (fun _ => true) true Try.f12.params.toList args.toList ds p := hA0
  rw [Try.params12] at hA hval hsz
  obtain ⟨v0, vs0, d0, ds0, p0, q0, hargs, rfl, rfl, h0, r0⟩ := trodAll_cons hA
  obtain ⟨v1, vs1, d1, ds1, p1, q1, rfl, rfl, rfl, h1, r1⟩ := trodAll_cons r0
  obtain ⟨rfl, rfl, rfl⟩ := trodAll_nil r1
  obtain rfl : args = #[v0, v1] := by cases args; simp_all
  obtain ⟨rfl, rfl⟩ := trodVars_none hV
  have k0 := h0
  have lt0 : ∀ x ∈ p0, x.block < W.heap.size := by obtain ⟨m, hm⟩ := k0; exact DataW.trod_lt m _ _ _ hm
  have W0 := Op.weights_of hsz (j := 0) (t := 30) (d := d0) rfl rfl
  obtain ⟨cs0, rfl, sz0⟩ := okWide_struct Try.underlying30 (hval 0 30 v0 rfl rfl)
  obtain ⟨f0, hf0⟩ := h0
  obtain ⟨a0, hK0, hG0, hM0⟩ := opensSl H enc W _ true f0 _ (d0, p0) hf0 W0
  have k1 := h1
  have lt1 : ∀ x ∈ p1, x.block < W.heap.size := by obtain ⟨m, hm⟩ := k1; exact DataW.trod_lt m _ _ _ hm
  have W1 := Op.weights_of hsz (j := 1) (t := 35) (d := d1) rfl rfl
  obtain ⟨A1, len1, cap1, rfl⟩ := okWide_slice Try.underlying35 (hval 1 35 v1 rfl rfl)
  obtain ⟨f1, hf1⟩ := h1
  obtain ⟨a1, hK1, hG1, hM1⟩ := opensSOps H enc W _ true f1 _ (d1, p1) hf1 W1
  obtain ⟨A', c', he1, hc1, hC1⟩ := hK1
  obtain ⟨rfl, rfl, rfl⟩ : A1 = A' ∧ len1 = a1.length ∧ cap1 = c' := by simpa [Value.cells] using he1
  clear hA0 hval0 hsz0 hsz
  refine (slabOwn.walk W cs0 a0 hK0 hG0 A1 cap1 a1 hc1 hC1 hG1).mono fun e W' ⟨he, bel⟩ => ?_
  subst he
  exact ⟨_, rfl, _, _, _, [], _, [], hW', trodAll_mk1 (shut_bool Try.underlying4 _), (trodAll_cons_mk (Below.trod slabOwn.laidOut (by kernel_rfl) (of_decide_eq_true (by kernel_rfl)) k0 bel lt0) (trodAll_cons_mk (Below.trod slabOwn.laidOut (by kernel_rfl) (of_decide_eq_true (by kernel_rfl)) k1 bel lt1) trodAll_mk0)), rfl, bel.frame _, fun h => by cases h⟩
theorem slabOwn_holds : Rows.SlabOwnSaid :=
  OpenClaim.holds_of_wide 12 Try.f12 rfl rfl rfl rfl rfl rfl rfl ⟨rfl, rfl, rfl, rfl, rfl⟩ rfl rfl rfl rfl rfl (by kernel_rfl) Try.func12 (by kernel_rfl)
    (of_decide_eq_true (by kernel_rfl)) (by unfold Func.isWrapper; first | (rw [if_pos (by decide +kernel)]; kernel_rfl) | (rw [if_neg (by decide +kernel)]; exact ⟨rfl, rfl⟩))
    (fun os started H enc _ => slabOwn.lifted os started H enc)
#print axioms slabOwn_holds

end Go.Proofs.Ytnglgjegkjfnaaa
