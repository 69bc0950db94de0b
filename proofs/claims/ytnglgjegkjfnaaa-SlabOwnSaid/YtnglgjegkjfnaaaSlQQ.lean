import Derived.Test.YtnglgjegkjfnaaaSlOO
import Derived.Deep.DrawnRows
import Derived.Deep.DeepCutAuto
set_option linter.unusedSimpArgs false
set_option linter.unusedVariables false
namespace Go.Proofs.Ytnglgjegkjfnaaa
open Go.RowKit Go.ChangeShapes Go.WideShapes Go.ChangeAt Go.Proofs.YtnglgjegkjfnaaaW.PrintWords Go.Proofs.YtnglgjegkjfnaaaW.PrintMore
/-! slab.Load: what its marks tell. -/

set_option maxHeartbeats 1000000 in
theorem cloneL (v : Value) (vals : List Value) (w : World) (h : Rdv w v vals) (hm : vals.length * 24 ≤ 140737488355328) :
    Calls Try.prog 43 #[v] w fun e w' => ∃ v', e = .returned v' ∧ Row w' w.heap.size (fun _ => True) 26 v' vals ∧ Below w.heap.size w w' := by
  obtain ⟨A0, n, c, rfl, hl, hc, hx, hcell, h1⟩ := h
  have qnil : ∀ (w : World) (a : Option Addr) (n c n' c' : Nat), (binOp .eql 28 (.slice a n c) (.slice none n' c')).run Try.prog w = .ok (.bool a.isNone) w := fun w a n c n' c' => Lib.run_eql_slice_nil w _ _ a n c n' c' Try.underlying28
  cases A0 with
  | none =>
    obtain rfl : vals = [] := by
      rcases Nat.eq_zero_or_pos n with h0 | h0
      · subst h0; exact List.eq_nil_of_length_eq_zero hl
      · obtain ⟨ad, he, _⟩ := hcell h0
        cases he
    go_enter Try.func43, Try.ntmps43
    go_wp2
    go_ret
    exact ⟨_, rfl, Row.nil _ _ _ _, Below.refl _ _⟩
  | some ad =>
    have hB : Below w.heap.size w (w.alloc (.cells #[] 26)) := below_al (Below.refl _ _) _
    have hcw : 0 < n → ∃ ad', some ad = some ad' ∧ ∀ j u, vals[j]? = some u → (w.alloc (.cells #[] 26)).cell? (ad'.add j) = some u := fun h0 => by
      obtain ⟨ad', he, hat⟩ := hcell h0
      exact ⟨ad', he, fun j u hj => pw_cell_below hB (hat j u hj)⟩
    obtain ⟨v1, w1, hr, hrow, hg⟩ := row_append (P := Try.prog) (t := 28) Try.underlying28 infoSl rfl (by omega) (Row.empty w 26) (some ad) n c vals hl hcw h1 (by rw [← hl]; simpa using hm) (by simp)
    have HR := Aside0.mk hrow
    have hb1 : Below w.heap.size (w.alloc (.cells #[] 26)) w1 := (Below.refl w.heap.size (w.alloc (.cells #[] 26))).grown hg (by simp) (fun k hk => by simp [Value.ownBlock] at hk; omega)
    have HB := Aside0.mk (hB.trans hb1)
    clear hrow hg hcell hcw hb1 hB
    go_enter Try.func43, Try.ntmps43
    go_wp2_with (first | ((with_reducible refine gate_builtin (b := .append) (xs := #[.tmp 5, .tmp 6]) rfl ?_); at_builtin; refine appL_ rfl (.tmp 5) (.tmp 6) 28 rfl rfl rfl hr ?_))
    go_ret
    exact ⟨v1, rfl, HR.out.mono (fun _ _ _ => trivial), HB.out⟩

theorem Row.own_of {w : World} {base : Nat} {ok ok' : Nat → Prop} {e : TypeId} {v : Value} {vals : List Value} (h : Row w base ok e v vals) (ho : ∀ k, v.ownBlock = some k → ok' k) : Row w base ok' e v vals := ⟨ho, h.row, h.one⟩
/-- The caches while they are filled. -/
def fillC (s : Sl) (p : Nat) : List (List Int) := s.caches.take p ++ List.replicate (s.caches.length - p) []
theorem fillC_len (s : Sl) (p : Nat) (hp : p ≤ s.caches.length) : (fillC s p).length = s.caches.length := by simp [fillC]; omega
theorem fillC_set {s : Sl} {p : Nat} {c : List Int} (h : s.caches[p]? = some c) : (fillC s p).set p c = fillC s (p + 1) := by
  have hp : p < s.caches.length := (List.getElem?_eq_some_iff.1 h).1
  have h1 : (s.caches.take p).length = p := by rw [List.length_take]; omega
  unfold fillC
  rw [List.take_add_one, h, List.set_append_right _ _ (by omega), h1, Nat.sub_self, show s.caches.length - p = (s.caches.length - (p + 1)) + 1 by omega, List.replicate_succ]
  simp
theorem fillC_end (s : Sl) : fillC s s.caches.length = s.caches := by simp [fillC]
def LbS (W wr : World) (b : Nat) (s : Sl) (p : Nat) : Prop := ∃ vG vA vC vF vs col, SlB TS wr W.heap.size b col ⟨s.limit, s.gens, s.alive, fillC s p, s.free⟩ vG vA vC vF vs ∧ Below W.heap.size W wr ∧ ∀ k, k < W.heap.size → col k = 0
structure LbI (s : Sl) (L : List Int) (st : List Bool) : Prop where
  len : st.length = s.gens.length
  mrk : ∀ x : Nat, x < s.gens.length → (st.getD x false = true ↔ aliveAt s x = true ∨ genAt s x = 2147483647 ∨ (x : Int) ∈ L)
  fr : ∀ y ∈ L, FreeAt s y
  nd : L.Nodup
theorem LbI.step {s : Sl} {L : List Int} {st : List Bool} {m : Nat} (h : LbI s L st) (hm : m < s.gens.length) (h0 : st.getD m false = false) (hg : genAt s m ≤ 2147483647) : LbI s (L ++ [(m : Int)]) (st.set m true) := by
  have hk := h.mrk m hm
  rw [h0] at hk
  have hn : ¬ (aliveAt s m = true ∨ genAt s m = 2147483647 ∨ (m : Int) ∈ L) := fun hh => by have := hk.2 hh; cases this
  have hnm : (m : Int) ∉ L := fun hh => hn (.inr (.inr hh))
  have hal : aliveAt s m = false := by cases ha : aliveAt s m with | false => rfl | true => exact absurd (.inl ha) hn
  have hne : genAt s m ≠ 2147483647 := fun hh => hn (.inr (.inl hh))
  refine ⟨by rw [List.length_set]; exact h.len, fun x hx => ?_, fun y hy => ?_, List.nodup_append.2 ⟨h.nd, by simp, fun a ha b hb => by rw [List.mem_singleton.1 hb]; rintro rfl; exact hnm ha⟩⟩
  · by_cases e : m = x
    · subst e
      rw [getD_set_self (by rw [h.len]; exact hm)]
      simp
    · rw [getD_set_ne e, h.mrk x hx]
      have : ¬ (x : Int) = (m : Int) := by omega
      simp [this]
  · rcases List.mem_append.1 hy with hy | hy
    · exact h.fr y hy
    · rw [List.mem_singleton.1 hy]
      exact ⟨by omega, by omega, by rw [Int.toNat_natCast]; exact hal, by rw [Int.toNat_natCast]; omega⟩
theorem lb_dup {s : Sl} {L rest : List Int} {st : List Bool} {m : Nat} (hW : Wf s) (hr : allS s = L ++ (m : Int) :: rest) (h : LbI s L st) (hm : m < s.gens.length) (hy : st.getD m false = true) : False := by
  have hmem : (m : Int) ∈ allS s := by rw [hr]; simp
  obtain ⟨-, -, h1, h2⟩ := (hW.fr _ hmem).1
  rw [Int.toNat_natCast] at h1 h2
  rcases (h.mrk m hm).1 hy with h3 | h3 | h3
  · rw [h1] at h3; cases h3
  · omega
  · have hn := hW.nd
    rw [hr] at hn
    exact (List.nodup_append.1 hn).2.2 _ h3 _ (by simp) rfl
theorem lb_out {s : Sl} {L rest : List Int} {x : Int} (hW : Wf s) (hr : allS s = L ++ x :: rest) (hx : x < 0 ∨ (s.gens.length : Int) ≤ x) : False := by
  have hmem : x ∈ allS s := by rw [hr]; simp
  obtain ⟨h1, h2, -, -⟩ := (hW.fr _ hmem).1
  omega
theorem lb_none {s : Sl} {st : List Bool} (hW : Wf s) (h : LbI s (allS s) st) (hf : false ∈ st) : False := by
  obtain ⟨i, hi, he⟩ := List.getElem_of_mem hf
  have hi' : i < s.gens.length := by rw [← h.len]; exact hi
  have hk := h.mrk i hi'
  have hg : st.getD i false = false := by rw [List.getD_eq_getElem?_getD, List.getElem?_eq_getElem hi, he]; rfl
  rw [hg] at hk
  have hn : ¬ (aliveAt s i = true ∨ genAt s i = 2147483647 ∨ (i : Int) ∈ allS s) := fun hh => by have := hk.2 hh; cases this
  have hal : aliveAt s i = false := by cases ha : aliveAt s i with | false => rfl | true => exact absurd (.inl ha) hn
  have hgm := (hW.gm i hi').2
  rcases hW.al i hi' hal (by have : genAt s i ≠ 2147483647 := fun hh => hn (.inr (.inl hh)); omega) with h3 | h3
  · exact hn (.inr (.inr h3))
  · exact h3
theorem lb_wf {s : Sl} {st : List Bool} (hk : okNew s.limit s.caches.length = true) (hg : (s.gens.length : Int) ≤ s.limit) (ha : s.alive.length = s.gens.length) (hgen : ∀ j, j < s.gens.length → 1 ≤ genAt s j ∧ genAt s j ≤ 2147483647) (hc : ¬ ∃ x ∈ s.caches, 64 ≤ x.length) (h : LbI s (allS s) st) (hf : false ∉ st) : Wf s := by
  obtain ⟨h0, h1, h2, h3⟩ := okNew_iff.1 hk
  refine ⟨h0, h1, by omega, by omega, hg, ha, fun c hcm => by have : ¬ 64 ≤ c.length := fun hh => hc ⟨c, hcm, hh⟩; omega, fun i hi _ => (hgen i hi).1, fun i hi => ⟨by have := (hgen i hi).1; omega, (hgen i hi).2⟩, h.nd, fun x hx => ⟨h.fr x hx, fun f => f⟩, fun i hi hd hm => .inl ?_⟩
  have ht : st.getD i false = true := by
    have hi' : i < st.length := by rw [h.len]; exact hi
    rw [List.getD_eq_getElem?_getD, List.getElem?_eq_getElem hi']
    cases hb : st[i] with
    | true => rfl
    | false => exact absurd (hb ▸ List.getElem_mem hi') hf
  rcases (h.mrk i hi).1 ht with h4 | h4 | h4
  · rw [hd] at h4; cases h4
  · omega
  · exact h4
theorem lb_start {s : Sl} {st : List Bool} (hl : st.length = s.gens.length) (h : ∀ x : Nat, x < s.gens.length → st.getD x false = (aliveAt s x || decide (genAt s x = 2147483647))) : LbI s (preS s 0) st :=
  ⟨hl, fun x hx => by rw [h x hx]; simp [preS], fun y hy => by simp [preS] at hy, by simp [preS]⟩
/-- The marks, in block G. -/
structure LbW (w1 wr : World) (G : Nat) (n : Nat) (st : List Bool) : Prop where
  below : Below w1.heap.size w1 wr
  row : Row wr w1.heap.size (fun k => k = G) 4 (.slice (some ⟨G, 0, none⟩) n n) (bools st)
  len : st.length = n
section
variable {w1 wr w' : World} {G n m : Nat} {st : List Bool}
theorem LbW.then (h : LbW w1 wr G n st) (hB : Below wr.heap.size wr w') : LbW w1 w' G n st := ⟨below_then h.below hB, h.row.below hB, h.len⟩
theorem LbW.gw (h : LbW w1 wr G n st) : w1.heap.size ≤ G ∧ G < wr.heap.size := ⟨h.row.base_le G (by simp [Value.ownBlock]), h.row.lt G (by simp [Value.ownBlock])⟩
theorem LbW.set (h : LbW w1 wr G n st) (hm : m < n) (b : Bool) : LbW w1 (wr.setCell ⟨G, m, none⟩ (.bool b)) G n (st.set m b) := by
  have hk : Keep (fun i => i = G) wr (wr.setCell ⟨G, m, none⟩ (.bool b)) := (by repeat (first | (with_reducible exact Keep.refl _ _) | (with_reducible refine Keep.drewN ?_ _) | (with_reducible refine Keep.drew ?_) | (with_reducible refine Keep.setCell ?_ _ _ (by first | (right; with_reducible rfl) | (left; simp; done) | (left; simp; omega) | (right; simp; done) | (right; assumption))) | (with_reducible refine Keep.alloc ?_ _)))
  have hr := h.row.set (i := m) (u := .bool b) (by rw [bools_len, h.len]; exact hm) rfl
  rw [← bools_set, Nat.zero_add] at hr
  exact ⟨below_then_keep h.below h.below.size hk (fun i e => by have := h.gw; omega), hr, by rw [List.length_set]; exact h.len⟩
theorem LbW.cell (h : LbW w1 wr G n st) (hm : m < n) : ∃ b, st.getD m false = b ∧ wr.cell? ⟨G, m, none⟩ = some (.bool b) ∧ wr.frozen? ⟨G, m, none⟩ = false := by
  obtain ⟨g, o, c, he, hg, -, hat⟩ := h.row.form (by rw [bools_len, h.len]; omega)
  injection he with e1 e2 e3
  injection e1 with e1
  injection e1 with e4 e5
  subst e4
  subst e5
  have hm' : m < st.length := by rw [h.len]; exact hm
  refine ⟨st[m], by rw [List.getD_eq_getElem?_getD, List.getElem?_eq_getElem hm']; rfl, ?_, ?_⟩
  · have := (hat m).1 _ (bools_get (List.getElem?_eq_getElem hm'))
    rwa [Nat.zero_add] at this
  · have := (hat m).2
    rwa [Nat.zero_add] at this
end
end Go.Proofs.Ytnglgjegkjfnaaa
set_option linter.unusedSimpArgs false
set_option linter.unusedVariables false
namespace Go.Proofs.Ytnglgjegkjfnaaa
open Go.RowKit Go.ChangeShapes Go.WideShapes Go.ChangeAt Go.Proofs.YtnglgjegkjfnaaaW.PrintWords Go.Proofs.YtnglgjegkjfnaaaW.PrintMore Go.Proofs.YtnglgjegkjfnaaaW.PrintLast
/-! slab.Load: printed by gen04p.py. -/
def SLoadP (s : Sl) (w : World) (e : Ending) (w' : World) : Prop := Below w.heap.size w w' ∧
  ((okNew s.limit s.caches.length = false ∧ e = .returned (.tuple #[.pointer none, .int .i64 1])) ∨ (okNew s.limit s.caches.length = true ∧ Wf s ∧ ∃ b col, e = .returned (.tuple #[.pointer (some ⟨b, 0, none⟩), .int .i64 0]) ∧ IsSlab TS w' w.heap.size b col s ∧ ∀ k, k < w.heap.size → col k = 0) ∨ (okNew s.limit s.caches.length = true ∧ ¬ Wf s ∧ e = .returned (.tuple #[.pointer none, .int .i64 40])))
def LbE (w1 wr : World) (G : Nat) (s : Sl) (L : List Int) : Prop := ∃ st, LbW w1 wr G s.gens.length st ∧ LbI s L st
set_option maxHeartbeats 16000000 in
set_option maxRecDepth 100000 in
theorem slload_any {s : Sl} {vG vA vC vF : Value} {vs : List Value} (w : World) (h : SlR w s vG vA vC vF vs) (hBd : Bd s) : Calls Try.prog 28 #[.agg #[.int .i64 s.limit, vG, vA, vC, vF]] w (SLoadP s w) := by
  have hW : Below w.heap.size w (w.alloc (.cells #[.int .i64 s.limit, vG, vA, vC, vF] 30)) := below_al (Below.refl _ _) _
  have HR := Aside0.mk (h.below hW)
  have HX : Aside0 ((w.alloc (.cells #[.int .i64 s.limit, vG, vA, vC, vF] 30)).heap[w.heap.size]? = some (.cells #[.int .i64 s.limit, vG, vA, vC, vF] 30 (0, 0))) := ⟨blk_new _ _⟩
  have HW := Aside0.mk hW
  obtain ⟨AG, cG, e1, -⟩ := h.g.slice
  obtain ⟨AA, cA, e2, -⟩ := h.a.slice
  obtain ⟨AC, cC, e3, -⟩ := h.c.slice
  obtain ⟨AF, cF, e4, -⟩ := h.f.slice
  rw [ints_len] at e1 e4
  rw [bools_len] at e2
  rw [h.l] at e3
  subst e1 e2 e3 e4
  have hab : s.gens.length ≤ 140737488355328 := by have := hBd.g; omega
  clear h hW
  obtain ⟨x0, x1, x2, x3, x4⟩ := cells5 HX.out
  unfold SLoadP
  go_enter Try.func28, Try.ntmps28
  go_wp2_with fail
  generalize (w.alloc (.cells #[.int .i64 s.limit, .slice AG s.gens.length cG, .slice AA s.alive.length cA, .slice AC s.caches.length cC, .slice AF s.free.length cF] 30)) = W at *
  refine (snew_any s.limit s.caches.length W).mono ?_
  rintro e w1 ⟨hB1, ⟨hk, b, col, rfl, hS, hcol⟩ | ⟨hk, rfl⟩⟩
  · have HK := Aside0.mk hk
    have hnc : s.caches.length ≤ 64 := by have := okNew_iff.1 hk; omega
    have HS := Aside0.mk (And.intro hS hcol)
    have HX1 := Aside0.mk (blk_below HX.out hB1)
    have HR1 := Aside0.mk (HR.out.below hB1)
    have HB1 := Aside0.mk hB1
    have HW1 := Aside0.mk (below_then HW.out hB1)
    clear hk hB1 x0 x1 x2 x3 x4 hS hcol
    obtain ⟨x0, x1, x2, x3, x4⟩ := cells5 HX1.out
    by_cases hg : s.limit < (s.gens.length : Int)
    · go_wp2
      go_ret2
      exact ⟨HW1.out, .inr (.inr ⟨HK.out, fun hw => by have := hw.g; omega, rfl⟩)⟩
    · by_cases ha : s.alive.length = s.gens.length
      · have hg' : (s.gens.length : Int) ≤ s.limit := by omega
        have HA := Aside0.mk ha
        rw [ha] at x2
        clear ha
        have hmk := run_make_row' (P := Try.prog) 27 4 (.bool false) 1 Try.underlying27 infoBo rfl .i64 .i64 s.gens.length (by omega) (by omega)
        have hA1 : Below w1.heap.size w1 (w1.alloc (.cells (madeCells #[.bool false] s.gens.length) 4)) := below_al (Below.refl _ _) _
        have hRw := row_made w1 s.gens.length (.bool false) 4 rfl (by omega)
        have HL0 : Aside0 (LbW w1 (w1.alloc (.cells (madeCells #[.bool false] s.gens.length) 4)) w1.heap.size s.gens.length (List.replicate s.gens.length false)) := ⟨⟨hA1, by simpa [bools, List.map_replicate] using hRw, by simp⟩⟩
        have hx0 : Below W.heap.size W (w1.alloc (.cells (madeCells #[.bool false] s.gens.length) 4)) := below_then HB1.out hA1
        obtain ⟨x0, x1, -, x3, x4⟩ := cells5 (blk_below HX.out hx0)
        have x2 := (cells5 (blk_below HX.out hx0)).2.2.1
        rw [HA.out] at x2
        clear hA1 hRw hx0
        go_wp2_with fail
        generalize (w1.alloc (.cells (madeCells #[.bool false] s.gens.length) 4)) = W2 at *
        obtain ⟨G, hGG⟩ : ∃ G, w1.heap.size = G := ⟨_, rfl⟩
        have hHL0 := HL0.out
        rw [hGG] at hHL0 ⊢
        have HL0 : Aside0 (LbW w1 W2 G s.gens.length (List.replicate s.gens.length false)) := ⟨hHL0⟩
        clear hGG hmk x0 x1 x2 x3 x4 hHL0
        go_loopw [49] (fun i wr => ∃ (k : Nat) (st : List Bool), k ≤ s.gens.length ∧ i = .int .i64 k ∧ Aside0 (∀ j, j < k → 1 ≤ genAt s j ∧ genAt s j ≤ 2147483647) ∧ Aside0 (∀ x, x < k → st.getD x false = (aliveAt s x || decide (genAt s x = 2147483647))) ∧ Aside0 (LbW w1 wr G s.gens.length st)) (fun i _ => s.gens.length - (intOf i).toNat)
        case atStart => exact ⟨0, _, by omega, rfl, ⟨fun j hj => by omega⟩, ⟨fun j hj => by omega⟩, HL0⟩
        case round =>
          clear HL0
          obtain ⟨k, st, hk, rfl, HG, HST, HL⟩ := hrel
          have HBr := Aside0.mk (below_then HB1.out HL.out.below)
          have HXr := Aside0.mk (blk_below HX.out HBr.out)
          have HRr := Aside0.mk (HR.out.below HBr.out)
          obtain ⟨x0, x1, x2, x3, x4⟩ := cells5 HXr.out
          rw [HA.out] at x2
          by_cases hlt : k < s.gens.length
          · obtain ⟨g, o, c1, he, hgl, -, hat⟩ := HRr.out.g.form (by rw [ints_len]; omega)
            injection he with he1 he2 he3
            obtain ⟨ga, oa, ca, hea, hgal, -, hata⟩ := HRr.out.a.form (by rw [bools_len, HA.out]; omega)
            injection hea with hea1 hea2 hea3
            subst he1 hea1
            obtain ⟨y, hy⟩ : ∃ y, s.gens[k]? = some y := ⟨_, List.getElem?_eq_getElem hlt⟩
            obtain ⟨al, hal⟩ : ∃ y, s.alive[k]? = some y := ⟨_, List.getElem?_eq_getElem (by have := HA.out; omega)⟩
            have hc1 := (hat k).1 _ (ints_get hy)
            have hc2 := (hata k).1 _ (bools_get hal)
            have HGEN : Aside0 (genAt s k = y) := ⟨by rw [genAt, List.getD_eq_getElem?_getD, hy]; rfl⟩
            have HALV : Aside0 (aliveAt s k = al) := ⟨by rw [aliveAt, List.getD_eq_getElem?_getD, hal]; rfl⟩
            obtain ⟨bo, -, hm1, hm2⟩ := HL.out.cell hlt
            have hGl := HL.out.gw.2
            clear hat hata hy hal he2 he3 hea2 hea3
            by_cases h1 : y < 1
            · go_wp2
              go_ret2
              exact ⟨below_then HW.out HBr.out, .inr (.inr ⟨HK.out, fun hw => by have := hw.gb k hlt (fun f => f); have := HGEN.out; omega, rfl⟩)⟩
            · by_cases h2 : 2147483647 < y
              · go_wp2
                go_ret2
                exact ⟨below_then HW.out HBr.out, .inr (.inr ⟨HK.out, fun hw => by have := (hw.gm k hlt).2; have := HGEN.out; omega, rfl⟩)⟩
              · have HG' : Aside0 (∀ j, j < k + 1 → 1 ≤ genAt s j ∧ genAt s j ≤ 2147483647) := ⟨fun j hj => by
                  by_cases e : j = k
                  · subst e; rw [HGEN.out]; omega
                  · exact HG.out j (by omega)⟩
                have HST' : ∀ v, v = (al || decide (y = 2147483647)) → ∀ x, x < k + 1 → (st.set k v).getD x false = (aliveAt s x || decide (genAt s x = 2147483647)) := fun v hv x hx => by
                  by_cases e : x = k
                  · subst e; rw [getD_set_self (by rw [HL.out.len]; exact hlt), hv, HALV.out, HGEN.out]
                  · rw [getD_set_ne (fun e' => e e'.symm)]; exact HST.out x (by omega)
                have HST' := Aside0.mk HST'
                cases al with
                | true =>
                  have HL' := Aside0.mk (HL.out.set hlt true)
                  clear HL
                  go_wp2
                  go_roundw
                  case rel => exact ⟨k + 1, _, by omega, by go_num, HG', ⟨HST'.out true (by simp)⟩, HL'⟩
                  case measure => simp [intOf]; omega
                | false =>
                  by_cases hy : y = 2147483647
                  · have hyb : (y == 2147483647) = true := by simpa using hy
                    have HL' := Aside0.mk (HL.out.set hlt true)
                    have hdd : true = (false || decide (y = 2147483647)) := by simp [hy]
                    have HD := Aside0.mk hdd
                    clear HL hdd hy
                    go_wp2
                    go_roundw
                    case rel => exact ⟨k + 1, _, by omega, by go_num, HG', ⟨HST'.out true HD.out⟩, HL'⟩
                    case measure => simp [intOf]; omega
                  · have hyb : (y == 2147483647) = false := by simpa using hy
                    have HL' := Aside0.mk (HL.out.set hlt false)
                    have hdd : false = (false || decide (y = 2147483647)) := by simp [hy]
                    have HD := Aside0.mk hdd
                    clear HL hdd hy
                    go_wp2
                    go_roundw
                    case rel => exact ⟨k + 1, _, by omega, by go_num, HG', ⟨HST'.out false HD.out⟩, HL'⟩
                    case measure => simp [intOf]; omega
          · obtain rfl : k = s.gens.length := by omega
            have HLE : Aside0 (LbE w1 wr G s (preS s 0)) := ⟨⟨st, HL.out, lb_start HL.out.len HST.out⟩⟩
            have HGW := Aside0.mk HL.out.gw
            clear HL HST HRr HXr
            go_upto_region 14 with fail
            go_cut [79, 80, 81] (fun v n i wx => ∃ (A : Option Addr) (c : Nat), v = .slice A (s.caches.length + 1) c ∧ n = .int .i64 ((s.caches.length + 1 : Nat) : Int) ∧ i = .int .i64 0 ∧ Aside0 (Row wx wr.heap.size (fun _ => True) 26 (.slice A (s.caches.length + 1) c) (vs ++ [.slice AF s.free.length cF])) ∧ Aside0 (Below wr.heap.size wr wx))
            case first =>
              have hWx : Aside0 (Below wr.heap.size wr wr.drew) := ⟨(Below.refl _ _).drew⟩
              have HX0 := Aside0.mk (blk_below (blk_below HX.out HBr.out) hWx.out)
              have HR0 := Aside0.mk ((HR.out.below HBr.out).below hWx.out)
              clear x0 x1 x2 x3 x4
              refine start_ (n := 9) (S := fun w' => w'.cell? ⟨w.heap.size, 3, none⟩ = some (.slice AC s.caches.length cC) ∧ w'.cell? ⟨w.heap.size, 4, none⟩ = some (.slice AF s.free.length cF)) (ds := [6]) #[false, false, false, false, false, false, false, false, false] (by kernel_rfl) rfl rfl ⟨cell_blk HX0.out 3, cell_blk HX0.out 4⟩ (fun hHeld => ?_)
              generalize wr.drew = x0 at *
              refine pure_ (i := 0) (N := some 73) (v := ?_) (a' := ?_) #[true, false, false, false, false, false, false, false, false] rfl rfl (by kernel_rfl) (fun _ _ _ h => h) (Or.inl ⟨by rfl, ?_⟩) ?_ ?_
              rotate_left
              · intro w'
                go_simp
                with_reducible rfl
              rotate_left
              · simp only [Act.put, List.setIfInBounds_toArray, List.set_cons_zero, List.set_cons_succ, i64_w, i32_w]
                rfl
              refine pure_ (i := 3) (N := some 76) (v := ?_) (a' := ?_) #[true, false, false, true, false, false, false, false, false] rfl rfl (by kernel_rfl) (fun _ _ _ h => h) (Or.inl ⟨by rfl, ?_⟩) ?_ ?_
              rotate_left
              · intro w'
                go_simp
                with_reducible rfl
              rotate_left
              · simp only [Act.put, List.setIfInBounds_toArray, List.set_cons_zero, List.set_cons_succ, i64_w, i32_w]
                rfl
              refine pure_ (i := 8) (N := some 81) (v := ?_) (a' := ?_) #[true, false, false, true, false, false, false, false, true] rfl rfl (by kernel_rfl) (fun _ _ _ h => h) (Or.inl ⟨by rfl, ?_⟩) ?_ ?_
              rotate_left
              · intro w'
                go_simp
                with_reducible rfl
              rotate_left
              · simp only [Act.put, List.setIfInBounds_toArray, List.set_cons_zero, List.set_cons_succ, i64_w, i32_w]
                rfl
              refine take_ (i := 1) (N := some 74) (v := ?_) (a' := ?_) #[true, true, false, true, false, false, false, false, true] rfl rfl (by kernel_rfl) (fun _ _ _ h => h) (Or.inl ⟨by rfl, ?_⟩) hHeld ?_ ?_
              rotate_left
              · rintro w' ⟨s0, s1⟩
                go_simp
                with_reducible rfl
              rotate_left
              · simp only [Act.put, List.setIfInBounds_toArray, List.set_cons_zero, List.set_cons_succ, i64_w, i32_w]
                rfl
              refine take_ (i := 4) (N := some 77) (v := ?_) (a' := ?_) #[true, true, false, true, true, false, false, false, true] rfl rfl (by kernel_rfl) (fun _ _ _ h => h) (Or.inl ⟨by rfl, ?_⟩) hHeld ?_ ?_
              rotate_left
              · rintro w' ⟨s0, s1⟩
                go_simp
                with_reducible rfl
              rotate_left
              · simp only [Act.put, List.setIfInBounds_toArray, List.set_cons_zero, List.set_cons_succ, i64_w, i32_w]
                rfl
              refine two_ (i := 2) (j := 5) (Ni := some 75) (Nj := some 78) #[true, true, true, true, true, false, false, false, true] #[true, true, false, true, true, true, false, false, true] rfl rfl rfl rfl (by kernel_rfl) (by decide) (by decide) (fun K hK => ?_) (fun K hK => ?_)
              · skip
                refine goes_ Try.func43 (by kernel_rfl) rfl #[.slice AC s.caches.length cC] (by rfl) rfl rfl (by simp only [List.map_toArray, List.map_cons, List.map_nil]; rfl) ?_
                with_reducible refine (cloneL _ _ x0 HR0.out.c.reads (by rw [HR0.out.l]; exact hBd.c)).mono ?_
                rintro e wA ⟨ux, rfl, hRx, hSA⟩
                refine ⟨_, rfl, ?_⟩
                obtain ⟨Ax, cx, rfl, -⟩ := hRx.slice
                have hXA := blk_below HX0.out hSA
                refine hK.out _ _ ⟨cell_blk hXA 3, cell_blk hXA 4⟩ (fun hHeld => ?_)
                clear hK K
                refine norm_ (a' := ?_) ?_ ?_
                rotate_left
                · show Act.put _ (some 75) _ = _
                  simp only [Act.put, List.setIfInBounds_toArray, List.set_cons_zero, List.set_cons_succ, i64_w, i32_w]
                  rfl
                refine one_ (i := 5) (N := some 78) #[true, true, true, true, true, true, false, false, true] rfl rfl (by kernel_rfl) (by decide) (fun K hK => ?_)
                refine value_ (w1 := ?_) (v := ?_) (by rfl) rfl ?_ ?_
                rotate_left 2
                · go_simp
                  constructor
                  · rfl
                  · rfl
                have hSB : Below wA.heap.size wA (wA.alloc (.cells #[.slice AF s.free.length cF] 26)) := below_al (Below.refl _ _) _
                have hbox : (wA.alloc (.cells #[.slice AF s.free.length cF] 26)).heap[wA.heap.size]? = some (.cells #[.slice AF s.free.length cF] 26 (0, 0)) := blk_new _ _
                obtain ⟨bx, hbx⟩ : ∃ d, wA.heap.size = d := ⟨_, rfl⟩
                rw [hbx] at hbox ⊢
                generalize wA.alloc (.cells #[.slice AF s.free.length cF] 26) = wB at *
                clear hbx
                have hBB := below_then hSA hSB
                have hXB := blk_below HX0.out hBB
                refine hK.out _ _ ⟨cell_blk hXB 3, cell_blk hXB 4⟩ (fun hHeld => ?_)
                clear hK K
                refine norm_ (a' := ?_) ?_ ?_
                rotate_left
                · show Act.put _ (some 78) _ = _
                  simp only [Act.put, List.setIfInBounds_toArray, List.set_cons_zero, List.set_cons_succ, i64_w, i32_w]
                  rfl
                refine last_ (i := 6) (N := some 79) #[true, true, true, true, true, true, true, false, true] rfl rfl (by kernel_rfl) (by decide) (fun K hK => ?_)
                have hBB := below_then hSA hSB
                have hzB := hSA.size
                obtain ⟨v5, w5, hr5, hrow5, hg5⟩ := row_append (P := Try.prog) (t := 28) Try.underlying28 infoSl rfl (by omega) ((hRx.below hSB).lower (base' := x0.heap.size) (by omega)) (some ⟨bx, 0, none⟩) 1 1 [.slice AF s.free.length cF] rfl (fun _ => ⟨_, rfl, fun j u hj => by match j, hj with | 0, hj => (obtain rfl : Value.slice AF s.free.length cF = u := by simpa using hj); rw [adds]; exact cell_blk hbox 0⟩) (fun u hu => by rw [List.mem_singleton.1 hu]; rfl) (by rw [HR0.out.l]; omega) (by have := hBB.size; omega)
                refine app_ (.tmp 75) (.tmp 78) 28 (by rfl) rfl rfl rfl rfl hr5 ?_
                have hB5 : Below x0.heap.size x0 w5 := below_then_keep hBB hBB.size (grown_keep (ok := fun k => x0.heap.size ≤ k) hg5 (fun k e => hRx.base_le k e |> fun h => by omega)) (fun _ h => h)
                obtain ⟨A5, c5, he5, -⟩ := hrow5.slice
                rw [List.length_append, List.length_singleton, HR0.out.l] at he5
                subst he5
                refine hK.out _ _ ?_
                clear hK K
                refine norm_ (a' := ?_) ?_ ?_
                rotate_left
                · show Act.put _ (some 79) _ = _
                  simp only [Act.put, List.setIfInBounds_toArray, List.set_cons_zero, List.set_cons_succ, i64_w, i32_w]
                  rfl
                refine pure_ (i := 7) (N := some 80) (v := ?_) (a' := ?_) #[true, true, true, true, true, true, true, true, true] rfl rfl (by kernel_rfl) (fun _ _ _ h => h) (Or.inl ⟨by rfl, ?_⟩) ?_ ?_
                rotate_left
                · intro w'
                  go_simp
                  with_reducible rfl
                rotate_left
                · simp only [Act.put, List.setIfInBounds_toArray, List.set_cons_zero, List.set_cons_succ, i64_w, i32_w]
                  rfl
                refine done_ (by kernel_rfl) ?_
                have HR5 := Aside0.mk ((hrow5.mono (ok' := fun _ => True) (fun _ _ _ => trivial)).lower hWx.out.size)
                have HB5 := Aside0.mk (below_then hWx.out hB5)
                clear hHeld hSA hSB hBB hRx hbox hr5 hrow5 hg5 hB5 hzB
                go_wp2_with fail
                go_meet
                exact ⟨A5, c5, rfl, by go_num, rfl, HR5, HB5⟩
              · skip
                refine value_ (w1 := ?_) (v := ?_) (by rfl) rfl ?_ ?_
                rotate_left 2
                · go_simp
                  constructor
                  · rfl
                  · rfl
                have hSA : Below x0.heap.size x0 (x0.alloc (.cells #[.slice AF s.free.length cF] 26)) := below_al (Below.refl _ _) _
                have hbox : (x0.alloc (.cells #[.slice AF s.free.length cF] 26)).heap[x0.heap.size]? = some (.cells #[.slice AF s.free.length cF] 26 (0, 0)) := blk_new _ _
                obtain ⟨bx, hbx⟩ : ∃ d, x0.heap.size = d := ⟨_, rfl⟩
                rw [hbx] at hbox ⊢
                generalize x0.alloc (.cells #[.slice AF s.free.length cF] 26) = wA at *
                clear hbx
                have hXA := blk_below HX0.out hSA
                refine hK.out _ _ ⟨cell_blk hXA 3, cell_blk hXA 4⟩ (fun hHeld => ?_)
                clear hK K
                refine norm_ (a' := ?_) ?_ ?_
                rotate_left
                · show Act.put _ (some 78) _ = _
                  simp only [Act.put, List.setIfInBounds_toArray, List.set_cons_zero, List.set_cons_succ, i64_w, i32_w]
                  rfl
                refine one_ (i := 2) (N := some 75) #[true, true, true, true, true, true, false, false, true] rfl rfl (by kernel_rfl) (by decide) (fun K hK => ?_)
                refine goes_ Try.func43 (by kernel_rfl) rfl #[.slice AC s.caches.length cC] (by rfl) rfl rfl (by simp only [List.map_toArray, List.map_cons, List.map_nil]; rfl) ?_
                with_reducible refine (cloneL _ _ wA (HR0.out.c.below hSA).reads (by rw [HR0.out.l]; exact hBd.c)).mono ?_
                rintro e wB ⟨ux, rfl, hRx, hSB⟩
                refine ⟨_, rfl, ?_⟩
                obtain ⟨Ax, cx, rfl, -⟩ := hRx.slice
                have hBB := below_then hSA hSB
                have hXB := blk_below HX0.out hBB
                refine hK.out _ _ ⟨cell_blk hXB 3, cell_blk hXB 4⟩ (fun hHeld => ?_)
                clear hK K
                refine norm_ (a' := ?_) ?_ ?_
                rotate_left
                · show Act.put _ (some 75) _ = _
                  simp only [Act.put, List.setIfInBounds_toArray, List.set_cons_zero, List.set_cons_succ, i64_w, i32_w]
                  rfl
                refine last_ (i := 6) (N := some 79) #[true, true, true, true, true, true, true, false, true] rfl rfl (by kernel_rfl) (by decide) (fun K hK => ?_)
                have hBB := below_then hSA hSB
                have hzB := hSA.size
                obtain ⟨v5, w5, hr5, hrow5, hg5⟩ := row_append (P := Try.prog) (t := 28) Try.underlying28 infoSl rfl (by omega) (hRx.lower (base' := x0.heap.size) (by omega)) (some ⟨bx, 0, none⟩) 1 1 [.slice AF s.free.length cF] rfl (fun _ => ⟨_, rfl, fun j u hj => by match j, hj with | 0, hj => (obtain rfl : Value.slice AF s.free.length cF = u := by simpa using hj); rw [adds]; exact cell_blk (blk_below hbox hSB) 0⟩) (fun u hu => by rw [List.mem_singleton.1 hu]; rfl) (by rw [HR0.out.l]; omega) (by have := hBB.size; omega)
                refine app_ (.tmp 75) (.tmp 78) 28 (by rfl) rfl rfl rfl rfl hr5 ?_
                have hB5 : Below x0.heap.size x0 w5 := below_then_keep hBB hBB.size (grown_keep (ok := fun k => x0.heap.size ≤ k) hg5 (fun k e => hRx.base_le k e |> fun h => by omega)) (fun _ h => h)
                obtain ⟨A5, c5, he5, -⟩ := hrow5.slice
                rw [List.length_append, List.length_singleton, HR0.out.l] at he5
                subst he5
                refine hK.out _ _ ?_
                clear hK K
                refine norm_ (a' := ?_) ?_ ?_
                rotate_left
                · show Act.put _ (some 79) _ = _
                  simp only [Act.put, List.setIfInBounds_toArray, List.set_cons_zero, List.set_cons_succ, i64_w, i32_w]
                  rfl
                refine pure_ (i := 7) (N := some 80) (v := ?_) (a' := ?_) #[true, true, true, true, true, true, true, true, true] rfl rfl (by kernel_rfl) (fun _ _ _ h => h) (Or.inl ⟨by rfl, ?_⟩) ?_ ?_
                rotate_left
                · intro w'
                  go_simp
                  with_reducible rfl
                rotate_left
                · simp only [Act.put, List.setIfInBounds_toArray, List.set_cons_zero, List.set_cons_succ, i64_w, i32_w]
                  rfl
                refine done_ (by kernel_rfl) ?_
                have HR5 := Aside0.mk ((hrow5.mono (ok' := fun _ => True) (fun _ _ _ => trivial)).lower hWx.out.size)
                have HB5 := Aside0.mk (below_then hWx.out hB5)
                clear hHeld hSA hSB hBB hRx hbox hr5 hrow5 hg5 hB5 hzB
                go_wp2_with fail
                go_meet
                exact ⟨A5, c5, rfl, by go_num, rfl, HR5, HB5⟩
            case rest =>
              obtain ⟨A5, c5, rfl, rfl, rfl, HV, HB5⟩ := hcut
              have HLE' : Aside0 (LbE w1 wc G s (preS s 0)) := ⟨by obtain ⟨st, h1, h2⟩ := HLE.out; exact ⟨st, h1.then HB5.out, h2⟩⟩
              have HV' : Aside0 (Row wc wr.heap.size (fun k => k ≠ G) 26 (.slice A5 (s.caches.length + 1) c5) (vs ++ [.slice AF s.free.length cF])) := ⟨⟨fun k hk => by have := HV.out.base_le k hk; have := HGW.out; omega, HV.out.row, HV.out.one⟩⟩
              clear HLE HV x0 x1 x2 x3 x4
              go_wp2_with fail
              obtain ⟨bV, hbV⟩ : ∃ d, wr.heap.size = d := ⟨_, rfl⟩
              rw [hbV] at HV'
              clear hbV HB5
              go_loopw [81] (fun i wr => ∃ p : Nat, p ≤ s.caches.length + 1 ∧ i = .int .i64 p ∧ Aside0 (LbE w1 wr G s (preS s p)) ∧ Aside0 (Row wr bV (fun k => k ≠ G) 26 (.slice A5 (s.caches.length + 1) c5) (vs ++ [.slice AF s.free.length cF]))) (fun i _ => s.caches.length + 1 - (intOf i).toNat)
              case atStart => exact ⟨0, by omega, rfl, HLE', HV'⟩
              case round =>
                clear HLE' HV'
                obtain ⟨p, hp, rfl, HLE, HV⟩ := hrel
                by_cases hpl : p < s.caches.length + 1
                · obtain ⟨l, hl⟩ : ∃ l, (listsS s)[p]? = some l := ⟨_, List.getElem?_eq_getElem (by simp [listsS]; omega)⟩
                  obtain ⟨vp, hvp, hrd⟩ := HR.out.list hl
                  obtain ⟨Xp, cp, rfl, -⟩ := hrd.slice
                  rw [ints_len] at hvp hrd
                  have HRD := Aside0.mk hrd
                  have HLS := Aside0.mk hl
                  obtain ⟨gv, ov, cv, hev, hgv, -, hatv⟩ := HV.out.form (by rw [List.length_append, List.length_singleton, HR.out.l]; omega)
                  injection hev with hev1 hev2 hev3
                  subst hev1
                  have hcv := (hatv p).1 _ hvp
                  have hpi : (p : Int) < ((s.caches.length + 1 : Nat) : Int) := by omega
                  have hlb : l.length ≤ 140737488355328 := by
                    by_cases e : p < s.caches.length
                    · rw [listsS, List.getElem?_append_left e] at hl
                      have := hBd.e l (List.mem_of_getElem? hl); omega
                    · obtain rfl : p = s.caches.length := by omega
                      obtain rfl : s.free = l := by simpa [listsS] using hl
                      have := hBd.f; omega
                  have HLE0 : Aside0 (LbE w1 wr G s (preS s p ++ l.take 0)) := ⟨by simpa using HLE.out⟩
                  clear hl hrd hatv hev2 hev3 hvp HLE
                  go_wp2_with fail
                  go_loopw [87] (fun i wr => ∃ k : Nat, k ≤ l.length ∧ i = .int .i64 k ∧ Aside0 (LbE w1 wr G s (preS s p ++ l.take k)) ∧ Aside0 (Row wr bV (fun k => k ≠ G) 26 (.slice (some ⟨gv, ov, none⟩) (s.caches.length + 1) c5) (vs ++ [.slice AF s.free.length cF]))) (fun i _ => l.length - (intOf i).toNat)
                  case atStart => exact ⟨0, by omega, rfl, HLE0, HV⟩
                  case round =>
                    clear HLE0 HV hcv hgv
                    obtain ⟨k, hk, rfl, HLE, HV⟩ := hrel
                    obtain ⟨st, hL, hI⟩ := HLE.out
                    have HL := Aside0.mk hL
                    have HI := Aside0.mk hI
                    have HBr := Aside0.mk (below_then HB1.out hL.below)
                    clear hL hI HLE
                    by_cases hlt : k < l.length
                    · obtain ⟨gl, ol, cl, hel, hgll, -, hatl⟩ := (HRD.out.below HBr.out).form (by rw [ints_len]; omega)
                      injection hel with hel1 hel2 hel3
                      subst hel1
                      obtain ⟨x, hx⟩ : ∃ x, l[k]? = some x := ⟨_, List.getElem?_eq_getElem hlt⟩
                      have hcx := (hatl k).1 _ (ints_get hx)
                      obtain ⟨rest, hrest⟩ := all_at HLS.out hx
                      have HREST := Aside0.mk hrest
                      have HTK := Aside0.mk (show l.take (k + 1) = l.take k ++ [x] by rw [List.take_add_one, hx]; rfl)
                      have hki : (0 : Int) ≤ (k : Int) := by omega
                      have hkl : (k : Int) < (l.length : Int) := by omega
                      clear hatl hel2 hel3 hx hrest
                      by_cases h1 : x < 0
                      · go_wp2
                        go_ret2
                        exact ⟨below_then HW.out HBr.out, .inr (.inr ⟨HK.out, fun hw => lb_out hw HREST.out (.inl h1), rfl⟩)⟩
                      · by_cases h2 : (s.gens.length : Int) ≤ x
                        · go_wp2
                          go_ret2
                          exact ⟨below_then HW.out HBr.out, .inr (.inr ⟨HK.out, fun hw => lb_out hw HREST.out (.inr h2), rfl⟩)⟩
                        · obtain ⟨m, rfl⟩ := Int.eq_ofNat_of_zero_le (show 0 ≤ x by omega)
                          have hmn : m < s.gens.length := by omega
                          obtain ⟨bo, hbo, hm1, hm2⟩ := HL.out.cell hmn
                          have hGl := HL.out.gw.2
                          have HBO := Aside0.mk hbo
                          clear hbo
                          cases bo with
                          | true =>
                            go_wp2
                            go_ret2
                            exact ⟨below_then HW.out HBr.out, .inr (.inr ⟨HK.out, fun hw => lb_dup hw HREST.out HI.out hmn HBO.out, rfl⟩)⟩
                          | false =>
                            have hgm := (HG.out m hmn).2
                            have HL' := Aside0.mk (HL.out.set hmn true)
                            have HI' := Aside0.mk (HI.out.step hmn HBO.out hgm)
                            have HV' := Aside0.mk (HV.out.keep (F := fun i => i = G) (w1 := wr.setCell ⟨G, m, none⟩ (.bool true)) (by repeat (first | (with_reducible exact Keep.refl _ _) | (with_reducible refine Keep.drewN ?_ _) | (with_reducible refine Keep.drew ?_) | (with_reducible refine Keep.setCell ?_ _ _ (by first | (right; with_reducible rfl) | (left; simp; done) | (left; simp; omega) | (right; simp; done) | (right; assumption))) | (with_reducible refine Keep.alloc ?_ _))) (fun i e ho => ho e))
                            clear hgm HV
                            go_wp2
                            go_roundw
                            case rel => exact ⟨k + 1, by omega, by go_num, ⟨⟨_, HL'.out, by rw [HTK.out, ← List.append_assoc]; exact HI'.out⟩⟩, HV'⟩
                            case measure => simp [intOf]; omega
                    · obtain rfl : k = l.length := by omega
                      have HLE' : Aside0 (LbE w1 wr G s (preS s (p + 1))) := ⟨⟨st, HL.out, by rw [preS_step HLS.out]; simpa using HI.out⟩⟩
                      go_wp2
                      go_roundw
                      case rel => exact ⟨p + 1, by omega, by go_num, HLE', HV⟩
                      case measure => simp [intOf]; omega
                · obtain rfl : p = s.caches.length + 1 := by omega
                  obtain ⟨st, hL, hI⟩ := HLE.out
                  rw [preS_all] at hI
                  have HL := Aside0.mk hL
                  have HI := Aside0.mk hI
                  have HBr := Aside0.mk (below_then HB1.out hL.below)
                  have hC := contains_bool false hL.row (by rw [hL.len]; omega)
                  clear hL hI HLE HV
                  go_wp2_with fail
                  refine hC.mono ?_
                  clear hC
                  rintro e wz ⟨rfl, rfl⟩
                  have HXr := Aside0.mk (blk_below HX.out HBr.out)
                  obtain ⟨x0, x1, x2, x3, x4⟩ := cells5 HXr.out
                  by_cases hf : false ∈ st
                  · rw [decide_eq_true hf]
                    go_wp2
                    go_ret2
                    exact ⟨below_then HW.out HBr.out, .inr (.inr ⟨HK.out, fun hw => lb_none hw HI.out hf, rfl⟩)⟩
                  · rw [decide_eq_false hf]
                    have HF := Aside0.mk hf
                    have hCF := containsf_any (HR.out.below HBr.out) (by omega)
                    clear hf
                    go_wp2_with fail
                    refine hCF.mono ?_
                    clear hCF
                    rintro e wz ⟨rfl, r, rfl, hr⟩
                    have HRR := Aside0.mk hr
                    clear hr
                    cases r with
                    | true =>
                      go_wp2
                      go_ret2
                      exact ⟨below_then HW.out HBr.out, .inr (.inr ⟨HK.out, fun hw => by obtain ⟨c, hc, h64⟩ := HRR.out.1 (by trivial); have := hw.cl c hc; omega, rfl⟩)⟩
                    | false =>
                      have HWF : Aside0 (Wf s) := ⟨lb_wf HK.out hg' HA.out HG.out (fun h => by have := HRR.out.2 h; cases this) HI.out HF.out⟩
                      have hWd : Aside0 (Below wr.heap.size wr wr.drew) := ⟨(Below.refl _ _).drew⟩
                      obtain ⟨⟨vG', vA', vC', vF', vs', hQ⟩, hcol⟩ := HS.out
                      have HCOL := Aside0.mk hcol
                      have HQ0 := Aside0.mk ((hQ.below HL.out.below).below hWd.out)
                      have HX0 := Aside0.mk (blk_below HXr.out hWd.out)
                      have HR0 := Aside0.mk ((HR.out.below HBr.out).below hWd.out)
                      have HBd0 := Aside0.mk (below_then HBr.out hWd.out)
                      clear hQ hcol HL HI HF HRR HS x0 x1 x2 x3 x4
                      go_wp2_with fail
                      refine start_ (n := 21) (S := fun w' => w'.cell? ⟨w.heap.size, 1, none⟩ = some (.slice AG s.gens.length cG) ∧ w'.cell? ⟨w.heap.size, 2, none⟩ = some (.slice AA s.alive.length cA) ∧ w'.cell? ⟨w.heap.size, 4, none⟩ = some (.slice AF s.free.length cF)) (ds := [14, 17, 20]) #[false, false, false, false, false, false, false, false, false, false, false, false, false, false, false, false, false, false, false, false, false] (by kernel_rfl) rfl rfl ⟨cell_blk HX0.out 1, cell_blk HX0.out 2, cell_blk HX0.out 4⟩ (fun hHeld => ?_)
                      generalize wr.drew = x0 at *
                      refine pure_ (i := 0) (N := some 117) (v := ?_) (a' := ?_) #[true, false, false, false, false, false, false, false, false, false, false, false, false, false, false, false, false, false, false, false, false] rfl rfl (by kernel_rfl) (fun _ _ _ h => h) (Or.inl ⟨by rfl, ?_⟩) ?_ ?_
                      rotate_left
                      · intro w'
                        go_simp
                        with_reducible rfl
                      rotate_left
                      · simp only [Act.put, List.setIfInBounds_toArray, List.set_cons_zero, List.set_cons_succ, i64_w, i32_w]
                        rfl
                      refine pure_ (i := 1) (N := some 118) (v := ?_) (a' := ?_) #[true, true, false, false, false, false, false, false, false, false, false, false, false, false, false, false, false, false, false, false, false] rfl rfl (by kernel_rfl) (fun _ _ _ h => h) (Or.inl ⟨by rfl, ?_⟩) ?_ ?_
                      rotate_left
                      · intro w'
                        go_simp
                        with_reducible rfl
                      rotate_left
                      · simp only [Act.put, List.setIfInBounds_toArray, List.set_cons_zero, List.set_cons_succ, i64_w, i32_w]
                        rfl
                      refine pure_ (i := 2) (N := some 119) (v := ?_) (a' := ?_) #[true, true, true, false, false, false, false, false, false, false, false, false, false, false, false, false, false, false, false, false, false] rfl rfl (by kernel_rfl) (fun _ _ _ h => h) (Or.inl ⟨by rfl, ?_⟩) ?_ ?_
                      rotate_left
                      · intro w'
                        go_simp
                        with_reducible rfl
                      rotate_left
                      · simp only [Act.put, List.setIfInBounds_toArray, List.set_cons_zero, List.set_cons_succ, i64_w, i32_w]
                        rfl
                      refine pure_ (i := 3) (N := some 120) (v := ?_) (a' := ?_) #[true, true, true, true, false, false, false, false, false, false, false, false, false, false, false, false, false, false, false, false, false] rfl rfl (by kernel_rfl) (fun _ _ _ h => h) (Or.inl ⟨by rfl, ?_⟩) ?_ ?_
                      rotate_left
                      · intro w'
                        go_simp
                        with_reducible rfl
                      rotate_left
                      · simp only [Act.put, List.setIfInBounds_toArray, List.set_cons_zero, List.set_cons_succ, i64_w, i32_w]
                        rfl
                      refine pure_ (i := 6) (N := some 123) (v := ?_) (a' := ?_) #[true, true, true, true, false, false, true, false, false, false, false, false, false, false, false, false, false, false, false, false, false] rfl rfl (by kernel_rfl) (fun _ _ _ h => h) (Or.inl ⟨by rfl, ?_⟩) ?_ ?_
                      rotate_left
                      · intro w'
                        go_simp
                        with_reducible rfl
                      rotate_left
                      · simp only [Act.put, List.setIfInBounds_toArray, List.set_cons_zero, List.set_cons_succ, i64_w, i32_w]
                        rfl
                      refine pure_ (i := 9) (N := some 126) (v := ?_) (a' := ?_) #[true, true, true, true, false, false, true, false, false, true, false, false, false, false, false, false, false, false, false, false, false] rfl rfl (by kernel_rfl) (fun _ _ _ h => h) (Or.inl ⟨by rfl, ?_⟩) ?_ ?_
                      rotate_left
                      · intro w'
                        go_simp
                        with_reducible rfl
                      rotate_left
                      · simp only [Act.put, List.setIfInBounds_toArray, List.set_cons_zero, List.set_cons_succ, i64_w, i32_w]
                        rfl
                      refine take_ (i := 4) (N := some 121) (v := ?_) (a' := ?_) #[true, true, true, true, true, false, true, false, false, true, false, false, false, false, false, false, false, false, false, false, false] rfl rfl (by kernel_rfl) (fun _ _ _ h => h) (Or.inl ⟨by rfl, ?_⟩) hHeld ?_ ?_
                      rotate_left
                      · rintro w' ⟨s0, s1, s2⟩
                        go_simp
                        with_reducible rfl
                      rotate_left
                      · simp only [Act.put, List.setIfInBounds_toArray, List.set_cons_zero, List.set_cons_succ, i64_w, i32_w]
                        rfl
                      refine take_ (i := 7) (N := some 124) (v := ?_) (a' := ?_) #[true, true, true, true, true, false, true, true, false, true, false, false, false, false, false, false, false, false, false, false, false] rfl rfl (by kernel_rfl) (fun _ _ _ h => h) (Or.inl ⟨by rfl, ?_⟩) hHeld ?_ ?_
                      rotate_left
                      · rintro w' ⟨s0, s1, s2⟩
                        go_simp
                        with_reducible rfl
                      rotate_left
                      · simp only [Act.put, List.setIfInBounds_toArray, List.set_cons_zero, List.set_cons_succ, i64_w, i32_w]
                        rfl
                      refine take_ (i := 10) (N := some 127) (v := ?_) (a' := ?_) #[true, true, true, true, true, false, true, true, false, true, true, false, false, false, false, false, false, false, false, false, false] rfl rfl (by kernel_rfl) (fun _ _ _ h => h) (Or.inl ⟨by rfl, ?_⟩) hHeld ?_ ?_
                      rotate_left
                      · rintro w' ⟨s0, s1, s2⟩
                        go_simp
                        with_reducible rfl
                      rotate_left
                      · simp only [Act.put, List.setIfInBounds_toArray, List.set_cons_zero, List.set_cons_succ, i64_w, i32_w]
                        rfl
                      refine one_ (i := 5) (N := some 122) #[true, true, true, true, true, true, true, true, false, true, true, false, false, false, false, false, false, false, false, false, false] rfl rfl (by kernel_rfl) (by decide) (fun K hK => ?_)
                      refine goes_ Try.func35 (by kernel_rfl) rfl #[.slice AG s.gens.length cG] (by rfl) rfl rfl (by simp only [List.map_toArray, List.map_cons, List.map_nil]; rfl) ?_
                      with_reducible refine (cloneI _ _ x0 HR0.out.g.reads (by rw [ints_len]; exact hBd.g)).mono ?_
                      rintro e w3 ⟨uG, rfl, hRG, hS2⟩
                      refine ⟨_, rfl, ?_⟩
                      obtain ⟨NG, dG, rfl, -⟩ := hRG.slice
                      have hB3 : Below x0.heap.size x0 w3 := hS2
                      have hXB2 := blk_below HX0.out hB3
                      refine hK.out _ _ ⟨cell_blk hXB2 1, cell_blk hXB2 2, cell_blk hXB2 4⟩ (fun hHeld => ?_)
                      clear hK K
                      refine norm_ (a' := ?_) ?_ ?_
                      rotate_left
                      · show Act.put _ (some 122) _ = _
                        simp only [Act.put, List.setIfInBounds_toArray, List.set_cons_zero, List.set_cons_succ, i64_w, i32_w]
                        rfl
                      refine one_ (i := 8) (N := some 125) #[true, true, true, true, true, true, true, true, true, true, true, false, false, false, false, false, false, false, false, false, false] rfl rfl (by kernel_rfl) (by decide) (fun K hK => ?_)
                      refine goes_ Try.func36 (by kernel_rfl) rfl #[.slice AA s.alive.length cA] (by rfl) rfl rfl (by simp only [List.map_toArray, List.map_cons, List.map_nil]; rfl) ?_
                      with_reducible refine (cloneB _ _ w3 (HR0.out.a.below hB3).reads (by rw [bools_len]; exact hBd.a)).mono ?_
                      rintro e w4 ⟨uA, rfl, hRA, hS3⟩
                      refine ⟨_, rfl, ?_⟩
                      obtain ⟨NA, dA, rfl, -⟩ := hRA.slice
                      have hB4 : Below x0.heap.size x0 w4 := below_then hB3 hS3
                      have hXB3 := blk_below HX0.out hB4
                      refine hK.out _ _ ⟨cell_blk hXB3 1, cell_blk hXB3 2, cell_blk hXB3 4⟩ (fun hHeld => ?_)
                      clear hK K
                      refine norm_ (a' := ?_) ?_ ?_
                      rotate_left
                      · show Act.put _ (some 125) _ = _
                        simp only [Act.put, List.setIfInBounds_toArray, List.set_cons_zero, List.set_cons_succ, i64_w, i32_w]
                        rfl
                      refine one_ (i := 11) (N := some 128) #[true, true, true, true, true, true, true, true, true, true, true, true, false, false, false, false, false, false, false, false, false] rfl rfl (by kernel_rfl) (by decide) (fun K hK => ?_)
                      refine goes_ Try.func35 (by kernel_rfl) rfl #[.slice AF s.free.length cF] (by rfl) rfl rfl (by simp only [List.map_toArray, List.map_cons, List.map_nil]; rfl) ?_
                      with_reducible refine (cloneI _ _ w4 (HR0.out.f.below hB4).reads (by rw [ints_len]; exact hBd.f)).mono ?_
                      rintro e w5 ⟨uF, rfl, hRF, hS4⟩
                      refine ⟨_, rfl, ?_⟩
                      obtain ⟨NF, dF, rfl, -⟩ := hRF.slice
                      have hB5 : Below x0.heap.size x0 w5 := below_then hB4 hS4
                      have hXB4 := blk_below HX0.out hB5
                      refine hK.out _ _ ⟨cell_blk hXB4 1, cell_blk hXB4 2, cell_blk hXB4 4⟩ (fun hHeld => ?_)
                      clear hK K
                      refine norm_ (a' := ?_) ?_ ?_
                      rotate_left
                      · show Act.put _ (some 128) _ = _
                        simp only [Act.put, List.setIfInBounds_toArray, List.set_cons_zero, List.set_cons_succ, i64_w, i32_w]
                        rfl
                      refine pure_ (i := 12) (N := some 129) (v := ?_) (a' := ?_) #[true, true, true, true, true, true, true, true, true, true, true, true, true, false, false, false, false, false, false, false, false] rfl rfl (by kernel_rfl) (fun _ _ _ h => h) (Or.inl ⟨by rfl, ?_⟩) ?_ ?_
                      rotate_left
                      · intro w'
                        go_simp
                        with_reducible rfl
                      rotate_left
                      · simp only [Act.put, List.setIfInBounds_toArray, List.set_cons_zero, List.set_cons_succ, i64_w, i32_w]
                        rfl
                      refine pure_ (i := 13) (N := some 130) (v := ?_) (a' := ?_) #[true, true, true, true, true, true, true, true, true, true, true, true, true, true, false, false, false, false, false, false, false] rfl rfl (by kernel_rfl) (fun _ _ _ h => h) (Or.inl ⟨by rfl, ?_⟩) ?_ ?_
                      rotate_left
                      · intro w'
                        go_simp
                        with_reducible rfl
                      rotate_left
                      · simp only [Act.put, List.setIfInBounds_toArray, List.set_cons_zero, List.set_cons_succ, i64_w, i32_w]
                        rfl
                      refine last_ (i := 14) (N := none) #[true, true, true, true, true, true, true, true, true, true, true, true, true, true, true, false, false, false, false, false, false] rfl rfl (by kernel_rfl) (by decide) (fun K hK => ?_)
                      have hO0 : w5.heap[b]? = some (.cells #[.int .i64 s.limit, vG', vA', vC', vF'] TS (0, 0)) := blk_below HQ0.out.blk hB5
                      obtain ⟨f0, f1, f2, f3, f4⟩ := cells5 hO0
                      obtain ⟨g0, g1, g2, g3, g4⟩ := froz5 hO0
                      have hbl := lt_blk hO0
                      refine skip_ (w1 := ?_) (by rfl) rfl ?_ ?_
                      rotate_left
                      · go_simp
                        first | with_reducible rfl | rfl
                      refine hK.out _ _ ?_
                      clear hK K
                      refine pure_ (i := 15) (N := some 131) (v := ?_) (a' := ?_) #[true, true, true, true, true, true, true, true, true, true, true, true, true, true, true, true, false, false, false, false, false] rfl rfl (by kernel_rfl) (fun _ _ _ h => h) (Or.inl ⟨by rfl, ?_⟩) ?_ ?_
                      rotate_left
                      · intro w'
                        go_simp
                        with_reducible rfl
                      rotate_left
                      · simp only [Act.put, List.setIfInBounds_toArray, List.set_cons_zero, List.set_cons_succ, i64_w, i32_w]
                        rfl
                      refine pure_ (i := 16) (N := some 132) (v := ?_) (a' := ?_) #[true, true, true, true, true, true, true, true, true, true, true, true, true, true, true, true, true, false, false, false, false] rfl rfl (by kernel_rfl) (fun _ _ _ h => h) (Or.inl ⟨by rfl, ?_⟩) ?_ ?_
                      rotate_left
                      · intro w'
                        go_simp
                        with_reducible rfl
                      rotate_left
                      · simp only [Act.put, List.setIfInBounds_toArray, List.set_cons_zero, List.set_cons_succ, i64_w, i32_w]
                        rfl
                      refine last_ (i := 17) (N := none) #[true, true, true, true, true, true, true, true, true, true, true, true, true, true, true, true, true, true, false, false, false] rfl rfl (by kernel_rfl) (by decide) (fun K hK => ?_)
                      have hO1 : (w5.setCell ⟨b, 1, none⟩ (.slice NG (ints s.gens).length dG)).heap[b]? = some (.cells #[.int .i64 s.limit, .slice NG (ints s.gens).length dG, vA', vC', vF'] TS (0, 0)) := by simpa using blk_set (i := 1) (u := .slice NG (ints s.gens).length dG) hO0
                      have hk1 : Keep (fun k => k = b) w5 (w5.setCell ⟨b, 1, none⟩ (.slice NG (ints s.gens).length dG)) := (by repeat (first | (with_reducible exact Keep.refl _ _) | (with_reducible refine Keep.drewN ?_ _) | (with_reducible refine Keep.drew ?_) | (with_reducible refine Keep.setCell ?_ _ _ (by first | (right; with_reducible rfl) | (left; simp; done) | (left; simp; omega) | (right; simp; done) | (right; assumption))) | (with_reducible refine Keep.alloc ?_ _)))
                      generalize (w5.setCell ⟨b, 1, none⟩ (.slice NG (ints s.gens).length dG)) = u1 at *
                      clear f0 f1 f2 f3 f4 g0 g1 g2 g3 g4 hbl
                      obtain ⟨f0, f1, f2, f3, f4⟩ := cells5 hO1
                      obtain ⟨g0, g1, g2, g3, g4⟩ := froz5 hO1
                      have hbl := lt_blk hO1
                      refine skip_ (w1 := ?_) (by rfl) rfl ?_ ?_
                      rotate_left
                      · go_simp
                        first | with_reducible rfl | rfl
                      refine hK.out _ _ ?_
                      clear hK K
                      refine pure_ (i := 18) (N := some 133) (v := ?_) (a' := ?_) #[true, true, true, true, true, true, true, true, true, true, true, true, true, true, true, true, true, true, true, false, false] rfl rfl (by kernel_rfl) (fun _ _ _ h => h) (Or.inl ⟨by rfl, ?_⟩) ?_ ?_
                      rotate_left
                      · intro w'
                        go_simp
                        with_reducible rfl
                      rotate_left
                      · simp only [Act.put, List.setIfInBounds_toArray, List.set_cons_zero, List.set_cons_succ, i64_w, i32_w]
                        rfl
                      refine pure_ (i := 19) (N := some 134) (v := ?_) (a' := ?_) #[true, true, true, true, true, true, true, true, true, true, true, true, true, true, true, true, true, true, true, true, false] rfl rfl (by kernel_rfl) (fun _ _ _ h => h) (Or.inl ⟨by rfl, ?_⟩) ?_ ?_
                      rotate_left
                      · intro w'
                        go_simp
                        with_reducible rfl
                      rotate_left
                      · simp only [Act.put, List.setIfInBounds_toArray, List.set_cons_zero, List.set_cons_succ, i64_w, i32_w]
                        rfl
                      refine last_ (i := 20) (N := none) #[true, true, true, true, true, true, true, true, true, true, true, true, true, true, true, true, true, true, true, true, true] rfl rfl (by kernel_rfl) (by decide) (fun K hK => ?_)
                      have hO2 : (u1.setCell ⟨b, 2, none⟩ (.slice NA (bools s.alive).length dA)).heap[b]? = some (.cells #[.int .i64 s.limit, .slice NG (ints s.gens).length dG, .slice NA (bools s.alive).length dA, vC', vF'] TS (0, 0)) := by simpa using blk_set (i := 2) (u := .slice NA (bools s.alive).length dA) hO1
                      have hk2 : Keep (fun k => k = b) u1 (u1.setCell ⟨b, 2, none⟩ (.slice NA (bools s.alive).length dA)) := (by repeat (first | (with_reducible exact Keep.refl _ _) | (with_reducible refine Keep.drewN ?_ _) | (with_reducible refine Keep.drew ?_) | (with_reducible refine Keep.setCell ?_ _ _ (by first | (right; with_reducible rfl) | (left; simp; done) | (left; simp; omega) | (right; simp; done) | (right; assumption))) | (with_reducible refine Keep.alloc ?_ _)))
                      generalize (u1.setCell ⟨b, 2, none⟩ (.slice NA (bools s.alive).length dA)) = u2 at *
                      clear f0 f1 f2 f3 f4 g0 g1 g2 g3 g4 hbl
                      obtain ⟨f0, f1, f2, f3, f4⟩ := cells5 hO2
                      obtain ⟨g0, g1, g2, g3, g4⟩ := froz5 hO2
                      have hbl := lt_blk hO2
                      refine skip_ (w1 := ?_) (by rfl) rfl ?_ ?_
                      rotate_left
                      · go_simp
                        first | with_reducible rfl | rfl
                      refine hK.out _ _ ?_
                      clear hK K
                      refine done_ (by kernel_rfl) ?_
                      have hO3 : (u2.setCell ⟨b, 4, none⟩ (.slice NF (ints s.free).length dF)).heap[b]? = some (.cells #[.int .i64 s.limit, .slice NG (ints s.gens).length dG, .slice NA (bools s.alive).length dA, vC', .slice NF (ints s.free).length dF] TS (0, 0)) := by simpa using blk_set (i := 4) (u := .slice NF (ints s.free).length dF) hO2
                      have hk4 : Keep (fun k => k = b) u2 (u2.setCell ⟨b, 4, none⟩ (.slice NF (ints s.free).length dF)) := (by repeat (first | (with_reducible exact Keep.refl _ _) | (with_reducible refine Keep.drewN ?_ _) | (with_reducible refine Keep.drew ?_) | (with_reducible refine Keep.setCell ?_ _ _ (by first | (right; with_reducible rfl) | (left; simp; done) | (left; simp; omega) | (right; simp; done) | (right; assumption))) | (with_reducible refine Keep.alloc ?_ _)))
                      generalize (u2.setCell ⟨b, 4, none⟩ (.slice NF (ints s.free).length dF)) = u3 at *
                      have hkk : Keep (fun k => k = b) w5 u3 := (hk1.trans hk2).trans hk4
                      have hz2 := hS2.size
                      have hz3 := hS3.size
                      have hz4 := hS4.size
                      have hbx := lt_blk HQ0.out.blk
                      have hb1 := HQ0.out.one
                      have hW0 : W.heap.size ≤ x0.heap.size := HBd0.out.size
                      have rG := (((hRG.own_of (ok' := fun k => x0.heap.size ≤ k ∧ k < w3.heap.size) (fun k e => ⟨hRG.base_le k e, hRG.lt k e⟩)).below hS3).below hS4).keep hkk (fun i e ho => by subst e; omega)
                      have rA := ((hRA.own_of (ok' := fun k => w3.heap.size ≤ k ∧ k < w4.heap.size) (fun k e => ⟨hRA.base_le k e, hRA.lt k e⟩)).below hS4).keep hkk (fun i e ho => by subst e; omega)
                      have rF := (hRF.own_of (ok' := fun k => w4.heap.size ≤ k ∧ k < w5.heap.size) (fun k e => ⟨hRF.base_le k e, hRF.lt k e⟩)).keep hkk (fun i e ho => by subst e; omega)
                      obtain ⟨col9, hQ9, hN9⟩ := HQ0.out.fields (w' := u3) hW0 (gens' := s.gens) (alive' := s.alive) (free' := s.free) (new := fun k => if k < w3.heap.size then 2 else if k < w4.heap.size then 3 else 5) ((Keep.of_below hB5).trans (hkk.mono (fun _ _ e => by subst e; exact .inl hb1))) hO3
                        ((rG.lower (by omega)).mono (fun k _ ho => .inr ⟨by omega, by show (if k < w3.heap.size then 2 else if k < w4.heap.size then 3 else 5) = 2; rw [if_pos ho.2]⟩))
                        ((rA.lower (by omega)).mono (fun k _ ho => .inr ⟨by omega, by show (if k < w3.heap.size then 2 else if k < w4.heap.size then 3 else 5) = 3; rw [if_neg (by omega), if_pos ho.2]⟩))
                        ((rF.lower (by omega)).mono (fun k _ ho => .inr ⟨by omega, by show (if k < w3.heap.size then 2 else if k < w4.heap.size then 3 else 5) = 5; rw [if_neg (by omega), if_neg (by omega)]⟩))
                      have hBW := below_then_keep (below_then HBd0.out hB5) (by have := hB5.size; omega) hkk (fun i e => by subst e; exact HQ0.out.r.b _ (by rw [hb1]; decide))
                      have hEq : ({ newS s.limit s.caches.length with gens := s.gens, alive := s.alive, free := s.free } : Sl) = ⟨s.limit, s.gens, s.alive, fillC s 0, s.free⟩ := by simp [newS, fillC]
                      have HSL : Aside0 (LbS W u3 b s 0) := ⟨⟨_, _, _, _, _, col9, by rw [← hEq]; exact hQ9, hBW, fun k hk => (hN9.cols k (by omega)).trans (HCOL.out k hk)⟩⟩
                      obtain ⟨x0', x1', x2', x3', x4'⟩ := cells5 (blk_below HX.out hBW)
                      clear hHeld hQ9 hN9 hEq hBW rG rA rF hkk hk1 hk2 hk4 hO0 hO1 hO2 hO3 hRG hRA hRF hS2 hS3 hS4 hB3 hB4 hB5 hXB2 hXB3 hXB4 f0 f1 f2 f3 f4 g0 g1 g2 g3 g4 hbl hz2 hz3 hz4 hW0 hbx hb1
                      go_wp2_with fail
                      go_loopw [138] (fun i wr => ∃ p : Nat, p ≤ s.caches.length ∧ i = .int .i64 p ∧ Aside0 (LbS W wr b s p)) (fun i _ => s.caches.length - (intOf i).toNat)
                      case atStart => exact ⟨0, by omega, rfl, HSL⟩
                      case round =>
                        clear HSL x0' x1' x2' x3' x4'
                        obtain ⟨p, hp, rfl, HSL⟩ := hrel
                        obtain ⟨vG2, vA2, vC2, vF2, vs2, col2, hQ, hB, hcol⟩ := HSL.out
                        by_cases hpl : p < s.caches.length
                        · obtain ⟨c, hc⟩ : ∃ c, s.caches[p]? = some c := ⟨_, List.getElem?_eq_getElem hpl⟩
                          obtain ⟨v, hv, hrd⟩ := (HR.out.below hB).v p c hc
                          obtain ⟨Xc, cc, rfl, -⟩ := hrd.slice
                          rw [ints_len] at hv hrd
                          obtain ⟨gc, oc, cq, heq, hgc, -, hatc⟩ := (HR.out.below hB).c.form (by rw [HR.out.l]; omega)
                          injection heq with heq1 heq2 heq3
                          subst heq1
                          have hcc := (hatc p).1 _ hv
                          have hki : (0 : Int) ≤ (p : Int) := by omega
                          have hkl : (p : Int) < (s.caches.length : Int) := by omega
                          have hcl : c.length * 8 ≤ 140737488355328 := hBd.e c (List.mem_of_getElem? hc)
                          have hvl := hQ.r.l
                          have hvl2 : vs2.length = s.caches.length := by rw [hvl]; exact fillC_len s p (by omega)
                          obtain ⟨gC, oC, cC2, heC, hgC, -, hatC⟩ := hQ.r.c.form (by omega)
                          rw [hvl2] at heC
                          subst heC
                          have hW5 : Below wr.heap.size wr wr.drew := (Below.refl _ _).drew
                          have HQ5 := Aside0.mk (hQ.below hW5)
                          have HB5 := Aside0.mk (below_then hB hW5)
                          have HRD := Aside0.mk (hrd.below hW5)
                          have HC2 := Aside0.mk (And.intro hcol hc)
                          obtain ⟨u0, hu0⟩ : ∃ u, vs2[p]? = some u := ⟨_, List.getElem?_eq_getElem (by omega)⟩
                          have HD1 : Aside0 (wr.drew.cell? ⟨gC, oC + p, none⟩ = some u0 ∧ wr.drew.frozen? ⟨gC, oC + p, none⟩ = false ∧ gC < wr.drew.heap.size) := ⟨(hatC p).1 _ hu0, (hatC p).2, hgC⟩
                          clear hu0
                          clear hatc hatC heq2 heq3 hv hrd hQ hB hcol hvl hW5 hc HSL hgC
                          go_wp2_with fail
                          refine start_ (n := 9) (S := fun w' => w'.cell? ⟨b, 3, none⟩ = some (.slice (some ⟨gC, oC, none⟩) s.caches.length cC2)) (ds := [8]) #[false, false, false, false, false, false, false, false, false] (by kernel_rfl) rfl rfl ((cells5 HQ5.out.blk).2.2.2.1) (fun hHeld => ?_)
                          generalize wr.drew = y0 at *
                          refine pure_ (i := 0) (N := some 143) (v := ?_) (a' := ?_) #[true, false, false, false, false, false, false, false, false] rfl rfl (by kernel_rfl) (fun _ _ _ h => h) (Or.inl ⟨by rfl, ?_⟩) ?_ ?_
                          rotate_left
                          · intro w'
                            go_simp
                            with_reducible rfl
                          rotate_left
                          · simp only [Act.put, List.setIfInBounds_toArray, List.set_cons_zero, List.set_cons_succ, i64_w, i32_w]
                            rfl
                          refine pure_ (i := 1) (N := some 144) (v := ?_) (a' := ?_) #[true, true, false, false, false, false, false, false, false] rfl rfl (by kernel_rfl) (fun _ _ _ h => h) (Or.inl ⟨by rfl, ?_⟩) ?_ ?_
                          rotate_left
                          · intro w'
                            go_simp
                            with_reducible rfl
                          rotate_left
                          · simp only [Act.put, List.setIfInBounds_toArray, List.set_cons_zero, List.set_cons_succ, i64_w, i32_w]
                            rfl
                          refine pure_ (i := 2) (N := some 145) (v := ?_) (a' := ?_) #[true, true, true, false, false, false, false, false, false] rfl rfl (by kernel_rfl) (fun _ _ _ h => h) (Or.inl ⟨by rfl, ?_⟩) ?_ ?_
                          rotate_left
                          · intro w'
                            go_simp
                            with_reducible rfl
                          rotate_left
                          · simp only [Act.put, List.setIfInBounds_toArray, List.set_cons_zero, List.set_cons_succ, i64_w, i32_w]
                            rfl
                          refine pure_ (i := 4) (N := some 147) (v := ?_) (a' := ?_) #[true, true, true, false, true, false, false, false, false] rfl rfl (by kernel_rfl) (fun _ _ _ h => h) (Or.inl ⟨by rfl, ?_⟩) ?_ ?_
                          rotate_left
                          · intro w'
                            go_simp
                            with_reducible rfl
                          rotate_left
                          · simp only [Act.put, List.setIfInBounds_toArray, List.set_cons_zero, List.set_cons_succ, i64_w, i32_w]
                            rfl
                          refine pure_ (i := 5) (N := some 148) (v := ?_) (a' := ?_) #[true, true, true, false, true, true, false, false, false] rfl rfl (by kernel_rfl) (fun _ _ _ h => h) (Or.inl ⟨by rfl, ?_⟩) ?_ ?_
                          rotate_left
                          · intro w'
                            go_simp
                            with_reducible rfl
                          rotate_left
                          · simp only [Act.put, List.setIfInBounds_toArray, List.set_cons_zero, List.set_cons_succ, i64_w, i32_w]
                            rfl
                          refine take_ (i := 3) (N := some 146) (v := ?_) (a' := ?_) #[true, true, true, true, true, true, false, false, false] rfl rfl (by kernel_rfl) (fun _ _ _ h => h) (Or.inl ⟨by rfl, ?_⟩) hHeld ?_ ?_
                          rotate_left
                          · intro w' s0
                            go_simp
                            with_reducible rfl
                          rotate_left
                          · simp only [Act.put, List.setIfInBounds_toArray, List.set_cons_zero, List.set_cons_succ, i64_w, i32_w]
                            rfl
                          refine one_ (i := 6) (N := some 149) #[true, true, true, true, true, true, true, false, false] rfl rfl (by kernel_rfl) (by decide) (fun K hK => ?_)
                          refine goes_ Try.func35 (by kernel_rfl) rfl #[.slice Xc c.length cc] (by rfl) rfl rfl (by simp only [List.map_toArray, List.map_cons, List.map_nil]; rfl) ?_
                          with_reducible refine (cloneI _ _ y0 HRD.out.reads (by rw [ints_len]; exact hcl)).mono ?_
                          rintro e w6 ⟨ux, rfl, hRx, hSx⟩
                          refine ⟨_, rfl, ?_⟩
                          obtain ⟨Ax, cx, rfl, -⟩ := hRx.slice
                          have hQ6 := HQ5.out.below hSx
                          refine hK.out _ _ ((cells5 hQ6.blk).2.2.2.1) (fun hHeld => ?_)
                          clear hK K
                          refine norm_ (a' := ?_) ?_ ?_
                          rotate_left
                          · show Act.put _ (some 149) _ = _
                            simp only [Act.put, List.setIfInBounds_toArray, List.set_cons_zero, List.set_cons_succ, i64_w, i32_w]
                            rfl
                          refine pure_ (i := 7) (N := some 150) (v := ?_) (a' := ?_) #[true, true, true, true, true, true, true, true, false] rfl rfl (by kernel_rfl) (fun _ _ _ h => h) (Or.inl ⟨by rfl, ?_⟩) ?_ ?_
                          rotate_left
                          · intro w'
                            go_simp
                            with_reducible rfl
                          rotate_left
                          · simp only [Act.put, List.setIfInBounds_toArray, List.set_cons_zero, List.set_cons_succ, i64_w, i32_w]
                            rfl
                          refine last_ (i := 8) (N := none) #[true, true, true, true, true, true, true, true, true] rfl rfl (by kernel_rfl) (by decide) (fun K hK => ?_)
                          have hz0 := HD1.out.2.2
                          have hk6 : Keep (fun _ => False) y0 w6 := Keep.of_below hSx
                          have d1 := (keep_cell hk6 hz0 (fun f => f) (oC + p)).1.trans HD1.out.1
                          have d2 := (keep_cell hk6 hz0 (fun f => f) (oC + p)).2.trans HD1.out.2.1
                          have hgC6 : gC < w6.heap.size := Nat.lt_of_lt_of_le hz0 hk6.size
                          clear hk6 hz0
                          refine skip_ (w1 := ?_) (by rfl) rfl ?_ ?_
                          rotate_left
                          · go_simp
                            first | with_reducible rfl | rfl
                          refine hK.out _ _ ?_
                          clear hK K
                          refine done_ (by kernel_rfl) ?_
                          have hb6 : W.heap.size ≤ y0.heap.size := HB5.out.size
                          obtain ⟨col3, hQ3, hN3⟩ := HQ5.out.cache (w1 := w6) (v1 := .slice Ax (ints c).length cx) (ys := c) hb6 (p := p) rfl (by show p < (fillC s p).length; rw [fillC_len s p hp]; exact hpl) (Keep.of_below hSx) ((hRx.lower hb6).own_of (fun k e => .inr (hRx.base_le k e)))
                          have hEq : ({ limit := s.limit, gens := s.gens, alive := s.alive, caches := (fillC s p).set p c, free := s.free } : Sl) = ⟨s.limit, s.gens, s.alive, fillC s (p + 1), s.free⟩ := by rw [fillC_set HC2.out.2]
                          have HSL2 : Aside0 (LbS W (w6.setCell ⟨gC, oC + p, none⟩ (.slice Ax (ints c).length cx)) b s (p + 1)) := ⟨⟨_, _, _, _, _, col3, by rw [← hEq]; exact hQ3, below_then_keep HB5.out HB5.out.size hN3.keep (fun i hi => HQ5.out.r.b i hi), fun k hk => (hN3.cols k (by omega)).trans (HC2.out.1 k hk)⟩⟩
                          clear hHeld hQ3 hN3 hEq hRx hSx hQ6 d1 d2 hgC6
                          go_wp2
                          go_roundw
                          case rel => exact ⟨p + 1, by omega, by go_num, HSL2⟩
                          case measure => simp [intOf]; omega
                        · obtain rfl : p = s.caches.length := by omega
                          rw [fillC_end] at hQ
                          have HF := Aside0.mk (And.intro (hQ.lower HW.out.size) (And.intro hB hcol))
                          clear hQ hB hcol
                          go_wp2
                          go_ret2
                          exact ⟨below_then HW.out HF.out.2.1, .inr (.inl ⟨HK.out, HWF.out, b, col2, rfl, ⟨_, _, _, _, _, HF.out.1⟩, fun k hk => HF.out.2.2 k (Nat.lt_of_lt_of_le hk HW.out.size)⟩)⟩
      · have hab' : ((s.alive.length : Int) != (s.gens.length : Int)) = true := by simp; omega
        go_wp2
        go_ret2
        exact ⟨HW1.out, .inr (.inr ⟨HK.out, fun hw => ha hw.a, rfl⟩)⟩
  · have HK := Aside0.mk hk
    have HB1 := Aside0.mk (below_then HW.out hB1)
    clear hk hB1
    go_wp2
    go_ret2
    exact ⟨HB1.out, .inl ⟨HK.out, rfl⟩⟩
end Go.Proofs.Ytnglgjegkjfnaaa
