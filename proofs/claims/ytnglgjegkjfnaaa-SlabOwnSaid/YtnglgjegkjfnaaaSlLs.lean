import Derived.Test.YtnglgjegkjfnaaaSlTT
import Derived.Deep.DrawnRows
import Derived.Test.YtnglgjegkjfnaaaSlQQ
import Derived.Test.YtnglgjegkjfnaaaOpen
set_option linter.unusedSimpArgs false
set_option linter.unusedVariables false
namespace Go.Proofs.Ytnglgjegkjfnaaa
open Go.RowKit Go.ChangeShapes Go.WideShapes Go.ChangeAt Go.Proofs.YtnglgjegkjfnaaaW.PrintWords Go.Proofs.YtnglgjegkjfnaaaW.PrintMore Go.Proofs.YtnglgjegkjfnaaaW.PrintLast
/-! The document's Load on a state that is only read: printed by gen04dd.py. -/
set_option maxHeartbeats 1000000 in
theorem free_rd {L : Int} {s : Sl} {vG vA vC vF : Value} {vs : List Value} (x : Int) (w : World) (h : SlR w s vG vA vC vF vs) (ha : s.alive.length = s.gens.length) : Calls Try.prog 33 #[.agg #[.int .i64 L, vG, vA, vC, vF], .int .i64 x] w fun e w' => e = .returned (.bool (freeB s x)) ∧ Below w.heap.size w w' := by
  obtain ⟨AG, cG, e1, -⟩ := h.g.slice
  obtain ⟨AA, cA, e2, -⟩ := h.a.slice
  obtain ⟨AC, cC, rfl, -⟩ := h.c.slice
  obtain ⟨AF, cF, rfl, -⟩ := h.f.slice
  rw [ints_len] at e1
  rw [bools_len] at e2
  subst e1 e2
  have hW : Below w.heap.size w (w.alloc (.cells #[.int .i64 L, .slice AG s.gens.length cG, .slice AA s.alive.length cA, .slice AC vs.length cC, .slice AF (ints s.free).length cF] 30)) := below_al (Below.refl _ _) _
  have hg := h.g.below hW
  have hal := h.a.below hW
  by_cases h0 : 0 ≤ x
  · obtain ⟨n, rfl⟩ := Int.eq_ofNat_of_zero_le h0
    by_cases h1 : (n : Int) < (s.gens.length : Int)
    · have hn : n < s.gens.length := by omega
      have hn2 : (n : Int) < (s.alive.length : Int) := by omega
      obtain ⟨g, o, c1, he, hgl, -, hat⟩ := hg.form (by rw [ints_len]; omega)
      obtain ⟨g', o', c1', he', hgl', -, hat'⟩ := hal.form (by rw [bools_len]; omega)
      injection he with he1 he2 he3
      injection he' with he1' he2' he3'
      subst he1 he1'
      obtain ⟨y, hy⟩ : ∃ y, s.gens[n]? = some y := ⟨_, List.getElem?_eq_getElem hn⟩
      obtain ⟨a, hb⟩ : ∃ a, s.alive[n]? = some a := ⟨_, List.getElem?_eq_getElem (by omega)⟩
      have hc1 := (hat n).1 _ (ints_get hy)
      have hc2 := (hat' n).1 _ (bools_get hb)
      have hA : aliveAt s n = a := by rw [aliveAt, List.getD_eq_getElem?_getD, hb]; rfl
      have hG : genAt s n = y := by rw [genAt, List.getD_eq_getElem?_getD, hy]; rfl
      have hE : freeB s n = (!a && decide (y < 2147483647)) := by
        unfold freeB
        rw [Int.toNat_natCast, hA, hG, decide_eq_true h0, decide_eq_true h1]; rfl
      rw [hE]
      clear hE hA hG hy hb hat hat' he2 he3 he2' he3' hg hal h ha
      cases a with
      | true =>
        go_enter Try.func33, Try.ntmps33
        go_wp2
        go_ret
        exact ⟨by simp, hW⟩
      | false =>
        by_cases h2 : y < 2147483647
        · go_enter Try.func33, Try.ntmps33
          go_wp2
          go_ret
          exact ⟨by simp [h2], hW⟩
        · go_enter Try.func33, Try.ntmps33
          go_wp2
          go_ret
          exact ⟨by simp [h2], hW⟩
    · have hE : freeB s n = false := by simp [freeB]; omega
      have h1' : (s.gens.length : Int) ≤ n := by omega
      rw [hE]
      clear hE hg hal h ha
      go_enter Try.func33, Try.ntmps33
      go_wp2
      go_ret
      exact ⟨by simp, hW⟩
  · have hE : freeB s x = false := by simp [freeB]; omega
    have h0' : x < 0 := by omega
    rw [hE]
    clear hE hg hal h ha
    go_enter Try.func33, Try.ntmps33
    go_wp2
    go_ret
    exact ⟨by simp, hW⟩

/-- The state in block B; the counts in block G. -/
structure LrW (w wr : World) (B : Nat) (s : Sl) (vG vA vC vF : Value) (vs : List Value) : Prop where
  below : Below w.heap.size w wr
  r0 : SlR w s vG vA vC vF vs
  b : wr.heap[B]? = some (.cells #[.int .i64 s.limit, vG, vA, vC, vF] 30 (0, 0))
theorem LrW.then {w wr w' : World} {B : Nat} {s : Sl} {vG vA vC vF : Value} {vs : List Value} (h : LrW w wr B s vG vA vC vF vs) (hB : Below wr.heap.size wr w') : LrW w w' B s vG vA vC vF vs :=
  ⟨below_then h.below hB, h.r0, blk_below h.b hB⟩
theorem LrW.r {w wr : World} {B : Nat} {s : Sl} {vG vA vC vF : Value} {vs : List Value} (h : LrW w wr B s vG vA vC vF vs) : SlR wr s vG vA vC vF vs := h.r0.below h.below
structure LrS (w wr : World) (B G : Nat) (s : Sl) (vG vA vC vF : Value) (vs : List Value) (L st : List Int) : Prop where
  m : LrW w wr B s vG vA vC vF vs
  row : Row wr w.heap.size (fun _ => True) 3 (.slice (some ⟨G, 0, none⟩) s.gens.length s.gens.length) (ints st)
  i : LdI s L st
  gw : w.heap.size ≤ G
  ne : B ≠ G
theorem LrS.then {w wr w' : World} {B G : Nat} {s : Sl} {vG vA vC vF : Value} {vs : List Value} {L st : List Int} (h : LrS w wr B G s vG vA vC vF vs L st) (hB : Below wr.heap.size wr w') : LrS w w' B G s vG vA vC vF vs L st :=
  ⟨h.m.then hB, h.row.below hB, h.i, h.gw, h.ne⟩
theorem LrS.set {w wr : World} {B G m : Nat} {s : Sl} {vG vA vC vF : Value} {vs : List Value} {L st : List Int} (h : LrS w wr B G s vG vA vC vF vs L st) (hf : FreeAt s m) (h0 : st.getD m 0 ≤ 0) : LrS w (wr.setCell ⟨G, 0 + m, none⟩ (.int .i64 (st.getD m 0 + 1))) B G s vG vA vC vF vs (L ++ [(m : Int)]) (st.set m (st.getD m 0 + 1)) := by
  have hm : m < s.gens.length := by have := hf.2.1; omega
  have hk : Keep (fun i => i = G) wr (wr.setCell ⟨G, 0 + m, none⟩ (.int .i64 (st.getD m 0 + 1))) := (by repeat (first | (with_reducible exact Keep.refl _ _) | (with_reducible refine Keep.drewN ?_ _) | (with_reducible refine Keep.drew ?_) | (with_reducible refine Keep.setCell ?_ _ _ (by first | (right; with_reducible rfl) | (left; simp; done) | (left; simp; omega) | (right; simp; done) | (right; assumption))) | (with_reducible refine Keep.alloc ?_ _)))
  refine ⟨⟨below_then_keep h.m.below h.m.below.size hk (fun i e => by rw [e]; exact h.gw), h.m.r0, blk_keep h.m.b hk h.ne⟩, ?_, h.i.step hf h0, h.gw, h.ne⟩
  rw [ints_set]
  exact h.row.set (by rw [ints_len, h.i.len]; exact hm) rfl
def LrE (w : World) (B G : Nat) (s : Sl) (vG vA vC vF : Value) (vs : List Value) (L : List Int) (wr : World) : Prop := ∃ st, LrS w wr B G s vG vA vC vF vs L st
def RdE (w : World) (v : Value) (l : List Int) : Prop := ∃ X c, v = .slice X l.length c ∧ Rdf w v (ints l)
set_option maxHeartbeats 16000000 in
set_option maxRecDepth 100000 in
theorem load_rd {s : Sl} {vG vA vC vF : Value} {vs : List Value} (w : World) (h : SlR w s vG vA vC vF vs) (hBd : Bd s) : Calls Try.prog 18 #[.agg #[.int .i64 s.limit, vG, vA, vC, vF]] w (LoadP s w) := by
  obtain ⟨AG, cG, e1, -⟩ := h.g.slice
  obtain ⟨AA, cA, e2, -⟩ := h.a.slice
  obtain ⟨AC, cC, e3, -⟩ := h.c.slice
  obtain ⟨AF, cF, e4, -⟩ := h.f.slice
  rw [ints_len] at e1 e4
  rw [bools_len] at e2
  rw [h.l] at e3
  subst e1 e2 e3 e4
  have hW : Below w.heap.size w (w.alloc (.cells #[.int .i64 s.limit, .slice AG s.gens.length cG, .slice AA s.alive.length cA, .slice AC s.caches.length cC, .slice AF s.free.length cF] 30)) := below_al (Below.refl _ _) _
  have HM : Aside0 (LrW w (w.alloc (.cells #[.int .i64 s.limit, .slice AG s.gens.length cG, .slice AA s.alive.length cA, .slice AC s.caches.length cC, .slice AF s.free.length cF] 30)) w.heap.size s (.slice AG s.gens.length cG) (.slice AA s.alive.length cA) (.slice AC s.caches.length cC) (.slice AF s.free.length cF) vs) := ⟨⟨hW, h, blk_new _ _⟩⟩
  have HBD := Aside0.mk hBd
  have hab : s.gens.length ≤ 140737488355328 := by have := hBd.g; omega
  have hcb : s.caches.length ≤ 140737488355328 := by have := hBd.c; omega
  clear h hW hBd
  obtain ⟨x0, x1, x2, x3, x4⟩ := cells5 HM.out.b
  go_enter Try.func18, Try.ntmps18
  go_wp2_with fail
  --MARK1
  generalize (w.alloc (.cells #[.int .i64 s.limit, .slice AG s.gens.length cG, .slice AA s.alive.length cA, .slice AC s.caches.length cC, .slice AF s.free.length cF] 30)) = W at *
  refine (new_ref s.limit s.caches.length W).mono ?_
  rintro e w1 ⟨hB1, ⟨hk, X, c, rfl, -⟩ | ⟨hk, rfl⟩⟩
  · have HK := Aside0.mk hk
    have hA : Below w1.heap.size w1 (w1.alloc (.cells #[.int .i64 s.limit, .slice none 0 0, .slice none 0 0, .slice X s.caches.length c, .slice none 0 0] 30)) := below_al (Below.refl _ _) _
    have HM1 := Aside0.mk (HM.out.then (below_then hB1 hA))
    obtain ⟨hl0, hl1, hp0, hp1⟩ := okNew_iff.1 hk
    clear hA hB1 hk HM x0 x1 x2 x3 x4
    obtain ⟨x0, x1, x2, x3, x4⟩ := cells5 HM1.out.b
    go_upto_region 4 with fail
    --MARK2
    generalize (w1.alloc (.cells #[.int .i64 s.limit, .slice none 0 0, .slice none 0 0, .slice X s.caches.length c, .slice none 0 0] 30)) = W1 at *
    by_cases hg : s.limit < (s.gens.length : Int)
    · go_wp2
      go_ret
      exact ⟨HM1.out.below, .inr (.inr ⟨HK.out, fun hw => by have := hw.g; omega, rfl⟩)⟩
    · by_cases ha : s.alive.length = s.gens.length
      · have hg' : (s.gens.length : Int) ≤ s.limit := by omega
        have HA := Aside0.mk ha
        rw [ha] at x2
        clear ha
        go_wp2_with fail
        --MARK3
        go_loopw [5] (fun i wr => ∃ k : Nat, k ≤ s.gens.length ∧ i = .int .i64 k ∧ Aside0 (∀ j, j < k → 1 ≤ genAt s j ∧ genAt s j ≤ 2147483647) ∧ Aside0 (wr = W1)) (fun i _ => s.gens.length - (intOf i).toNat)
        case atStart => exact ⟨0, by omega, rfl, ⟨fun j hj => by omega⟩, ⟨by trivial⟩⟩
        case round =>
          obtain ⟨k, hk, rfl, HG, HE⟩ := hrel
          obtain rfl := HE.out
          by_cases hlt : k < s.gens.length
          · obtain ⟨g, o, c1, he, hgl, -, hat⟩ := HM1.out.r.g.form (by rw [ints_len]; omega)
            injection he with he1 he2 he3
            subst he1
            obtain ⟨y, hy⟩ : ∃ y, s.gens[k]? = some y := ⟨_, List.getElem?_eq_getElem hlt⟩
            have hc1 := (hat k).1 _ (ints_get hy)
            have hgen : genAt s k = y := by rw [genAt, List.getD_eq_getElem?_getD, hy]; rfl
            have HGEN := Aside0.mk hgen
            clear hat hy he2 he3 HE hgen
            by_cases h1 : y < 1
            · go_wp2
              go_ret
              exact ⟨HM1.out.below, .inr (.inr ⟨HK.out, fun hw => by have := hw.gb k hlt (fun f => f); have := HGEN.out; omega, rfl⟩)⟩
            · by_cases h2 : 2147483647 < y
              · go_wp2
                go_ret
                exact ⟨HM1.out.below, .inr (.inr ⟨HK.out, fun hw => by have := (hw.gm k hlt).2; have := HGEN.out; omega, rfl⟩)⟩
              · have HG' : Aside0 (∀ j, j < k + 1 → 1 ≤ genAt s j ∧ genAt s j ≤ 2147483647) := ⟨fun j hj => by
                  by_cases e : j = k
                  · subst e; rw [HGEN.out]; omega
                  · exact HG.out j (by omega)⟩
                go_wp2
                go_roundw
                case rel => exact ⟨k + 1, by omega, by go_num, HG', ⟨by trivial⟩⟩
                case measure => simp [intOf]; omega
          · obtain rfl : k = s.gens.length := by omega
            clear HE
            have hmk := run_make_row' (P := Try.prog) 26 3 (.int .i64 0) 8 Try.underlying26 infoIn rfl .i64 .i64 s.gens.length (by omega) (by omega)
            have hA : Below wr.heap.size wr (wr.alloc (.cells (madeCells #[.int .i64 0] s.gens.length) 3)) := below_al (Below.refl _ _) _
            have hR := row_made wr s.gens.length (.int .i64 0) 3 rfl (by omega)
            have HS : Aside0 (LrE w w.heap.size wr.heap.size s (.slice AG s.gens.length cG) (.slice AA s.alive.length cA) (.slice AC s.caches.length cC) (.slice AF s.free.length cF) vs (preS s 0) (wr.alloc (.cells (madeCells #[.int .i64 0] s.gens.length) 3))) :=
              ⟨⟨_, HM1.out.then hA, by simpa [ints, List.map_replicate] using (hR.lower HM1.out.below.size).mono (fun _ _ _ => trivial), LdI.start s, HM1.out.below.size, by have := lt_blk HM1.out.b; omega⟩⟩
            clear hR hA
            go_wp2_with fail
            --MARK4
            generalize (wr.alloc (.cells (madeCells #[.int .i64 0] s.gens.length) 3)) = W2 at *
            obtain ⟨G, hGG⟩ : ∃ G, wr.heap.size = G := ⟨_, rfl⟩
            rw [hGG] at HS ⊢
            clear hGG hmk x0 x1 x2 x3 x4
            go_loopw [7] (fun i wr => ∃ p : Nat, p ≤ s.caches.length + 1 ∧ i = .int .i64 p ∧ Aside0 (∀ (i : Nat) (l : List Int), i < p → s.caches[i]? = some l → l.length < 64) ∧ Aside0 (LrE w w.heap.size G s (.slice AG s.gens.length cG) (.slice AA s.alive.length cA) (.slice AC s.caches.length cC) (.slice AF s.free.length cF) vs (preS s p) wr)) (fun i _ => s.caches.length + 1 - (intOf i).toNat)
            case atStart => exact ⟨0, by omega, rfl, ⟨fun i l hi => by omega⟩, HS⟩
            case round =>
              clear HS
              obtain ⟨p, hp, rfl, HC, HS⟩ := hrel
              obtain ⟨st, hS⟩ := HS.out
              obtain ⟨x0, x1, x2, x3, x4⟩ := cells5 hS.m.b
              have HS' := Aside0.mk hS
              clear hS
              by_cases hpl : p ≤ s.caches.length
              · go_upto_if 77 with fail
                --MARK5
                go_cut [8] (fun s8 wx => ∃ l, (listsS s)[p]? = some l ∧ (p < s.caches.length → l.length < 64) ∧ Aside0 (RdE w s8 l) ∧ wr = wx)
                case first =>
                  by_cases hpc : p < s.caches.length
                  · obtain ⟨l, hl⟩ : ∃ l, s.caches[p]? = some l := ⟨_, List.getElem?_eq_getElem hpc⟩
                    obtain ⟨v, hv, hrow⟩ := HS'.out.m.r0.v p l hl
                    obtain ⟨X1, c1, rfl, -⟩ := hrow.slice
                    obtain ⟨g, o, c2, he, hgl, -, hat⟩ := HS'.out.m.r.c.form (by have := HS'.out.m.r.l; omega)
                    injection he with he1 he2 he3
                    subst he1
                    have hc1 := (hat p).1 _ hv
                    rw [ints_len] at hc1
                    have hpi : (p : Int) < (s.caches.length : Int) := by omega
                    have HRD : Aside0 (RdE w (.slice X1 l.length c1) l) := ⟨⟨X1, c1, rfl, by rw [ints_len] at hrow; exact hrow⟩⟩
                    have hll : (listsS s)[p]? = some l := by rw [listsS, List.getElem?_append_left hpc]; exact hl
                    have HLL := Aside0.mk hll
                    have HL1 := Aside0.mk hl
                    have hlb : l.length ≤ 140737488355328 := by have := HBD.out.e l (List.mem_of_getElem? hl); omega
                    clear hat he2 he3 hl hv hrow hll
                    by_cases h64 : 64 ≤ l.length
                    · go_wp2
                      go_ret
                      exact ⟨HS'.out.m.below, .inr (.inr ⟨HK.out, fun hw => by have := hw.cl l (List.mem_of_getElem? HL1.out); omega, rfl⟩)⟩
                    · go_wp2
                      go_meet
                      exact ⟨l, HLL.out, fun _ => by omega, HRD, rfl⟩
                  · obtain rfl : p = s.caches.length := by omega
                    have HRD : Aside0 (RdE w (.slice AF s.free.length cF) s.free) := ⟨⟨AF, cF, rfl, HS'.out.m.r0.f⟩⟩
                    go_wp2
                    go_meet
                    exact ⟨s.free, by simp [listsS], fun hh => by omega, HRD, rfl⟩
                case rest =>
                  obtain ⟨l, hl, h64, HRD, rfl⟩ := hcut
                  obtain ⟨X1, c1, rfl, hrow1⟩ := HRD.out
                  have HR1 := Aside0.mk hrow1
                  have HL := Aside0.mk hl
                  have H64 := Aside0.mk h64
                  have hlb : l.length ≤ 140737488355328 := by
                    by_cases e : p < s.caches.length
                    · have := h64 e; omega
                    · obtain rfl : p = s.caches.length := by omega
                      obtain rfl : s.free = l := by simpa [listsS] using hl
                      have := HBD.out.f; omega
                  have HC' : Aside0 (∀ (i : Nat) (l : List Int), i < p + 1 → s.caches[i]? = some l → l.length < 64) := ⟨fun i l' hi hl' => by
                    by_cases e : i = p
                    · subst e
                      have hic : i < s.caches.length := (List.getElem?_eq_some_iff.1 hl').1
                      rw [listsS, List.getElem?_append_left hic, hl'] at hl
                      injection hl with hl
                      rw [hl]; exact h64 hic
                    · exact HC.out i l' (by omega) hl'⟩
                  have HS0 : Aside0 (LrE w w.heap.size G s (.slice AG s.gens.length cG) (.slice AA s.alive.length cA) (.slice AC s.caches.length cC) (.slice AF s.free.length cF) vs (preS s p ++ l.take 0) wr) := ⟨⟨st, by simpa using HS'.out⟩⟩
                  clear hrow1 hl h64 HRD HS' HS
                  go_wp2_with fail
                  --MARK6
                  go_loopw [9] (fun i wr => ∃ k : Nat, k ≤ l.length ∧ i = .int .i64 k ∧ Aside0 (LrE w w.heap.size G s (.slice AG s.gens.length cG) (.slice AA s.alive.length cA) (.slice AC s.caches.length cC) (.slice AF s.free.length cF) vs (preS s p ++ l.take k) wr)) (fun i _ => l.length - (intOf i).toNat)
                  case atStart => exact ⟨0, by omega, rfl, HS0⟩
                  case round =>
                    clear HS0 x0 x1 x2 x3 x4
                    obtain ⟨k, hk, rfl, HS⟩ := hrel
                    obtain ⟨st1, hS1⟩ := HS.out
                    have HS1 := Aside0.mk hS1
                    obtain ⟨x0, x1, x2, x3, x4⟩ := cells5 hS1.m.b
                    clear HS hS1
                    by_cases hlt : k < l.length
                    · obtain ⟨x, hx⟩ : ∃ x, l[k]? = some x := ⟨_, List.getElem?_eq_getElem hlt⟩
                      obtain ⟨gl, ol, cl, hel, hgll, -, hatl⟩ := (HR1.out.below HS1.out.m.below).form (by rw [ints_len]; omega)
                      injection hel with hel1 hel2 hel3
                      subst hel1
                      have hcx := (hatl k).1 _ (ints_get hx)
                      obtain ⟨rest, hrest⟩ := all_at HL.out hx
                      have HREST := Aside0.mk hrest
                      have HX := Aside0.mk hx
                      have hD : Below wr.heap.size wr wr.drew := (Below.refl _ _).drew
                      have hki : (0 : Int) ≤ (k : Int) := by omega
                      have hkl : (k : Int) < (l.length : Int) := by omega
                      clear hatl hel2 hel3 hx hrest
                      cases hfr : freeB s x with
                      | false =>
                        have HFR := Aside0.mk hfr
                        go_wp2_with fail
                        --MARK7
                        refine start_ (n := 17) (S := fun w' => w'.cell? ⟨w.heap.size, 0, none⟩ = some (.int .i64 s.limit) ∧ w'.cell? ⟨w.heap.size, 1, none⟩ = some (.slice AG s.gens.length cG) ∧ w'.cell? ⟨w.heap.size, 2, none⟩ = some (.slice AA s.alive.length cA) ∧ w'.cell? ⟨w.heap.size, 3, none⟩ = some (.slice AC s.caches.length cC) ∧ w'.cell? ⟨w.heap.size, 4, none⟩ = some (.slice AF s.free.length cF) ∧ w'.cell? ⟨gl, ol + k, none⟩ = some (.int .i64 x)) (ds := []) #[false, false, false, false, false, false, false, false, false, false, false, false, false, false, false, false, false] (by kernel_rfl) rfl rfl ⟨cell_blk (blk_below HS1.out.m.b hD) 0, cell_blk (blk_below HS1.out.m.b hD) 1, cell_blk (blk_below HS1.out.m.b hD) 2, cell_blk (blk_below HS1.out.m.b hD) 3, cell_blk (blk_below HS1.out.m.b hD) 4, pw_cell_below hD hcx⟩ (fun hHeld => ?_)
                        generalize wr.drew = x0 at *
                        refine pure_ (i := 1) (N := some 93) (v := ?_) (a' := ?_) #[false, true, false, false, false, false, false, false, false, false, false, false, false, false, false, false, false] rfl rfl (by kernel_rfl) (fun _ _ _ h => h) (Or.inl ⟨by rfl, ?_⟩) ?_ ?_
                        rotate_left
                        · intro w'
                          go_simp
                          with_reducible rfl
                        rotate_left
                        · simp only [Act.put, List.setIfInBounds_toArray, List.set_cons_zero, List.set_cons_succ, i64_w, i32_w]
                          rfl
                        refine pure_ (i := 2) (N := some 94) (v := ?_) (a' := ?_) #[false, true, true, false, false, false, false, false, false, false, false, false, false, false, false, false, false] rfl rfl (by kernel_rfl) (fun _ _ _ h => h) (Or.inl ⟨by rfl, ?_⟩) ?_ ?_
                        rotate_left
                        · intro w'
                          go_simp
                          with_reducible rfl
                        rotate_left
                        · simp only [Act.put, List.setIfInBounds_toArray, List.set_cons_zero, List.set_cons_succ, i64_w, i32_w]
                          rfl
                        refine pure_ (i := 3) (N := some 95) (v := ?_) (a' := ?_) #[false, true, true, true, false, false, false, false, false, false, false, false, false, false, false, false, false] rfl rfl (by kernel_rfl) (fun _ _ _ h => h) (Or.inl ⟨by rfl, ?_⟩) ?_ ?_
                        rotate_left
                        · intro w'
                          go_simp
                          with_reducible rfl
                        rotate_left
                        · simp only [Act.put, List.setIfInBounds_toArray, List.set_cons_zero, List.set_cons_succ, i64_w, i32_w]
                          rfl
                        refine take_ (i := 0) (N := some 92) (v := ?_) (a' := ?_) #[true, true, true, true, false, false, false, false, false, false, false, false, false, false, false, false, false] rfl rfl (by kernel_rfl) (fun _ _ _ h => h) (Or.inl ⟨by rfl, ?_⟩) hHeld ?_ ?_
                        rotate_left
                        · rintro w' ⟨s0, s1, s2, s3, s4, s5⟩
                          go_simp
                          with_reducible rfl
                        rotate_left
                        · simp only [Act.put, List.setIfInBounds_toArray, List.set_cons_zero, List.set_cons_succ, i64_w, i32_w]
                          rfl
                        refine take_ (i := 4) (N := some 96) (v := ?_) (a' := ?_) #[true, true, true, true, true, false, false, false, false, false, false, false, false, false, false, false, false] rfl rfl (by kernel_rfl) (fun _ _ _ h => h) (Or.inl ⟨by rfl, ?_⟩) hHeld ?_ ?_
                        rotate_left
                        · rintro w' ⟨s0, s1, s2, s3, s4, s5⟩
                          go_simp
                          with_reducible rfl
                        rotate_left
                        · simp only [Act.put, List.setIfInBounds_toArray, List.set_cons_zero, List.set_cons_succ, i64_w, i32_w]
                          rfl
                        refine one_ (i := 5) (N := some 97) #[true, true, true, true, true, true, false, false, false, false, false, false, false, false, false, false, false] rfl rfl (by kernel_rfl) (by decide) (fun K hK => ?_)
                        refine goes_ Try.func33 (by kernel_rfl) rfl #[.agg #[.int .i64 s.limit, .slice AG s.gens.length cG, .slice AA s.alive.length cA, .slice AC s.caches.length cC, .slice AF s.free.length cF], .int .i64 x] (by rfl) rfl rfl (by simp only [List.map_toArray, List.map_cons, List.map_nil]; rfl) ?_
                        with_reducible refine (free_rd (x) x0 (by have := HS1.out.m.r.below hD; exact this) HA.out).mono ?_
                        rintro e w5 ⟨rfl, hS5⟩
                        refine ⟨_, rfl, ?_⟩
                        rw [hfr]
                        have hb5 := blk_below (blk_below HS1.out.m.b hD) hS5
                        refine hK.out _ _ ⟨cell_blk hb5 0, cell_blk hb5 1, cell_blk hb5 2, cell_blk hb5 3, cell_blk hb5 4, pw_cell_below hS5 (pw_cell_below hD hcx)⟩ (fun hHeld => ?_)
                        clear hK K
                        refine norm_ (a' := ?_) ?_ ?_
                        rotate_left
                        · show Act.put _ (some 97) _ = _
                          simp only [Act.put, List.setIfInBounds_toArray, List.set_cons_zero, List.set_cons_succ, i64_w, i32_w]
                          rfl
                        refine pure_ (i := 6) (N := some 98) (v := ?_) (a' := ?_) #[true, true, true, true, true, true, true, false, false, false, false, false, false, false, false, false, false] rfl rfl (by kernel_rfl) (fun _ _ _ h => h) (Or.inl ⟨by rfl, ?_⟩) ?_ ?_
                        rotate_left
                        · intro w'
                          go_simp
                          with_reducible rfl
                        rotate_left
                        · simp only [Act.put, List.setIfInBounds_toArray, List.set_cons_zero, List.set_cons_succ, i64_w, i32_w]
                          rfl
                        refine pure_ (i := 7) (N := some 99) (v := ?_) (a' := ?_) #[true, true, true, true, true, true, true, true, false, false, false, false, false, false, false, false, false] rfl rfl (by kernel_rfl) (fun _ _ _ h => h) (Or.inl ⟨by rfl, ?_⟩) ?_ ?_
                        rotate_left
                        · intro w'
                          go_simp
                          with_reducible rfl
                        rotate_left
                        · simp only [Act.put, List.setIfInBounds_toArray, List.set_cons_zero, List.set_cons_succ, i64_w, i32_w]
                          rfl
                        refine pure_ (i := 8) (N := some 100) (v := undef) (a' := ?_) #[true, true, true, true, true, true, true, true, true, false, false, false, false, false, false, false, false] rfl rfl (by kernel_rfl) (fun _ _ _ h => h) (Or.inr ⟨by rfl, rfl⟩) ?_ ?_
                        rotate_left
                        · simp only [Act.put, List.setIfInBounds_toArray, List.set_cons_zero, List.set_cons_succ, i64_w, i32_w]
                          rfl
                        refine pure_ (i := 9) (N := some 101) (v := undef) (a' := ?_) #[true, true, true, true, true, true, true, true, true, true, false, false, false, false, false, false, false] rfl rfl (by kernel_rfl) (fun _ _ _ h => h) (Or.inr ⟨by rfl, rfl⟩) ?_ ?_
                        rotate_left
                        · simp only [Act.put, List.setIfInBounds_toArray, List.set_cons_zero, List.set_cons_succ, i64_w, i32_w]
                          rfl
                        refine pure_ (i := 10) (N := some 102) (v := undef) (a' := ?_) #[true, true, true, true, true, true, true, true, true, true, true, false, false, false, false, false, false] rfl rfl (by kernel_rfl) (fun _ _ _ h => h) (Or.inr ⟨by rfl, rfl⟩) ?_ ?_
                        rotate_left
                        · simp only [Act.put, List.setIfInBounds_toArray, List.set_cons_zero, List.set_cons_succ, i64_w, i32_w]
                          rfl
                        refine pure_ (i := 11) (N := some 103) (v := undef) (a' := ?_) #[true, true, true, true, true, true, true, true, true, true, true, true, false, false, false, false, false] rfl rfl (by kernel_rfl) (fun _ _ _ h => h) (Or.inr ⟨by rfl, rfl⟩) ?_ ?_
                        rotate_left
                        · simp only [Act.put, List.setIfInBounds_toArray, List.set_cons_zero, List.set_cons_succ, i64_w, i32_w]
                          rfl
                        refine pure_ (i := 12) (N := some 104) (v := undef) (a' := ?_) #[true, true, true, true, true, true, true, true, true, true, true, true, true, false, false, false, false] rfl rfl (by kernel_rfl) (fun _ _ _ h => h) (Or.inr ⟨by rfl, rfl⟩) ?_ ?_
                        rotate_left
                        · simp only [Act.put, List.setIfInBounds_toArray, List.set_cons_zero, List.set_cons_succ, i64_w, i32_w]
                          rfl
                        refine pure_ (i := 13) (N := some 105) (v := undef) (a' := ?_) #[true, true, true, true, true, true, true, true, true, true, true, true, true, true, false, false, false] rfl rfl (by kernel_rfl) (fun _ _ _ h => h) (Or.inr ⟨by rfl, rfl⟩) ?_ ?_
                        rotate_left
                        · simp only [Act.put, List.setIfInBounds_toArray, List.set_cons_zero, List.set_cons_succ, i64_w, i32_w]
                          rfl
                        refine pure_ (i := 14) (N := some 106) (v := undef) (a' := ?_) #[true, true, true, true, true, true, true, true, true, true, true, true, true, true, true, false, false] rfl rfl (by kernel_rfl) (fun _ _ _ h => h) (Or.inr ⟨by rfl, rfl⟩) ?_ ?_
                        rotate_left
                        · simp only [Act.put, List.setIfInBounds_toArray, List.set_cons_zero, List.set_cons_succ, i64_w, i32_w]
                          rfl
                        refine pure_ (i := 15) (N := some 107) (v := undef) (a' := ?_) #[true, true, true, true, true, true, true, true, true, true, true, true, true, true, true, true, false] rfl rfl (by kernel_rfl) (fun _ _ _ h => h) (Or.inr ⟨by rfl, rfl⟩) ?_ ?_
                        rotate_left
                        · simp only [Act.put, List.setIfInBounds_toArray, List.set_cons_zero, List.set_cons_succ, i64_w, i32_w]
                          rfl
                        refine pure_ (i := 16) (N := some 108) (v := ?_) (a' := ?_) #[true, true, true, true, true, true, true, true, true, true, true, true, true, true, true, true, true] rfl rfl (by kernel_rfl) (fun _ _ _ h => h) (Or.inl ⟨by rfl, ?_⟩) ?_ ?_
                        rotate_left
                        · intro w'
                          go_simp
                          with_reducible rfl
                        rotate_left
                        · simp only [Act.put, List.setIfInBounds_toArray, List.set_cons_zero, List.set_cons_succ, i64_w, i32_w]
                          rfl
                        refine done_ (by kernel_rfl) ?_
                        go_wp2
                        go_ret
                        have hnw : ¬ Wf s := fun hw => by
                          have := freeB_iff.2 (hw.fr x (by rw [HREST.out]; simp)).1
                          rw [HFR.out] at this
                          cases this
                        exact ⟨((HS1.out.then hD).then hS5).m.below, .inr (.inr ⟨HK.out, hnw, rfl⟩)⟩
                      | true =>
                        obtain ⟨hx0, hxn, -, -⟩ := freeB_iff.1 hfr
                        obtain ⟨m, rfl⟩ := Int.eq_ofNat_of_zero_le hx0
                        have hmn : m < s.gens.length := by omega
                        have HFR := Aside0.mk hfr
                        obtain ⟨y, hy⟩ : ∃ y, st1[m]? = some y := ⟨_, List.getElem?_eq_getElem (by rw [HS1.out.i.len]; exact hmn)⟩
                        have HY := Aside0.mk hy
                        obtain ⟨gs, os, cs, hes, hgs, -, hats⟩ := HS1.out.row.form (by rw [ints_len, HS1.out.i.len]; omega)
                        injection hes with hes1 hes2 hes3
                        injection hes1 with hes1
                        injection hes1 with hes4 hes5
                        subst hes4 hes5
                        have hcy := (hats m).1 _ (ints_get hy)
                        rw [Nat.zero_add] at hcy
                        have hm0 : (0 : Int) ≤ (m : Int) := by omega
                        clear hats hes2 hes3 hy hx0
                        go_wp2_with fail
                        refine start_ (n := 17) (S := fun w' => w'.cell? ⟨w.heap.size, 0, none⟩ = some (.int .i64 s.limit) ∧ w'.cell? ⟨w.heap.size, 1, none⟩ = some (.slice AG s.gens.length cG) ∧ w'.cell? ⟨w.heap.size, 2, none⟩ = some (.slice AA s.alive.length cA) ∧ w'.cell? ⟨w.heap.size, 3, none⟩ = some (.slice AC s.caches.length cC) ∧ w'.cell? ⟨w.heap.size, 4, none⟩ = some (.slice AF s.free.length cF) ∧ w'.cell? ⟨gl, ol + k, none⟩ = some (.int .i64 m) ∧ w'.cell? ⟨G, m, none⟩ = some (.int .i64 y)) (ds := []) #[false, false, false, false, false, false, false, false, false, false, false, false, false, false, false, false, false] (by kernel_rfl) rfl rfl ⟨cell_blk (blk_below HS1.out.m.b hD) 0, cell_blk (blk_below HS1.out.m.b hD) 1, cell_blk (blk_below HS1.out.m.b hD) 2, cell_blk (blk_below HS1.out.m.b hD) 3, cell_blk (blk_below HS1.out.m.b hD) 4, pw_cell_below hD hcx, pw_cell_below hD hcy⟩ (fun hHeld => ?_)
                        generalize wr.drew = x0 at *
                        refine pure_ (i := 1) (N := some 93) (v := ?_) (a' := ?_) #[false, true, false, false, false, false, false, false, false, false, false, false, false, false, false, false, false] rfl rfl (by kernel_rfl) (fun _ _ _ h => h) (Or.inl ⟨by rfl, ?_⟩) ?_ ?_
                        rotate_left
                        · intro w'
                          go_simp
                          with_reducible rfl
                        rotate_left
                        · simp only [Act.put, List.setIfInBounds_toArray, List.set_cons_zero, List.set_cons_succ, i64_w, i32_w]
                          rfl
                        refine pure_ (i := 2) (N := some 94) (v := ?_) (a' := ?_) #[false, true, true, false, false, false, false, false, false, false, false, false, false, false, false, false, false] rfl rfl (by kernel_rfl) (fun _ _ _ h => h) (Or.inl ⟨by rfl, ?_⟩) ?_ ?_
                        rotate_left
                        · intro w'
                          go_simp
                          with_reducible rfl
                        rotate_left
                        · simp only [Act.put, List.setIfInBounds_toArray, List.set_cons_zero, List.set_cons_succ, i64_w, i32_w]
                          rfl
                        refine pure_ (i := 3) (N := some 95) (v := ?_) (a' := ?_) #[false, true, true, true, false, false, false, false, false, false, false, false, false, false, false, false, false] rfl rfl (by kernel_rfl) (fun _ _ _ h => h) (Or.inl ⟨by rfl, ?_⟩) ?_ ?_
                        rotate_left
                        · intro w'
                          go_simp
                          with_reducible rfl
                        rotate_left
                        · simp only [Act.put, List.setIfInBounds_toArray, List.set_cons_zero, List.set_cons_succ, i64_w, i32_w]
                          rfl
                        refine take_ (i := 0) (N := some 92) (v := ?_) (a' := ?_) #[true, true, true, true, false, false, false, false, false, false, false, false, false, false, false, false, false] rfl rfl (by kernel_rfl) (fun _ _ _ h => h) (Or.inl ⟨by rfl, ?_⟩) hHeld ?_ ?_
                        rotate_left
                        · rintro w' ⟨s0, s1, s2, s3, s4, s5, s6⟩
                          go_simp
                          with_reducible rfl
                        rotate_left
                        · simp only [Act.put, List.setIfInBounds_toArray, List.set_cons_zero, List.set_cons_succ, i64_w, i32_w]
                          rfl
                        refine take_ (i := 4) (N := some 96) (v := ?_) (a' := ?_) #[true, true, true, true, true, false, false, false, false, false, false, false, false, false, false, false, false] rfl rfl (by kernel_rfl) (fun _ _ _ h => h) (Or.inl ⟨by rfl, ?_⟩) hHeld ?_ ?_
                        rotate_left
                        · rintro w' ⟨s0, s1, s2, s3, s4, s5, s6⟩
                          go_simp
                          with_reducible rfl
                        rotate_left
                        · simp only [Act.put, List.setIfInBounds_toArray, List.set_cons_zero, List.set_cons_succ, i64_w, i32_w]
                          rfl
                        refine one_ (i := 5) (N := some 97) #[true, true, true, true, true, true, false, false, false, false, false, false, false, false, false, false, false] rfl rfl (by kernel_rfl) (by decide) (fun K hK => ?_)
                        refine goes_ Try.func33 (by kernel_rfl) rfl #[.agg #[.int .i64 s.limit, .slice AG s.gens.length cG, .slice AA s.alive.length cA, .slice AC s.caches.length cC, .slice AF s.free.length cF], .int .i64 m] (by rfl) rfl rfl (by simp only [List.map_toArray, List.map_cons, List.map_nil]; rfl) ?_
                        with_reducible refine (free_rd (m : Int) x0 (by have := HS1.out.m.r.below hD; exact this) HA.out).mono ?_
                        rintro e w5 ⟨rfl, hS5⟩
                        refine ⟨_, rfl, ?_⟩
                        rw [hfr]
                        have hb5 := blk_below (blk_below HS1.out.m.b hD) hS5
                        refine hK.out _ _ ⟨cell_blk hb5 0, cell_blk hb5 1, cell_blk hb5 2, cell_blk hb5 3, cell_blk hb5 4, pw_cell_below hS5 (pw_cell_below hD hcx), pw_cell_below hS5 (pw_cell_below hD hcy)⟩ (fun hHeld => ?_)
                        clear hK K
                        refine norm_ (a' := ?_) ?_ ?_
                        rotate_left
                        · show Act.put _ (some 97) _ = _
                          simp only [Act.put, List.setIfInBounds_toArray, List.set_cons_zero, List.set_cons_succ, i64_w, i32_w]
                          rfl
                        refine pure_ (i := 6) (N := some 98) (v := ?_) (a' := ?_) #[true, true, true, true, true, true, true, false, false, false, false, false, false, false, false, false, false] rfl rfl (by kernel_rfl) (fun _ _ _ h => h) (Or.inl ⟨by rfl, ?_⟩) ?_ ?_
                        rotate_left
                        · intro w'
                          go_simp
                          with_reducible rfl
                        rotate_left
                        · simp only [Act.put, List.setIfInBounds_toArray, List.set_cons_zero, List.set_cons_succ, i64_w, i32_w]
                          rfl
                        refine pure_ (i := 7) (N := some 99) (v := ?_) (a' := ?_) #[true, true, true, true, true, true, true, true, false, false, false, false, false, false, false, false, false] rfl rfl (by kernel_rfl) (fun _ _ _ h => h) (Or.inl ⟨by rfl, ?_⟩) ?_ ?_
                        rotate_left
                        · intro w'
                          go_simp
                          with_reducible rfl
                        rotate_left
                        · simp only [Act.put, List.setIfInBounds_toArray, List.set_cons_zero, List.set_cons_succ, i64_w, i32_w]
                          rfl
                        refine pure_ (i := 8) (N := some 100) (v := ?_) (a' := ?_) #[true, true, true, true, true, true, true, true, true, false, false, false, false, false, false, false, false] rfl rfl (by kernel_rfl) (fun _ _ _ h => h) (Or.inl ⟨by rfl, ?_⟩) ?_ ?_
                        rotate_left
                        · intro w'
                          go_simp
                          with_reducible rfl
                        rotate_left
                        · simp only [Act.put, List.setIfInBounds_toArray, List.set_cons_zero, List.set_cons_succ, i64_w, i32_w]
                          rfl
                        refine pure_ (i := 9) (N := some 101) (v := ?_) (a' := ?_) #[true, true, true, true, true, true, true, true, true, true, false, false, false, false, false, false, false] rfl rfl (by kernel_rfl) (fun _ _ _ h => h) (Or.inl ⟨by rfl, ?_⟩) ?_ ?_
                        rotate_left
                        · intro w'
                          go_simp
                          with_reducible rfl
                        rotate_left
                        · simp only [Act.put, List.setIfInBounds_toArray, List.set_cons_zero, List.set_cons_succ, i64_w, i32_w]
                          rfl
                        refine pure_ (i := 10) (N := some 102) (v := ?_) (a' := ?_) #[true, true, true, true, true, true, true, true, true, true, true, false, false, false, false, false, false] rfl rfl (by kernel_rfl) (fun _ _ _ h => h) (Or.inl ⟨by rfl, ?_⟩) ?_ ?_
                        rotate_left
                        · intro w'
                          go_simp
                          with_reducible rfl
                        rotate_left
                        · simp only [Act.put, List.setIfInBounds_toArray, List.set_cons_zero, List.set_cons_succ, i64_w, i32_w]
                          rfl
                        refine pure_ (i := 11) (N := some 103) (v := ?_) (a' := ?_) #[true, true, true, true, true, true, true, true, true, true, true, true, false, false, false, false, false] rfl rfl (by kernel_rfl) (fun _ _ _ h => h) (Or.inl ⟨by rfl, ?_⟩) ?_ ?_
                        rotate_left
                        · intro w'
                          go_simp
                          with_reducible rfl
                        rotate_left
                        · simp only [Act.put, List.setIfInBounds_toArray, List.set_cons_zero, List.set_cons_succ, i64_w, i32_w]
                          rfl
                        refine take_ (i := 12) (N := some 104) (v := ?_) (a' := ?_) #[true, true, true, true, true, true, true, true, true, true, true, true, true, false, false, false, false] rfl rfl (by kernel_rfl) (fun _ _ _ h => h) (Or.inl ⟨by rfl, ?_⟩) hHeld ?_ ?_
                        rotate_left
                        · rintro w' ⟨s0, s1, s2, s3, s4, s5, s6⟩
                          go_simp
                          with_reducible rfl
                        rotate_left
                        · simp only [Act.put, List.setIfInBounds_toArray, List.set_cons_zero, List.set_cons_succ, i64_w, i32_w]
                          rfl
                        refine pure_ (i := 13) (N := some 105) (v := ?_) (a' := ?_) #[true, true, true, true, true, true, true, true, true, true, true, true, true, true, false, false, false] rfl rfl (by kernel_rfl) (fun _ _ _ h => h) (Or.inl ⟨by rfl, ?_⟩) ?_ ?_
                        rotate_left
                        · intro w'
                          go_simp
                          with_reducible rfl
                        rotate_left
                        · simp only [Act.put, List.setIfInBounds_toArray, List.set_cons_zero, List.set_cons_succ, i64_w, i32_w]
                          rfl
                        refine take_ (i := 14) (N := some 106) (v := ?_) (a' := ?_) #[true, true, true, true, true, true, true, true, true, true, true, true, true, true, true, false, false] rfl rfl (by kernel_rfl) (fun _ _ _ h => h) (Or.inl ⟨by rfl, ?_⟩) hHeld ?_ ?_
                        rotate_left
                        · rintro w' ⟨s0, s1, s2, s3, s4, s5, s6⟩
                          go_simp
                          with_reducible rfl
                        rotate_left
                        · simp only [Act.put, List.setIfInBounds_toArray, List.set_cons_zero, List.set_cons_succ, i64_w, i32_w]
                          rfl
                        refine pure_ (i := 15) (N := some 107) (v := ?_) (a' := ?_) #[true, true, true, true, true, true, true, true, true, true, true, true, true, true, true, true, false] rfl rfl (by kernel_rfl) (fun _ _ _ h => h) (Or.inl ⟨by rfl, ?_⟩) ?_ ?_
                        rotate_left
                        · intro w'
                          go_simp
                          with_reducible rfl
                        rotate_left
                        · simp only [Act.put, List.setIfInBounds_toArray, List.set_cons_zero, List.set_cons_succ, i64_w, i32_w]
                          rfl
                        refine pure_ (i := 16) (N := some 108) (v := ?_) (a' := ?_) #[true, true, true, true, true, true, true, true, true, true, true, true, true, true, true, true, true] rfl rfl (by kernel_rfl) (fun _ _ _ h => h) (Or.inl ⟨by rfl, ?_⟩) ?_ ?_
                        rotate_left
                        · intro w'
                          go_simp
                          with_reducible rfl
                        rotate_left
                        · simp only [Act.put, List.setIfInBounds_toArray, List.set_cons_zero, List.set_cons_succ, i64_w, i32_w]
                          rfl
                        refine done_ (by kernel_rfl) ?_
                        have HS5 := Aside0.mk ((HS1.out.then hD).then hS5)
                        have HR5 := Aside0.mk (HR1.out.below HS5.out.m.below)
                        by_cases hy0 : 0 < y
                        · go_wp2
                          go_ret
                          exact ⟨HS5.out.m.below, .inr (.inr ⟨HK.out, fun hw => dup hw HREST.out HS5.out.i HY.out hy0, rfl⟩)⟩
                        · have hD5 := hD.size
                          obtain ⟨gl', ol', cl', hel, -, -, hatl⟩ := HR5.out.form (by rw [ints_len]; omega)
                          obtain ⟨gs', os', cs', hes, hgs, -, hats⟩ := HS5.out.row.form (by rw [ints_len, HS5.out.i.len]; omega)
                          injection hel with hel1 hel2 hel3
                          injection hel1 with hel1
                          injection hel1 with hel4 hel5
                          injection hes with hes1 hes2 hes3
                          injection hes1 with hes1
                          injection hes1 with hes4 hes5
                          subst hel4 hel5 hes4 hes5
                          have d0 := (hatl k).1 _ (ints_get HX.out)
                          have d1 := (hats m).1 _ (ints_get HY.out)
                          have d2 := (hats m).2
                          rw [Nat.zero_add] at d1 d2
                          have hyd : st1.getD m 0 = y := by rw [List.getD_eq_getElem?_getD, HY.out]; rfl
                          have hyn : 0 ≤ y := by rw [← hyd, HS5.out.i.cnt m hmn]; omega
                          obtain rfl : y = 0 := by omega
                          have hset := HS5.out.set (freeB_iff.1 HFR.out) (by rw [hyd]; omega)
                          rw [hyd, Nat.zero_add, List.append_assoc] at hset
                          have htk : l.take k ++ [(m : Int)] = l.take (k + 1) := by
                            rw [List.take_succ_eq_append_getElem hlt]
                            congr 2
                            exact ((List.getElem?_eq_some_iff.1 HX.out).2).symm
                          rw [htk] at hset
                          have HSET := Aside0.mk hset
                          clear hatl hats hel2 hel3 hes2 hes3 hset hyd htk
                          go_wp2
                          go_roundw
                          case rel => exact ⟨k + 1, by omega, by go_num, ⟨⟨_, HSET.out⟩⟩⟩
                          case measure => simp [intOf]; omega
                    · obtain rfl : k = l.length := by omega
                      have HS2 : Aside0 (LrE w w.heap.size G s (.slice AG s.gens.length cG) (.slice AA s.alive.length cA) (.slice AC s.caches.length cC) (.slice AF s.free.length cF) vs (preS s (p + 1)) wr) := ⟨⟨st1, by rw [preS_step HL.out]; have := HS1.out; rw [List.take_length] at this; exact this⟩⟩
                      clear HS1
                      go_wp2
                      go_roundw
                      case rel => exact ⟨p + 1, by omega, by go_num, HC', HS2⟩
                      case measure => simp [intOf]; omega
              · obtain rfl : p = s.caches.length + 1 := by omega
                have hnp : ¬ ((s.caches.length : Int) + 1 ≤ (s.caches.length : Int)) := by omega
                go_wp2_with fail
                have hS9 := HS'.out
                rw [preS_all] at hS9
                have HS9 := Aside0.mk hS9
                clear HS' HS hS9 x0 x1 x2 x3 x4
                go_loopw [10] (fun i wr => ∃ k : Nat, k ≤ s.gens.length ∧ i = .int .i64 k ∧ Aside0 (∀ j : Nat, j < k → freeB s j = true → st.getD j 0 ≠ 0) ∧ Aside0 (LrS w wr w.heap.size G s (.slice AG s.gens.length cG) (.slice AA s.alive.length cA) (.slice AC s.caches.length cC) (.slice AF s.free.length cF) vs (allS s) st)) (fun i _ => s.gens.length - (intOf i).toNat)
                case atStart => exact ⟨0, by omega, rfl, ⟨fun j hj => by omega⟩, HS9⟩
                case round =>
                  clear HS9
                  obtain ⟨k, hk, rfl, HF, HS9⟩ := hrel
                  obtain ⟨x0, x1, x2, x3, x4⟩ := cells5 HS9.out.m.b
                  by_cases hlt : k < s.gens.length
                  · have hFr := free_rd (L := s.limit) (k : Int) wr HS9.out.m.r HA.out
                    have hkl : (k : Int) < (s.gens.length : Int) := by omega
                    have hki : (0 : Int) ≤ (k : Int) := by omega
                    go_wp2_with fail
                    --MARK9
                    refine hFr.mono ?_
                    clear hFr x0 x1 x2 x3 x4
                    rintro e w5 ⟨rfl, hS5⟩
                    have HS5 := Aside0.mk (HS9.out.then hS5)
                    clear hS5 HS9
                    cases hfr : freeB s k with
                    | false =>
                      have HF' : Aside0 (∀ j : Nat, j < k + 1 → freeB s j = true → st.getD j 0 ≠ 0) := ⟨fun j hj hf => by
                        by_cases e : j = k
                        · subst e; rw [hfr] at hf; cases hf
                        · exact HF.out j (by omega) hf⟩
                      clear hfr
                      go_wp2
                      go_roundw
                      case rel => exact ⟨k + 1, by omega, by go_num, HF', HS5⟩
                      case measure => simp [intOf]; omega
                    | true =>
                      have HFR := Aside0.mk hfr
                      obtain ⟨y, hy⟩ : ∃ y, st[k]? = some y := ⟨_, List.getElem?_eq_getElem (by rw [HS5.out.i.len]; exact hlt)⟩
                      have hyd : st.getD k 0 = y := by rw [List.getD_eq_getElem?_getD, hy]; rfl
                      obtain ⟨gs, os, cs, hes, hgs, -, hats⟩ := HS5.out.row.form (by rw [ints_len, HS5.out.i.len]; omega)
                      injection hes with hes1 hes2 hes3
                      injection hes1 with hes1
                      injection hes1 with hes4 hes5
                      subst hes4 hes5
                      have hcy := (hats k).1 _ (ints_get hy)
                      rw [Nat.zero_add] at hcy
                      have HYD := Aside0.mk hyd
                      clear hats hes2 hes3 hy hfr hyd
                      by_cases hy0 : y = 0
                      · subst hy0
                        go_wp2
                        go_ret
                        exact ⟨HS5.out.m.below, .inr (.inr ⟨HK.out, fun hw => wf_last hw HS5.out.i hlt HFR.out HYD.out, rfl⟩)⟩
                      · have HF' : Aside0 (∀ j : Nat, j < k + 1 → freeB s j = true → st.getD j 0 ≠ 0) := ⟨fun j hj hf => by
                          by_cases e : j = k
                          · subst e; rw [HYD.out]; exact hy0
                          · exact HF.out j (by omega) hf⟩
                        go_wp2
                        go_roundw
                        case rel => exact ⟨k + 1, by omega, by go_num, HF', HS5⟩
                        case measure => simp [intOf]; omega
                  · obtain rfl : k = s.gens.length := by omega
                    go_wp2
                    go_ret
                    exact ⟨HS9.out.m.below, .inr (.inl ⟨HK.out, wf_of HK.out hg' HA.out HG.out (fun i l hl => HC.out i l (by have := (List.getElem?_eq_some_iff.1 hl).1; omega) hl) HS9.out.i HF.out, rfl⟩)⟩
      · go_wp2
        go_ret
        exact ⟨HM1.out.below, .inr (.inr ⟨HK.out, fun hw => ha hw.a, rfl⟩)⟩
  · have HK := Aside0.mk hk
    have HM1 := Aside0.mk (HM.out.then hB1)
    clear hk hB1 HM x0 x1 x2 x3 x4
    go_wp2
    go_ret
    exact ⟨below_then HM1.out.below (below_al (Below.refl _ _) _), .inl ⟨HK.out, rfl⟩⟩
end Go.Proofs.Ytnglgjegkjfnaaa
set_option linter.unusedSimpArgs false
set_option linter.unusedVariables false
namespace Go.Proofs.Ytnglgjegkjfnaaa
open Go.RowKit Go.ChangeShapes Go.WideShapes Go.ChangeAt Go.Proofs.YtnglgjegkjfnaaaW.PrintWords Go.Proofs.YtnglgjegkjfnaaaW.PrintMore Go.Proofs.YtnglgjegkjfnaaaW.PrintLast
/-! A slab's state as data that is handed in. -/
def kSl : Kd Sl := Kd.iso (Kd.pair (Kd.int .i64) (Kd.pair (Kd.slice 3 (Kd.int .i64)) (Kd.pair (Kd.slice 4 Kd.bool) (Kd.pair (Kd.slice 26 (Kd.slice 3 (Kd.int .i64))) (Kd.slice 3 (Kd.int .i64)))))) (fun s : Sl => (s.limit, s.gens, s.alive, s.caches, s.free))
theorem rdf_ints {w : World} {A : Option Addr} {c : Nat} {xs : List Int} (h : (Kd.int .i64).C w A xs.length xs) (hc : xs.length ≤ c) : Rdf w (.slice A (ints xs).length c) (ints xs) := by
  refine ⟨⟨A, c, rfl, by rw [ints_len]; exact hc⟩, by rw [ints_len]; exact h.2.1, fun h0 => ?_, ints_one⟩
  rw [ints_len] at h0
  obtain ⟨ab, off, rfl, hab⟩ := C_form h h0 (by decide)
  refine ⟨ab, off, c, rfl, hab, fun j u hj => ?_⟩
  obtain ⟨p, hp, rfl⟩ : ∃ p, xs[j]? = some p ∧ Value.int .i64 p = u := by simpa [ints] using hj
  obtain ⟨ad, e, hat⟩ := h.2.2 h0
  injection e with e
  subst e
  obtain ⟨cs, -, hK, hcell⟩ := hat j p hp
  have hK' : cs = [.int .i64 p] := hK
  subst hK'
  have h0 := hcell 0 _ rfl
  rw [adds] at h0
  have h1 : w.cell? ⟨ab, off + (j * 1 + 0), none⟩ = some (.int .i64 p) := h0
  rw [Nat.mul_one] at h1
  exact h1
theorem rdf_bools {w : World} {A : Option Addr} {c : Nat} {xs : List Bool} (h : Kd.bool.C w A xs.length xs) (hc : xs.length ≤ c) : Rdf w (.slice A (bools xs).length c) (bools xs) := by
  refine ⟨⟨A, c, rfl, by rw [bools_len]; exact hc⟩, by rw [bools_len]; exact h.2.1, fun h0 => ?_, bools_one⟩
  rw [bools_len] at h0
  obtain ⟨ab, off, rfl, hab⟩ := C_form h h0 (by decide)
  refine ⟨ab, off, c, rfl, hab, fun j u hj => ?_⟩
  obtain ⟨p, hp, rfl⟩ : ∃ p, xs[j]? = some p ∧ Value.bool p = u := by simpa [bools] using hj
  obtain ⟨ad, e, hat⟩ := h.2.2 h0
  injection e with e
  subst e
  obtain ⟨cs, -, hK, hcell⟩ := hat j p hp
  have hK' : cs = [.bool p] := hK
  subst hK'
  have h0 := hcell 0 _ rfl
  rw [adds] at h0
  have h1 : w.cell? ⟨ab, off + (j * 1 + 0), none⟩ = some (.bool p) := h0
  rw [Nat.mul_one] at h1
  exact h1
theorem rdf_lists {w : World} {A : Option Addr} {c : Nat} {xs : List (List Int)} (h : (Kd.slice 3 (Kd.int .i64)).C w A xs.length xs) (hc : xs.length ≤ c) : ∃ vs, vs.length = xs.length ∧ Rdf w (.slice A vs.length c) vs ∧ ∀ (i : Nat) (x : List Int), xs[i]? = some x → ∃ v, vs[i]? = some v ∧ Rdf w v (ints x) := by
  have hex : ∀ i, i < xs.length → ∃ v : Value, ∃ x A' c', xs[i]? = some x ∧ v = .slice A' (ints x).length c' ∧ Rdf w v (ints x) ∧ ∀ ad, A = some ad → w.cell? (ad.add i) = some v := fun i hi => by
    obtain ⟨ad, rfl, hat⟩ := h.2.2 (by omega)
    obtain ⟨cs, -, hK, hcell⟩ := hat i _ (List.getElem?_eq_getElem hi)
    obtain ⟨A', c', rfl, hc', hC'⟩ := hK
    refine ⟨_, _, A', c', List.getElem?_eq_getElem hi, rfl, rdf_ints hC' hc', fun ad' e => ?_⟩
    injection e with e
    subst e
    have := hcell 0 _ rfl
    rw [ints_len]
    simpa [Kd.slice] using this
  obtain ⟨vs, hvl, hvs⟩ := Op.choose_list (p := fun i v => ∃ x A' c', xs[i]? = some x ∧ v = .slice A' (ints x).length c' ∧ Rdf w v (ints x) ∧ ∀ ad, A = some ad → w.cell? (ad.add i) = some v) xs.length hex
  refine ⟨vs, hvl, ⟨⟨A, c, rfl, by omega⟩, by rw [hvl]; exact h.2.1, fun h0 => ?_, fun u hu => ?_⟩, fun i x hx => ?_⟩
  · obtain ⟨ab, off, rfl, hab⟩ := C_form h (by omega) (by decide)
    refine ⟨ab, off, c, rfl, hab, fun j u hj => ?_⟩
    obtain ⟨x, A', c', -, -, -, hat⟩ := hvs j u hj
    have := hat _ rfl
    rw [adds] at this
    exact this
  · obtain ⟨i, hi⟩ := List.getElem?_of_mem hu
    obtain ⟨x, A', c', -, rfl, -, -⟩ := hvs i u hi
    rfl
  · have hi := (List.getElem?_eq_some_iff.1 hx).1
    obtain ⟨v, hv⟩ : ∃ v, vs[i]? = some v := ⟨_, List.getElem?_eq_getElem (by omega)⟩
    obtain ⟨x', A', c', hx', -, hr, -⟩ := hvs i v hv
    rw [hx] at hx'
    injection hx' with hx'
    subst hx'
    exact ⟨v, hv, hr⟩
theorem kSl_open {w : World} {s : Sl} {cs : List Value} (h : kSl.K w s cs) : ∃ vG vA vC vF vs, cs = [.int .i64 s.limit, vG, vA, vC, vF] ∧ SlR w s vG vA vC vF vs := by
  obtain ⟨_, _, rfl, rfl, _, _, rfl, ⟨AG, cG, rfl, hcG, hG⟩, _, _, rfl, ⟨AA, cA, rfl, hcA, hA⟩, _, _, rfl, ⟨AC, cC, rfl, hcC, hC⟩, AF, cF, rfl, hcF, hF⟩ := h
  obtain ⟨vs, hvl, hvr, hv⟩ := rdf_lists hC hcC
  refine ⟨_, _, _, _, vs, rfl, ?_⟩
  have h1 := rdf_ints hG hcG
  have h2 := rdf_bools hA hcA
  have h3 := rdf_ints hF hcF
  rw [ints_len] at h1 h3
  rw [bools_len] at h2
  rw [hvl] at hvr
  exact ⟨h1, h2, hvr, h3, hvl, hv⟩
theorem opensSl : Op.Opens Try.prog kSl 30 Bd (fun _ => 1) :=
  Op.opens_mono (Op.opens_struct Try.underlying30 (by kernel_rfl) (Op.opens_isoF (Op.opensF_cons rfl (by kernel_rfl) (by decide) (Op.opens_int Try.underlying3) (Op.opensF_cons rfl (by kernel_rfl) (by decide) (Op.opens_slice Try.underlying26 (by kernel_rfl) (Op.opens_int Try.underlying3))
    (Op.opensF_cons rfl (by kernel_rfl) (by decide) (Op.opens_slice Try.underlying27 (by kernel_rfl) (Op.opens_bool Try.underlying4)) (Op.opensF_cons rfl (by kernel_rfl) (by decide) (Op.opens_slice Try.underlying28 (by kernel_rfl) (Op.opens_slice Try.underlying26 (by kernel_rfl) (Op.opens_int Try.underlying3)))
      (Op.opensF_last rfl (by kernel_rfl) (Op.opens_slice Try.underlying26 (by kernel_rfl) (Op.opens_int Try.underlying3)))))))
      (fun s : Sl => (s.limit, s.gens, s.alive, s.caches, s.free)) (fun x => ⟨x.1, x.2.1, x.2.2.1, x.2.2.2.1, x.2.2.2.2⟩) (fun _ => rfl)))
    (fun s h => by
      have b1 : Try.prog.bytesOf 3 = 8 := by kernel_rfl
      have b2 : Try.prog.bytesOf 4 = 1 := by kernel_rfl
      have b3 : Try.prog.bytesOf 26 = 24 := by kernel_rfl
      obtain ⟨-, hg, ha, hc, hf⟩ := h
      rw [b1] at hg hf
      rw [b2] at ha
      rw [b3] at hc
      unfold reachBytes at hg ha hc hf
      exact ⟨Nat.le_trans hg.1 (by decide), Nat.le_trans ha.1 (by decide), Nat.le_trans hf.1 (by decide), Nat.le_trans hc.1 (by decide), fun x hx => by
        have := (hc.2.2 x hx).1
        rw [b1] at this
        exact Nat.le_trans this (by decide)⟩) (fun _ => by simp)
theorem opensSOps : Op.Opens Try.prog (Kd.slice 55 kSOp) 35 (fun xs => xs.length * Try.prog.bytesOf 55 ≤ reachBytes ∧ xs.length ≤ 9223372036854775807 ∧ ∀ x ∈ xs, True) (fun xs => (xs.map (fun _ => 1)).sum + 1) :=
  Op.opens_slice Try.underlying35 (by kernel_rfl) opensSOp
end Go.Proofs.Ytnglgjegkjfnaaa
