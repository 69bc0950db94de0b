import Derived.Test.YtnglgjegkjfnaaaSlII
import Derived.Deep.DrawnRows
namespace Go.Proofs.Ytnglgjegkjfnaaa
open Go.RowKit Go.ChangeShapes Go.WideShapes Go.ChangeAt Go.Proofs.YtnglgjegkjfnaaaW.PrintWords Go.Proofs.YtnglgjegkjfnaaaW.PrintMore Go.Proofs.YtnglgjegkjfnaaaW.PrintLast
/-! The document's Load: what it takes is just what is Wf. -/
def LoadP (s : Sl) (w : World) (e : Ending) (w' : World) : Prop := Below w.heap.size w w' ∧
  ((okNew s.limit s.caches.length = false ∧ e = .returned (.int .i64 1)) ∨ (okNew s.limit s.caches.length = true ∧ Wf s ∧ e = .returned (.int .i64 0)) ∨ (okNew s.limit s.caches.length = true ∧ ¬ Wf s ∧ e = .returned (.int .i64 40)))
def listsS (s : Sl) : List (List Int) := s.caches ++ [s.free]
def preS (s : Sl) (p : Nat) : List Int := ((listsS s).take p).flatten
theorem preS_all (s : Sl) : preS s (s.caches.length + 1) = allS s := by
  unfold preS listsS allS
  rw [List.take_of_length_le (by simp)]
  simp [List.flatten_append]
theorem preS_step {s : Sl} {p : Nat} {l : List Int} (h : (listsS s)[p]? = some l) : preS s (p + 1) = preS s p ++ l := by
  unfold preS
  have hp : p < (listsS s).length := (List.getElem?_eq_some_iff.1 h).1
  have he : (listsS s)[p] = l := (List.getElem?_eq_some_iff.1 h).2
  rw [List.take_succ_eq_append_getElem hp, he, List.flatten_append]
  simp
theorem all_at {s : Sl} {p k : Nat} {l : List Int} {x : Int} (h : (listsS s)[p]? = some l) (hk : l[k]? = some x) : ∃ rest, allS s = (preS s p ++ l.take k) ++ x :: rest := by
  have hp : p < (listsS s).length := (List.getElem?_eq_some_iff.1 h).1
  have he : (listsS s)[p] = l := (List.getElem?_eq_some_iff.1 h).2
  have hkl : k < l.length := (List.getElem?_eq_some_iff.1 hk).1
  have hke : l[k] = x := (List.getElem?_eq_some_iff.1 hk).2
  refine ⟨l.drop (k + 1) ++ ((listsS s).drop (p + 1)).flatten, ?_⟩
  have h1 : allS s = (listsS s).flatten := by simp [allS, listsS, List.flatten_append]
  rw [h1]
  conv => lhs; rw [← List.take_append_drop p (listsS s), List.drop_eq_getElem_cons hp, he]
  rw [List.flatten_append, List.flatten_cons]
  conv => lhs; rw [← List.take_append_drop k l, List.drop_eq_getElem_cons hkl, hke]
  simp [preS, List.append_assoc]
structure LdI (s : Sl) (L st : List Int) : Prop where
  len : st.length = s.gens.length
  cnt : ∀ x : Nat, x < s.gens.length → st.getD x 0 = (L.count (x : Int) : Int)
  fr : ∀ y ∈ L, FreeAt s y
  nd : L.Nodup
theorem LdI.start (s : Sl) : LdI s [] (List.replicate s.gens.length 0) :=
  ⟨by simp, fun x hx => by simp [List.getD_eq_getElem?_getD, hx], fun y hy => (by cases hy), List.nodup_nil⟩
theorem LdI.step {s : Sl} {L st : List Int} {m : Nat} (h : LdI s L st) (hf : FreeAt s m) (h0 : st.getD m 0 ≤ 0) : LdI s (L ++ [(m : Int)]) (st.set m (st.getD m 0 + 1)) := by
  have hm : m < s.gens.length := by have := hf.2.1; omega
  have hc := h.cnt m hm
  have hn : (m : Int) ∉ L := fun hmem => by
    have := List.count_pos_iff.2 hmem
    omega
  refine ⟨by rw [List.length_set]; exact h.len, fun x hx => ?_, fun y hy => ?_, List.nodup_append.2 ⟨h.nd, by simp, fun a ha b hb => by rw [List.mem_singleton.1 hb]; rintro rfl; exact hn ha⟩⟩
  · by_cases e : m = x
    · subst e
      rw [getD_set_self (by rw [h.len]; exact hm), List.count_append, hc]
      simp
    · rw [getD_set_ne e, h.cnt x hx, List.count_append]
      have : ¬ (m : Int) = (x : Int) := by omega
      simp [this]
  · rcases List.mem_append.1 hy with hy | hy
    · exact h.fr y hy
    · rw [List.mem_singleton.1 hy]; exact hf
theorem wf_of {s : Sl} {st : List Int} (hk : okNew s.limit s.caches.length = true) (hg : (s.gens.length : Int) ≤ s.limit) (ha : s.alive.length = s.gens.length) (hgen : ∀ j, j < s.gens.length → 1 ≤ genAt s j ∧ genAt s j ≤ 2147483647) (hc : ∀ (i : Nat) (l : List Int), s.caches[i]? = some l → l.length < 64) (h : LdI s (allS s) st) (hl : ∀ i, i < s.gens.length → freeB s i = true → st.getD i 0 ≠ 0) : Wf s := by
  obtain ⟨h0, h1, h2, h3⟩ := okNew_iff.1 hk
  refine ⟨h0, h1, by omega, by omega, hg, ha, fun c hcm => ?_, fun i hi _ => (hgen i hi).1, fun i hi => ⟨by have := (hgen i hi).1; omega, (hgen i hi).2⟩, h.nd, fun x hx => ⟨h.fr x hx, fun f => f⟩, fun i hi hd hm => .inl ?_⟩
  · obtain ⟨i, hi, rfl⟩ := List.getElem_of_mem hcm
    exact hc i _ (List.getElem?_eq_getElem hi)
  · have hne := hl i hi (freeB_iff.2 ⟨by omega, by omega, hd, hm⟩)
    rw [h.cnt i hi] at hne
    exact List.count_pos_iff.1 (by omega)
theorem wf_last {s : Sl} {st : List Int} {i : Nat} (hW : Wf s) (h : LdI s (allS s) st) (hi : i < s.gens.length) (hf : freeB s i = true) : st.getD i 0 ≠ 0 := by
  obtain ⟨-, -, h1, h2⟩ := freeB_iff.1 hf
  rw [Int.toNat_natCast] at h1 h2
  rcases hW.al i hi h1 h2 with h3 | h3
  · rw [h.cnt i hi]
    have := List.count_pos_iff.2 h3
    omega
  · exact h3.elim
theorem dup {s : Sl} {L rest st : List Int} {m : Nat} {y : Int} (hW : Wf s) (hr : allS s = L ++ (m : Int) :: rest) (h : LdI s L st) (hy : st[m]? = some y) (h0 : 0 < y) : False := by
  have hm : m < s.gens.length := by rw [← h.len]; exact (List.getElem?_eq_some_iff.1 hy).1
  have hc := h.cnt m hm
  rw [List.getD_eq_getElem?_getD, hy] at hc
  have hc' : y = (L.count (m : Int) : Int) := hc
  have hmem : (m : Int) ∈ L := List.count_pos_iff.1 (by omega)
  have hn := hW.nd
  rw [hr] at hn
  exact (List.nodup_append.1 hn).2.2 _ hmem _ (by simp) rfl
/-- The state in block B; the counts in block G. -/
structure LdW (w wr : World) (B : Nat) (s : Sl) (base : Nat) (col : Nat → Nat) (vG vA vC vF : Value) (vs : List Value) : Prop where
  below : Below w.heap.size w wr
  r : SlV wr base col s vG vA vC vF vs
  b : wr.heap[B]? = some (.cells #[.int .i64 s.limit, vG, vA, vC, vF] 30 (0, 0))
theorem LdW.then {w wr w' : World} {B : Nat} {s : Sl} {base : Nat} {col : Nat → Nat} {vG vA vC vF : Value} {vs : List Value} (h : LdW w wr B s base col vG vA vC vF vs) (hB : Below wr.heap.size wr w') : LdW w w' B s base col vG vA vC vF vs :=
  ⟨below_then h.below hB, h.r.below hB, blk_below h.b hB⟩
structure LdS (w wr : World) (B G : Nat) (s : Sl) (base : Nat) (col : Nat → Nat) (vG vA vC vF : Value) (vs : List Value) (L st : List Int) : Prop where
  m : LdW w wr B s base col vG vA vC vF vs
  row : Row wr w.heap.size (fun _ => True) 3 (.slice (some ⟨G, 0, none⟩) s.gens.length s.gens.length) (ints st)
  i : LdI s L st
  g0 : col G = 0
  gw : w.heap.size ≤ G
  ne : B ≠ G
theorem LdS.then {w wr w' : World} {B G : Nat} {s : Sl} {base : Nat} {col : Nat → Nat} {vG vA vC vF : Value} {vs : List Value} {L st : List Int} (h : LdS w wr B G s base col vG vA vC vF vs L st) (hB : Below wr.heap.size wr w') : LdS w w' B G s base col vG vA vC vF vs L st :=
  ⟨h.m.then hB, h.row.below hB, h.i, h.g0, h.gw, h.ne⟩
theorem LdS.set {w wr : World} {B G m : Nat} {s : Sl} {base : Nat} {col : Nat → Nat} {vG vA vC vF : Value} {vs : List Value} {L st : List Int} (h : LdS w wr B G s base col vG vA vC vF vs L st) (hf : FreeAt s m) (h0 : st.getD m 0 ≤ 0) : LdS w (wr.setCell ⟨G, 0 + m, none⟩ (.int .i64 (st.getD m 0 + 1))) B G s base col vG vA vC vF vs (L ++ [(m : Int)]) (st.set m (st.getD m 0 + 1)) := by
  have hm : m < s.gens.length := by have := hf.2.1; omega
  have hk : Keep (fun i => i = G) wr (wr.setCell ⟨G, 0 + m, none⟩ (.int .i64 (st.getD m 0 + 1))) := (by repeat (first | (with_reducible exact Keep.refl _ _) | (with_reducible refine Keep.drewN ?_ _) | (with_reducible refine Keep.drew ?_) | (with_reducible refine Keep.setCell ?_ _ _ (by first | (right; with_reducible rfl) | (left; simp; done) | (left; simp; omega) | (right; simp; done) | (right; assumption))) | (with_reducible refine Keep.alloc ?_ _)))
  refine ⟨⟨below_then_keep h.m.below h.m.below.size hk (fun i e => by rw [e]; exact h.gw), h.m.r.keep hk (fun k e => by rw [e, h.g0]; omega), blk_keep h.m.b hk h.ne⟩, ?_, h.i.step hf h0, h.g0, h.gw, h.ne⟩
  rw [ints_set]
  exact h.row.set (by rw [ints_len, h.i.len]; exact hm) rfl
def LdE (w : World) (B G : Nat) (s : Sl) (base : Nat) (col : Nat → Nat) (vG vA vC vF : Value) (vs : List Value) (L : List Int) (wr : World) : Prop := ∃ st, LdS w wr B G s base col vG vA vC vF vs L st
def ReadE (wr : World) (col : Nat → Nat) (v : Value) (l : List Int) : Prop := ∃ X c base ok, v = .slice X l.length c ∧ Row wr base ok 3 v (ints l) ∧ ∀ k, ok k → col k ≠ 0
set_option maxHeartbeats 16000000 in
set_option maxRecDepth 100000 in
theorem load_ref {s : Sl} {base : Nat} {col : Nat → Nat} {vG vA vC vF : Value} {vs : List Value} (w : World) (h : SlV w base col s vG vA vC vF vs) (hBd : Bd s) : Calls Try.prog 18 #[.agg #[.int .i64 s.limit, vG, vA, vC, vF]] w (LoadP s w) := by
  obtain ⟨AG, cG, e1, -⟩ := h.g.slice
  obtain ⟨AA, cA, e2, -⟩ := h.a.slice
  obtain ⟨AC, cC, e3, -⟩ := h.c.slice
  obtain ⟨AF, cF, e4, -⟩ := h.f.slice
  rw [ints_len] at e1 e4
  rw [bools_len] at e2
  rw [h.l] at e3
  subst e1 e2 e3 e4
  have hW : Below w.heap.size w (w.alloc (.cells #[.int .i64 s.limit, .slice AG s.gens.length cG, .slice AA s.alive.length cA, .slice AC s.caches.length cC, .slice AF s.free.length cF] 30)) := below_al (Below.refl _ _) _
  have HM : Aside0 (LdW w (w.alloc (.cells #[.int .i64 s.limit, .slice AG s.gens.length cG, .slice AA s.alive.length cA, .slice AC s.caches.length cC, .slice AF s.free.length cF] 30)) w.heap.size s base col (.slice AG s.gens.length cG) (.slice AA s.alive.length cA) (.slice AC s.caches.length cC) (.slice AF s.free.length cF) vs) := ⟨⟨hW, h.below hW, blk_new _ _⟩⟩
  have hz := h.z
  have HZ := Aside0.mk hz
  have HBD := Aside0.mk hBd
  have hab : s.gens.length ≤ 140737488355328 := by have := hBd.g; omega
  have hcb : s.caches.length ≤ 140737488355328 := by have := hBd.c; omega
  clear h hW hz hBd
  obtain ⟨x0, x1, x2, x3, x4⟩ := cells5 HM.out.b
  go_enter Try.func18, Try.ntmps18
  go_wp2_with fail
  --MARK1
  generalize (w.alloc (.cells #[.int .i64 s.limit, .slice AG s.gens.length cG, .slice AA s.alive.length cA, .slice AC s.caches.length cC, .slice AF s.free.length cF] 30)) = W at *
  refine (new_ref s.limit s.caches.length W).mono ?_
  rintro e w1 ⟨hB1, ⟨hk, X, c, rfl, -⟩ | ⟨hk, rfl⟩⟩
  · have HK := Aside0.mk hk
    have hA : Below w1.heap.size w1 (w1.alloc (.cells #[.int .i64 s.limit, .slice none 0 0, .slice none 0 0, .slice X s.caches.length c, .slice none 0 0] 30)) := below_al (Below.refl _ _) _
    have HM1 := Aside0.mk (HM.out.then (below_then hB1 hA))
    obtain ⟨hl0, hl1, hp0, hp1⟩ := okNew_iff.1 hk
    clear hA hB1 hk HM x0 x1 x2 x3 x4
    obtain ⟨x0, x1, x2, x3, x4⟩ := cells5 HM1.out.b
    go_upto_region 4 with fail
    --MARK2
    generalize (w1.alloc (.cells #[.int .i64 s.limit, .slice none 0 0, .slice none 0 0, .slice X s.caches.length c, .slice none 0 0] 30)) = W1 at *
    by_cases hg : s.limit < (s.gens.length : Int)
    · go_wp2
      go_ret
      exact ⟨HM1.out.below, .inr (.inr ⟨HK.out, fun hw => by have := hw.g; omega, rfl⟩)⟩
    · by_cases ha : s.alive.length = s.gens.length
      · have hg' : (s.gens.length : Int) ≤ s.limit := by omega
        have HA := Aside0.mk ha
        rw [ha] at x2
        clear ha
        go_wp2_with fail
        --MARK3
        go_loopw [5] (fun i wr => ∃ k : Nat, k ≤ s.gens.length ∧ i = .int .i64 k ∧ Aside0 (∀ j, j < k → 1 ≤ genAt s j ∧ genAt s j ≤ 2147483647) ∧ Aside0 (wr = W1)) (fun i _ => s.gens.length - (intOf i).toNat)
        case atStart => exact ⟨0, by omega, rfl, ⟨fun j hj => by omega⟩, ⟨by trivial⟩⟩
        case round =>
          obtain ⟨k, hk, rfl, HG, HE⟩ := hrel
          obtain rfl := HE.out
          by_cases hlt : k < s.gens.length
          · obtain ⟨g, o, c1, he, hgl, -, hat⟩ := HM1.out.r.g.form (by rw [ints_len]; omega)
            injection he with he1 he2 he3
            subst he1
            obtain ⟨y, hy⟩ : ∃ y, s.gens[k]? = some y := ⟨_, List.getElem?_eq_getElem hlt⟩
            have hc1 := (hat k).1 _ (ints_get hy)
            have hgen : genAt s k = y := by rw [genAt, List.getD_eq_getElem?_getD, hy]; rfl
            have HGEN := Aside0.mk hgen
            clear hat hy he2 he3 HE hgen
            by_cases h1 : y < 1
            · go_wp2
              go_ret
              exact ⟨HM1.out.below, .inr (.inr ⟨HK.out, fun hw => by have := hw.gb k hlt (fun f => f); have := HGEN.out; omega, rfl⟩)⟩
            · by_cases h2 : 2147483647 < y
              · go_wp2
                go_ret
                exact ⟨HM1.out.below, .inr (.inr ⟨HK.out, fun hw => by have := (hw.gm k hlt).2; have := HGEN.out; omega, rfl⟩)⟩
              · have HG' : Aside0 (∀ j, j < k + 1 → 1 ≤ genAt s j ∧ genAt s j ≤ 2147483647) := ⟨fun j hj => by
                  by_cases e : j = k
                  · subst e; rw [HGEN.out]; omega
                  · exact HG.out j (by omega)⟩
                go_wp2
                go_roundw
                case rel => exact ⟨k + 1, by omega, by go_num, HG', ⟨by trivial⟩⟩
                case measure => simp [intOf]; omega
          · obtain rfl : k = s.gens.length := by omega
            clear HE
            have hmk := run_make_row' (P := Try.prog) 26 3 (.int .i64 0) 8 Try.underlying26 infoIn rfl .i64 .i64 s.gens.length (by omega) (by omega)
            have hA : Below wr.heap.size wr (wr.alloc (.cells (madeCells #[.int .i64 0] s.gens.length) 3)) := below_al (Below.refl _ _) _
            have hR := row_made wr s.gens.length (.int .i64 0) 3 rfl (by omega)
            have HS : Aside0 (LdE w w.heap.size wr.heap.size s base col (.slice AG s.gens.length cG) (.slice AA s.alive.length cA) (.slice AC s.caches.length cC) (.slice AF s.free.length cF) vs (preS s 0) (wr.alloc (.cells (madeCells #[.int .i64 0] s.gens.length) 3))) :=
              ⟨⟨_, HM1.out.then hA, by simpa [ints, List.map_replicate] using (hR.lower HM1.out.below.size).mono (fun _ _ _ => trivial), LdI.start s, HM1.out.r.z _ (Nat.le_refl _), HM1.out.below.size, by have := lt_blk HM1.out.b; omega⟩⟩
            clear hR hA
            go_wp2_with fail
            --MARK4
            generalize (wr.alloc (.cells (madeCells #[.int .i64 0] s.gens.length) 3)) = W2 at *
            obtain ⟨G, hGG⟩ : ∃ G, wr.heap.size = G := ⟨_, rfl⟩
            rw [hGG] at HS ⊢
            clear hGG hmk x0 x1 x2 x3 x4
            go_loopw [7] (fun i wr => ∃ p : Nat, p ≤ s.caches.length + 1 ∧ i = .int .i64 p ∧ Aside0 (∀ (i : Nat) (l : List Int), i < p → s.caches[i]? = some l → l.length < 64) ∧ Aside0 (LdE w w.heap.size G s base col (.slice AG s.gens.length cG) (.slice AA s.alive.length cA) (.slice AC s.caches.length cC) (.slice AF s.free.length cF) vs (preS s p) wr)) (fun i _ => s.caches.length + 1 - (intOf i).toNat)
            case atStart => exact ⟨0, by omega, rfl, ⟨fun i l hi => by omega⟩, HS⟩
            case round =>
              clear HS
              obtain ⟨p, hp, rfl, HC, HS⟩ := hrel
              obtain ⟨st, hS⟩ := HS.out
              obtain ⟨x0, x1, x2, x3, x4⟩ := cells5 hS.m.b
              have HS' := Aside0.mk hS
              clear hS
              by_cases hpl : p ≤ s.caches.length
              · go_upto_if 77 with fail
                --MARK5
                go_cut [8] (fun s8 wx => ∃ l, (listsS s)[p]? = some l ∧ (p < s.caches.length → l.length < 64) ∧ Aside0 (ReadE wr col s8 l) ∧ wr = wx)
                case first =>
                  by_cases hpc : p < s.caches.length
                  · obtain ⟨l, hl⟩ : ∃ l, s.caches[p]? = some l := ⟨_, List.getElem?_eq_getElem hpc⟩
                    obtain ⟨v, hv, hrow⟩ := HS'.out.m.r.v p l hl
                    obtain ⟨X1, c1, rfl, -⟩ := hrow.slice
                    obtain ⟨g, o, c2, he, hgl, -, hat⟩ := HS'.out.m.r.c.form (by have := HS'.out.m.r.l; omega)
                    injection he with he1 he2 he3
                    subst he1
                    have hc1 := (hat p).1 _ hv
                    rw [ints_len] at hc1
                    have hpi : (p : Int) < (s.caches.length : Int) := by omega
                    have HRD : Aside0 (ReadE wr col (.slice X1 l.length c1) l) := ⟨⟨X1, c1, _, _, rfl, by rw [ints_len] at hrow; exact hrow, fun k (hk : col k = _) => by omega⟩⟩
                    have hll : (listsS s)[p]? = some l := by rw [listsS, List.getElem?_append_left hpc]; exact hl
                    have HLL := Aside0.mk hll
                    have HL1 := Aside0.mk hl
                    have hlb : l.length ≤ 140737488355328 := by have := HBD.out.e l (List.mem_of_getElem? hl); omega
                    clear hat he2 he3 hl hv hrow hll
                    by_cases h64 : 64 ≤ l.length
                    · go_wp2
                      go_ret
                      exact ⟨HS'.out.m.below, .inr (.inr ⟨HK.out, fun hw => by have := hw.cl l (List.mem_of_getElem? HL1.out); omega, rfl⟩)⟩
                    · go_wp2
                      go_meet
                      exact ⟨l, HLL.out, fun _ => by omega, HRD, rfl⟩
                  · obtain rfl : p = s.caches.length := by omega
                    have HRD : Aside0 (ReadE wr col (.slice AF s.free.length cF) s.free) := ⟨⟨AF, cF, _, _, rfl, HS'.out.m.r.f, fun k (hk : col k = _) => by omega⟩⟩
                    go_wp2
                    go_meet
                    exact ⟨s.free, by simp [listsS], fun hh => by omega, HRD, rfl⟩
                case rest =>
                  obtain ⟨l, hl, h64, HRD, rfl⟩ := hcut
                  obtain ⟨X1, c1, base1, ok1, rfl, hrow1, hok1⟩ := HRD.out
                  have HOK := Aside0.mk hok1
                  have HR1 := Aside0.mk hrow1
                  have HL := Aside0.mk hl
                  have H64 := Aside0.mk h64
                  have hlb : l.length ≤ 140737488355328 := by
                    by_cases e : p < s.caches.length
                    · have := h64 e; omega
                    · obtain rfl : p = s.caches.length := by omega
                      obtain rfl : s.free = l := by simpa [listsS] using hl
                      have := HBD.out.f; omega
                  have HC' : Aside0 (∀ (i : Nat) (l : List Int), i < p + 1 → s.caches[i]? = some l → l.length < 64) := ⟨fun i l' hi hl' => by
                    by_cases e : i = p
                    · subst e
                      have hic : i < s.caches.length := (List.getElem?_eq_some_iff.1 hl').1
                      rw [listsS, List.getElem?_append_left hic, hl'] at hl
                      injection hl with hl
                      rw [hl]; exact h64 hic
                    · exact HC.out i l' (by omega) hl'⟩
                  have HS0 : Aside0 (LdE w w.heap.size G s base col (.slice AG s.gens.length cG) (.slice AA s.alive.length cA) (.slice AC s.caches.length cC) (.slice AF s.free.length cF) vs (preS s p ++ l.take 0) wr) := ⟨⟨st, by simpa using HS'.out⟩⟩
                  clear hrow1 hl h64 HRD HS' HS hok1
                  go_wp2_with fail
                  --MARK6
                  go_loopw [9] (fun i wr => ∃ k : Nat, k ≤ l.length ∧ i = .int .i64 k ∧ Aside0 (Row wr base1 ok1 3 (.slice X1 l.length c1) (ints l)) ∧ Aside0 (LdE w w.heap.size G s base col (.slice AG s.gens.length cG) (.slice AA s.alive.length cA) (.slice AC s.caches.length cC) (.slice AF s.free.length cF) vs (preS s p ++ l.take k) wr)) (fun i _ => l.length - (intOf i).toNat)
                  case atStart => exact ⟨0, by omega, rfl, HR1, HS0⟩
                  case round =>
                    clear HS0 HR1 x0 x1 x2 x3 x4
                    obtain ⟨k, hk, rfl, HR1, HS⟩ := hrel
                    obtain ⟨st1, hS1⟩ := HS.out
                    have HS1 := Aside0.mk hS1
                    obtain ⟨x0, x1, x2, x3, x4⟩ := cells5 hS1.m.b
                    clear HS hS1
                    by_cases hlt : k < l.length
                    · obtain ⟨x, hx⟩ : ∃ x, l[k]? = some x := ⟨_, List.getElem?_eq_getElem hlt⟩
                      obtain ⟨gl, ol, cl, hel, hgll, -, hatl⟩ := HR1.out.form (by rw [ints_len]; omega)
                      injection hel with hel1 hel2 hel3
                      subst hel1
                      have hcx := (hatl k).1 _ (ints_get hx)
                      obtain ⟨rest, hrest⟩ := all_at HL.out hx
                      have HREST := Aside0.mk hrest
                      have HX := Aside0.mk hx
                      have hD : Below wr.heap.size wr wr.drew := (Below.refl _ _).drew
                      have hki : (0 : Int) ≤ (k : Int) := by omega
                      have hkl : (k : Int) < (l.length : Int) := by omega
                      clear hatl hel2 hel3 hx hrest
                      cases hfr : freeB s x with
                      | false =>
                        have HFR := Aside0.mk hfr
                        go_wp2_with fail
                        --MARK7
                        refine start_ (n := 17) (S := fun w' => w'.cell? ⟨w.heap.size, 0, none⟩ = some (.int .i64 s.limit) ∧ w'.cell? ⟨w.heap.size, 1, none⟩ = some (.slice AG s.gens.length cG) ∧ w'.cell? ⟨w.heap.size, 2, none⟩ = some (.slice AA s.alive.length cA) ∧ w'.cell? ⟨w.heap.size, 3, none⟩ = some (.slice AC s.caches.length cC) ∧ w'.cell? ⟨w.heap.size, 4, none⟩ = some (.slice AF s.free.length cF) ∧ w'.cell? ⟨gl, ol + k, none⟩ = some (.int .i64 x)) (ds := []) #[false, false, false, false, false, false, false, false, false, false, false, false, false, false, false, false, false] (by kernel_rfl) rfl rfl ⟨cell_blk (blk_below HS1.out.m.b hD) 0, cell_blk (blk_below HS1.out.m.b hD) 1, cell_blk (blk_below HS1.out.m.b hD) 2, cell_blk (blk_below HS1.out.m.b hD) 3, cell_blk (blk_below HS1.out.m.b hD) 4, pw_cell_below hD hcx⟩ (fun hHeld => ?_)
                        generalize wr.drew = x0 at *
                        refine pure_ (i := 1) (N := some 93) (v := ?_) (a' := ?_) #[false, true, false, false, false, false, false, false, false, false, false, false, false, false, false, false, false] rfl rfl (by kernel_rfl) (fun _ _ _ h => h) (Or.inl ⟨by rfl, ?_⟩) ?_ ?_
                        rotate_left
                        · intro w'
                          go_simp
                          with_reducible rfl
                        rotate_left
                        · simp only [Act.put, List.setIfInBounds_toArray, List.set_cons_zero, List.set_cons_succ]
                          rfl
                        refine pure_ (i := 2) (N := some 94) (v := ?_) (a' := ?_) #[false, true, true, false, false, false, false, false, false, false, false, false, false, false, false, false, false] rfl rfl (by kernel_rfl) (fun _ _ _ h => h) (Or.inl ⟨by rfl, ?_⟩) ?_ ?_
                        rotate_left
                        · intro w'
                          go_simp
                          with_reducible rfl
                        rotate_left
                        · simp only [Act.put, List.setIfInBounds_toArray, List.set_cons_zero, List.set_cons_succ]
                          rfl
                        refine pure_ (i := 3) (N := some 95) (v := ?_) (a' := ?_) #[false, true, true, true, false, false, false, false, false, false, false, false, false, false, false, false, false] rfl rfl (by kernel_rfl) (fun _ _ _ h => h) (Or.inl ⟨by rfl, ?_⟩) ?_ ?_
                        rotate_left
                        · intro w'
                          go_simp
                          with_reducible rfl
                        rotate_left
                        · simp only [Act.put, List.setIfInBounds_toArray, List.set_cons_zero, List.set_cons_succ]
                          rfl
                        refine take_ (i := 0) (N := some 92) (v := ?_) (a' := ?_) #[true, true, true, true, false, false, false, false, false, false, false, false, false, false, false, false, false] rfl rfl (by kernel_rfl) (fun _ _ _ h => h) (Or.inl ⟨by rfl, ?_⟩) hHeld ?_ ?_
                        rotate_left
                        · rintro w' ⟨s0, s1, s2, s3, s4, s5⟩
                          go_simp
                          with_reducible rfl
                        rotate_left
                        · simp only [Act.put, List.setIfInBounds_toArray, List.set_cons_zero, List.set_cons_succ]
                          rfl
                        refine take_ (i := 4) (N := some 96) (v := ?_) (a' := ?_) #[true, true, true, true, true, false, false, false, false, false, false, false, false, false, false, false, false] rfl rfl (by kernel_rfl) (fun _ _ _ h => h) (Or.inl ⟨by rfl, ?_⟩) hHeld ?_ ?_
                        rotate_left
                        · rintro w' ⟨s0, s1, s2, s3, s4, s5⟩
                          go_simp
                          with_reducible rfl
                        rotate_left
                        · simp only [Act.put, List.setIfInBounds_toArray, List.set_cons_zero, List.set_cons_succ]
                          rfl
                        refine one_ (i := 5) (N := some 97) #[true, true, true, true, true, true, false, false, false, false, false, false, false, false, false, false, false] rfl rfl (by kernel_rfl) (by decide) (fun K hK => ?_)
                        refine goes_ Try.func33 (by kernel_rfl) rfl #[.agg #[.int .i64 s.limit, .slice AG s.gens.length cG, .slice AA s.alive.length cA, .slice AC s.caches.length cC, .slice AF s.free.length cF], .int .i64 x] (by rfl) rfl rfl (by simp only [List.map_toArray, List.map_cons, List.map_nil]; rfl) ?_
                        with_reducible refine (free_ref (x) x0 (by have := HS1.out.m.r.below hD; exact this) HA.out).mono ?_
                        rintro e w5 ⟨rfl, hS5⟩
                        refine ⟨_, rfl, ?_⟩
                        rw [hfr]
                        have hb5 := blk_below (blk_below HS1.out.m.b hD) hS5
                        refine hK.out _ _ ⟨cell_blk hb5 0, cell_blk hb5 1, cell_blk hb5 2, cell_blk hb5 3, cell_blk hb5 4, pw_cell_below hS5 (pw_cell_below hD hcx)⟩ (fun hHeld => ?_)
                        clear hK K
                        refine norm_ (a' := ?_) ?_ ?_
                        rotate_left
                        · show Act.put _ (some 97) _ = _
                          simp only [Act.put, List.setIfInBounds_toArray, List.set_cons_zero, List.set_cons_succ]
                          rfl
                        refine pure_ (i := 6) (N := some 98) (v := ?_) (a' := ?_) #[true, true, true, true, true, true, true, false, false, false, false, false, false, false, false, false, false] rfl rfl (by kernel_rfl) (fun _ _ _ h => h) (Or.inl ⟨by rfl, ?_⟩) ?_ ?_
                        rotate_left
                        · intro w'
                          go_simp
                          with_reducible rfl
                        rotate_left
                        · simp only [Act.put, List.setIfInBounds_toArray, List.set_cons_zero, List.set_cons_succ]
                          rfl
                        refine pure_ (i := 7) (N := some 99) (v := ?_) (a' := ?_) #[true, true, true, true, true, true, true, true, false, false, false, false, false, false, false, false, false] rfl rfl (by kernel_rfl) (fun _ _ _ h => h) (Or.inl ⟨by rfl, ?_⟩) ?_ ?_
                        rotate_left
                        · intro w'
                          go_simp
                          with_reducible rfl
                        rotate_left
                        · simp only [Act.put, List.setIfInBounds_toArray, List.set_cons_zero, List.set_cons_succ]
                          rfl
                        refine pure_ (i := 8) (N := some 100) (v := undef) (a' := ?_) #[true, true, true, true, true, true, true, true, true, false, false, false, false, false, false, false, false] rfl rfl (by kernel_rfl) (fun _ _ _ h => h) (Or.inr ⟨by rfl, rfl⟩) ?_ ?_
                        rotate_left
                        · simp only [Act.put, List.setIfInBounds_toArray, List.set_cons_zero, List.set_cons_succ]
                          rfl
                        refine pure_ (i := 9) (N := some 101) (v := undef) (a' := ?_) #[true, true, true, true, true, true, true, true, true, true, false, false, false, false, false, false, false] rfl rfl (by kernel_rfl) (fun _ _ _ h => h) (Or.inr ⟨by rfl, rfl⟩) ?_ ?_
                        rotate_left
                        · simp only [Act.put, List.setIfInBounds_toArray, List.set_cons_zero, List.set_cons_succ]
                          rfl
                        refine pure_ (i := 10) (N := some 102) (v := undef) (a' := ?_) #[true, true, true, true, true, true, true, true, true, true, true, false, false, false, false, false, false] rfl rfl (by kernel_rfl) (fun _ _ _ h => h) (Or.inr ⟨by rfl, rfl⟩) ?_ ?_
                        rotate_left
                        · simp only [Act.put, List.setIfInBounds_toArray, List.set_cons_zero, List.set_cons_succ]
                          rfl
                        refine pure_ (i := 11) (N := some 103) (v := undef) (a' := ?_) #[true, true, true, true, true, true, true, true, true, true, true, true, false, false, false, false, false] rfl rfl (by kernel_rfl) (fun _ _ _ h => h) (Or.inr ⟨by rfl, rfl⟩) ?_ ?_
                        rotate_left
                        · simp only [Act.put, List.setIfInBounds_toArray, List.set_cons_zero, List.set_cons_succ]
                          rfl
                        refine pure_ (i := 12) (N := some 104) (v := undef) (a' := ?_) #[true, true, true, true, true, true, true, true, true, true, true, true, true, false, false, false, false] rfl rfl (by kernel_rfl) (fun _ _ _ h => h) (Or.inr ⟨by rfl, rfl⟩) ?_ ?_
                        rotate_left
                        · simp only [Act.put, List.setIfInBounds_toArray, List.set_cons_zero, List.set_cons_succ]
                          rfl
                        refine pure_ (i := 13) (N := some 105) (v := undef) (a' := ?_) #[true, true, true, true, true, true, true, true, true, true, true, true, true, true, false, false, false] rfl rfl (by kernel_rfl) (fun _ _ _ h => h) (Or.inr ⟨by rfl, rfl⟩) ?_ ?_
                        rotate_left
                        · simp only [Act.put, List.setIfInBounds_toArray, List.set_cons_zero, List.set_cons_succ]
                          rfl
                        refine pure_ (i := 14) (N := some 106) (v := undef) (a' := ?_) #[true, true, true, true, true, true, true, true, true, true, true, true, true, true, true, false, false] rfl rfl (by kernel_rfl) (fun _ _ _ h => h) (Or.inr ⟨by rfl, rfl⟩) ?_ ?_
                        rotate_left
                        · simp only [Act.put, List.setIfInBounds_toArray, List.set_cons_zero, List.set_cons_succ]
                          rfl
                        refine pure_ (i := 15) (N := some 107) (v := undef) (a' := ?_) #[true, true, true, true, true, true, true, true, true, true, true, true, true, true, true, true, false] rfl rfl (by kernel_rfl) (fun _ _ _ h => h) (Or.inr ⟨by rfl, rfl⟩) ?_ ?_
                        rotate_left
                        · simp only [Act.put, List.setIfInBounds_toArray, List.set_cons_zero, List.set_cons_succ]
                          rfl
                        refine pure_ (i := 16) (N := some 108) (v := ?_) (a' := ?_) #[true, true, true, true, true, true, true, true, true, true, true, true, true, true, true, true, true] rfl rfl (by kernel_rfl) (fun _ _ _ h => h) (Or.inl ⟨by rfl, ?_⟩) ?_ ?_
                        rotate_left
                        · intro w'
                          go_simp
                          with_reducible rfl
                        rotate_left
                        · simp only [Act.put, List.setIfInBounds_toArray, List.set_cons_zero, List.set_cons_succ]
                          rfl
                        refine done_ (by kernel_rfl) ?_
                        go_wp2
                        go_ret
                        have hnw : ¬ Wf s := fun hw => by
                          have := freeB_iff.2 (hw.fr x (by rw [HREST.out]; simp)).1
                          rw [HFR.out] at this
                          cases this
                        exact ⟨((HS1.out.then hD).then hS5).m.below, .inr (.inr ⟨HK.out, hnw, rfl⟩)⟩
                      | true =>
                        obtain ⟨hx0, hxn, -, -⟩ := freeB_iff.1 hfr
                        obtain ⟨m, rfl⟩ := Int.eq_ofNat_of_zero_le hx0
                        have hmn : m < s.gens.length := by omega
                        have HFR := Aside0.mk hfr
                        obtain ⟨y, hy⟩ : ∃ y, st1[m]? = some y := ⟨_, List.getElem?_eq_getElem (by rw [HS1.out.i.len]; exact hmn)⟩
                        have HY := Aside0.mk hy
                        obtain ⟨gs, os, cs, hes, hgs, -, hats⟩ := HS1.out.row.form (by rw [ints_len, HS1.out.i.len]; omega)
                        injection hes with hes1 hes2 hes3
                        injection hes1 with hes1
                        injection hes1 with hes4 hes5
                        subst hes4 hes5
                        have hcy := (hats m).1 _ (ints_get hy)
                        rw [Nat.zero_add] at hcy
                        have hm0 : (0 : Int) ≤ (m : Int) := by omega
                        clear hats hes2 hes3 hy hx0
                        go_wp2_with fail
                        refine start_ (n := 17) (S := fun w' => w'.cell? ⟨w.heap.size, 0, none⟩ = some (.int .i64 s.limit) ∧ w'.cell? ⟨w.heap.size, 1, none⟩ = some (.slice AG s.gens.length cG) ∧ w'.cell? ⟨w.heap.size, 2, none⟩ = some (.slice AA s.alive.length cA) ∧ w'.cell? ⟨w.heap.size, 3, none⟩ = some (.slice AC s.caches.length cC) ∧ w'.cell? ⟨w.heap.size, 4, none⟩ = some (.slice AF s.free.length cF) ∧ w'.cell? ⟨gl, ol + k, none⟩ = some (.int .i64 m) ∧ w'.cell? ⟨G, m, none⟩ = some (.int .i64 y)) (ds := []) #[false, false, false, false, false, false, false, false, false, false, false, false, false, false, false, false, false] (by kernel_rfl) rfl rfl ⟨cell_blk (blk_below HS1.out.m.b hD) 0, cell_blk (blk_below HS1.out.m.b hD) 1, cell_blk (blk_below HS1.out.m.b hD) 2, cell_blk (blk_below HS1.out.m.b hD) 3, cell_blk (blk_below HS1.out.m.b hD) 4, pw_cell_below hD hcx, pw_cell_below hD hcy⟩ (fun hHeld => ?_)
                        generalize wr.drew = x0 at *
                        refine pure_ (i := 1) (N := some 93) (v := ?_) (a' := ?_) #[false, true, false, false, false, false, false, false, false, false, false, false, false, false, false, false, false] rfl rfl (by kernel_rfl) (fun _ _ _ h => h) (Or.inl ⟨by rfl, ?_⟩) ?_ ?_
                        rotate_left
                        · intro w'
                          go_simp
                          with_reducible rfl
                        rotate_left
                        · simp only [Act.put, List.setIfInBounds_toArray, List.set_cons_zero, List.set_cons_succ]
                          rfl
                        refine pure_ (i := 2) (N := some 94) (v := ?_) (a' := ?_) #[false, true, true, false, false, false, false, false, false, false, false, false, false, false, false, false, false] rfl rfl (by kernel_rfl) (fun _ _ _ h => h) (Or.inl ⟨by rfl, ?_⟩) ?_ ?_
                        rotate_left
                        · intro w'
                          go_simp
                          with_reducible rfl
                        rotate_left
                        · simp only [Act.put, List.setIfInBounds_toArray, List.set_cons_zero, List.set_cons_succ]
                          rfl
                        refine pure_ (i := 3) (N := some 95) (v := ?_) (a' := ?_) #[false, true, true, true, false, false, false, false, false, false, false, false, false, false, false, false, false] rfl rfl (by kernel_rfl) (fun _ _ _ h => h) (Or.inl ⟨by rfl, ?_⟩) ?_ ?_
                        rotate_left
                        · intro w'
                          go_simp
                          with_reducible rfl
                        rotate_left
                        · simp only [Act.put, List.setIfInBounds_toArray, List.set_cons_zero, List.set_cons_succ]
                          rfl
                        refine take_ (i := 0) (N := some 92) (v := ?_) (a' := ?_) #[true, true, true, true, false, false, false, false, false, false, false, false, false, false, false, false, false] rfl rfl (by kernel_rfl) (fun _ _ _ h => h) (Or.inl ⟨by rfl, ?_⟩) hHeld ?_ ?_
                        rotate_left
                        · rintro w' ⟨s0, s1, s2, s3, s4, s5, s6⟩
                          go_simp
                          with_reducible rfl
                        rotate_left
                        · simp only [Act.put, List.setIfInBounds_toArray, List.set_cons_zero, List.set_cons_succ]
                          rfl
                        refine take_ (i := 4) (N := some 96) (v := ?_) (a' := ?_) #[true, true, true, true, true, false, false, false, false, false, false, false, false, false, false, false, false] rfl rfl (by kernel_rfl) (fun _ _ _ h => h) (Or.inl ⟨by rfl, ?_⟩) hHeld ?_ ?_
                        rotate_left
                        · rintro w' ⟨s0, s1, s2, s3, s4, s5, s6⟩
                          go_simp
                          with_reducible rfl
                        rotate_left
                        · simp only [Act.put, List.setIfInBounds_toArray, List.set_cons_zero, List.set_cons_succ]
                          rfl
                        refine one_ (i := 5) (N := some 97) #[true, true, true, true, true, true, false, false, false, false, false, false, false, false, false, false, false] rfl rfl (by kernel_rfl) (by decide) (fun K hK => ?_)
                        refine goes_ Try.func33 (by kernel_rfl) rfl #[.agg #[.int .i64 s.limit, .slice AG s.gens.length cG, .slice AA s.alive.length cA, .slice AC s.caches.length cC, .slice AF s.free.length cF], .int .i64 m] (by rfl) rfl rfl (by simp only [List.map_toArray, List.map_cons, List.map_nil]; rfl) ?_
                        with_reducible refine (free_ref (m : Int) x0 (by have := HS1.out.m.r.below hD; exact this) HA.out).mono ?_
                        rintro e w5 ⟨rfl, hS5⟩
                        refine ⟨_, rfl, ?_⟩
                        rw [hfr]
                        have hb5 := blk_below (blk_below HS1.out.m.b hD) hS5
                        refine hK.out _ _ ⟨cell_blk hb5 0, cell_blk hb5 1, cell_blk hb5 2, cell_blk hb5 3, cell_blk hb5 4, pw_cell_below hS5 (pw_cell_below hD hcx), pw_cell_below hS5 (pw_cell_below hD hcy)⟩ (fun hHeld => ?_)
                        clear hK K
                        refine norm_ (a' := ?_) ?_ ?_
                        rotate_left
                        · show Act.put _ (some 97) _ = _
                          simp only [Act.put, List.setIfInBounds_toArray, List.set_cons_zero, List.set_cons_succ]
                          rfl
                        refine pure_ (i := 6) (N := some 98) (v := ?_) (a' := ?_) #[true, true, true, true, true, true, true, false, false, false, false, false, false, false, false, false, false] rfl rfl (by kernel_rfl) (fun _ _ _ h => h) (Or.inl ⟨by rfl, ?_⟩) ?_ ?_
                        rotate_left
                        · intro w'
                          go_simp
                          with_reducible rfl
                        rotate_left
                        · simp only [Act.put, List.setIfInBounds_toArray, List.set_cons_zero, List.set_cons_succ]
                          rfl
                        refine pure_ (i := 7) (N := some 99) (v := ?_) (a' := ?_) #[true, true, true, true, true, true, true, true, false, false, false, false, false, false, false, false, false] rfl rfl (by kernel_rfl) (fun _ _ _ h => h) (Or.inl ⟨by rfl, ?_⟩) ?_ ?_
                        rotate_left
                        · intro w'
                          go_simp
                          with_reducible rfl
                        rotate_left
                        · simp only [Act.put, List.setIfInBounds_toArray, List.set_cons_zero, List.set_cons_succ]
                          rfl
                        refine pure_ (i := 8) (N := some 100) (v := ?_) (a' := ?_) #[true, true, true, true, true, true, true, true, true, false, false, false, false, false, false, false, false] rfl rfl (by kernel_rfl) (fun _ _ _ h => h) (Or.inl ⟨by rfl, ?_⟩) ?_ ?_
                        rotate_left
                        · intro w'
                          go_simp
                          with_reducible rfl
                        rotate_left
                        · simp only [Act.put, List.setIfInBounds_toArray, List.set_cons_zero, List.set_cons_succ]
                          rfl
                        refine pure_ (i := 9) (N := some 101) (v := ?_) (a' := ?_) #[true, true, true, true, true, true, true, true, true, true, false, false, false, false, false, false, false] rfl rfl (by kernel_rfl) (fun _ _ _ h => h) (Or.inl ⟨by rfl, ?_⟩) ?_ ?_
                        rotate_left
                        · intro w'
                          go_simp
                          with_reducible rfl
                        rotate_left
                        · simp only [Act.put, List.setIfInBounds_toArray, List.set_cons_zero, List.set_cons_succ]
                          rfl
                        refine pure_ (i := 10) (N := some 102) (v := ?_) (a' := ?_) #[true, true, true, true, true, true, true, true, true, true, true, false, false, false, false, false, false] rfl rfl (by kernel_rfl) (fun _ _ _ h => h) (Or.inl ⟨by rfl, ?_⟩) ?_ ?_
                        rotate_left
                        · intro w'
                          go_simp
                          with_reducible rfl
                        rotate_left
                        · simp only [Act.put, List.setIfInBounds_toArray, List.set_cons_zero, List.set_cons_succ]
                          rfl
                        refine pure_ (i := 11) (N := some 103) (v := ?_) (a' := ?_) #[true, true, true, true, true, true, true, true, true, true, true, true, false, false, false, false, false] rfl rfl (by kernel_rfl) (fun _ _ _ h => h) (Or.inl ⟨by rfl, ?_⟩) ?_ ?_
                        rotate_left
                        · intro w'
                          go_simp
                          with_reducible rfl
                        rotate_left
                        · simp only [Act.put, List.setIfInBounds_toArray, List.set_cons_zero, List.set_cons_succ]
                          rfl
                        refine take_ (i := 12) (N := some 104) (v := ?_) (a' := ?_) #[true, true, true, true, true, true, true, true, true, true, true, true, true, false, false, false, false] rfl rfl (by kernel_rfl) (fun _ _ _ h => h) (Or.inl ⟨by rfl, ?_⟩) hHeld ?_ ?_
                        rotate_left
                        · rintro w' ⟨s0, s1, s2, s3, s4, s5, s6⟩
                          go_simp
                          with_reducible rfl
                        rotate_left
                        · simp only [Act.put, List.setIfInBounds_toArray, List.set_cons_zero, List.set_cons_succ]
                          rfl
                        refine pure_ (i := 13) (N := some 105) (v := ?_) (a' := ?_) #[true, true, true, true, true, true, true, true, true, true, true, true, true, true, false, false, false] rfl rfl (by kernel_rfl) (fun _ _ _ h => h) (Or.inl ⟨by rfl, ?_⟩) ?_ ?_
                        rotate_left
                        · intro w'
                          go_simp
                          with_reducible rfl
                        rotate_left
                        · simp only [Act.put, List.setIfInBounds_toArray, List.set_cons_zero, List.set_cons_succ]
                          rfl
                        refine take_ (i := 14) (N := some 106) (v := ?_) (a' := ?_) #[true, true, true, true, true, true, true, true, true, true, true, true, true, true, true, false, false] rfl rfl (by kernel_rfl) (fun _ _ _ h => h) (Or.inl ⟨by rfl, ?_⟩) hHeld ?_ ?_
                        rotate_left
                        · rintro w' ⟨s0, s1, s2, s3, s4, s5, s6⟩
                          go_simp
                          with_reducible rfl
                        rotate_left
                        · simp only [Act.put, List.setIfInBounds_toArray, List.set_cons_zero, List.set_cons_succ]
                          rfl
                        refine pure_ (i := 15) (N := some 107) (v := ?_) (a' := ?_) #[true, true, true, true, true, true, true, true, true, true, true, true, true, true, true, true, false] rfl rfl (by kernel_rfl) (fun _ _ _ h => h) (Or.inl ⟨by rfl, ?_⟩) ?_ ?_
                        rotate_left
                        · intro w'
                          go_simp
                          with_reducible rfl
                        rotate_left
                        · simp only [Act.put, List.setIfInBounds_toArray, List.set_cons_zero, List.set_cons_succ]
                          rfl
                        refine pure_ (i := 16) (N := some 108) (v := ?_) (a' := ?_) #[true, true, true, true, true, true, true, true, true, true, true, true, true, true, true, true, true] rfl rfl (by kernel_rfl) (fun _ _ _ h => h) (Or.inl ⟨by rfl, ?_⟩) ?_ ?_
                        rotate_left
                        · intro w'
                          go_simp
                          with_reducible rfl
                        rotate_left
                        · simp only [Act.put, List.setIfInBounds_toArray, List.set_cons_zero, List.set_cons_succ]
                          rfl
                        refine done_ (by kernel_rfl) ?_
                        have HS5 := Aside0.mk ((HS1.out.then hD).then hS5)
                        have HR5 := Aside0.mk ((HR1.out.below hD).below hS5)
                        by_cases hy0 : 0 < y
                        · go_wp2
                          go_ret
                          exact ⟨HS5.out.m.below, .inr (.inr ⟨HK.out, fun hw => dup hw HREST.out HS5.out.i HY.out hy0, rfl⟩)⟩
                        · have hD5 := hD.size
                          obtain ⟨gl', ol', cl', hel, -, -, hatl⟩ := HR5.out.form (by rw [ints_len]; omega)
                          obtain ⟨gs', os', cs', hes, hgs, -, hats⟩ := HS5.out.row.form (by rw [ints_len, HS5.out.i.len]; omega)
                          injection hel with hel1 hel2 hel3
                          injection hel1 with hel1
                          injection hel1 with hel4 hel5
                          injection hes with hes1 hes2 hes3
                          injection hes1 with hes1
                          injection hes1 with hes4 hes5
                          subst hel4 hel5 hes4 hes5
                          have d0 := (hatl k).1 _ (ints_get HX.out)
                          have d1 := (hats m).1 _ (ints_get HY.out)
                          have d2 := (hats m).2
                          rw [Nat.zero_add] at d1 d2
                          have hyd : st1.getD m 0 = y := by rw [List.getD_eq_getElem?_getD, HY.out]; rfl
                          have hyn : 0 ≤ y := by rw [← hyd, HS5.out.i.cnt m hmn]; omega
                          obtain rfl : y = 0 := by omega
                          have hset := HS5.out.set (freeB_iff.1 HFR.out) (by rw [hyd]; omega)
                          rw [hyd, Nat.zero_add, List.append_assoc] at hset
                          have htk : l.take k ++ [(m : Int)] = l.take (k + 1) := by
                            rw [List.take_succ_eq_append_getElem hlt]
                            congr 2
                            exact ((List.getElem?_eq_some_iff.1 HX.out).2).symm
                          rw [htk] at hset
                          have HSET := Aside0.mk hset
                          have hkG : Keep (fun i => i = G) w5 (w5.setCell ⟨G, m, none⟩ (.int .i64 (0 + 1))) := (by repeat (first | (with_reducible exact Keep.refl _ _) | (with_reducible refine Keep.drewN ?_ _) | (with_reducible refine Keep.drew ?_) | (with_reducible refine Keep.setCell ?_ _ _ (by first | (right; with_reducible rfl) | (left; simp; done) | (left; simp; omega) | (right; simp; done) | (right; assumption))) | (with_reducible refine Keep.alloc ?_ _)))
                          have HR6 := Aside0.mk (HR5.out.keep hkG (fun i e hi => by subst e; exact HOK.out _ hi HS5.out.g0))
                          clear hatl hats hel2 hel3 hes2 hes3 hset hkG hyd htk
                          go_wp2
                          go_roundw
                          case rel => exact ⟨k + 1, by omega, by go_num, HR6, ⟨⟨_, HSET.out⟩⟩⟩
                          case measure => simp [intOf]; omega
                    · obtain rfl : k = l.length := by omega
                      have HS2 : Aside0 (LdE w w.heap.size G s base col (.slice AG s.gens.length cG) (.slice AA s.alive.length cA) (.slice AC s.caches.length cC) (.slice AF s.free.length cF) vs (preS s (p + 1)) wr) := ⟨⟨st1, by rw [preS_step HL.out]; have := HS1.out; rw [List.take_length] at this; exact this⟩⟩
                      clear HS1
                      go_wp2
                      go_roundw
                      case rel => exact ⟨p + 1, by omega, by go_num, HC', HS2⟩
                      case measure => simp [intOf]; omega
              · obtain rfl : p = s.caches.length + 1 := by omega
                have hnp : ¬ ((s.caches.length : Int) + 1 ≤ (s.caches.length : Int)) := by omega
                go_wp2_with fail
                have hS9 := HS'.out
                rw [preS_all] at hS9
                have HS9 := Aside0.mk hS9
                clear HS' HS hS9 x0 x1 x2 x3 x4
                go_loopw [10] (fun i wr => ∃ k : Nat, k ≤ s.gens.length ∧ i = .int .i64 k ∧ Aside0 (∀ j : Nat, j < k → freeB s j = true → st.getD j 0 ≠ 0) ∧ Aside0 (LdS w wr w.heap.size G s base col (.slice AG s.gens.length cG) (.slice AA s.alive.length cA) (.slice AC s.caches.length cC) (.slice AF s.free.length cF) vs (allS s) st)) (fun i _ => s.gens.length - (intOf i).toNat)
                case atStart => exact ⟨0, by omega, rfl, ⟨fun j hj => by omega⟩, HS9⟩
                case round =>
                  clear HS9
                  obtain ⟨k, hk, rfl, HF, HS9⟩ := hrel
                  obtain ⟨x0, x1, x2, x3, x4⟩ := cells5 HS9.out.m.b
                  by_cases hlt : k < s.gens.length
                  · have hFr := free_ref (L := s.limit) (k : Int) wr HS9.out.m.r HA.out
                    have hkl : (k : Int) < (s.gens.length : Int) := by omega
                    have hki : (0 : Int) ≤ (k : Int) := by omega
                    go_wp2_with fail
                    --MARK9
                    refine hFr.mono ?_
                    clear hFr x0 x1 x2 x3 x4
                    rintro e w5 ⟨rfl, hS5⟩
                    have HS5 := Aside0.mk (HS9.out.then hS5)
                    clear hS5 HS9
                    cases hfr : freeB s k with
                    | false =>
                      have HF' : Aside0 (∀ j : Nat, j < k + 1 → freeB s j = true → st.getD j 0 ≠ 0) := ⟨fun j hj hf => by
                        by_cases e : j = k
                        · subst e; rw [hfr] at hf; cases hf
                        · exact HF.out j (by omega) hf⟩
                      clear hfr
                      go_wp2
                      go_roundw
                      case rel => exact ⟨k + 1, by omega, by go_num, HF', HS5⟩
                      case measure => simp [intOf]; omega
                    | true =>
                      have HFR := Aside0.mk hfr
                      obtain ⟨y, hy⟩ : ∃ y, st[k]? = some y := ⟨_, List.getElem?_eq_getElem (by rw [HS5.out.i.len]; exact hlt)⟩
                      have hyd : st.getD k 0 = y := by rw [List.getD_eq_getElem?_getD, hy]; rfl
                      obtain ⟨gs, os, cs, hes, hgs, -, hats⟩ := HS5.out.row.form (by rw [ints_len, HS5.out.i.len]; omega)
                      injection hes with hes1 hes2 hes3
                      injection hes1 with hes1
                      injection hes1 with hes4 hes5
                      subst hes4 hes5
                      have hcy := (hats k).1 _ (ints_get hy)
                      rw [Nat.zero_add] at hcy
                      have HYD := Aside0.mk hyd
                      clear hats hes2 hes3 hy hfr hyd
                      by_cases hy0 : y = 0
                      · subst hy0
                        go_wp2
                        go_ret
                        exact ⟨HS5.out.m.below, .inr (.inr ⟨HK.out, fun hw => wf_last hw HS5.out.i hlt HFR.out HYD.out, rfl⟩)⟩
                      · have HF' : Aside0 (∀ j : Nat, j < k + 1 → freeB s j = true → st.getD j 0 ≠ 0) := ⟨fun j hj hf => by
                          by_cases e : j = k
                          · subst e; rw [HYD.out]; exact hy0
                          · exact HF.out j (by omega) hf⟩
                        go_wp2
                        go_roundw
                        case rel => exact ⟨k + 1, by omega, by go_num, HF', HS5⟩
                        case measure => simp [intOf]; omega
                  · obtain rfl : k = s.gens.length := by omega
                    go_wp2
                    go_ret
                    exact ⟨HS9.out.m.below, .inr (.inl ⟨HK.out, wf_of HK.out hg' HA.out HG.out (fun i l hl => HC.out i l (by have := (List.getElem?_eq_some_iff.1 hl).1; omega) hl) HS9.out.i HF.out, rfl⟩)⟩
      · go_wp2
        go_ret
        exact ⟨HM1.out.below, .inr (.inr ⟨HK.out, fun hw => ha hw.a, rfl⟩)⟩
  · have HK := Aside0.mk hk
    have HM1 := Aside0.mk (HM.out.then hB1)
    clear hk hB1 HM x0 x1 x2 x3 x4
    go_wp2
    go_ret
    exact ⟨below_then HM1.out.below (below_al (Below.refl _ _) _), .inl ⟨HK.out, rfl⟩⟩
end Go.Proofs.Ytnglgjegkjfnaaa
