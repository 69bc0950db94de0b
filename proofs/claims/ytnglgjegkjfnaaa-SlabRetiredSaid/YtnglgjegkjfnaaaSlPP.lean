import Derived.Test.YtnglgjegkjfnaaaSlJJ
set_option linter.unusedSimpArgs false
set_option linter.unusedVariables false
namespace Go.Proofs.Ytnglgjegkjfnaaa
open Go.RowKit Go.ChangeShapes Go.WideShapes Go.ChangeAt Go.Proofs.YtnglgjegkjfnaaaW.PrintWords Go.Proofs.YtnglgjegkjfnaaaW.PrintMore
/-! A state that is only read, whosever memory it is. -/
structure Rdf (w : World) (v : Value) (vals : List Value) : Prop where
  ex : ∃ A c, v = .slice A vals.length c ∧ vals.length ≤ c
  mx : vals.length ≤ 9223372036854775807
  at_ : 0 < vals.length → ∃ g o c, v = .slice (some ⟨g, o, none⟩) vals.length c ∧ g < w.heap.size ∧ ∀ j u, vals[j]? = some u → w.cell? ⟨g, o + j, none⟩ = some u
  one : ∀ u ∈ vals, u.oneCell' = true
section
variable {w w' : World} {base : Nat} {ok : Nat → Prop} {e : TypeId} {v vG vA vC vF : Value} {vals vs : List Value} {s : Sl} {col : Nat → Nat}
theorem Rdf.slice (h : Rdf w v vals) : ∃ A c, v = .slice A vals.length c ∧ vals.length ≤ c := h.ex
theorem Rdf.form (h : Rdf w v vals) (hn : 0 < vals.length) : ∃ g o c, v = .slice (some ⟨g, o, none⟩) vals.length c ∧ g < w.heap.size ∧ True ∧ ∀ i, (∀ u, vals[i]? = some u → w.cell? ⟨g, o + i, none⟩ = some u) ∧ True := by
  obtain ⟨g, o, c, he, hg, hat⟩ := h.at_ hn
  exact ⟨g, o, c, he, hg, trivial, fun i => ⟨fun u hu => hat i u hu, trivial⟩⟩
theorem Rdf.below (h : Rdf w v vals) (hB : Below w.heap.size w w') : Rdf w' v vals :=
  ⟨h.ex, h.mx, fun h0 => by
    obtain ⟨g, o, c, he, hg, hat⟩ := h.at_ h0
    exact ⟨g, o, c, he, Nat.lt_of_lt_of_le hg hB.size, fun j u hj => pw_cell_below hB (hat j u hj)⟩, h.one⟩
theorem Rdf.reads (h : Rdf w v vals) : Rdv w v vals := by
  obtain ⟨A, c, rfl, hc⟩ := h.ex
  refine ⟨A, vals.length, c, rfl, rfl, hc, h.mx, fun h0 => ?_, h.one⟩
  obtain ⟨g, o, c', he, hg, hat⟩ := h.at_ h0
  injection he with e1 _ _
  subst e1
  exact ⟨_, rfl, fun j u hj => by rw [adds]; exact hat j u hj⟩
theorem Row.rdf (h : Row w base ok e v vals) : Rdf w v vals :=
  ⟨h.slice, q_max h.row, fun h0 => by
    obtain ⟨g, o, c, he, hg, _, hat⟩ := h.form h0
    exact ⟨g, o, c, he, hg, fun j u hj => (hat j).1 u hj⟩, h.one⟩
/-- A state, read. -/
structure SlR (w : World) (s : Sl) (vG vA vC vF : Value) (vs : List Value) : Prop where
  g : Rdf w vG (ints s.gens)
  a : Rdf w vA (bools s.alive)
  c : Rdf w vC vs
  f : Rdf w vF (ints s.free)
  l : vs.length = s.caches.length
  v : ∀ (i : Nat) (x : List Int), s.caches[i]? = some x → ∃ v, vs[i]? = some v ∧ Rdf w v (ints x)
theorem SlR.below (h : SlR w s vG vA vC vF vs) (hB : Below w.heap.size w w') : SlR w' s vG vA vC vF vs :=
  ⟨h.g.below hB, h.a.below hB, h.c.below hB, h.f.below hB, h.l, fun i x hx => by
    obtain ⟨v, hv, hr⟩ := h.v i x hx
    exact ⟨v, hv, hr.below hB⟩⟩
theorem SlV.rd (h : SlV w base col s vG vA vC vF vs) : SlR w s vG vA vC vF vs :=
  ⟨h.g.rdf, h.a.rdf, h.c.rdf, h.f.rdf, h.l, fun i x hx => by
    obtain ⟨v, hv, hr⟩ := h.v i x hx
    exact ⟨v, hv, hr.rdf⟩⟩
/-- The lists, one behind the other. -/
theorem SlR.list (h : SlR w s vG vA vC vF vs) {p : Nat} {l : List Int} (hl : (listsS s)[p]? = some l) : ∃ v, (vs ++ [vF])[p]? = some v ∧ Rdf w v (ints l) := by
  unfold listsS at hl
  by_cases hp : p < s.caches.length
  · rw [List.getElem?_append_left hp] at hl
    obtain ⟨v, hv, hr⟩ := h.v p l hl
    exact ⟨v, by rw [List.getElem?_append_left (by rw [h.l]; exact hp)]; exact hv, hr⟩
  · rw [List.getElem?_append_right (by omega)] at hl
    have hp0 : p - s.caches.length = 0 := by
      have := (List.getElem?_eq_some_iff.1 hl).1
      simp at this
      omega
    rw [hp0] at hl
    obtain rfl : s.free = l := by simpa using hl
    exact ⟨vF, by rw [List.getElem?_append_right (by rw [h.l]; omega), h.l, hp0]; rfl, h.f⟩
end
end Go.Proofs.Ytnglgjegkjfnaaa
set_option linter.unusedSimpArgs false
set_option linter.unusedVariables false
namespace Go.Proofs.Ytnglgjegkjfnaaa
open Go.RowKit Go.ChangeShapes Go.WideShapes Go.ChangeAt Go.Proofs.YtnglgjegkjfnaaaW.PrintWords Go.Proofs.YtnglgjegkjfnaaaW.PrintMore
/-! slices.Contains at bools, as slab.Load asks it. -/
set_option maxHeartbeats 1000000 in
theorem index_bool {w : World} {base : Nat} {ok : Nat → Prop} {v : Value} {xs : List Bool} (b : Bool) (h : Row w base ok 4 v (bools xs)) (hb : xs.length ≤ 140737488355328) : Calls Try.prog 51 #[v, .bool b] w fun e w' => w = w' ∧ ∃ r : Int, e = .returned (.int .i64 r) ∧ decide (0 ≤ r) = decide (b ∈ xs) := by
  obtain ⟨X, c, hv, hc⟩ := h.slice
  rw [bools_len] at hv hc
  subst hv
  have HR := Aside0.mk h
  clear h
  go_enter Try.func51, Try.ntmps51
  go_wp2_with fail
  go_loopw [8] (fun i wr => ∃ k : Nat, k ≤ xs.length ∧ i = .int .i64 k ∧ Aside0 (∀ j, j < k → xs[j]? ≠ some b) ∧ Aside0 (wr = w)) (fun i _ => xs.length - (intOf i).toNat)
  case atStart => exact ⟨0, by omega, rfl, ⟨fun j hj => by omega⟩, ⟨by trivial⟩⟩
  case round =>
    obtain ⟨k, hk, rfl, HN, HE⟩ := hrel
    obtain rfl := HE.out
    by_cases hlt : k < xs.length
    · obtain ⟨g, o, c1, he, hg, -, hat⟩ := HR.out.form (by rw [bools_len]; omega)
      injection he with he1 he2 he3
      subst he1
      obtain ⟨x, hx⟩ : ∃ x, xs[k]? = some x := ⟨_, List.getElem?_eq_getElem hlt⟩
      have hcell := (hat k).1 _ (bools_get hx)
      have HX := Aside0.mk hx
      clear hat he2 he3 hx HE
      by_cases hxb : b = x
      · subst hxb
        have hbq : (b == b) = true := by cases b <;> rfl
        go_wp2
        go_ret
        exact ⟨rfl, k, rfl, by have := List.mem_of_getElem? HX.out; simp [this]⟩
      · have hbq : (b == x) = false := by cases b <;> cases x <;> simp_all
        have HN' : Aside0 (∀ j, j < k + 1 → xs[j]? ≠ some b) := ⟨fun j hj => by
          by_cases e : j = k
          · subst e; rw [HX.out]; intro h; injection h with h; exact hxb h.symm
          · exact HN.out j (by omega)⟩
        go_wp2
        go_roundw
        case rel => exact ⟨k + 1, by omega, by go_num, HN', ⟨by trivial⟩⟩
        case measure => simp [intOf]; omega
    · obtain rfl : k = xs.length := by omega
      clear HE
      go_wp2
      go_ret
      refine ⟨rfl, -1, rfl, ?_⟩
      have : b ∉ xs := fun hm => by
        obtain ⟨j, hj, hjb⟩ := List.getElem_of_mem hm
        exact HN.out j hj (by rw [List.getElem?_eq_getElem hj, hjb])
      simp [this]
theorem contains_bool {w : World} {base : Nat} {ok : Nat → Prop} {v : Value} {xs : List Bool} (b : Bool) (h : Row w base ok 4 v (bools xs)) (hb : xs.length ≤ 140737488355328) : Calls Try.prog 44 #[v, .bool b] w fun e w' => e = .returned (.bool (decide (b ∈ xs))) ∧ w = w' := by
  have hI := index_bool b h hb
  clear h
  go_enter Try.func44, Try.ntmps44
  go_wp2_with fail
  refine hI.mono ?_
  clear hI
  rintro e w1 ⟨rfl, r, rfl, hr⟩
  have HR := Aside0.mk hr
  clear hr
  go_wp2
  go_ret
  exact ⟨by rw [← HR.out]; rfl, rfl⟩
end Go.Proofs.Ytnglgjegkjfnaaa
set_option linter.unusedSimpArgs false
set_option linter.unusedVariables false
namespace Go.Proofs.Ytnglgjegkjfnaaa
open Go.RowKit Go.ChangeShapes Go.WideShapes Go.ChangeAt Go.Proofs.YtnglgjegkjfnaaaW.PrintWords Go.Proofs.YtnglgjegkjfnaaaW.PrintMore
/-! slices.ContainsFunc with slab.Load's own test. -/
theorem long_any (X : Option Addr) (n c : Nat) (w : World) : Calls Try.prog 46 #[.slice X n c] w fun e w' => e = .returned (.bool (decide (64 ≤ n))) ∧ w = w' := by
  go_enter Try.func46, Try.ntmps46
  go_wp2
  go_ret
  simp
  omega
theorem indexf_any {w : World} {vG vA vC vF : Value} {vs : List Value} {s : Sl} (h : SlR w s vG vA vC vF vs) (hb : s.caches.length ≤ 140737488355328) : Calls Try.prog 52 #[vC, .func (.func 46) #[] #[]] w fun e w' => w = w' ∧ ∃ r : Int, e = .returned (.int .i64 r) ∧ (0 ≤ r ↔ ∃ x ∈ s.caches, 64 ≤ x.length) := by
  obtain ⟨X, c, hv, hc⟩ := h.c.slice
  rw [h.l] at hv hc
  subst hv
  have HR := Aside0.mk h
  clear h
  go_enter Try.func52, Try.ntmps52
  go_wp2_with fail
  go_loopw [8] (fun i wr => ∃ k : Nat, k ≤ s.caches.length ∧ i = .int .i64 k ∧ Aside0 (∀ j x, j < k → s.caches[j]? = some x → x.length < 64) ∧ Aside0 (wr = w)) (fun i _ => s.caches.length - (intOf i).toNat)
  case atStart => exact ⟨0, by omega, rfl, ⟨fun j x hj => by omega⟩, ⟨by trivial⟩⟩
  case round =>
    obtain ⟨k, hk, rfl, HN, HE⟩ := hrel
    obtain rfl := HE.out
    by_cases hlt : k < s.caches.length
    · obtain ⟨g, o, c1, he, hg, -, hat⟩ := HR.out.c.form (by have := HR.out.l; omega)
      injection he with he1 he2 he3
      subst he1
      obtain ⟨x, hx⟩ : ∃ x, s.caches[k]? = some x := ⟨_, List.getElem?_eq_getElem hlt⟩
      obtain ⟨v, hv, hrow⟩ := HR.out.v k x hx
      obtain ⟨X1, c1, rfl, -⟩ := hrow.slice
      have hcell := (hat k).1 _ hv
      rw [ints_len] at hcell
      have HX := Aside0.mk hx
      have hL := long_any X1 x.length c1 wr
      have hki : (0 : Int) ≤ (k : Int) := by omega
      have hkl : (k : Int) < (s.caches.length : Int) := by omega
      clear hat he2 he3 hx HE hv hrow
      go_wp2_with fail
      refine hL.mono ?_
      clear hL
      rintro e w1 ⟨rfl, rfl⟩
      by_cases hxb : 64 ≤ x.length
      · rw [decide_eq_true hxb]
        go_wp2
        go_ret
        exact ⟨rfl, k, rfl, by simp; exact ⟨x, List.mem_of_getElem? HX.out, hxb⟩⟩
      · rw [decide_eq_false hxb]
        have HN' : Aside0 (∀ j x, j < k + 1 → s.caches[j]? = some x → x.length < 64) := ⟨fun j y hj hy => by
          by_cases e : j = k
          · subst e; rw [HX.out] at hy; injection hy with hy; subst hy; omega
          · exact HN.out j y (by omega) hy⟩
        go_wp2
        go_roundw
        case rel => exact ⟨k + 1, by omega, by go_num, HN', ⟨by trivial⟩⟩
        case measure => simp [intOf]; omega
    · obtain rfl : k = s.caches.length := by omega
      clear HE
      go_wp2
      go_ret
      refine ⟨rfl, -1, rfl, ?_⟩
      constructor
      · intro h; omega
      · rintro ⟨x, hm, hx⟩
        obtain ⟨j, hj, rfl⟩ := List.getElem_of_mem hm
        have := HN.out j _ hj (List.getElem?_eq_getElem hj)
        omega
theorem containsf_any {w : World} {vG vA vC vF : Value} {vs : List Value} {s : Sl} (h : SlR w s vG vA vC vF vs) (hb : s.caches.length ≤ 140737488355328) : Calls Try.prog 45 #[vC, .func (.func 46) #[] #[]] w fun e w' => w = w' ∧ ∃ r : Bool, e = .returned (.bool r) ∧ (r = true ↔ ∃ x ∈ s.caches, 64 ≤ x.length) := by
  have hI := indexf_any h hb
  obtain ⟨X, c, rfl, hc⟩ := h.c.slice
  clear h
  go_enter Try.func45, Try.ntmps45
  go_wp2_with fail
  refine hI.mono ?_
  clear hI
  rintro e w1 ⟨rfl, r, rfl, hr⟩
  have HR := Aside0.mk hr
  clear hr
  go_wp2
  go_ret
  exact ⟨rfl, decide (0 ≤ r), rfl, by rw [← HR.out]; simp⟩
end Go.Proofs.Ytnglgjegkjfnaaa
set_option linter.unusedSimpArgs false
set_option linter.unusedVariables false
namespace Go.Proofs.Ytnglgjegkjfnaaa
open Go.RowKit Go.ChangeShapes Go.WideShapes Go.ChangeAt Go.Proofs.YtnglgjegkjfnaaaW.PrintWords Go.Proofs.YtnglgjegkjfnaaaW.PrintMore Go.Proofs.YtnglgjegkjfnaaaW.PrintLast
/-! A state as a parameter: boxed; a state stored into its box. -/
section
variable {w w1 w' : World} {base b : Nat} {col : Nat → Nat} {s : Sl} {vG vA vC vF : Value} {vs : List Value}
theorem SlV.recol {col' : Nat → Nat} (h : SlV w base col s vG vA vC vF vs) (hc : ∀ k, k < w.heap.size → col k ≠ 0 → col' k = col k) (hz : ∀ k, w.heap.size ≤ k → col' k = 0) (hb : ∀ k, col' k ≠ 0 → base ≤ k) : SlV w base col' s vG vA vC vF vs :=
  ⟨h.g.mono fun k hl ho => by rw [hc k hl (by rw [ho]; decide)]; exact ho, h.a.mono fun k hl ho => by rw [hc k hl (by rw [ho]; decide)]; exact ho, h.c.mono fun k hl ho => by rw [hc k hl (by rw [ho]; decide)]; exact ho, h.f.mono fun k hl ho => by rw [hc k hl (by rw [ho]; decide)]; exact ho, h.l,
   fun i x hx => by obtain ⟨v, hv, hr⟩ := h.v i x hx; exact ⟨v, hv, hr.mono fun k hl ho => by rw [hc k hl (by rw [ho]; omega)]; exact ho⟩, hz, hb⟩
theorem SlV.box (h : SlV w base col s vG vA vC vF vs) (hb : base ≤ w.heap.size) : ∃ col', SlB TT (w.alloc (.cells #[.int .i64 s.limit, vG, vA, vC, vF] TT)) base w.heap.size col' s vG vA vC vF vs ∧ Nx w col (w.alloc (.cells #[.int .i64 s.limit, vG, vA, vC, vF] TT)) col' := by
  have hB : Below w.heap.size w (w.alloc (.cells #[.int .i64 s.limit, vG, vA, vC, vF] TT)) := below_al (Below.refl _ _) _
  have hs : (w.alloc (.cells #[.int .i64 s.limit, vG, vA, vC, vF] TT)).heap.size = w.heap.size + 1 := by simp
  refine ⟨paint col 1 w.heap.size (w.heap.size + 1), ⟨(h.below hB).recol (fun k _ hk => ?_) (fun k hk => ?_) (fun k hk => ?_), blk_new _ _, paint_new (Nat.le_refl _) (by omega)⟩, ⟨Keep.of_below hB, fun k hk => paint_old hk⟩⟩
  · have : ¬ w.heap.size ≤ k := fun hl => hk (h.z k hl)
    exact paint_old (by omega)
  · rw [paint_far (by omega)]; exact h.z k (by omega)
  · by_cases hk' : k < w.heap.size
    · rw [paint_old hk'] at hk; exact h.b k hk
    · omega
/-- A state of one's own is stored into a box. -/
theorem SlV.into {a0 a1 a2 a3 a4 : Value} (h : SlV w base col s vG vA vC vF vs) (hblk : w.heap[b]? = some (.cells #[a0, a1, a2, a3, a4] TT (0, 0))) (hb : base ≤ b) (hz : col b = 0) :
    ∃ col', SlB TT (((((w.setCell ⟨b, 0, none⟩ (.int .i64 s.limit)).setCell ⟨b, 1, none⟩ vG).setCell ⟨b, 2, none⟩ vA).setCell ⟨b, 3, none⟩ vC).setCell ⟨b, 4, none⟩ vF) base b col' s vG vA vC vF vs ∧ ∀ k, k ≠ b → col' k = col k := by
  have hK0 : Keep (fun k => k = b) w (((((w.setCell ⟨b, 0, none⟩ (.int .i64 s.limit)).setCell ⟨b, 1, none⟩ vG).setCell ⟨b, 2, none⟩ vA).setCell ⟨b, 3, none⟩ vC).setCell ⟨b, 4, none⟩ vF) := set5_keep _ _ _ _ _ _ _
  have h5 := blk_set5 (u0 := .int .i64 s.limit) (u1 := vG) (u2 := vA) (u3 := vC) (u4 := vF) hblk
  have hl := lt_blk h5
  refine ⟨fun k => if k = b then 1 else col k, ⟨(h.keep hK0 (fun k e => by subst e; omega)).recol (fun k _ hk => ?_) (fun k hk => ?_) (fun k hk => ?_), h5, if_pos rfl⟩, fun k hk => if_neg hk⟩
  · have : k ≠ b := fun e => by subst e; exact hk hz
    exact if_neg this
  · show (if k = b then 1 else col k) = 0
    rw [if_neg (by omega)]
    exact h.z k (by have := hl; have := lt_blk hblk; simp [World.setCell] at hk; omega)
  · by_cases e : k = b
    · omega
    · have : col k ≠ 0 := by simpa [e] using hk
      exact h.b k this
theorem SlB.lower {T : TypeId} {base' : Nat} (h : SlB T w base b col s vG vA vC vF vs) (hb : base' ≤ base) : SlB T w base' b col s vG vA vC vF vs := ⟨h.r.lower hb, h.blk, h.one⟩
/-- The rows behind a box. -/
theorem Nx.new_old {c c1 : Nat → Nat} (h : Nx w c w1 c1) : ∀ k, c1 k ≠ 0 → c k ≠ 0 ∨ w.heap.size ≤ k := fun k hk => by
  rcases Nat.lt_or_ge k w.heap.size with hl | hl
  · exact .inl (by rw [← h.cols k hl]; exact hk)
  · exact .inr hl
end
end Go.Proofs.Ytnglgjegkjfnaaa
set_option linter.unusedSimpArgs false
set_option linter.unusedVariables false
namespace Go.Proofs.Ytnglgjegkjfnaaa
open Go.RowKit Go.ChangeShapes Go.WideShapes Go.ChangeAt Go.Proofs.YtnglgjegkjfnaaaW.PrintWords Go.Proofs.YtnglgjegkjfnaaaW.PrintMore
/-! slab.Load: what its marks tell. -/

set_option maxHeartbeats 1000000 in
theorem cloneL (v : Value) (vals : List Value) (w : World) (h : Rdv w v vals) (hm : vals.length * 24 ≤ 140737488355328) :
    Calls Try.prog 43 #[v] w fun e w' => ∃ v', e = .returned v' ∧ Row w' w.heap.size (fun _ => True) 26 v' vals ∧ Below w.heap.size w w' := by
  obtain ⟨A0, n, c, rfl, hl, hc, hx, hcell, h1⟩ := h
  have qnil : ∀ (w : World) (a : Option Addr) (n c n' c' : Nat), (binOp .eql 28 (.slice a n c) (.slice none n' c')).run Try.prog w = .ok (.bool a.isNone) w := fun w a n c n' c' => Lib.run_eql_slice_nil w _ _ a n c n' c' Try.underlying28
  cases A0 with
  | none =>
    obtain rfl : vals = [] := by
      rcases Nat.eq_zero_or_pos n with h0 | h0
      · subst h0; exact List.eq_nil_of_length_eq_zero hl
      · obtain ⟨ad, he, _⟩ := hcell h0
        cases he
    go_enter Try.func43, Try.ntmps43
    go_wp2
    go_ret
    exact ⟨_, rfl, Row.nil _ _ _ _, Below.refl _ _⟩
  | some ad =>
    have hB : Below w.heap.size w (w.alloc (.cells #[] 26)) := below_al (Below.refl _ _) _
    have hcw : 0 < n → ∃ ad', some ad = some ad' ∧ ∀ j u, vals[j]? = some u → (w.alloc (.cells #[] 26)).cell? (ad'.add j) = some u := fun h0 => by
      obtain ⟨ad', he, hat⟩ := hcell h0
      exact ⟨ad', he, fun j u hj => pw_cell_below hB (hat j u hj)⟩
    obtain ⟨v1, w1, hr, hrow, hg⟩ := row_append (P := Try.prog) (t := 28) Try.underlying28 infoSl rfl (by omega) (Row.empty w 26) (some ad) n c vals hl hcw h1 (by rw [← hl]; simpa using hm) (by simp)
    have HR := Aside0.mk hrow
    have hb1 : Below w.heap.size (w.alloc (.cells #[] 26)) w1 := (Below.refl w.heap.size (w.alloc (.cells #[] 26))).grown hg (by simp) (fun k hk => by simp [Value.ownBlock] at hk; omega)
    have HB := Aside0.mk (hB.trans hb1)
    clear hrow hg hcell hcw hb1 hB
    go_enter Try.func43, Try.ntmps43
    go_wp2_with (first | ((with_reducible refine gate_builtin (b := .append) (xs := #[.tmp 5, .tmp 6]) rfl ?_); at_builtin; refine appL_ rfl (.tmp 5) (.tmp 6) 28 rfl rfl rfl hr ?_))
    go_ret
    exact ⟨v1, rfl, HR.out.mono (fun _ _ _ => trivial), HB.out⟩

theorem Row.own_of {w : World} {base : Nat} {ok ok' : Nat → Prop} {e : TypeId} {v : Value} {vals : List Value} (h : Row w base ok e v vals) (ho : ∀ k, v.ownBlock = some k → ok' k) : Row w base ok' e v vals := ⟨ho, h.row, h.one⟩
/-- The caches while they are filled. -/
def fillC (s : Sl) (p : Nat) : List (List Int) := s.caches.take p ++ List.replicate (s.caches.length - p) []
theorem fillC_len (s : Sl) (p : Nat) (hp : p ≤ s.caches.length) : (fillC s p).length = s.caches.length := by simp [fillC]; omega
theorem fillC_set {s : Sl} {p : Nat} {c : List Int} (h : s.caches[p]? = some c) : (fillC s p).set p c = fillC s (p + 1) := by
  have hp : p < s.caches.length := (List.getElem?_eq_some_iff.1 h).1
  have h1 : (s.caches.take p).length = p := by rw [List.length_take]; omega
  unfold fillC
  rw [List.take_add_one, h, List.set_append_right _ _ (by omega), h1, Nat.sub_self, show s.caches.length - p = (s.caches.length - (p + 1)) + 1 by omega, List.replicate_succ]
  simp
theorem fillC_end (s : Sl) : fillC s s.caches.length = s.caches := by simp [fillC]
def LbS (W wr : World) (b : Nat) (s : Sl) (p : Nat) : Prop := ∃ vG vA vC vF vs col, SlB TS wr W.heap.size b col ⟨s.limit, s.gens, s.alive, fillC s p, s.free⟩ vG vA vC vF vs ∧ Below W.heap.size W wr ∧ ∀ k, k < W.heap.size → col k = 0
structure LbI (s : Sl) (L : List Int) (st : List Bool) : Prop where
  len : st.length = s.gens.length
  mrk : ∀ x : Nat, x < s.gens.length → (st.getD x false = true ↔ aliveAt s x = true ∨ genAt s x = 2147483647 ∨ (x : Int) ∈ L)
  fr : ∀ y ∈ L, FreeAt s y
  nd : L.Nodup
theorem LbI.step {s : Sl} {L : List Int} {st : List Bool} {m : Nat} (h : LbI s L st) (hm : m < s.gens.length) (h0 : st.getD m false = false) (hg : genAt s m ≤ 2147483647) : LbI s (L ++ [(m : Int)]) (st.set m true) := by
  have hk := h.mrk m hm
  rw [h0] at hk
  have hn : ¬ (aliveAt s m = true ∨ genAt s m = 2147483647 ∨ (m : Int) ∈ L) := fun hh => by have := hk.2 hh; cases this
  have hnm : (m : Int) ∉ L := fun hh => hn (.inr (.inr hh))
  have hal : aliveAt s m = false := by cases ha : aliveAt s m with | false => rfl | true => exact absurd (.inl ha) hn
  have hne : genAt s m ≠ 2147483647 := fun hh => hn (.inr (.inl hh))
  refine ⟨by rw [List.length_set]; exact h.len, fun x hx => ?_, fun y hy => ?_, List.nodup_append.2 ⟨h.nd, by simp, fun a ha b hb => by rw [List.mem_singleton.1 hb]; rintro rfl; exact hnm ha⟩⟩
  · by_cases e : m = x
    · subst e
      rw [getD_set_self (by rw [h.len]; exact hm)]
      simp
    · rw [getD_set_ne e, h.mrk x hx]
      have : ¬ (x : Int) = (m : Int) := by omega
      simp [this]
  · rcases List.mem_append.1 hy with hy | hy
    · exact h.fr y hy
    · rw [List.mem_singleton.1 hy]
      exact ⟨by omega, by omega, by rw [Int.toNat_natCast]; exact hal, by rw [Int.toNat_natCast]; omega⟩
theorem lb_dup {s : Sl} {L rest : List Int} {st : List Bool} {m : Nat} (hW : Wf s) (hr : allS s = L ++ (m : Int) :: rest) (h : LbI s L st) (hm : m < s.gens.length) (hy : st.getD m false = true) : False := by
  have hmem : (m : Int) ∈ allS s := by rw [hr]; simp
  obtain ⟨-, -, h1, h2⟩ := (hW.fr _ hmem).1
  rw [Int.toNat_natCast] at h1 h2
  rcases (h.mrk m hm).1 hy with h3 | h3 | h3
  · rw [h1] at h3; cases h3
  · omega
  · have hn := hW.nd
    rw [hr] at hn
    exact (List.nodup_append.1 hn).2.2 _ h3 _ (by simp) rfl
theorem lb_out {s : Sl} {L rest : List Int} {x : Int} (hW : Wf s) (hr : allS s = L ++ x :: rest) (hx : x < 0 ∨ (s.gens.length : Int) ≤ x) : False := by
  have hmem : x ∈ allS s := by rw [hr]; simp
  obtain ⟨h1, h2, -, -⟩ := (hW.fr _ hmem).1
  omega
theorem lb_none {s : Sl} {st : List Bool} (hW : Wf s) (h : LbI s (allS s) st) (hf : false ∈ st) : False := by
  obtain ⟨i, hi, he⟩ := List.getElem_of_mem hf
  have hi' : i < s.gens.length := by rw [← h.len]; exact hi
  have hk := h.mrk i hi'
  have hg : st.getD i false = false := by rw [List.getD_eq_getElem?_getD, List.getElem?_eq_getElem hi, he]; rfl
  rw [hg] at hk
  have hn : ¬ (aliveAt s i = true ∨ genAt s i = 2147483647 ∨ (i : Int) ∈ allS s) := fun hh => by have := hk.2 hh; cases this
  have hal : aliveAt s i = false := by cases ha : aliveAt s i with | false => rfl | true => exact absurd (.inl ha) hn
  have hgm := (hW.gm i hi').2
  rcases hW.al i hi' hal (by have : genAt s i ≠ 2147483647 := fun hh => hn (.inr (.inl hh)); omega) with h3 | h3
  · exact hn (.inr (.inr h3))
  · exact h3
theorem lb_wf {s : Sl} {st : List Bool} (hk : okNew s.limit s.caches.length = true) (hg : (s.gens.length : Int) ≤ s.limit) (ha : s.alive.length = s.gens.length) (hgen : ∀ j, j < s.gens.length → 1 ≤ genAt s j ∧ genAt s j ≤ 2147483647) (hc : ¬ ∃ x ∈ s.caches, 64 ≤ x.length) (h : LbI s (allS s) st) (hf : false ∉ st) : Wf s := by
  obtain ⟨h0, h1, h2, h3⟩ := okNew_iff.1 hk
  refine ⟨h0, h1, by omega, by omega, hg, ha, fun c hcm => by have : ¬ 64 ≤ c.length := fun hh => hc ⟨c, hcm, hh⟩; omega, fun i hi _ => (hgen i hi).1, fun i hi => ⟨by have := (hgen i hi).1; omega, (hgen i hi).2⟩, h.nd, fun x hx => ⟨h.fr x hx, fun f => f⟩, fun i hi hd hm => .inl ?_⟩
  have ht : st.getD i false = true := by
    have hi' : i < st.length := by rw [h.len]; exact hi
    rw [List.getD_eq_getElem?_getD, List.getElem?_eq_getElem hi']
    cases hb : st[i] with
    | true => rfl
    | false => exact absurd (hb ▸ List.getElem_mem hi') hf
  rcases (h.mrk i hi).1 ht with h4 | h4 | h4
  · rw [hd] at h4; cases h4
  · omega
  · exact h4
theorem lb_start {s : Sl} {st : List Bool} (hl : st.length = s.gens.length) (h : ∀ x : Nat, x < s.gens.length → st.getD x false = (aliveAt s x || decide (genAt s x = 2147483647))) : LbI s (preS s 0) st :=
  ⟨hl, fun x hx => by rw [h x hx]; simp [preS], fun y hy => by simp [preS] at hy, by simp [preS]⟩
/-- The marks, in block G. -/
structure LbW (w1 wr : World) (G : Nat) (n : Nat) (st : List Bool) : Prop where
  below : Below w1.heap.size w1 wr
  row : Row wr w1.heap.size (fun k => k = G) 4 (.slice (some ⟨G, 0, none⟩) n n) (bools st)
  len : st.length = n
section
variable {w1 wr w' : World} {G n m : Nat} {st : List Bool}
theorem LbW.then (h : LbW w1 wr G n st) (hB : Below wr.heap.size wr w') : LbW w1 w' G n st := ⟨below_then h.below hB, h.row.below hB, h.len⟩
theorem LbW.gw (h : LbW w1 wr G n st) : w1.heap.size ≤ G ∧ G < wr.heap.size := ⟨h.row.base_le G (by simp [Value.ownBlock]), h.row.lt G (by simp [Value.ownBlock])⟩
theorem LbW.set (h : LbW w1 wr G n st) (hm : m < n) (b : Bool) : LbW w1 (wr.setCell ⟨G, m, none⟩ (.bool b)) G n (st.set m b) := by
  have hk : Keep (fun i => i = G) wr (wr.setCell ⟨G, m, none⟩ (.bool b)) := (by repeat (first | (with_reducible exact Keep.refl _ _) | (with_reducible refine Keep.drewN ?_ _) | (with_reducible refine Keep.drew ?_) | (with_reducible refine Keep.setCell ?_ _ _ (by first | (right; with_reducible rfl) | (left; simp; done) | (left; simp; omega) | (right; simp; done) | (right; assumption))) | (with_reducible refine Keep.alloc ?_ _)))
  have hr := h.row.set (i := m) (u := .bool b) (by rw [bools_len, h.len]; exact hm) rfl
  rw [← bools_set, Nat.zero_add] at hr
  exact ⟨below_then_keep h.below h.below.size hk (fun i e => by have := h.gw; omega), hr, by rw [List.length_set]; exact h.len⟩
theorem LbW.cell (h : LbW w1 wr G n st) (hm : m < n) : ∃ b, st.getD m false = b ∧ wr.cell? ⟨G, m, none⟩ = some (.bool b) ∧ wr.frozen? ⟨G, m, none⟩ = false := by
  obtain ⟨g, o, c, he, hg, -, hat⟩ := h.row.form (by rw [bools_len, h.len]; omega)
  injection he with e1 e2 e3
  injection e1 with e1
  injection e1 with e4 e5
  subst e4
  subst e5
  have hm' : m < st.length := by rw [h.len]; exact hm
  refine ⟨st[m], by rw [List.getD_eq_getElem?_getD, List.getElem?_eq_getElem hm']; rfl, ?_, ?_⟩
  · have := (hat m).1 _ (bools_get (List.getElem?_eq_getElem hm'))
    rwa [Nat.zero_add] at this
  · have := (hat m).2
    rwa [Nat.zero_add] at this
end
end Go.Proofs.Ytnglgjegkjfnaaa
