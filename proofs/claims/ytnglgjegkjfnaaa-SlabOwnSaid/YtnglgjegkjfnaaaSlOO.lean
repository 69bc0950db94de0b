import Derived.Test.YtnglgjegkjfnaaaSlRd
import Derived.Deep.DrawnRows
import Derived.Deep.DeepCutAuto
set_option linter.unusedSimpArgs false
set_option linter.unusedVariables false
namespace Go.Proofs.Ytnglgjegkjfnaaa
open Go.RowKit Go.ChangeShapes Go.WideShapes Go.ChangeAt Go.Proofs.YtnglgjegkjfnaaaW.PrintWords Go.Proofs.YtnglgjegkjfnaaaW.PrintMore
/-! slices.Contains at bools, as slab.Load asks it. -/
set_option maxHeartbeats 1000000 in
theorem index_bool {w : World} {base : Nat} {ok : Nat → Prop} {v : Value} {xs : List Bool} (b : Bool) (h : Row w base ok 4 v (bools xs)) (hb : xs.length ≤ 140737488355328) : Calls Try.prog 51 #[v, .bool b] w fun e w' => w = w' ∧ ∃ r : Int, e = .returned (.int .i64 r) ∧ decide (0 ≤ r) = decide (b ∈ xs) := by
  obtain ⟨X, c, hv, hc⟩ := h.slice
  rw [bools_len] at hv hc
  subst hv
  have HR := Aside0.mk h
  clear h
  go_enter Try.func51, Try.ntmps51
  go_wp2_with fail
  go_loopw [8] (fun i wr => ∃ k : Nat, k ≤ xs.length ∧ i = .int .i64 k ∧ Aside0 (∀ j, j < k → xs[j]? ≠ some b) ∧ Aside0 (wr = w)) (fun i _ => xs.length - (intOf i).toNat)
  case atStart => exact ⟨0, by omega, rfl, ⟨fun j hj => by omega⟩, ⟨by trivial⟩⟩
  case round =>
    obtain ⟨k, hk, rfl, HN, HE⟩ := hrel
    obtain rfl := HE.out
    by_cases hlt : k < xs.length
    · obtain ⟨g, o, c1, he, hg, -, hat⟩ := HR.out.form (by rw [bools_len]; omega)
      injection he with he1 he2 he3
      subst he1
      obtain ⟨x, hx⟩ : ∃ x, xs[k]? = some x := ⟨_, List.getElem?_eq_getElem hlt⟩
      have hcell := (hat k).1 _ (bools_get hx)
      have HX := Aside0.mk hx
      clear hat he2 he3 hx HE
      by_cases hxb : b = x
      · subst hxb
        have hbq : (b == b) = true := by cases b <;> rfl
        go_wp2
        go_ret
        exact ⟨rfl, k, rfl, by have := List.mem_of_getElem? HX.out; simp [this]⟩
      · have hbq : (b == x) = false := by cases b <;> cases x <;> simp_all
        have HN' : Aside0 (∀ j, j < k + 1 → xs[j]? ≠ some b) := ⟨fun j hj => by
          by_cases e : j = k
          · subst e; rw [HX.out]; intro h; injection h with h; exact hxb h.symm
          · exact HN.out j (by omega)⟩
        go_wp2
        go_roundw
        case rel => exact ⟨k + 1, by omega, by go_num, HN', ⟨by trivial⟩⟩
        case measure => simp [intOf]; omega
    · obtain rfl : k = xs.length := by omega
      clear HE
      go_wp2
      go_ret
      refine ⟨rfl, -1, rfl, ?_⟩
      have : b ∉ xs := fun hm => by
        obtain ⟨j, hj, hjb⟩ := List.getElem_of_mem hm
        exact HN.out j hj (by rw [List.getElem?_eq_getElem hj, hjb])
      simp [this]
theorem contains_bool {w : World} {base : Nat} {ok : Nat → Prop} {v : Value} {xs : List Bool} (b : Bool) (h : Row w base ok 4 v (bools xs)) (hb : xs.length ≤ 140737488355328) : Calls Try.prog 44 #[v, .bool b] w fun e w' => e = .returned (.bool (decide (b ∈ xs))) ∧ w = w' := by
  have hI := index_bool b h hb
  clear h
  go_enter Try.func44, Try.ntmps44
  go_wp2_with fail
  refine hI.mono ?_
  clear hI
  rintro e w1 ⟨rfl, r, rfl, hr⟩
  have HR := Aside0.mk hr
  clear hr
  go_wp2
  go_ret
  exact ⟨by rw [← HR.out]; rfl, rfl⟩
end Go.Proofs.Ytnglgjegkjfnaaa
set_option linter.unusedSimpArgs false
set_option linter.unusedVariables false
namespace Go.Proofs.Ytnglgjegkjfnaaa
open Go.RowKit Go.ChangeShapes Go.WideShapes Go.ChangeAt Go.Proofs.YtnglgjegkjfnaaaW.PrintWords Go.Proofs.YtnglgjegkjfnaaaW.PrintMore
/-! slices.ContainsFunc with slab.Load's own test. -/
theorem long_any (X : Option Addr) (n c : Nat) (w : World) : Calls Try.prog 46 #[.slice X n c] w fun e w' => e = .returned (.bool (decide (64 ≤ n))) ∧ w = w' := by
  go_enter Try.func46, Try.ntmps46
  go_wp2
  go_ret
  simp
  omega
theorem indexf_any {w : World} {vG vA vC vF : Value} {vs : List Value} {s : Sl} (h : SlR w s vG vA vC vF vs) (hb : s.caches.length ≤ 140737488355328) : Calls Try.prog 52 #[vC, .func (.func 46) #[] #[]] w fun e w' => w = w' ∧ ∃ r : Int, e = .returned (.int .i64 r) ∧ (0 ≤ r ↔ ∃ x ∈ s.caches, 64 ≤ x.length) := by
  obtain ⟨X, c, hv, hc⟩ := h.c.slice
  rw [h.l] at hv hc
  subst hv
  have HR := Aside0.mk h
  clear h
  go_enter Try.func52, Try.ntmps52
  go_wp2_with fail
  go_loopw [8] (fun i wr => ∃ k : Nat, k ≤ s.caches.length ∧ i = .int .i64 k ∧ Aside0 (∀ j x, j < k → s.caches[j]? = some x → x.length < 64) ∧ Aside0 (wr = w)) (fun i _ => s.caches.length - (intOf i).toNat)
  case atStart => exact ⟨0, by omega, rfl, ⟨fun j x hj => by omega⟩, ⟨by trivial⟩⟩
  case round =>
    obtain ⟨k, hk, rfl, HN, HE⟩ := hrel
    obtain rfl := HE.out
    by_cases hlt : k < s.caches.length
    · obtain ⟨g, o, c1, he, hg, -, hat⟩ := HR.out.c.form (by have := HR.out.l; omega)
      injection he with he1 he2 he3
      subst he1
      obtain ⟨x, hx⟩ : ∃ x, s.caches[k]? = some x := ⟨_, List.getElem?_eq_getElem hlt⟩
      obtain ⟨v, hv, hrow⟩ := HR.out.v k x hx
      obtain ⟨X1, c1, rfl, -⟩ := hrow.slice
      have hcell := (hat k).1 _ hv
      rw [ints_len] at hcell
      have HX := Aside0.mk hx
      have hL := long_any X1 x.length c1 wr
      have hki : (0 : Int) ≤ (k : Int) := by omega
      have hkl : (k : Int) < (s.caches.length : Int) := by omega
      clear hat he2 he3 hx HE hv hrow
      go_wp2_with fail
      refine hL.mono ?_
      clear hL
      rintro e w1 ⟨rfl, rfl⟩
      by_cases hxb : 64 ≤ x.length
      · rw [decide_eq_true hxb]
        go_wp2
        go_ret
        exact ⟨rfl, k, rfl, by simp; exact ⟨x, List.mem_of_getElem? HX.out, hxb⟩⟩
      · rw [decide_eq_false hxb]
        have HN' : Aside0 (∀ j x, j < k + 1 → s.caches[j]? = some x → x.length < 64) := ⟨fun j y hj hy => by
          by_cases e : j = k
          · subst e; rw [HX.out] at hy; injection hy with hy; subst hy; omega
          · exact HN.out j y (by omega) hy⟩
        go_wp2
        go_roundw
        case rel => exact ⟨k + 1, by omega, by go_num, HN', ⟨by trivial⟩⟩
        case measure => simp [intOf]; omega
    · obtain rfl : k = s.caches.length := by omega
      clear HE
      go_wp2
      go_ret
      refine ⟨rfl, -1, rfl, ?_⟩
      constructor
      · intro h; omega
      · rintro ⟨x, hm, hx⟩
        obtain ⟨j, hj, rfl⟩ := List.getElem_of_mem hm
        have := HN.out j _ hj (List.getElem?_eq_getElem hj)
        omega
theorem containsf_any {w : World} {vG vA vC vF : Value} {vs : List Value} {s : Sl} (h : SlR w s vG vA vC vF vs) (hb : s.caches.length ≤ 140737488355328) : Calls Try.prog 45 #[vC, .func (.func 46) #[] #[]] w fun e w' => w = w' ∧ ∃ r : Bool, e = .returned (.bool r) ∧ (r = true ↔ ∃ x ∈ s.caches, 64 ≤ x.length) := by
  have hI := indexf_any h hb
  obtain ⟨X, c, rfl, hc⟩ := h.c.slice
  clear h
  go_enter Try.func45, Try.ntmps45
  go_wp2_with fail
  refine hI.mono ?_
  clear hI
  rintro e w1 ⟨rfl, r, rfl, hr⟩
  have HR := Aside0.mk hr
  clear hr
  go_wp2
  go_ret
  exact ⟨rfl, decide (0 ≤ r), rfl, by rw [← HR.out]; simp⟩
end Go.Proofs.Ytnglgjegkjfnaaa
set_option linter.unusedSimpArgs false
set_option linter.unusedVariables false
namespace Go.Proofs.Ytnglgjegkjfnaaa
open Go.RowKit Go.ChangeShapes Go.WideShapes Go.ChangeAt Go.Proofs.YtnglgjegkjfnaaaW.PrintWords Go.Proofs.YtnglgjegkjfnaaaW.PrintMore Go.Proofs.YtnglgjegkjfnaaaW.PrintLast
/-! A state as a parameter: boxed; a state stored into its box. -/
section
variable {w w1 w' : World} {base b : Nat} {col : Nat → Nat} {s : Sl} {vG vA vC vF : Value} {vs : List Value}
theorem SlV.recol {col' : Nat → Nat} (h : SlV w base col s vG vA vC vF vs) (hc : ∀ k, k < w.heap.size → col k ≠ 0 → col' k = col k) (hz : ∀ k, w.heap.size ≤ k → col' k = 0) (hb : ∀ k, col' k ≠ 0 → base ≤ k) : SlV w base col' s vG vA vC vF vs :=
  ⟨h.g.mono fun k hl ho => by rw [hc k hl (by rw [ho]; decide)]; exact ho, h.a.mono fun k hl ho => by rw [hc k hl (by rw [ho]; decide)]; exact ho, h.c.mono fun k hl ho => by rw [hc k hl (by rw [ho]; decide)]; exact ho, h.f.mono fun k hl ho => by rw [hc k hl (by rw [ho]; decide)]; exact ho, h.l,
   fun i x hx => by obtain ⟨v, hv, hr⟩ := h.v i x hx; exact ⟨v, hv, hr.mono fun k hl ho => by rw [hc k hl (by rw [ho]; omega)]; exact ho⟩, hz, hb⟩
/-- A state of one's own is stored into a box. -/
theorem SlV.into {a0 a1 a2 a3 a4 : Value} (h : SlV w base col s vG vA vC vF vs) (hblk : w.heap[b]? = some (.cells #[a0, a1, a2, a3, a4] TT (0, 0))) (hb : base ≤ b) (hz : col b = 0) :
    ∃ col', SlB TT (((((w.setCell ⟨b, 0, none⟩ (.int .i64 s.limit)).setCell ⟨b, 1, none⟩ vG).setCell ⟨b, 2, none⟩ vA).setCell ⟨b, 3, none⟩ vC).setCell ⟨b, 4, none⟩ vF) base b col' s vG vA vC vF vs ∧ ∀ k, k ≠ b → col' k = col k := by
  have hK0 : Keep (fun k => k = b) w (((((w.setCell ⟨b, 0, none⟩ (.int .i64 s.limit)).setCell ⟨b, 1, none⟩ vG).setCell ⟨b, 2, none⟩ vA).setCell ⟨b, 3, none⟩ vC).setCell ⟨b, 4, none⟩ vF) := set5_keep _ _ _ _ _ _ _
  have h5 := blk_set5 (u0 := .int .i64 s.limit) (u1 := vG) (u2 := vA) (u3 := vC) (u4 := vF) hblk
  have hl := lt_blk h5
  refine ⟨fun k => if k = b then 1 else col k, ⟨(h.keep hK0 (fun k e => by subst e; omega)).recol (fun k _ hk => ?_) (fun k hk => ?_) (fun k hk => ?_), h5, if_pos rfl⟩, fun k hk => if_neg hk⟩
  · have : k ≠ b := fun e => by subst e; exact hk hz
    exact if_neg this
  · show (if k = b then 1 else col k) = 0
    rw [if_neg (by omega)]
    exact h.z k (by have := hl; have := lt_blk hblk; simp [World.setCell] at hk; omega)
  · by_cases e : k = b
    · omega
    · have : col k ≠ 0 := by simpa [e] using hk
      exact h.b k this
theorem SlB.lower {T : TypeId} {base' : Nat} (h : SlB T w base b col s vG vA vC vF vs) (hb : base' ≤ base) : SlB T w base' b col s vG vA vC vF vs := ⟨h.r.lower hb, h.blk, h.one⟩
/-- The rows behind a box. -/
theorem Nx.new_old {c c1 : Nat → Nat} (h : Nx w c w1 c1) : ∀ k, c1 k ≠ 0 → c k ≠ 0 ∨ w.heap.size ≤ k := fun k hk => by
  rcases Nat.lt_or_ge k w.heap.size with hl | hl
  · exact .inl (by rw [← h.cols k hl]; exact hk)
  · exact .inr hl
end
end Go.Proofs.Ytnglgjegkjfnaaa
set_option linter.unusedSimpArgs false
set_option linter.unusedVariables false
namespace Go.Proofs.Ytnglgjegkjfnaaa
open Go.RowKit Go.ChangeShapes Go.WideShapes Go.ChangeAt Go.Proofs.YtnglgjegkjfnaaaW.PrintWords Go.Proofs.YtnglgjegkjfnaaaW.PrintMore Go.Proofs.YtnglgjegkjfnaaaW.PrintLast
/-! The document's ints, Copy: printed by gen04l.py. -/
set_option maxHeartbeats 1000000 in
theorem ints_ref (v : Value) (xs : List Int) (w : World) (h : Rdv w v (ints xs)) (hm : xs.length * 8 ≤ 140737488355328) :
    Calls Try.prog 47 #[v] w fun e w' => ∃ v', e = .returned v' ∧ Row w' w.heap.size (fun _ => True) 3 v' (ints xs) ∧ Below w.heap.size w w' := by
  obtain ⟨A0, n, c, rfl, hl, hc, hx, hcell, h1⟩ := h
  obtain ⟨v1, w1, hr, hrow, hg⟩ := row_append (P := Try.prog) (t := 26) Try.underlying26 infoIn rfl (by omega) (Row.nil w w.heap.size (fun _ => True) 3) A0 n c (ints xs) hl hcell h1 (by rw [← hl, ints_len]; simpa using hm) (Nat.le_refl _)
  have HR := Aside0.mk hrow
  have HB := Aside0.mk ((grown_keep (ok := fun _ => False) hg (fun k hk => by simp [Value.ownBlock] at hk)).below (fun _ _ f => f))
  clear hrow hg hcell
  go_enter Try.func47, Try.ntmps47
  go_wp2_with (first | ((with_reducible refine gate_builtin (b := .append) (xs := #[.tmp 4, .tmp 5]) rfl ?_); at_builtin; refine appL_ rfl (.tmp 4) (.tmp 5) 26 rfl rfl rfl hr ?_))
  go_ret
  exact ⟨v1, rfl, by simpa using HR.out.mono (fun _ _ _ => trivial), HB.out⟩
/-- Behind the first region of Copy. -/
structure CpA (W wr : World) (base P B : Nat) (col : Nat → Nat) (s : Sl) (vG vA vC vF : Value) (vs : List Value) (uG uF : Value) : Prop where
  below : Below W.heap.size W wr
  p : SlB TT wr base P col s vG vA vC vF vs
  g : Row wr W.heap.size (fun _ => True) 3 uG (ints s.gens)
  f : Row wr W.heap.size (fun _ => True) 3 uF (ints s.free)
  ne : ∀ k, uG.ownBlock = some k → uF.ownBlock = some k → False
  b : wr.heap[B]? = some (.cells #[.int .i64 s.limit, uG, .slice none 0 0, .slice none 0 0, uF] TT (0, 0))
  bb : W.heap.size ≤ B
/-- Behind k caches. -/
def CpI (W : World) (base P : Nat) (col : Nat → Nat) (s : Sl) (vG vA vC vF : Value) (vs : List Value) (B : Nat) (uG uA uF : Value) (k : Nat) (wr : World) : Prop := ∃ vC' vs' col', Below W.heap.size W wr ∧ SlB TT wr base P col s vG vA vC vF vs ∧ SlB TT wr W.heap.size B col' ⟨s.limit, s.gens, s.alive, s.caches.take k, s.free⟩ uG uA vC' uF vs' ∧ ∀ k, k < W.heap.size → col' k = 0
end Go.Proofs.Ytnglgjegkjfnaaa
