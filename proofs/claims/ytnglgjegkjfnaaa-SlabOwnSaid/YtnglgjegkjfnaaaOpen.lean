import Derived.Test.YtnglgjegkjfnaaaRows
import Derived.Test.YtnglgjegkjfnaaaLib
import Derived.Test.YtnglgjegkjfnaaaWWords
import Derived.ProofKit
import Derived.OpenShut
import Derived.ChangeOld
import Derived.SizedLaws
import Derived.Deep.Slices
import Derived.JoinedCond
import Derived.Deep.CondSized
set_option linter.unusedSimpArgs false
set_option linter.unusedVariables false
namespace Go.Proofs.Ytnglgjegkjfnaaa.Op
open Go.RowKit Go.ChangeShapes Go.WideShapes Go.Deep Go.Proofs.YtnglgjegkjfnaaaW.PrintWords

theorem one_le {H : Type} (d : DataW H) : 1 ≤ Rows.uptoBulk d := by
  cases d with
  | lit l => cases l <;> simp [Rows.uptoBulk]
  | nil => simp [Rows.uptoBulk]
  | ptr d => simp [Rows.uptoBulk]
  | slice elems spare => simp [Rows.uptoBulk]
  | agg parts => simp [Rows.uptoBulk]
  | iface t d => simp [Rows.uptoBulk]
  | map entries => simp [Rows.uptoBulk]
  | held h => simp [Rows.uptoBulk]

/-- Whatever reads as data of type t is a value a of the kind k; G: what is known of a; m: how many values a holds at the least. -/
def Opens (P : Program) {α : Type} (k : Kd α) (t : TypeId) (G : α → Prop) (m : α → Nat) : Prop :=
  ∀ (H : Type) (enc : TypeId × Value → H) (w : World) (spare : Nat → Bool) (held : Bool) (fuel : Nat) (cs : List Value) (x : DataW H × List MemPlace),
    DataW.trod enc P w 0 spare held fuel t cs = some x → (∀ n ∈ x.1.weights P t, n ≤ reachBytes) → ∃ a, k.K w a cs ∧ G a ∧ m a ≤ Rows.uptoBulk x.1

variable {P : Program} {α β : Type}
theorem opens_int {t : TypeId} {k : IntKind} (ht : P.underlying t = some (.int k)) : Opens P (Kd.int k) t (fun n => (Lit.int k n).wf = true) (fun _ => 1) := by
  intro H enc w spare held fuel cs x h _
  obtain ⟨n, rfl, rfl, hw⟩ := DataW.trod_int ht h
  exact ⟨n, rfl, hw, one_le _⟩
theorem opens_bool {t : TypeId} (ht : P.underlying t = some .bool) : Opens P Kd.bool t (fun _ => True) (fun _ => 1) := by
  intro H enc w spare held fuel cs x h _
  obtain ⟨b, rfl, rfl⟩ := DataW.trod_bool ht h
  exact ⟨b, rfl, trivial, one_le _⟩
theorem opens_mono {k : Kd α} {t : TypeId} {G G' : α → Prop} {m m' : α → Nat} (h : Opens P k t G m) (hG : ∀ a, G a → G' a) (hm : ∀ a, m' a ≤ m a) : Opens P k t G' m' := by
  intro H enc w spare held fuel cs x hx hw
  obtain ⟨a, h1, h2, h3⟩ := h H enc w spare held fuel cs x hx hw
  exact ⟨a, h1, hG a h2, Nat.le_trans (hm a) h3⟩

theorem weightsAll_mem {H : Type} {e : TypeId} {l : List (DataW H)} {d : DataW H} (h : d ∈ l) {n : Nat} (hn : n ∈ d.weights P e) : n ∈ DataW.weightsAll P e l := by
  induction l with
  | nil => cases h
  | cons x r ih =>
    simp only [DataW.weightsAll, List.mem_append]
    rcases List.mem_cons.1 h with rfl | h
    · exact .inl hn
    · exact .inr (ih h)
theorem bulkAll_map {H : Type} (f : Nat → DataW H) (g : Nat → Nat) (len : Nat) (h : ∀ i, i < len → g i ≤ Rows.uptoBulk (f i)) : ((List.range len).map g).sum ≤ Rows.uptoBulkAll ((List.range len).map f) := by
  have : ∀ l : List Nat, (∀ i ∈ l, i < len) → (l.map g).sum ≤ Rows.uptoBulkAll (l.map f) := by
    intro l
    induction l with
    | nil => intro _; simp
    | cons i l ih =>
      intro hl
      have h1 := h i (hl i List.mem_cons_self)
      have h2 := ih (fun j hj => hl j (List.mem_cons_of_mem _ hj))
      simp only [List.map_cons, List.sum_cons, Rows.uptoBulkAll]
      omega
  exact this _ (fun i hi => by simpa using hi)
theorem choose_list {p : Nat → α → Prop} (len : Nat) (h : ∀ i, i < len → ∃ a, p i a) : ∃ xs : List α, xs.length = len ∧ ∀ i a, xs[i]? = some a → p i a := by
  induction len with
  | zero => exact ⟨[], rfl, fun i a hi => by simp at hi⟩
  | succ n ih =>
    obtain ⟨xs, hl, hx⟩ := ih (fun i hi => h i (by omega))
    obtain ⟨a, ha⟩ := h n (by omega)
    refine ⟨xs ++ [a], by simp [hl], fun i b hb => ?_⟩
    rcases Nat.lt_or_ge i xs.length with hi | hi
    · rw [List.getElem?_append_left hi] at hb; exact hx i b hb
    · rw [List.getElem?_append_right hi] at hb
      have h0 : i - xs.length = 0 := by
        have := (List.getElem?_eq_some_iff.1 hb).1
        simp at this
        omega
      rw [h0] at hb
      simp at hb
      subst hb
      obtain rfl : i = n := by omega
      exact ha
theorem sum_map_range (xs : List α) (f : α → Nat) (g : Nat → Nat) (h : ∀ i a, xs[i]? = some a → g i = f a) : ((List.range xs.length).map g).sum = (xs.map f).sum := by
  congr 1
  apply List.ext_getElem
  · simp
  · intro i h1 h2
    simp at h1
    simp only [List.getElem_map, List.getElem_range]
    exact h i _ (List.getElem?_eq_getElem h1)
/-- A slice of what opens. -/
theorem opens_slice {t e : TypeId} {k : Kd α} {G : α → Prop} {m : α → Nat} (ht : P.underlying t = some (.slice e)) (hC : P.cellsOf e = k.sz) (h : Opens P k e G m) :
    Opens P (Kd.slice e k) t (fun xs => xs.length * P.bytesOf e ≤ reachBytes ∧ xs.length ≤ 9223372036854775807 ∧ ∀ x ∈ xs, G x) (fun xs => (xs.map m).sum + 1) := by
  intro H enc w spare held fuel cs x hx hw
  rcases open_slice ht hx with ⟨rfl, rfl⟩ | ⟨a, len, cap, mm, n, D, Pl, rfl, _, hl, hm, hmm, rfl, hi⟩
  · refine ⟨[], ⟨none, 0, rfl, Nat.le_refl _, Kd.C_nil k w⟩, ⟨by simp, by simp, by simp⟩, by simp [Rows.uptoBulk]⟩
  · have hlm : len ≤ mm := by subst hmm; split <;> omega
    have hel : ∀ i, i < len → ∃ y, (∃ cs', (cs'.length = k.sz ∧ ∀ j u, cs'[j]? = some u → w.cell? (a.add (i * k.sz + j)) = some u) ∧ k.K w y cs') ∧ G y ∧ m y ≤ Rows.uptoBulk (D i) := by
      intro i hil
      obtain ⟨cs', hc, ht'⟩ := hi i (by omega)
      obtain ⟨_, hcl, hat⟩ := World.cells?_some hc
      obtain ⟨y, h1, h2, h3⟩ := h H enc w spare held n cs' (D i, Pl i) ht' (fun q hq => hw q (by
        simp only [DataW.weights, ht, List.mem_cons, List.mem_append]
        exact .inr (.inl (weightsAll_mem (d := D i) (by simp; exact ⟨i, hil, rfl⟩) hq))))
      refine ⟨y, ⟨cs', ⟨by rw [hcl, hC], fun j u hj => ?_⟩, h1⟩, h2, h3⟩
      have hjl : j < P.cellsOf e := by rw [← hcl]; exact (List.getElem?_eq_some_iff.1 hj).1
      have := hat j hjl
      rw [hC] at this
      rw [← hj, ← this, ← Go.Deep.add_add]
    obtain ⟨xs, hxl, hxs⟩ := choose_list len hel
    have hlen : len ≤ 9223372036854775807 := by simp only [maxLen] at hm; omega
    refine ⟨xs, ⟨some a, cap, by rw [hxl], by omega, rfl, by omega, fun h0 => ⟨a, rfl, fun j p hp => ?_⟩⟩, ⟨?_, by omega, fun y hy => ?_⟩, ?_⟩
    · obtain ⟨⟨cs', ⟨hcl, hat⟩, hk⟩, _⟩ := hxs j p hp
      exact ⟨cs', hcl, hk, hat⟩
    · rw [hxl]
      refine Nat.le_trans (Nat.mul_le_mul_right _ ?_) (hw _ (by simp only [DataW.weights, ht]; exact List.mem_cons_self))
      simp
    · obtain ⟨i, hi', hy'⟩ := List.getElem_of_mem hy
      exact (hxs i y (by rw [List.getElem?_eq_getElem hi', hy'])).2.1
    · have h1 := bulkAll_map D (fun i => match xs[i]? with | some y => m y | none => 0) len (fun i hil => by
        have hx' : xs[i]? = some (xs[i]'(by omega)) := List.getElem?_eq_getElem (by omega)
        simp only [hx']
        exact (hxs i _ hx').2.2)
      have h2 := sum_map_range xs m (fun i => match xs[i]? with | some y => m y | none => 0) (fun i y hy => by simp only [hy])
      rw [hxl] at h2
      simp only [Rows.uptoBulk]
      omega

/-- The fields of a struct, from one on: off is that one's place. -/
def OpensF (P : Program) (k : Kd α) (fs : List Field) (off : Nat) (G : α → Prop) (m : α → Nat) : Prop :=
  ∀ (H : Type) (enc : TypeId × Value → H) (w : World) (spare : Nat → Bool) (held : Bool) (n : Nat) (cs : List Value) (ys : List (DataW H × List MemPlace)),
    (∀ (i : Nat) (f : Field), fs[i]? = some f → DataW.trod enc P w 0 spare held n f.type ((cs.drop (f.offset - off)).take (P.cellsOf f.type)) = ys[i]?) → ys.length = fs.length → cs.length = k.sz → (∀ f ∈ fs, off ≤ f.offset) →
    (∀ q ∈ DataW.weightsEach P (fs.map (·.type)) (ys.map (·.1)), q ≤ reachBytes) → ∃ a, k.K w a cs ∧ G a ∧ m a ≤ Rows.uptoBulkAll (ys.map (·.1))
theorem opensF_last {k : Kd α} {f : Field} {off : Nat} {G : α → Prop} {m : α → Nat} (ho : f.offset = off) (hc : P.cellsOf f.type = k.sz) (h : Opens P k f.type G m) : OpensF P k [f] off G m := by
  intro H enc w spare held n cs ys hy hl hcs _ hw
  match ys, hl with
  | [y], _ =>
    have h0 := hy 0 f rfl
    rw [ho, Nat.sub_self, List.drop_zero, hc, ← hcs, List.take_length] at h0
    simp at h0
    obtain ⟨a, h1, h2, h3⟩ := h H enc w spare held n cs y h0 (fun q hq => hw q (by simpa [DataW.weightsEach] using hq))
    exact ⟨a, h1, h2, by simpa [Rows.uptoBulkAll] using h3⟩
theorem opensF_cons {k1 : Kd α} {k2 : Kd β} {f : Field} {fs : List Field} {off : Nat} {G1 : α → Prop} {G2 : β → Prop} {m1 : α → Nat} {m2 : β → Nat} (ho : f.offset = off) (hc : P.cellsOf f.type = k1.sz) (hoff : ∀ g ∈ fs, off + k1.sz ≤ g.offset)
    (h1 : Opens P k1 f.type G1 m1) (h2 : OpensF P k2 fs (off + k1.sz) G2 m2) : OpensF P (Kd.pair k1 k2) (f :: fs) off (fun x => G1 x.1 ∧ G2 x.2) (fun x => m1 x.1 + m2 x.2) := by
  intro H enc w spare held n cs ys hy hl hcs hof hw
  have hcs' : cs.length = k1.sz + k2.sz := hcs
  match ys, hl with
  | y :: ys, hl =>
    have h0 := hy 0 f rfl
    rw [ho, Nat.sub_self, List.drop_zero, hc] at h0
    simp only [List.getElem?_cons_zero] at h0
    obtain ⟨a, a1, a2, a3⟩ := h1 H enc w spare held n _ y h0 (fun q hq => hw q (by simp only [List.map_cons, DataW.weightsEach, List.mem_append]; exact .inl hq))
    obtain ⟨b, b1, b2, b3⟩ := h2 H enc w spare held n (cs.drop k1.sz) ys (fun i g hg => by
      have := hy (i + 1) g (by simpa using hg)
      simp only [List.getElem?_cons_succ] at this
      rw [← this, List.drop_drop]
      have hge := hoff g (List.mem_of_getElem? hg)
      congr 3
      omega) (by simpa using hl) (by rw [List.length_drop, hcs']; omega) hoff (fun q hq => hw q (by simp only [List.map_cons, DataW.weightsEach, List.mem_append]; exact .inr hq))
    refine ⟨(a, b), ⟨cs.take k1.sz, cs.drop k1.sz, (List.take_append_drop _ _).symm, a1, b1⟩, ⟨a2, b2⟩, ?_⟩
    simp only [List.map_cons, Rows.uptoBulkAll]
    omega
theorem opens_isoF {k : Kd α} {fs : List Field} {off : Nat} {G : α → Prop} {m : α → Nat} (h : OpensF P k fs off G m) (f : β → α) (g : α → β) (hfg : ∀ a, f (g a) = a) : OpensF P (Kd.iso k f) fs off (fun b => G (f b)) (fun b => m (f b)) := by
  intro H enc w spare held n cs ys h1 h2 h3 h4 h5
  obtain ⟨a, a1, a2, a3⟩ := h H enc w spare held n cs ys h1 h2 h3 h4 h5
  refine ⟨g a, ?_, by simpa [hfg] using a2, by simpa [hfg] using a3⟩
  show k.K w (f (g a)) cs
  rw [hfg]; exact a1
theorem opens_struct {t : TypeId} {fs : Array Field} {k : Kd α} {G : α → Prop} {m : α → Nat} (ht : P.underlying t = some (.struct fs)) (hC : P.cellsOf t = k.sz) (h : OpensF P k fs.toList 0 G m) : Opens P k t G (fun x => m x + 1) := by
  intro H enc w spare held fuel cs x hx hw
  obtain ⟨xs, n, _, rfl, hcl, hlen, hf⟩ := DataW.trod_struct ht hx
  obtain ⟨a, h1, h2, h3⟩ := h H enc w spare held n cs xs (fun i f hi => by
    rw [Nat.sub_zero]
    exact hf i f (by simpa using hi)) (by simpa using hlen) (by rw [hcl, hC]) (fun _ _ => Nat.zero_le _) (fun q hq => hw q (by simp only [DataW.weights, ht]; exact hq))
  refine ⟨a, h1, h2, ?_⟩
  simp only [Rows.uptoBulk]
  omega
theorem weights_of {H : Type} {ts : List TypeId} {ds : List (DataW H)} (h : (DataW.weightsEach P ts ds).all (· ≤ reachBytes) = true) {j : Nat} {t : TypeId} {d : DataW H} (ht : ts[j]? = some t) (hd : ds[j]? = some d) : ∀ n ∈ d.weights P t, n ≤ reachBytes := by
  intro n hn
  have := List.all_eq_true.1 h _ (DataW.weights_mem_each ht hd n hn)
  simpa using this
end Go.Proofs.Ytnglgjegkjfnaaa.Op
