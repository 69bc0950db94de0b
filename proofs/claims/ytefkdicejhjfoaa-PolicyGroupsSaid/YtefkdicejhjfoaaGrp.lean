import Derived.Test.YtefkdicejhjfoaaAbD
namespace Go.Proofs.Ytefkdicejhjfoaa
open Go.RowKit Go.Proofs.YtefkdicejhjfoaaW.PrintWords Go.Proofs.YtefkdicejhjfoaaW.PrintLast Go.Proofs.YtefkdicejhjfoaaW.PrintMore
/-! Groups: the least one that knows of one another. -/
/-- Do the two know of one another? -/
def Mut (es : List PPolicyPaths.S35) (d o : Nat) : Prop := rchB es d o = true ∧ rchB es o d = true
structure Least (es : List PPolicyPaths.S35) (d g : Nat) : Prop where
  knows : Mut es d g
  least : ∀ o, o < g → ¬ Mut es d o
theorem rchB_refl (es : List PPolicyPaths.S35) (d : Int) : rchB es d d = true := rchB_iff.2 .refl
theorem rchB_trans {es : List PPolicyPaths.S35} {a b c : Int} (h : rchB es a b = true) (k : rchB es b c = true) : rchB es a c = true := rchB_iff.2 ((rchB_iff.1 h).trans (rchB_iff.1 k))
theorem Mut.refl (es : List PPolicyPaths.S35) (d : Nat) : Mut es d d := ⟨rchB_refl _ _, rchB_refl _ _⟩
theorem Mut.symm {es : List PPolicyPaths.S35} {a b : Nat} (h : Mut es a b) : Mut es b a := ⟨h.2, h.1⟩
theorem Mut.trans {es : List PPolicyPaths.S35} {a b c : Nat} (h : Mut es a b) (k : Mut es b c) : Mut es a c := ⟨rchB_trans h.1 k.1, rchB_trans k.2 h.2⟩
theorem Least.uniq {es : List PPolicyPaths.S35} {d g h : Nat} (a : Least es d g) (b : Least es d h) : g = h := by
  rcases Nat.lt_trichotomy g h with l | l | l
  · exact absurd a.knows (b.least g l)
  · exact l
  · exact absurd b.knows (a.least h l)
theorem Least.le {es : List PPolicyPaths.S35} {d g : Nat} (a : Least es d g) : g ≤ d := by
  rcases Nat.lt_or_ge d g with l | l
  · exact absurd (Mut.refl es d) (a.least d l)
  · exact l
theorem Least.same {es : List PPolicyPaths.S35} {a b g h : Nat} (x : Least es a g) (y : Least es b h) : g = h ↔ Mut es a b := by
  constructor
  · intro e; subst e; exact x.knows.trans y.knows.symm
  · intro m
    refine Least.uniq x ⟨m.trans y.knows, fun o ho hm => y.least o ho (m.symm.trans hm)⟩
theorem ex_least (es : List PPolicyPaths.S35) (d : Nat) : ∃ g, Least es d g := by
  have : ∀ n, (∃ g, g ≤ n ∧ Least es d g) ∨ ∀ o, o ≤ n → ¬ Mut es d o := by
    intro n
    induction n with
    | zero =>
      by_cases h : Mut es d 0
      · exact .inl ⟨0, Nat.le_refl _, h, fun o ho => by omega⟩
      · exact .inr (fun o ho => by obtain rfl : o = 0 := by omega
                                   exact h)
    | succ n ih =>
      rcases ih with ⟨g, hg, hl⟩ | h
      · exact .inl ⟨g, by omega, hl⟩
      · by_cases hm : Mut es d (n + 1)
        · exact .inl ⟨n + 1, Nat.le_refl _, hm, fun o ho => h o (by omega)⟩
        · refine .inr (fun o ho => ?_)
          by_cases he : o = n + 1
          · subst he; exact hm
          · exact h o (by omega)
  rcases this d with ⟨g, _, h⟩ | h
  · exact ⟨g, h⟩
  · exact absurd (Mut.refl es d) (h d (Nat.le_refl _))
noncomputable def leastOf (es : List PPolicyPaths.S35) (d : Nat) : Nat := Classical.choose (ex_least es d)
theorem leastOf_spec (es : List PPolicyPaths.S35) (d : Nat) : Least es d (leastOf es d) := Classical.choose_spec (ex_least es d)
theorem leastOf_eq {es : List PPolicyPaths.S35} {d g : Nat} (h : Least es d g) : leastOf es d = g := (leastOf_spec es d).uniq h
noncomputable def groupsL (es : List PPolicyPaths.S35) : Nat → List Int
  | 0 => []
  | n + 1 => groupsL es n ++ [(leastOf es n : Int)]
theorem groupsL_length (es : List PPolicyPaths.S35) (n : Nat) : (groupsL es n).length = n := by
  induction n with
  | zero => rfl
  | succ n ih => rw [groupsL, List.length_append, ih]; rfl
theorem groupsL_get (es : List PPolicyPaths.S35) (n i : Nat) (h : i < n) : (groupsL es n)[i]? = some (leastOf es i : Int) := by
  induction n with
  | zero => omega
  | succ n ih =>
    rw [groupsL]
    by_cases he : i = n
    · subst he
      rw [List.getElem?_append_right (by rw [groupsL_length]; exact Nat.le_refl _), groupsL_length, Nat.sub_self]; rfl
    · rw [List.getElem?_append_left (by rw [groupsL_length]; omega)]
      exact ih (by omega)
noncomputable def groupsP (D : Int) (es : List PPolicyPaths.S35) : List Int × Int := if lookedP D es [] = 0 then (groupsL es D.toNat, 0) else ([], lookedP D es [])
theorem looked_nil (D : Int) (es : List PPolicyPaths.S35) : lookedP D es [] = (chk D es).2 := by
  unfold lookedP
  by_cases h : (chk D es).2 = 0
  · rw [if_pos h, h]; rfl
  · rw [if_neg h]
end Go.Proofs.Ytefkdicejhjfoaa
