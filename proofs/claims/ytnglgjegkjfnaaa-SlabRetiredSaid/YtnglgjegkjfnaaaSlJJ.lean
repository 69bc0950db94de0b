import Derived.Test.YtnglgjegkjfnaaaSlII
import Derived.Deep.DrawnRows
set_option linter.unusedSimpArgs false
set_option linter.unusedVariables false
namespace Go.Proofs.Ytnglgjegkjfnaaa
open Go.RowKit Go.ChangeShapes Go.WideShapes Go.ChangeAt Go.Proofs.YtnglgjegkjfnaaaW.PrintWords Go.Proofs.YtnglgjegkjfnaaaW.PrintMore Go.Proofs.YtnglgjegkjfnaaaW.PrintLast
/-! The document's Load: what it takes is just what is Wf. -/
def listsS (s : Sl) : List (List Int) := s.caches ++ [s.free]
def preS (s : Sl) (p : Nat) : List Int := ((listsS s).take p).flatten
theorem preS_all (s : Sl) : preS s (s.caches.length + 1) = allS s := by
  unfold preS listsS allS
  rw [List.take_of_length_le (by simp)]
  simp [List.flatten_append]
theorem preS_step {s : Sl} {p : Nat} {l : List Int} (h : (listsS s)[p]? = some l) : preS s (p + 1) = preS s p ++ l := by
  unfold preS
  have hp : p < (listsS s).length := (List.getElem?_eq_some_iff.1 h).1
  have he : (listsS s)[p] = l := (List.getElem?_eq_some_iff.1 h).2
  rw [List.take_succ_eq_append_getElem hp, he, List.flatten_append]
  simp
theorem all_at {s : Sl} {p k : Nat} {l : List Int} {x : Int} (h : (listsS s)[p]? = some l) (hk : l[k]? = some x) : ∃ rest, allS s = (preS s p ++ l.take k) ++ x :: rest := by
  have hp : p < (listsS s).length := (List.getElem?_eq_some_iff.1 h).1
  have he : (listsS s)[p] = l := (List.getElem?_eq_some_iff.1 h).2
  have hkl : k < l.length := (List.getElem?_eq_some_iff.1 hk).1
  have hke : l[k] = x := (List.getElem?_eq_some_iff.1 hk).2
  refine ⟨l.drop (k + 1) ++ ((listsS s).drop (p + 1)).flatten, ?_⟩
  have h1 : allS s = (listsS s).flatten := by simp [allS, listsS, List.flatten_append]
  rw [h1]
  conv => lhs; rw [← List.take_append_drop p (listsS s), List.drop_eq_getElem_cons hp, he]
  rw [List.flatten_append, List.flatten_cons]
  conv => lhs; rw [← List.take_append_drop k l, List.drop_eq_getElem_cons hkl, hke]
  simp [preS, List.append_assoc]
structure LdI (s : Sl) (L st : List Int) : Prop where
  len : st.length = s.gens.length
  cnt : ∀ x : Nat, x < s.gens.length → st.getD x 0 = (L.count (x : Int) : Int)
  fr : ∀ y ∈ L, FreeAt s y
  nd : L.Nodup
theorem LdI.step {s : Sl} {L st : List Int} {m : Nat} (h : LdI s L st) (hf : FreeAt s m) (h0 : st.getD m 0 ≤ 0) : LdI s (L ++ [(m : Int)]) (st.set m (st.getD m 0 + 1)) := by
  have hm : m < s.gens.length := by have := hf.2.1; omega
  have hc := h.cnt m hm
  have hn : (m : Int) ∉ L := fun hmem => by
    have := List.count_pos_iff.2 hmem
    omega
  refine ⟨by rw [List.length_set]; exact h.len, fun x hx => ?_, fun y hy => ?_, List.nodup_append.2 ⟨h.nd, by simp, fun a ha b hb => by rw [List.mem_singleton.1 hb]; rintro rfl; exact hn ha⟩⟩
  · by_cases e : m = x
    · subst e
      rw [getD_set_self (by rw [h.len]; exact hm), List.count_append, hc]
      simp
    · rw [getD_set_ne e, h.cnt x hx, List.count_append]
      have : ¬ (m : Int) = (x : Int) := by omega
      simp [this]
  · rcases List.mem_append.1 hy with hy | hy
    · exact h.fr y hy
    · rw [List.mem_singleton.1 hy]; exact hf
/-- The state in block B; the counts in block G. -/
structure LdW (w wr : World) (B : Nat) (s : Sl) (base : Nat) (col : Nat → Nat) (vG vA vC vF : Value) (vs : List Value) : Prop where
  below : Below w.heap.size w wr
  r : SlV wr base col s vG vA vC vF vs
  b : wr.heap[B]? = some (.cells #[.int .i64 s.limit, vG, vA, vC, vF] 30 (0, 0))
theorem LdW.then {w wr w' : World} {B : Nat} {s : Sl} {base : Nat} {col : Nat → Nat} {vG vA vC vF : Value} {vs : List Value} (h : LdW w wr B s base col vG vA vC vF vs) (hB : Below wr.heap.size wr w') : LdW w w' B s base col vG vA vC vF vs :=
  ⟨below_then h.below hB, h.r.below hB, blk_below h.b hB⟩
structure LdS (w wr : World) (B G : Nat) (s : Sl) (base : Nat) (col : Nat → Nat) (vG vA vC vF : Value) (vs : List Value) (L st : List Int) : Prop where
  m : LdW w wr B s base col vG vA vC vF vs
  row : Row wr w.heap.size (fun _ => True) 3 (.slice (some ⟨G, 0, none⟩) s.gens.length s.gens.length) (ints st)
  i : LdI s L st
  g0 : col G = 0
  gw : w.heap.size ≤ G
  ne : B ≠ G
theorem LdS.then {w wr w' : World} {B G : Nat} {s : Sl} {base : Nat} {col : Nat → Nat} {vG vA vC vF : Value} {vs : List Value} {L st : List Int} (h : LdS w wr B G s base col vG vA vC vF vs L st) (hB : Below wr.heap.size wr w') : LdS w w' B G s base col vG vA vC vF vs L st :=
  ⟨h.m.then hB, h.row.below hB, h.i, h.g0, h.gw, h.ne⟩
theorem LdS.set {w wr : World} {B G m : Nat} {s : Sl} {base : Nat} {col : Nat → Nat} {vG vA vC vF : Value} {vs : List Value} {L st : List Int} (h : LdS w wr B G s base col vG vA vC vF vs L st) (hf : FreeAt s m) (h0 : st.getD m 0 ≤ 0) : LdS w (wr.setCell ⟨G, 0 + m, none⟩ (.int .i64 (st.getD m 0 + 1))) B G s base col vG vA vC vF vs (L ++ [(m : Int)]) (st.set m (st.getD m 0 + 1)) := by
  have hm : m < s.gens.length := by have := hf.2.1; omega
  have hk : Keep (fun i => i = G) wr (wr.setCell ⟨G, 0 + m, none⟩ (.int .i64 (st.getD m 0 + 1))) := (by repeat (first | (with_reducible exact Keep.refl _ _) | (with_reducible refine Keep.drewN ?_ _) | (with_reducible refine Keep.drew ?_) | (with_reducible refine Keep.setCell ?_ _ _ (by first | (right; with_reducible rfl) | (left; simp; done) | (left; simp; omega) | (right; simp; done) | (right; assumption))) | (with_reducible refine Keep.alloc ?_ _)))
  refine ⟨⟨below_then_keep h.m.below h.m.below.size hk (fun i e => by rw [e]; exact h.gw), h.m.r.keep hk (fun k e => by rw [e, h.g0]; omega), blk_keep h.m.b hk h.ne⟩, ?_, h.i.step hf h0, h.g0, h.gw, h.ne⟩
  rw [ints_set]
  exact h.row.set (by rw [ints_len, h.i.len]; exact hm) rfl
end Go.Proofs.Ytnglgjegkjfnaaa
