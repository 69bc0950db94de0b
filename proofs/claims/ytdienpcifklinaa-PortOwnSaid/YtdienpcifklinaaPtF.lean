import Derived.Test.YtdienpcifklinaaPtE
import Derived.Test.YtdienpcifklinaaOpen
set_option linter.unusedSimpArgs false
set_option linter.unusedVariables false
namespace Go.Proofs.Ytdienpcifklinaa
open Go.RowKit Go.Proofs.YtdienpcifklinaaW.PrintWords Go.Proofs.YtdienpcifklinaaW.PrintMore Go.Proofs.YtdienpcifklinaaW.PrintLast
/-! Two ports that share nothing; scripts; rows of numbers that are read. -/
abbrev Ac : Type := Int × Int
def kAc : Kd Ac := Kd.pair (Kd.int .i64) (Kd.int .i64)
theorem kAc_open {w : World} {x : Ac} {cs : List Value} (h : kAc.K w x cs) : cs = [.int .i64 x.1, .int .i64 x.2] := by
  obtain ⟨_, _, rfl, rfl, rfl⟩ := h
  rfl
theorem act_at {w : World} {b off n : Nat} {xs : List Ac} (h : kAc.C w (some ⟨b, off, none⟩) n xs) (i : Nat) (hi : i < n) : ∃ e, xs[i]? = some e ∧ w.cell? ⟨b, off + i * 2, none⟩ = some (.int .i64 e.1) ∧ w.cell? ⟨b, off + i * 2 + 1, none⟩ = some (.int .i64 e.2) := by
  obtain ⟨ad, e, hc⟩ := h.2.2 (by omega)
  injection e with e
  subst e
  have hl : i < xs.length := by have := h.1; omega
  obtain ⟨cs, hcl, hK, hat⟩ := hc i _ (List.getElem?_eq_getElem hl)
  obtain rfl := kAc_open hK
  refine ⟨_, List.getElem?_eq_getElem hl, ?_, ?_⟩
  · have := hat 0 _ rfl; rw [adds] at this; exact this
  · have := hat 1 _ rfl; rw [adds, ← Nat.add_assoc] at this; exact this
theorem opensAc : Op.Opens Try.prog kAc 30 (fun _ => True) (fun _ => 1) :=
  Op.opens_mono (Op.opens_struct Try.underlying30 (by kernel_rfl) (Op.opensF_cons rfl (by kernel_rfl) (by decide) (Op.opens_int Try.underlying3) (Op.opensF_last rfl (by kernel_rfl) (Op.opens_int Try.underlying2)))) (fun _ _ => trivial) (fun _ => by simp)
theorem sum_one {α : Type} (xs : List α) : xs.length ≤ (xs.map (fun _ => 1)).sum + 1 := by
  induction xs with
  | nil => exact Nat.zero_le _
  | cons x xs ih => rw [List.map_cons, List.sum_cons, List.length_cons]; omega
theorem opensActs : Op.Opens Try.prog (Kd.slice 30 kAc) 24 (fun xs => xs.length * Try.prog.bytesOf 30 ≤ reachBytes ∧ xs.length ≤ 9223372036854775807 ∧ ∀ x ∈ xs, True) (fun xs => xs.length) :=
  Op.opens_mono (Op.opens_slice Try.underlying24 (by kernel_rfl) opensAc) (fun _ h => h) (fun xs => sum_one xs)
def Two (w : World) (b b' : Nat) (s t : Pt) (wr : World) : Prop := ∃ okp okq, IsPort wr w.heap.size okp b s ∧ IsPort wr w.heap.size okq b' t ∧ (∀ k, okp k → ¬ okq k) ∧ Below w.heap.size w wr
section
variable {w wr w' : World} {b b' : Nat} {s t s' : Pt}
theorem Two.below (h : Two w b b' s t wr) : Below w.heap.size w wr := by
  obtain ⟨okp, okq, h1, h2, h3, h4⟩ := h
  exact h4
theorem Two.then (h : Two w b b' s t wr) (hB : Below wr.heap.size wr w') : Two w b b' s t w' := by
  obtain ⟨okp, okq, h1, h2, h3, h4⟩ := h
  exact ⟨okp, okq, h1.below hB, h2.below hB, h3, below_then h4 hB⟩
theorem Two.step {ok : Nat → Prop} (h1 : IsPort wr w.heap.size ok b s) {okq : Nat → Prop} (h2 : IsPort wr w.heap.size okq b' t) (h3 : ∀ k, ok k → ¬ okq k) (h4 : Below w.heap.size w wr) (hP : IsPort w' w.heap.size (Ex ok wr w') b s') (hk : Keep ok wr w') : Two w b b' s' t w' :=
  ⟨Ex ok wr w', okq, hP, h2.keep hk (fun k hp hq => h3 k hp hq), fun k hE hq => hE.elim (fun h => h3 k h hq) (fun h => by have := (h2.z k hq).2; omega), below_then_keep h4 h4.size hk (fun i hi => (h1.z i hi).1)⟩
end
/-- What a port gives hangs on what came in alone. -/
structure SameIn (s t : Pt) : Prop where
  q : s.q = t.q
  i : s.inn = t.inn
theorem SameIn.put {s t : Pt} (h : SameIn s t) (v : Int) : SameIn (putP s v).1 t := by
  have h1 := h.q
  have h2 := h.i
  unfold putP
  split
  · split
    · exact h
    · exact ⟨h1, h2⟩
  · exact ⟨h1, h2⟩
/-- What puts answer hangs on what waits to go out alone. -/
structure SameOut (s t : Pt) : Prop where
  q : s.q = t.q
  c : s.cap = t.cap
  o : s.out = t.out
theorem SameOut.put {s t : Pt} (h : SameOut s t) (v : Int) : (putP s v).2 = (putP t v).2 ∧ SameOut (putP s v).1 (putP t v).1 := by
  have h1 := h.q
  have h2 := h.c
  have h3 := h.o
  unfold putP
  rw [h1, h2, h3]
  split
  · split
    · exact ⟨rfl, h⟩
    · exact ⟨rfl, ⟨rfl, rfl, rfl⟩⟩
  · exact ⟨rfl, ⟨rfl, rfl, rfl⟩⟩
theorem deliv_out (s : Pt) : (delivP s).out = [] ∧ (delivP s).q = s.q ∧ (delivP s).cap = s.cap := by
  unfold delivP
  split
  · exact ⟨rfl, rfl, rfl⟩
  · split
    · rename_i h
      exact ⟨h, rfl, rfl⟩
    · exact ⟨rfl, rfl, rfl⟩
end Go.Proofs.Ytdienpcifklinaa
