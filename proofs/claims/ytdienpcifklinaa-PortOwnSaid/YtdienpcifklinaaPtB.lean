import Derived.Test.YtdienpcifklinaaPtA
import Derived.Deep.DrawnRows
import Derived.RegionTactic
import Derived.BigRegion
import Derived.IntWalk
set_option linter.unusedSimpArgs false
set_option linter.unusedVariables false
namespace Go.Proofs.Ytdienpcifklinaa
open Go.RowKit Go.Proofs.YtdienpcifklinaaW.PrintWords Go.Proofs.YtdienpcifklinaaW.PrintMore Go.Proofs.YtdienpcifklinaaW.PrintLast
/-! A port, as a state; what its calls do; put, get. -/
structure Pt where
  q : Bool
  cap : Int
  out : List Int
  inn : List Ag
  lost : Int
abbrev TI : Nat := 2
abbrev TA : Nat := 68
abbrev TQ : Nat := 60
abbrev TS : Nat := 63
structure Good (s : Pt) : Prop where
  c0 : 1 ≤ s.cap
  c1 : s.cap ≤ 1024
  o : (s.out.length : Int) ≤ s.cap
  i : (s.inn.length : Int) ≤ s.cap
  a : ∀ x ∈ s.inn, 0 ≤ x.f1 ∧ x.f1 ≤ 2147483647
  l : 0 ≤ s.lost ∧ s.lost ≤ 2147483647
structure PtQ (w : World) (base : Nat) (ok : Nat → Prop) (d : Nat) (s : Pt) (vO vI : Value) : Prop where
  blk : w.heap[d]? = some (.cells #[.int .i64 s.cap, vO, vI, .int .i64 s.lost] TQ (0, 0))
  o : Kd.R (Kd.int .i64) TI w base ok vO s.out
  i : Kd.R kA TA w base ok vI s.inn
structure PtS (w : World) (base : Nat) (ok : Nat → Prop) (d : Nat) (s : Pt) (age : Int) (vO vI : Value) : Prop where
  blk : w.heap[d]? = some (.cells #[vO, vI, .int .i64 age] TS (0, 0))
  o : Kd.R (Kd.int .i64) TI w base ok vO s.out
  i : Kd.R (Kd.int .i64) TI w base ok vI (s.inn.map (·.f0))
  one : s.inn = [] ∨ ∃ v, s.inn = [⟨v, age⟩]
  ol : s.out.length ≤ 1
  cap : s.cap = 1
  lost : s.lost = 0
  age : 0 ≤ age ∧ age ≤ 2147483647
/-- Queued, or sampled, with its own block d. -/
def Kept1 (w : World) (base : Nat) (ok : Nat → Prop) (d : Nat) (s : Pt) : Prop := (s.q = true ∧ ∃ vO vI, PtQ w base ok d s vO vI) ∨ (s.q = false ∧ ∃ age vO vI, PtS w base ok d s age vO vI)
abbrev TP (q : Bool) : Nat := if q then 58 else 61
structure PtH (w : World) (base : Nat) (ok : Nat → Prop) (b d : Nat) (s : Pt) : Prop where
  z : ∀ k, ok k → base ≤ k ∧ k < w.heap.size
  hb : ok b
  hd : ok d
  port : w.heap[b]? = some (.cells #[.iface (TP s.q) (.pointer (some ⟨d, 0, none⟩))] 56 (0, 0))
  in1 : Kept1 w base ok d s
  g : Good s
def IsPort (w : World) (base : Nat) (ok : Nat → Prop) (b : Nat) (s : Pt) : Prop := ∃ d, PtH w base ok b d s
/-- What is new is the port's. -/
def Ex (ok : Nat → Prop) (w w' : World) (k : Nat) : Prop := ok k ∨ (w.heap.size ≤ k ∧ k < w'.heap.size)
section
variable {w w' W : World} {base : Nat} {ok ok' F : Nat → Prop} {b d : Nat} {s : Pt} {vO vI : Value}
theorem PtQ.move (h : PtQ w base ok d s vO vI) (hm : ∀ k, ok k → k < w.heap.size → w'.heap[k]? = w.heap[k]?) (hd : ok d) : PtQ w' base ok d s vO vI :=
  ⟨(hm d hd (lt_blk h.blk)).trans h.blk, Kd.R_step h.o hm, Kd.R_step h.i hm⟩
theorem PtS.move {age : Int} (h : PtS w base ok d s age vO vI) (hm : ∀ k, ok k → k < w.heap.size → w'.heap[k]? = w.heap[k]?) (hd : ok d) : PtS w' base ok d s age vO vI :=
  ⟨(hm d hd (lt_blk h.blk)).trans h.blk, Kd.R_step h.o hm, Kd.R_step h.i hm, h.one, h.ol, h.cap, h.lost, h.age⟩
theorem Kept1.move (h : Kept1 w base ok d s) (hm : ∀ k, ok k → k < w.heap.size → w'.heap[k]? = w.heap[k]?) (hd : ok d) : Kept1 w' base ok d s := by
  rcases h with ⟨hq, vO, vI, h⟩ | ⟨hq, age, vO, vI, h⟩
  · exact .inl ⟨hq, vO, vI, h.move hm hd⟩
  · exact .inr ⟨hq, age, vO, vI, h.move hm hd⟩
theorem IsPort.move (h : IsPort w base ok b s) (hm : ∀ k, ok k → k < w.heap.size → w'.heap[k]? = w.heap[k]?) (hs : w.heap.size ≤ w'.heap.size) : IsPort w' base ok b s := by
  obtain ⟨d, h⟩ := h
  exact ⟨d, fun k hk => ⟨(h.z k hk).1, Nat.lt_of_lt_of_le (h.z k hk).2 hs⟩, h.hb, h.hd, (hm b h.hb (lt_blk h.port)).trans h.port, h.in1.move hm h.hd, h.g⟩
theorem IsPort.keep (h : IsPort w base ok b s) (hk : Keep F w w') (hF : ∀ k, F k → ¬ ok k) : IsPort w' base ok b s := h.move (fun k ho hl => hk.block k hl (fun f => hF k f ho)) hk.size
theorem IsPort.below (h : IsPort w base ok b s) (hB : Below w.heap.size w w') : IsPort w' base ok b s := h.move (fun k _ hl => hB.block k hl) hB.size
theorem IsPort.good (h : IsPort w base ok b s) : Good s := by obtain ⟨d, h⟩ := h; exact h.g
theorem IsPort.z (h : IsPort w base ok b s) : ∀ k, ok k → base ≤ k ∧ k < w.heap.size := by obtain ⟨d, h⟩ := h; exact h.z
end
def putP (s : Pt) (v : Int) : Pt × Bool := if s.q then (if (s.out.length : Int) = s.cap then (s, false) else ({ s with out := s.out ++ [v] }, true)) else ({ s with out := [v] }, true)
def getP (s : Pt) : Pt × Int × Int := match s.inn with
  | [] => (s, 0, -1)
  | x :: r => if s.q then ({ s with inn := r }, x.f0, x.f1) else (s, x.f0, x.f1)
def olderI (a : Int) : Int := if a < 2147483647 then a + 1 else a
def oldA (x : Ag) : Ag := ⟨x.f0, olderI x.f1⟩
/-- One that waits comes in, or is lost. -/
def comes (cap : Int) (r : List Ag × Int) (v : Int) : List Ag × Int := if (r.1.length : Int) < cap then (r.1 ++ [⟨v, 0⟩], r.2) else (r.1, olderI r.2)
def delivP (s : Pt) : Pt := if s.q then { s with inn := (s.out.foldl (comes s.cap) (s.inn.map oldA, s.lost)).1, lost := (s.out.foldl (comes s.cap) (s.inn.map oldA, s.lost)).2, out := [] }
  else match s.out with
  | [] => { s with inn := s.inn.map oldA }
  | v :: _ => { s with inn := [⟨v, 0⟩], out := [] }
section
variable {w w1 : World} {base base' e e' : Nat} {ok ok' : Nat → Prop} {v u : Value}
theorem grown_keep (hg : w.grownBy w1 v.ownBlock) : Keep (fun k => v.ownBlock = some k) w w1 :=
  ⟨hg.os, hg.tape, hg.output, hg.size, fun k hk hn => hg.block k hk (fun e => hn e.symm)⟩
theorem R_typed {α : Type} {d : Kd α} {xs : List α} (h : d.R e w base ok v xs) : ∀ k, v.ownBlock = some k → ∃ cs, w.heap[k]? = some (.cells cs e (0, 0)) := by
  obtain ⟨inner, ho⟩ := Kd.R_own h
  exact fun k hk => own_typed ho k hk
theorem blk_types {w : World} {k e e' : Nat} {cs cs' : Array Value} (h : w.heap[k]? = some (.cells cs e (0, 0))) (h' : w.heap[k]? = some (.cells cs' e' (0, 0))) : e = e' := by
  rw [h] at h'
  injection h' with h'
  injection h' with _ h'
theorem R_far {α : Type} {d : Kd α} {xs : List α} {F : Nat → Prop} (h : d.R e w base ok v xs) (hE : d.E = []) (hk : Keep F w w1) (hF : ∀ k cs, F k → w.heap[k]? = some (.cells cs e (0, 0)) → False) : d.R e w1 base ok v xs :=
  Kd.R_mono (Kd.R_step (Kd.R_bound h) (fun k ho hl => hk.block k hl (fun f => by
    obtain ⟨q, hq, cs, hc⟩ := ho.2.2.2
    rw [hE, List.mem_singleton] at hq
    exact hF k cs f (hq ▸ hc)))) (fun _ h => h.1)
theorem R_apart {α β : Type} {d : Kd α} {d' : Kd β} {xs : List α} {ys : List β} (h : d.R e w base ok v xs) (hE : d.E = []) (h' : d'.R e' w base' ok' u ys) (hne : e ≠ e') (hk : Keep (fun k => u.ownBlock = some k) w w1) : d.R e w1 base ok v xs :=
  R_far h hE hk (fun k cs hku hc => by obtain ⟨cs', hc'⟩ := R_typed h' k hku; exact hne (blk_types hc hc'))
theorem R_keepT {α : Type} {d : Kd α} {xs : List α} {g t : Nat} {cs : Array Value} (h : d.R e w base ok v xs) (hE : d.E = []) (hb : w.heap[g]? = some (.cells cs t (0, 0))) (hne : e ≠ t) (hk : Keep (fun k => k = g) w w1) : d.R e w1 base ok v xs :=
  R_far h hE hk (fun k cs e hc => by subst e; exact hne (blk_types hc hb))
theorem R_blk {α : Type} {d : Kd α} {xs : List α} {g t : Nat} {cs : Array Value} (h : d.R e w base ok v xs) (hb : w.heap[g]? = some (.cells cs t (0, 0))) (hne : e ≠ t) : ¬ v.ownBlock = some g := fun hk => by
  obtain ⟨cs', hc⟩ := R_typed h g hk
  exact hne (blk_types hc hb)
theorem R_ex {α : Type} {d : Kd α} {xs : List α} (h : d.R e w1 base (fun k => ok k ∨ w.heap.size ≤ k) v xs) : d.R e w1 base (Ex ok w w1) v xs :=
  Kd.R_mono (Kd.R_bound h) (fun k ho => ho.1.imp id (fun h => ⟨h, ho.2.2.1⟩))
theorem R_in {α : Type} {d : Kd α} {xs : List α} {W : World} (h : d.R e w base ok v xs) : d.R e w base (Ex ok W w1) v xs := Kd.R_mono h (fun _ h => .inl h)
end
theorem PtQ.putO {w w0 w1 : World} {base d : Nat} {ok : Nat → Prop} {s : Pt} {vO vI v1 : Value} {l1 : List Int} (h : PtQ w0 base ok d s vO vI) (hs0 : w0.heap.size = w.heap.size) (hk0 : Keep ok w w0) (hd : ok d) (hk1 : Keep (fun k => vO.ownBlock = some k) w0 w1) (ho : Kd.R (Kd.int .i64) TI w1 base (fun k => ok k ∨ w0.heap.size ≤ k) v1 l1) :
    PtQ (w1.setCell ⟨d, 1, none⟩ v1) base (Ex ok w (w1.setCell ⟨d, 1, none⟩ v1)) d { s with out := l1 } v1 vI ∧ Keep ok w (w1.setCell ⟨d, 1, none⟩ v1) := by
  have hd1 := blk_keep h.blk hk1 (R_blk h.o h.blk (by decide))
  have hS : Keep (fun k => k = d) w1 (w1.setCell ⟨d, 1, none⟩ v1) := (by repeat (first | (with_reducible exact Keep.refl _ _) | (with_reducible refine Keep.drewN ?_ _) | (with_reducible refine Keep.drew ?_) | (with_reducible refine Keep.setCell ?_ _ _ (by first | (right; with_reducible rfl) | (left; simp; done) | (left; simp; omega) | (right; simp; done) | (right; assumption))) | (with_reducible refine Keep.alloc ?_ _)))
  refine ⟨⟨?_, ?_, ?_⟩, (hk0.trans (hk1.mono (fun k _ e => h.o.1 k e))).trans (hS.mono (fun k _ e => by subst e; exact hd))⟩
  · have := blk_set (i := 1) (u := v1) hd1
    simpa using this
  · have h2 := R_keepT ho rfl hd1 (by decide) hS
    rw [hs0] at h2
    exact R_ex h2
  · exact R_in (R_keepT (R_apart h.i rfl h.o (by decide) hk1) rfl hd1 (by decide) hS)
theorem PtQ.putI {w w0 w1 : World} {base d : Nat} {ok : Nat → Prop} {s : Pt} {vO vI v1 : Value} {l1 : List Ag} (h : PtQ w0 base ok d s vO vI) (hs0 : w0.heap.size ≥ w.heap.size) (hk0 : Keep ok w w0) (hd : ok d) (hk1 : Keep (fun k => vI.ownBlock = some k) w0 w1) (ho : Kd.R kA TA w1 base (fun k => ok k ∨ w0.heap.size ≤ k) v1 l1) :
    PtQ (w1.setCell ⟨d, 2, none⟩ v1) base (Ex ok w (w1.setCell ⟨d, 2, none⟩ v1)) d { s with inn := l1 } vO v1 ∧ Keep ok w (w1.setCell ⟨d, 2, none⟩ v1) := by
  have hd1 := blk_keep h.blk hk1 (R_blk h.i h.blk (by decide))
  have hS : Keep (fun k => k = d) w1 (w1.setCell ⟨d, 2, none⟩ v1) := (by repeat (first | (with_reducible exact Keep.refl _ _) | (with_reducible refine Keep.drewN ?_ _) | (with_reducible refine Keep.drew ?_) | (with_reducible refine Keep.setCell ?_ _ _ (by first | (right; with_reducible rfl) | (left; simp; done) | (left; simp; omega) | (right; simp; done) | (right; assumption))) | (with_reducible refine Keep.alloc ?_ _)))
  refine ⟨⟨?_, ?_, ?_⟩, (hk0.trans (hk1.mono (fun k _ e => h.i.1 k e))).trans (hS.mono (fun k _ e => by subst e; exact hd))⟩
  · have := blk_set (i := 2) (u := v1) hd1
    simpa using this
  · exact R_in (R_keepT (R_apart h.o rfl h.i (by decide) hk1) rfl hd1 (by decide) hS)
  · have h2 := R_keepT ho rfl hd1 (by decide) hS
    exact R_ex (Kd.R_mono h2 (fun k hk => hk.imp id (fun h => Nat.le_trans hs0 h)))
theorem R_one (w : World) (base : Nat) (v : Int) (ok : Nat → Prop) (hb : base ≤ w.heap.size) (hok : ok w.heap.size) : Kd.R (Kd.int .i64) TI (w.alloc (.cells #[.int .i64 v] TI)) base ok (.slice (some ⟨w.heap.size, 0, none⟩) 1 1) [v] :=
  Kd.R_of_own (own_lit w base TI .i64 [v] hb (by simp)) (fun k hk => by
    have e : w.heap.size = k := by simpa [Value.ownBlock] using hk
    rw [← e]; exact hok)
theorem older_any (a : Int) (w : World) (h0 : 0 ≤ a) : Calls Try.prog 49 #[.int .i64 a] w fun e w' => e = .returned (.int .i64 (olderI a)) ∧ w = w' := by
  by_cases h : a < 2147483647
  · rw [show olderI a = a + 1 from if_pos h]
    go_enter Try.func49, Try.ntmps49
    go_wp2
    go_ret
    exact ⟨rfl, rfl⟩
  · rw [show olderI a = a from if_neg h]
    go_enter Try.func49, Try.ntmps49
    go_wp2
    go_ret
    exact ⟨rfl, rfl⟩
set_option maxHeartbeats 2000000 in
theorem qput {w : World} {base d : Nat} {ok : Nat → Prop} {s : Pt} {vO vI : Value} (v : Int) (hq : s.q = true) (h : PtQ w base ok d s vO vI) (hd : ok d) (hz : ∀ k, ok k → base ≤ k ∧ k < w.heap.size) (hg : Good s) : Calls Try.prog 47 #[.pointer (some ⟨d, 0, none⟩), .int .i64 v] w fun e w' => e = .returned (.bool (putP s v).2) ∧ Kept1 w' base (Ex ok w w') d (putP s v).1 ∧ Keep ok w w' := by
  obtain ⟨AO, cO, rfl, hcO, -⟩ := Kd.R_reads h.o
  have H := Aside0.mk h
  have c0 := cell_blk h.blk 0; have c1 := cell_blk h.blk 1
  have f1 := frozen_blk h.blk 1
  simp at c0 c1
  have hdl := lt_blk h.blk
  have hbd := (hz d hd).1
  have hcap1 := hg.c1
  have hol := hg.o
  clear h
  by_cases he : (s.out.length : Int) = s.cap
  · have hb : ((s.out.length : Int) == s.cap) = true := by simp [he]
    have hP : Aside0 (putP s v = (s, false)) := ⟨by rw [putP, if_pos hq, if_pos he]⟩
    clear he
    go_enter Try.func47, Try.ntmps47
    go_wp2_with fail
    go_region
    go_wp2
    go_ret
    rw [hP.out]
    exact ⟨rfl, .inl ⟨hq, _, _, ⟨H.out.blk, R_in (Kd.R_below H.out.o (Below.refl _ _).drew), R_in (Kd.R_below H.out.i (Below.refl _ _).drew)⟩⟩, (Keep.refl _ _).drew⟩
  · have hb : ((s.out.length : Int) == s.cap) = false := by simp [he]
    have hP : Aside0 (putP s v = ({ s with out := s.out ++ [v] }, true)) := ⟨by rw [putP, if_pos hq, if_neg he]⟩
    have hlen : (s.out.length + 1) * 8 ≤ 140737488355328 := by omega
    clear he
    go_enter Try.func47, Try.ntmps47
    go_wp2_with fail
    go_region
    have H0 := Aside0.mk (H.out.move (w' := w.drew) (fun _ _ _ => rfl) hd)
    have hk0 : Keep ok w w.drew := (Keep.refl _ _).drew
    have hs0 : Aside0 (w.drew.heap.size = w.heap.size) := ⟨rfl⟩
    generalize w.drew = w0 at *
    have c0 := cell_blk H0.out.blk 0; have c1 := cell_blk H0.out.blk 1
    have f1 := frozen_blk H0.out.blk 1
    simp at c0 c1
    have hdl := lt_blk H0.out.blk
    go_wp2_with ((with_reducible refine gate_builtin (b := .append) (xs := #[.tmp 19, .tmp 21]) rfl ?_); at_builtin; refine Kd.R_append (Kd.int .i64) (w0 := ?aW) base rfl (.tmp 19) (.tmp 21) 25 TI (.int .i64 0) 8 rfl Try.underlying25 infoI rfl (by decide) (by omega) (.slice AO s.out.length cO) s.out v [.int .i64 v] (fun k => ok k ∨ w0.heap.size ≤ k) (fun _ => False) rfl ?aX ?aM (fun _ h => h.elim) ?aF ?aO ?aB ?aS ?aL ?_; (case aX => first | rfl | exact congrArg (fun n => Value.slice (some ⟨n, 0, none⟩) 1 1) (by simp)); (case aM => exact rfl); (case aF => exact fun _ h => .inr h); (case aO => exact (Kd.R_mono H0.out.o (fun _ h => .inl h))); (case aB => exact Below.refl _ _); (case aS => first | omega | (simp; omega)); (case aL => exact hlen); intro v1 w1 ho hb hg hat; have hk1 := grown_keep hg; have hd1 := blk_keep H0.out.blk hk1 (R_blk H0.out.o H0.out.blk (by decide)); have g1 := cell_blk hd1 1; have e1 := frozen_blk hd1 1; have hdl1 := lt_blk hd1; simp at g1; obtain ⟨A1, c1', he1, -, -⟩ := Kd.R_reads ho; rw [List.length_append, List.length_singleton] at he1; subst he1)
    go_ret
    rw [hP.out]
    obtain ⟨hQ, hK⟩ := H0.out.putO hs0.out hk0 hd hk1 ho
    exact ⟨rfl, .inl ⟨hq, _, _, hQ⟩, hK⟩
set_option maxHeartbeats 2000000 in
theorem qget {w : World} {base d : Nat} {ok : Nat → Prop} {s : Pt} {vO vI : Value} (hq : s.q = true) (h : PtQ w base ok d s vO vI) (hd : ok d) (hz : ∀ k, ok k → base ≤ k ∧ k < w.heap.size) : Calls Try.prog 46 #[.pointer (some ⟨d, 0, none⟩)] w fun e w' => e = .returned (.tuple #[.int .i64 (getP s).2.1, .int .i64 (getP s).2.2]) ∧ Kept1 w' base (Ex ok w w') d (getP s).1 ∧ Keep ok w w' := by
  obtain ⟨AI, cI, rfl, hcI, hCI⟩ := Kd.R_reads h.i
  have H := Aside0.mk h
  have c2 := cell_blk h.blk 2
  have f2 := frozen_blk h.blk 2
  simp at c2
  have hdl := lt_blk h.blk
  have hbd := (hz d hd).1
  clear h
  cases hi : s.inn with
  | nil =>
    have hP : Aside0 (getP s = (s, 0, -1)) := ⟨by unfold getP; rw [hi]⟩
    rw [hi] at c2
    simp only [List.length_nil] at c2
    clear hi
    go_enter Try.func46, Try.ntmps46
    go_wp2
    go_ret2
    rw [hP.out]
    exact ⟨rfl, .inl ⟨hq, _, _, ⟨H.out.blk, R_in H.out.o, R_in H.out.i⟩⟩, Keep.refl _ _⟩
  | cons x r =>
    have hP : Aside0 (getP s = ({ s with inn := r }, x.f0, x.f1)) := ⟨by unfold getP; rw [hi]; simp only [if_pos hq]⟩
    have hlen : s.inn.length = r.length + 1 := by rw [hi]; rfl
    obtain ⟨g, off, rfl, hgl⟩ := C_form hCI (by omega) (by decide)
    obtain ⟨e, he, y0, y1⟩ := aged_at hCI 0 (by omega)
    obtain rfl : x = e := by rw [hi] at he; simpa using he
    simp only [Nat.zero_mul, Nat.add_zero] at y0 y1
    have hA : Below w.heap.size w (w.alloc (.cells #[.int .i64 x.f0, .int .i64 x.f1] TA)) := below_al (Below.refl _ _) _
    have hT : Aside0 ((w.alloc (.cells #[.int .i64 x.f0, .int .i64 x.f1] TA)).heap[w.heap.size]? = some (.cells #[.int .i64 x.f0, .int .i64 x.f1] TA (0, 0))) := ⟨blk_new _ _⟩
    have H0 := Aside0.mk (H.out.move (fun k _ hl => hA.block k hl) hd)
    have hDel := del_aged (w.alloc (.cells #[.int .i64 x.f0, .int .i64 x.f1] TA)) base ok _ s.inn 0 1 H0.out.i (by omega) (by omega)
    have hr : Aside0 (s.inn.take 0 ++ s.inn.drop 1 = r) := ⟨by rw [hi]; rfl⟩
    have hkA : Keep ok w (w.alloc (.cells #[.int .i64 x.f0, .int .i64 x.f1] TA)) := Keep.of_below hA
    have hnT : ¬ ok w.heap.size := fun hk => by have := (hz _ hk).2; omega
    have hpos : 0 < s.inn.length := by omega
    have hsA := hA.size
    clear hi he hlen hCI hA
    go_enter Try.func46, Try.ntmps46
    go_wp2_with fail
    generalize (w.alloc (.cells #[.int .i64 x.f0, .int .i64 x.f1] TA)) = w0 at *
    refine hDel.mono ?_
    clear hDel
    rintro e w1 ⟨v1, rfl, hR1, hk1, hob⟩
    rw [hr.out] at hR1
    have hd1 := blk_keep H0.out.blk hk1 (R_blk H0.out.i H0.out.blk (by decide))
    have hT1 := blk_keep hT.out hk1 (fun e => hnT (H0.out.i.1 _ e))
    have g2 := cell_blk hd1 2; have e2 := frozen_blk hd1 2
    have t0 := cell_blk hT1 0; have t1 := cell_blk hT1 1
    simp at g2 t0 t1
    have hdl1 := lt_blk hd1
    have hTl1 := lt_blk hT1
    have hdT : d ≠ w.heap.size := by omega
    obtain ⟨A1, c1', he1, -, -⟩ := Kd.R_reads hR1
    subst he1
    have HQ := Aside0.mk (H0.out.putI (w := w) hsA hkA hd hk1 (Kd.R_mono hR1 (fun _ h => .inl h)))
    clear hR1 hk1 hob hd1 hT1
    go_wp2_with fail
    go_region
    go_wp2
    go_ret2
    rw [hP.out]
    obtain ⟨hQ, hK⟩ := HQ.out
    refine ⟨rfl, .inl ⟨hq, _, _, hQ.move (fun _ _ _ => rfl) (.inl hd)⟩, hK.drew⟩
set_option maxHeartbeats 2000000 in
theorem sput {w : World} {base d : Nat} {ok : Nat → Prop} {s : Pt} {age : Int} {vO vI : Value} (v : Int) (hq : s.q = false) (h : PtS w base ok d s age vO vI) (hd : ok d) (hz : ∀ k, ok k → base ≤ k ∧ k < w.heap.size) : Calls Try.prog 53 #[.pointer (some ⟨d, 0, none⟩), .int .i64 v] w fun e w' => e = .returned (.bool (putP s v).2) ∧ Kept1 w' base (Ex ok w w') d (putP s v).1 ∧ Keep ok w w' := by
  have H := Aside0.mk h
  have hP : Aside0 (putP s v = ({ s with out := [v] }, true)) := ⟨by rw [putP, hq]; rfl⟩
  have c0 := cell_blk h.blk 0
  have f0 := frozen_blk h.blk 0
  simp at c0
  have hdl := lt_blk h.blk
  have hbd := (hz d hd).1
  clear h
  go_enter Try.func53, Try.ntmps53
  go_wp2
  go_ret
  have hA : Below w.heap.size w (w.alloc (.cells #[.int .i64 v] TI)) := below_al (Below.refl _ _) _
  have hd0 := blk_below H.out.blk hA
  have hS : Keep (fun k => k = d) (w.alloc (.cells #[.int .i64 v] TI)) ((w.alloc (.cells #[.int .i64 v] TI)).setCell ⟨d, 0, none⟩ (.slice (some ⟨w.heap.size, 0, none⟩) 1 1)) := (by repeat (first | (with_reducible exact Keep.refl _ _) | (with_reducible refine Keep.drewN ?_ _) | (with_reducible refine Keep.drew ?_) | (with_reducible refine Keep.setCell ?_ _ _ (by first | (right; with_reducible rfl) | (left; simp; done) | (left; simp; omega) | (right; simp; done) | (right; assumption))) | (with_reducible refine Keep.alloc ?_ _)))
  have h1 := R_one w base v (fun k => ok k ∨ w.heap.size ≤ k) (by omega) (.inr (Nat.le_refl _))
  rw [hP.out, ← World.setCell_alloc_past _ _ _ _ hdl]
  refine ⟨rfl, .inr ⟨hq, age, _, vI, ⟨?_, R_ex (R_keepT h1 rfl hd0 (by decide) hS), R_in (R_keepT (Kd.R_below H.out.i hA) rfl hd0 (by decide) hS), H.out.one, by simp, H.out.cap, H.out.lost, H.out.age⟩⟩, (Keep.of_below hA).trans (hS.mono (fun k _ e => by subst e; exact hd))⟩
  have := blk_set (i := 0) (u := .slice (some ⟨w.heap.size, 0, none⟩) 1 1) hd0
  simpa using this
set_option maxHeartbeats 2000000 in
theorem sget {w : World} {base d : Nat} {ok : Nat → Prop} {s : Pt} {age : Int} {vO vI : Value} (hq : s.q = false) (h : PtS w base ok d s age vO vI) : Calls Try.prog 52 #[.pointer (some ⟨d, 0, none⟩)] w fun e w' => e = .returned (.tuple #[.int .i64 (getP s).2.1, .int .i64 (getP s).2.2]) ∧ Kept1 w' base (Ex ok w w') d (getP s).1 ∧ Keep ok w w' := by
  obtain ⟨AI, cI, rfl, hcI, hCI⟩ := Kd.R_reads h.i
  have H := Aside0.mk h
  have c1 := cell_blk h.blk 1; have c2 := cell_blk h.blk 2
  simp at c1 c2
  have hdl := lt_blk h.blk
  rcases h.one with hi | ⟨v, hi⟩
  · have hP : Aside0 (getP s = (s, 0, -1)) := ⟨by unfold getP; rw [hi]⟩
    rw [hi] at c1
    simp only [List.length_nil, List.map_nil] at c1
    clear h hi
    go_enter Try.func52, Try.ntmps52
    go_wp2
    go_ret2
    rw [hP.out]
    exact ⟨rfl, .inr ⟨hq, age, _, _, ⟨H.out.blk, R_in H.out.o, R_in H.out.i, H.out.one, H.out.ol, H.out.cap, H.out.lost, H.out.age⟩⟩, Keep.refl _ _⟩
  · have hP : Aside0 (getP s = (s, v, age)) := ⟨by unfold getP; rw [hi]; simp only [hq]; rfl⟩
    rw [hi] at hCI c1
    simp only [List.map_cons, List.map_nil] at hCI
    obtain ⟨g, off, rfl, hgl⟩ := C_form hCI (by simp) (by decide)
    have y0 := ints_at hCI 0 (by simp)
    simp only [List.map_cons, List.map_nil, List.length_cons, List.length_nil] at c1
    have hy : rd [v] ((0 : Nat) : Int) = v := rfl
    rw [hy, Nat.add_zero] at y0
    clear h hi hCI
    go_enter Try.func52, Try.ntmps52
    go_wp2_with fail
    go_region
    go_wp2
    go_ret2
    rw [hP.out]
    exact ⟨rfl, .inr ⟨hq, age, _, _, ⟨H.out.blk, R_in (Kd.R_below H.out.o (Below.refl _ _).drew), R_in (Kd.R_below H.out.i (Below.refl _ _).drew), H.out.one, H.out.ol, H.out.cap, H.out.lost, H.out.age⟩⟩, (Keep.refl _ _).drew⟩
end Go.Proofs.Ytdienpcifklinaa
