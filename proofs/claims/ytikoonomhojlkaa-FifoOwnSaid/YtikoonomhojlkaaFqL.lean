import Derived.Test.YtikoonomhojlkaaFqP
import Derived.Test.YtikoonomhojlkaaFqH
set_option linter.unusedSimpArgs false
set_option linter.unusedVariables false
namespace Go.Proofs.Ytikoonomhojlkaa
open Go.RowKit Go.Proofs.YtikoonomhojlkaaW.PrintWords Go.Proofs.YtikoonomhojlkaaW.PrintMore Go.Proofs.YtikoonomhojlkaaW.PrintLast
/-! lives; the queue of a law. -/
theorem qeq_some (b : Nat) (w : World) : (binOp .eql 23 (.pointer (some ⟨b, 0, none⟩)) (.pointer none)).run Try.prog w = .ok (.bool false) w := by kernel_rfl
theorem qne_some (b : Nat) (w : World) : (binOp .neq 23 (.pointer (some ⟨b, 0, none⟩)) (.pointer none)).run Try.prog w = .ok (.bool true) w := by kernel_rfl
theorem qeq_none (w : World) : (binOp .eql 23 (.pointer none) (.pointer none)).run Try.prog w = .ok (.bool true) w := by kernel_rfl
theorem qne_none (w : World) : (binOp .neq 23 (.pointer none) (.pointer none)).run Try.prog w = .ok (.bool false) w := by kernel_rfl
/-- A queue of memory that is newer than w. -/
structure Que (w : World) (b : Nat) (l : List Wt) (ok : Nat → Prop) (v : Value) (wr : World) : Prop where
  below : Below w.heap.size w wr
  q : QB wr w.heap.size ok b l v
  g : GoodQ l
def QueE (w : World) (b : Nat) (l : List Wt) (wr : World) : Prop := ∃ ok v, Que w b l ok v wr
section
variable {w wr w' : World} {b : Nat} {l l' : List Wt} {ok : Nat → Prop} {v : Value}
theorem Que.then (h : Que w b l ok v wr) (hB : Below wr.heap.size wr w') : Que w b l ok v w' := ⟨below_then h.below hB, h.q.below hB, h.g⟩
theorem QueE.then (h : QueE w b l wr) (hB : Below wr.heap.size wr w') : QueE w b l w' := by
  obtain ⟨ok, v, h⟩ := h
  exact ⟨ok, v, h.then hB⟩
theorem QueE.below (h : QueE w b l wr) : Below w.heap.size w wr := by
  obtain ⟨ok, v, h⟩ := h
  exact h.below
theorem Que.step {ok' : Nat → Prop} {v' : Value} (h : Que w b l ok v wr) (hq : QB w' w.heap.size ok' b l' v') (hk : Keep ok wr w') (hg : GoodQ l') : Que w b l' ok' v' w' :=
  ⟨below_then_keep h.below h.below.size hk (fun i hi => (h.q.z i hi).1), hq, hg⟩
end
/-- What a call changes: at most the queue's own memory. -/
def Chg (w : World) (b : Nat) (l l' : List Wt) (wr w' : World) : Prop := ∀ ok v, Que w b l ok v wr → (∃ ok' v', Que w b l' ok' v' w' ∧ (∀ k, ok' k → ok k ∨ wr.heap.size ≤ k)) ∧ Keep ok wr w'
theorem que_put {w wr : World} {b : Nat} {l : List Wt} {ok : Nat → Prop} {v : Value} (x : Wt) (h : Que w b l ok v wr) : Calls Try.prog 11 #[.pointer (some ⟨b, 0, none⟩), .agg #[.int .i64 x.f0.f0, .int .i64 x.f0.f1, .int .u64 x.f1]] wr fun e w' => e = .returned (.int .i64 (putL l x).2) ∧ (∃ v', Que w b (putL l x).1 (Ex ok wr w') v' w') ∧ Keep ok wr w' :=
  (put_any x h.q h.g).mono fun e w' ⟨he, ⟨v', hq⟩, hk⟩ => ⟨he, ⟨v', h.step hq hk (putL_good x h.g)⟩, hk⟩
theorem takeL_good {l : List Wt} (h : GoodQ l) : GoodQ (takeL l).1 := by
  cases l with
  | nil => exact nil_good
  | cons y r => exact tail_good h
theorem que_take {w wr : World} {b : Nat} {l : List Wt} {ok : Nat → Prop} {v : Value} (h : Que w b l ok v wr) : Calls Try.prog 12 #[.pointer (some ⟨b, 0, none⟩)] wr fun e w' => e = .returned (.tuple #[.agg #[.int .i64 (takeL l).2.1.f0.f0, .int .i64 (takeL l).2.1.f0.f1, .int .u64 (takeL l).2.1.f1], .int .i64 (takeL l).2.2]) ∧ (∃ v', Que w b (takeL l).1 (Ex ok wr w') v' w') ∧ Keep ok wr w' :=
  (take_any h.q h.g.len).mono fun e w' ⟨he, ⟨v', hq⟩, hk⟩ => ⟨he, ⟨v', h.step hq hk (takeL_good h.g)⟩, hk⟩
theorem que_new (w : World) : Calls Try.prog 9 #[] w fun e w' => ∃ b, e = .returned (.pointer (some ⟨b, 0, none⟩)) ∧ QueE w b [] w' := 
  (new_any w).mono fun e w' ⟨he, hq, hB⟩ => ⟨_, he, _, _, hB, hq, nil_good⟩
set_option maxHeartbeats 4000000 in
set_option maxRecDepth 100000 in
theorem lives_any (w : World) : Calls Try.prog 10 #[] w fun e w' => e = .returned (.bool true) ∧ Below w.heap.size w w' := by
  have hN := que_new w
  go_enter Try.func10, Try.ntmps10
  go_wp2_with fail
  refine hN.mono ?_
  clear hN
  rintro e w1 ⟨b, rfl, ok, v, hQ⟩
  have hq1 := qeq_some b
  have hP := que_put ⟨⟨0, 0⟩, 7⟩ hQ
  have e1 : putL [] ⟨⟨0, 0⟩, 7⟩ = ([⟨⟨0, 0⟩, 7⟩], 0) := rfl
  rw [e1] at hP
  clear hQ e1
  go_wp2_with fail
  refine hP.mono ?_
  clear hP
  rintro e w2 ⟨rfl, ⟨v2, hQ⟩, -⟩
  have hP := que_take hQ
  have e1 : takeL [⟨⟨0, 0⟩, 7⟩] = ([], ⟨⟨0, 0⟩, 7⟩, 0) := rfl
  simp only [e1] at hP
  clear hQ e1
  go_wp2_with fail
  refine hP.mono ?_
  clear hP
  rintro e w3 ⟨rfl, ⟨v3, hQ⟩, -⟩
  have hQ4 := hQ.then (w' := w3.alloc (.cells #[.int .i64 0, .int .i64 0, .int .u64 7] TW)) (below_al (Below.refl _ _) _)
  have hL := len_any hQ4.q
  have HQ := Aside0.mk hQ4.below
  clear hQ hQ4
  go_wp2_with fail
  refine hL.mono ?_
  clear hL
  rintro e w4 ⟨rfl, rfl⟩
  go_wp2
  go_ret
  exact ⟨rfl, HQ.out⟩
end Go.Proofs.Ytikoonomhojlkaa
