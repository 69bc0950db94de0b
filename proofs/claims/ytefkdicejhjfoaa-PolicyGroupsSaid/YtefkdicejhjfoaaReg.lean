import Derived.Still
import Derived.StillTactics
import Derived.Deep.QuietTactic
import Derived.BigQuiet
import Derived.WalkKit
namespace Go.Proofs.Ytefkdicejhjfoaa
/-! A region that draws its order and begins with operations that come up one at a time (whatever they do); behind them it only reads. -/
def headB (md : Region.Mode) (ops : Array Oper) : Nat → Nat → Array Bool → Bool
  | 0, k, listed => Region.lexFrom md ops (ops.size - k) k listed
  | n + 1, k, listed => (Region.ready md ops listed == [k]) && headB md ops n (k + 1) (listed.setIfInBounds k true)
/-- Q, but 'the rest reads, then Q' where the head ends. -/
def QS (P : Program) (ops : Array Oper) (Q : Exit → Act → World → Prop) (rest : List Oper) : Exit → Act → World → Prop
  | .normal, a, w => wpQuiet P ops (fun w' => ∃ n, w' = w.drewN n) (fun a' => ∀ w', (∃ n, w' = w.drewN n) → Q .normal a' w') rest a
  | e, a, w => Q e a w
theorem wp_congrQ {P : Program} {o : Oper} {a : Act} {w : World} {K : Act → World → Prop} {Q Q' : Exit → Act → World → Prop} (hp : ∀ c a w, Q' (.panic c) a w → Q (.panic c) a w) (ho : LetsOut Q' → LetsOut Q) (h : o.wp P a w K Q') : o.wp P a w K Q := by
  unfold Oper.wp at *
  generalize (execOp a.eval o).run P w = r at *
  cases r with
  | ok n w' =>
    cases n <;> simp only [Oper.upon] at h ⊢ <;>
      first
        | exact h
        | exact Calls.mono h (fun e w'' he => by cases e <;> first | exact he | exact hp _ _ _ he | exact ho he)
  | halt x w' => cases x <;> simp only [Oper.upon] at h ⊢ <;> first | exact h | exact hp _ _ _ h
theorem letsOut_QS {P : Program} {ops : Array Oper} {Q : Exit → Act → World → Prop} {rest : List Oper} (h : LetsOut (QS P ops Q rest)) : LetsOut Q := h
theorem wpAny_head {P : Program} {ops : Array Oper} {Q : Exit → Act → World → Prop} {md : Region.Mode} (hs : Region.noSelect ops = true) :
    ∀ (n : Nat) (l : List Oper) (k : Nat) (listed : Array Bool) (a : Act) (w : World), (∀ j, l[j]? = ops[k + j]?) → n ≤ l.length → ops.size = k + l.length → headB md ops n k listed = true →
      wpList P ops (QS P ops Q (l.drop n)) (l.take n) a w → wpAny P md ops Q l.length listed a w
  | 0, l, k, listed, a, w, hl, _, hsz, hB, h => by
    have hB' : Region.lexFrom md ops l.length k listed = true := by
      have : ops.size - k = l.length := by omega
      rw [← this]; exact hB
    exact wpAny_of_quiet (C := fun w' => ∃ n, w' = w.drewN n) (Q := fun a' => ∀ w', (∃ n, w' = w.drewN n) → Q .normal a' w') (fun _ w' hw' h => h w' hw') _ _ _ _ ⟨0, rfl⟩ (wpAnyQ_lex hs l k listed a hl hB' h)
  | n + 1, [], k, listed, a, w, hl, hn, hsz, hB, h => by simp at hn
  | n + 1, o :: l, k, listed, a, w, hl, hn, hsz, hB, h => by
    simp only [headB, Bool.and_eq_true, beq_iff_eq] at hB
    obtain ⟨hr, hB'⟩ := hB
    have h0 : ops[k]? = some o := by simpa using (hl 0).symm
    have ih := fun a w => wpAny_head (P := P) (Q := Q) hs n l (k + 1) (listed.setIfInBounds k true) a w (fun j => by have := hl (j + 1); simpa [Nat.add_assoc, Nat.add_comm 1 j] using this) (by simpa using hn) (by simp at hsz; omega) hB'
    refine wpAny_all (fuel := l.length) hr (by simp) ?_
    intro i hi
    obtain rfl : i = k := by simpa using hi
    simp only [List.take_succ_cons, List.drop_succ_cons, wpList] at h
    unfold wpOp
    simp only [h0]
    split
    · rename_i hw
      rw [if_pos hw] at h
      rcases h with h | ⟨h1, h2⟩
      · exact .inl (Oper.wp_mono (fun a w hh => ih a w hh) (wp_congrQ (Q' := QS P ops Q (l.drop n)) (fun _ _ _ h => h) (fun h => h) h))
      · exact .inr ⟨h1, h2⟩
    · rename_i hw
      rw [if_neg hw] at h
      exact ih _ _ h
theorem wp_region_head {P : Program} {Q : Exit → Act → World → Prop} {id : Nat} {l : List Oper} {a : Act} {w : World} (n : Nat) (hm : P.follows .mixedOrders = true)
    (hB : (Region.noSelect l.toArray && headB .any l.toArray n 0 (Array.replicate l.toArray.size false) && decide (n ≤ l.length)) = true)
    (h : wpList P l.toArray (QS P l.toArray Q (l.drop n)) (l.take n) a w.drew) : (Code.region id l.toArray true).wp P Q a w := by
  simp only [Bool.and_eq_true, decide_eq_true_eq] at hB
  refine wp_region_any hm ?_
  have := wpAny_head (P := P) (Q := Q) (md := .any) hB.1.1 n l 0 (Array.replicate l.toArray.size false) a w.drew (by simp) hB.2 (by simp) hB.1.2 h
  simpa using this
theorem QS_normal {P : Program} {ops : Array Oper} {Q : Exit → Act → World → Prop} {rest : List Oper} {a : Act} {w : World} (h : wpQuiet P ops (fun w' => ∃ n, w' = w.drewN n) (fun a' => ∀ w', (∃ n, w' = w.drewN n) → Q .normal a' w') rest a) : QS P ops Q rest .normal a w := h
attribute [irreducible] QS
macro "go_rest_quiet" : tactic => `(tactic|
  (refine QS_normal ?_
   repeat (go_big_quiet_step (fail))
   refine wpQuiet_nil ?_
   intro _ hw'
   obtain ⟨$(Lean.mkIdent `nq):ident, hw''⟩ := hw'
   subst hw''))
end Go.Proofs.Ytefkdicejhjfoaa
