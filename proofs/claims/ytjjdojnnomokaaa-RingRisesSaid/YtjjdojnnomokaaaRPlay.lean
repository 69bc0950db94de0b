import Derived.Test.YtjjdojnnomokaaaRAwake
namespace Go.Proofs.Ytjjdojnnomokaaa
open Go.RowKit
/-! What is in the rings, behind any calls: nothing is lost, turns rise. -/
def Rise (l : List Wt) : Prop := l.Pairwise (fun a b => a.t < b.t)
theorem lastP_concat (l : List Wt) (z : Wt) : lastP (l ++ [z]) = (z.t, true) := by
  rw [lastP, List.getLast?_append]; rfl
theorem concat_or (l : List Wt) : l = [] ∨ ∃ l' z, l = l' ++ [z] := by
  cases h : l.getLast? with
  | none => exact .inl (List.getLast?_eq_none_iff.1 h)
  | some z =>
    obtain ⟨l', hl⟩ := List.getLast?_eq_some_iff.1 h
    exact .inr ⟨l', z, hl⟩
theorem rise_snoc {l : List Wt} {x : Wt} (h : Rise l) (hb : badT l x.t = false) : Rise (l ++ [x]) := by
  rcases concat_or l with rfl | ⟨l', z, rfl⟩
  · exact List.pairwise_singleton _ _
  · have hz : z.t < x.t := by
      rw [badT, lastP_concat] at hb
      simp at hb
      exact hb
    refine List.pairwise_append.2 ⟨h, List.pairwise_singleton _ _, fun a ha b hb' => ?_⟩
    obtain rfl : b = x := by simpa using hb'
    rcases List.mem_append.1 ha with ha | ha
    · have := (List.pairwise_append.1 h).2.2 a ha z (by simp)
      omega
    · obtain rfl : a = z := by simpa using ha
      exact hz
theorem rise_sub {l m : List Wt} (h : Rise m) (hs : l.Sublist m) : Rise l := h.sublist hs
theorem rise_last {l : List Wt} {x : Wt} (h : Rise (l ++ [x])) : badT l x.t = false := by
  rcases concat_or l with rfl | ⟨l', z, rfl⟩
  · rfl
  · rw [badT, lastP_concat]
    have := (List.pairwise_append.1 h).2.2 z (by simp) x (by simp)
    simp
    exact this
theorem rise_mid {l : List Wt} {x y : Wt} (h : Rise (l ++ [y])) (hb : badT l x.t = false) (hxy : x.t < y.t) : Rise (l ++ [x] ++ [y]) := by
  have h1 := rise_snoc (rise_sub h (List.sublist_append_left l [y])) hb
  refine rise_snoc h1 ?_
  rw [badT, lastP_concat]
  simp
  exact hxy
/-! The ring's calls. -/
theorem push_perm (l : List Wt) (x : Wt) : (pushOut l x ++ pushL l x).Perm (l ++ [x]) := by
  unfold pushOut pushL
  split
  · exact List.Perm.refl _
  · rw [List.append_assoc]
    refine (List.Perm.append_left (l.take 32) (List.perm_append_comm (l₁ := [x]) (l₂ := l.drop 32))).trans ?_
    rw [← List.append_assoc, List.take_append_drop]
theorem push_sub (l : List Wt) (x : Wt) : (pushL l x).Sublist (l ++ [x]) := by
  unfold pushL
  split
  · exact List.Sublist.refl _
  · exact (List.drop_sublist _ _).trans (List.sublist_append_left _ _)
def nxL (r : Rg) : List Wt := if r.has then [r.nx] else []
theorem drainOut_eq (r : Rg) : drainOut r = r.l ++ nxL r := by
  unfold drainOut nxL
  cases r.has <;> simp
theorem put_perm {r : Rg} {x : Wt} (h : putBad r x = false) : (putOut r x ++ drainOut (putR r x)).Perm (drainOut r ++ [x]) := by
  rw [drainOut_eq, drainOut_eq, putOut, putR, h]
  simp only [Bool.false_eq_true, if_false]
  have hn : nxL { r with l := pushL r.l x } = nxL r := rfl
  rw [hn, ← List.append_assoc, List.append_assoc r.l]
  exact (List.Perm.append_right _ (push_perm r.l x)).trans (by rw [List.append_assoc]; exact List.Perm.append_left _ List.perm_append_comm)
theorem put_rise {r : Rg} {x : Wt} (h : putBad r x = false) (hr : Rise (drainOut r)) : Rise (drainOut (putR r x)) := by
  rw [putBad, Bool.or_eq_false_iff] at h
  obtain ⟨h1, h2⟩ := h
  rw [putR, putBad, h1, h2, Bool.or_false, if_neg (by decide), drainOut_eq]
  rw [drainOut_eq] at hr
  have hn : nxL { r with l := pushL r.l x } = nxL r := rfl
  rw [hn]
  refine rise_sub (m := r.l ++ [x] ++ nxL r) ?_ (List.Sublist.append (push_sub _ _) (List.Sublist.refl _))
  unfold nxL at *
  cases hh : r.has with
  | false => rw [hh] at hr; simp at hr ⊢; exact rise_snoc hr h1
  | true =>
    rw [hh] at hr h2
    simp only [if_true] at hr ⊢
    exact rise_mid hr h1 (by simpa using h2)
theorem kick_perm (r : Rg) : (kickOut r ++ drainOut (kickR r)).Perm (drainOut r) := by
  rw [drainOut_eq, drainOut_eq, kickOut, kickR]
  cases hh : r.has with
  | false => simp
  | true =>
    simp only [if_true]
    unfold nxL
    rw [hh]
    simp
    exact push_perm r.l r.nx
theorem kick_rise {r : Rg} (hr : Rise (drainOut r)) : Rise (drainOut (kickR r)) := by
  rw [drainOut_eq] at hr ⊢
  rw [kickR]
  cases hh : r.has with
  | false => simp only [Bool.false_eq_true, if_false]; exact hr
  | true =>
    simp only [if_true]
    unfold nxL at *
    rw [hh] at hr
    simp only [if_true, Bool.false_eq_true, if_false, List.append_nil] at hr ⊢
    exact rise_sub hr (push_sub _ _)
theorem rdy_perm {r : Rg} {x : Wt} (h : rdyBad r x = false) : (rdyOut r x ++ drainOut (rdyR r x)).Perm (drainOut r ++ [x]) := by
  rw [rdyOut, rdyR, h]
  simp only [Bool.false_eq_true, if_false]
  have hk : nxL (kickR r) = [] := by
    unfold nxL kickR
    cases hh : r.has <;> simp [hh]
  have h1 : drainOut (kickR r) = (kickR r).l := by rw [drainOut_eq, hk, List.append_nil]
  have h2 : drainOut { kickR r with has := true, nx := x } = (kickR r).l ++ [x] := by rw [drainOut_eq]; rfl
  rw [h2, ← List.append_assoc, ← h1]
  exact List.Perm.append_right _ (kick_perm r)
theorem rdy_rise {r : Rg} {x : Wt} (h : rdyBad r x = false) (hr : Rise (drainOut r)) : Rise (drainOut (rdyR r x)) := by
  have h0 := h
  rw [rdyBad, Bool.or_eq_false_iff] at h
  obtain ⟨h1, h2⟩ := h
  rw [rdyR, h0]
  simp only [Bool.false_eq_true, if_false]
  have hx : Rise (drainOut r ++ [x]) := by
    refine rise_snoc hr ?_
    rw [drainOut_eq]
    unfold nxL
    cases hh : r.has with
    | false => simpa using h1
    | true =>
      rw [hh] at h2
      simp only [if_true]
      rw [badT, lastP_concat]
      simpa using h2
  have hk : nxL (kickR r) = [] := by
    unfold nxL kickR
    cases hh : r.has <;> simp [hh]
  have h3 : drainOut { kickR r with has := true, nx := x } = (kickR r).l ++ [x] := by rw [drainOut_eq]; rfl
  rw [h3]
  refine rise_sub hx (List.Sublist.append ?_ (List.Sublist.refl _))
  rw [drainOut_eq, kickR]
  unfold nxL
  cases hh : r.has with
  | false => simp
  | true => simp only [if_true]; exact push_sub _ _
def takeO (r : Rg) : List Wt := if takeE r = 0 then [takeW r] else []
theorem take_perm (r : Rg) : (takeO r ++ drainOut (takeR r)).Perm (drainOut r) := by
  rw [drainOut_eq, drainOut_eq, takeO, takeE, takeR, takeW]
  unfold nxL
  cases hh : r.has with
  | true =>
    simp only [if_true, Bool.false_eq_true, if_false, List.append_nil]
    exact List.perm_append_comm
  | false =>
    cases hl : r.l with
    | nil => simp
    | cons y l => simp
theorem take_rise {r : Rg} (hr : Rise (drainOut r)) : Rise (drainOut (takeR r)) := by
  rw [drainOut_eq] at hr ⊢
  rw [takeR]
  unfold nxL at *
  cases hh : r.has with
  | true =>
    rw [hh] at hr
    simp only [if_true, Bool.false_eq_true, if_false, List.append_nil] at hr ⊢
    exact rise_sub hr (List.sublist_append_left _ _)
  | false =>
    rw [hh] at hr
    simp only [Bool.false_eq_true, if_false, List.append_nil] at hr ⊢
    exact rise_sub hr (List.tail_sublist _)
theorem drain_nil' (r : Rg) : drainOut (drainR r) = [] := by
  rw [drainOut_eq, drainR]
  unfold nxL
  cases hh : r.has <;> rfl
def stealO (rf rt : Rg) : List Wt := if stealE rf rt = 0 then [stealW rf rt] else []
theorem stealE_zero {rf rt : Rg} (h : stealE rf rt = 0) (hl : 0 ≤ lenR rt) : rt.l = [] ∧ rt.has = false ∧ lenR rf ≠ 0 := by
  rw [stealE] at h
  split at h
  · cases h
  · split at h
    · cases h
    · rename_i h1 h2
      obtain ⟨h3, h4⟩ := lenR_zero (show lenR rt = 0 by omega)
      exact ⟨h3, h4, h2⟩
theorem lenR_nonneg (r : Rg) : 0 ≤ lenR r := by unfold lenR; split <;> omega
theorem steal_perm (rf rt : Rg) : (stealO rf rt ++ (drainOut (stealF rf rt) ++ drainOut (stealT rf rt))).Perm (drainOut rf ++ drainOut rt) := by
  by_cases hE : stealE rf rt = 0
  · obtain ⟨h1, h2, h3⟩ := stealE_zero hE (lenR_nonneg rt)
    rw [stealO, stealF, stealT, stealW, hE, if_pos rfl, if_pos rfl, if_pos rfl, if_pos rfl]
    have hT : drainOut rt = [] := by rw [drainOut_eq, h1]; unfold nxL; rw [h2]; rfl
    rw [hT, List.append_nil]
    by_cases hl : rf.l = []
    · rw [if_pos hl, if_pos hl, if_pos hl, hT]
      have hh : rf.has = true := by
        cases hh : rf.has with
        | true => rfl
        | false => exact absurd (show lenR rf = 0 by rw [lenR, hh, hl]; rfl) h3
      rw [drainOut_eq, drainOut_eq, hl]
      unfold nxL
      rw [hh]
      simp
    · obtain ⟨y, l, hl'⟩ := List.exists_cons_of_ne_nil hl
      rw [if_neg hl, if_neg hl, if_neg hl]
      obtain ⟨m, hm⟩ : ∃ m, half rf.l.length = m + 1 := ⟨half rf.l.length - 1, by rw [hl']; unfold half; simp; omega⟩
      have e1 : drainOut { rt with l := (rf.l.take (half rf.l.length)).drop 1 } = l.take m := by
        rw [drainOut_eq]
        unfold nxL
        simp only [h2, Bool.false_eq_true, if_false, List.append_nil]
        rw [hm, hl']; rfl
      have e2 : drainOut { rf with l := rf.l.drop (half rf.l.length) } = l.drop m ++ nxL rf := by
        rw [drainOut_eq, hm, hl']; rfl
      rw [e1, e2, drainOut_eq rf, hl']
      show ([y] ++ (l.drop m ++ nxL rf ++ l.take m)).Perm (y :: l ++ nxL rf)
      refine List.Perm.cons y ?_
      show (l.drop m ++ nxL rf ++ l.take m).Perm (l ++ nxL rf)
      refine List.perm_append_comm.trans ?_
      rw [← List.append_assoc, List.take_append_drop]
  · rw [stealO, stealF, stealT, if_neg hE, if_neg hE, if_neg hE]
    exact List.Perm.refl _
theorem steal_rise {rf rt : Rg} (hf : Rise (drainOut rf)) (ht : Rise (drainOut rt)) : Rise (drainOut (stealF rf rt)) ∧ Rise (drainOut (stealT rf rt)) := by
  by_cases hE : stealE rf rt = 0
  · obtain ⟨h1, h2, h3⟩ := stealE_zero hE (lenR_nonneg rt)
    rw [stealF, stealT, hE, if_pos rfl, if_pos rfl]
    by_cases hl : rf.l = []
    · rw [if_pos hl, if_pos hl]
      exact ⟨List.Pairwise.nil, ht⟩
    · rw [if_neg hl, if_neg hl, drainOut_eq, drainOut_eq]
      rw [drainOut_eq] at hf
      refine ⟨rise_sub hf (List.Sublist.append (List.drop_sublist _ _) (List.Sublist.refl _)), ?_⟩
      unfold nxL
      simp only [h2, Bool.false_eq_true, if_false, List.append_nil]
      exact rise_sub hf ((List.drop_sublist _ _).trans ((List.take_sublist _ _).trans (List.sublist_append_left _ _)))
  · rw [stealF, stealT, if_neg hE, if_neg hE]
    exact ⟨hf, ht⟩
end Go.Proofs.Ytjjdojnnomokaaa
