import Derived.Test.YtnglgjegkjfnaaaSlE
set_option linter.unusedSimpArgs false
set_option linter.unusedVariables false
namespace Go.Proofs.Ytnglgjegkjfnaaa
open Go.RowKit Go.Proofs.YtnglgjegkjfnaaaW.PrintWords Go.Proofs.YtnglgjegkjfnaaaW.PrintMore
/-! slices.Clone at the slab's rows; append, its run known. -/
/-- v reads as the values vals. -/
def Rdv (w : World) (v : Value) (vals : List Value) : Prop := ∃ A n c, v = .slice A n c ∧ vals.length = n ∧ n ≤ c ∧ n ≤ 9223372036854775807 ∧ (0 < n → ∃ ad, A = some ad ∧ ∀ j u, vals[j]? = some u → w.cell? (ad.add j) = some u) ∧ ∀ u ∈ vals, u.oneCell' = true
theorem Rdv.below {w w' : World} {v : Value} {vals : List Value} (h : Rdv w v vals) (hB : Below w.heap.size w w') : Rdv w' v vals := by
  obtain ⟨A, n, c, rfl, hl, hc, hx, hcell, h1⟩ := h
  exact ⟨A, n, c, rfl, hl, hc, hx, fun h0 => by
    obtain ⟨ad, he, hat⟩ := hcell h0
    exact ⟨ad, he, fun j u hj => pw_cell_below hB (hat j u hj)⟩, h1⟩
theorem Row.reads {w : World} {base : Nat} {ok : Nat → Prop} {e : TypeId} {v : Value} {vals : List Value} (h : Row w base ok e v vals) : Rdv w v vals := by
  obtain ⟨A, c, rfl, hc⟩ := h.slice
  refine ⟨A, vals.length, c, rfl, rfl, hc, q_max h.row, fun h0 => ?_, h.one⟩
  obtain ⟨g, o, c', he, _, _, hat⟩ := h.form h0
  injection he with e1 _ _
  subst e1
  exact ⟨_, rfl, fun j u hj => by rw [adds]; exact (hat j).1 u hj⟩
theorem Row.empty (w : World) (e : TypeId) : Row (w.alloc (.cells #[] e)) w.heap.size (fun k => k = w.heap.size) e (.slice (some ⟨w.heap.size, 0, none⟩) 0 0) [] :=
  ⟨fun k hk => by simpa [Value.ownBlock] using hk.symm, ⟨rfl, .inl ⟨rfl, _, rfl, fun a ha => by injection ha with ha; subst ha; exact ⟨Nat.le_refl _, _, blk_new _ _⟩⟩⟩, fun u hu => by cases hu⟩
theorem appL_ {P : Program} {ops : Array Oper} {rest : List Oper} {o : Oper} {a : Act} {Q : Exit → Act → World → Prop} {W w1 : World} (hgd : o.guard = none) (s x : Operand) (t : TypeId) (ho : o.op = .call { callee := .builtin .append, args := #[s, x], argTypes := #[t, t] }) {v u v1 : Value} (hs : a.eval s = v) (hx : a.eval x = u)
    (hr : ∀ ty, (Builtin.append_ #[t, t] ty #[v, u]).run P W = .ok v1 w1) (h : wpList P ops Q rest (a.put o.dst v1) w1) : wpList P ops Q (o :: rest) a W := by
  refine wpList_plain hgd fun K hK => ?_
  unfold Oper.wp execOp
  simp only [ho, resolve, invoke, builtin, Sem.run_bind, Sem.run_pure, Result.andThen_ok, List.map_toArray, List.map_cons, List.map_nil, hs, hx, hr]
  exact hK _ _ h
theorem app_ {P : Program} {ops : Array Oper} {o : Oper} {a : Act} {Q : Exit → Act → World → Prop} {K : Act → World → Prop} {N : Option Tmp} {W w1 : World} (s x : Operand) (t : TypeId) (hw : Region.wanted o (yielded ops a.tmps) = true) (hN : o.dst = N) (ho : o.op = .call { callee := .builtin .append, args := #[s, x], argTypes := #[t, t] }) {v u v1 : Value} (hs : a.eval s = v) (hx : a.eval x = u)
    (hr : ∀ ty, (Builtin.append_ #[t, t] ty #[v, u]).run P W = .ok v1 w1) (h : K (a.put N v1) w1) : if Region.wanted o (yielded ops a.tmps) = true then Oper.wp P o a W K Q else K (a.put N undef) W := by
  rw [if_pos hw]
  subst hN
  unfold Oper.wp execOp
  simp only [ho, resolve, invoke, builtin, Sem.run_bind, Sem.run_pure, Result.andThen_ok, List.map_toArray, List.map_cons, List.map_nil, hs, hx, hr]
  exact h

set_option maxHeartbeats 1000000 in
theorem cloneI (v : Value) (vals : List Value) (w : World) (h : Rdv w v vals) (hm : vals.length * 8 ≤ 140737488355328) :
    Calls Try.prog 35 #[v] w fun e w' => ∃ v', e = .returned v' ∧ Row w' w.heap.size (fun _ => True) 3 v' vals ∧ Below w.heap.size w w' := by
  obtain ⟨A0, n, c, rfl, hl, hc, hx, hcell, h1⟩ := h
  have qnil : ∀ (w : World) (a : Option Addr) (n c n' c' : Nat), (binOp .eql 26 (.slice a n c) (.slice none n' c')).run Try.prog w = .ok (.bool a.isNone) w := fun w a n c n' c' => Lib.run_eql_slice_nil w _ _ a n c n' c' Try.underlying26
  cases A0 with
  | none =>
    obtain rfl : vals = [] := by
      rcases Nat.eq_zero_or_pos n with h0 | h0
      · subst h0; exact List.eq_nil_of_length_eq_zero hl
      · obtain ⟨ad, he, _⟩ := hcell h0
        cases he
    go_enter Try.func35, Try.ntmps35
    go_wp2
    go_ret
    exact ⟨_, rfl, Row.nil _ _ _ _, Below.refl _ _⟩
  | some ad =>
    have hB : Below w.heap.size w (w.alloc (.cells #[] 3)) := below_al (Below.refl _ _) _
    have hcw : 0 < n → ∃ ad', some ad = some ad' ∧ ∀ j u, vals[j]? = some u → (w.alloc (.cells #[] 3)).cell? (ad'.add j) = some u := fun h0 => by
      obtain ⟨ad', he, hat⟩ := hcell h0
      exact ⟨ad', he, fun j u hj => pw_cell_below hB (hat j u hj)⟩
    obtain ⟨v1, w1, hr, hrow, hg⟩ := row_append (P := Try.prog) (t := 26) Try.underlying26 infoIn rfl (by omega) (Row.empty w 3) (some ad) n c vals hl hcw h1 (by rw [← hl]; simpa using hm) (by simp)
    have HR := Aside0.mk hrow
    have hb1 : Below w.heap.size (w.alloc (.cells #[] 3)) w1 := (Below.refl w.heap.size (w.alloc (.cells #[] 3))).grown hg (by simp) (fun k hk => by simp [Value.ownBlock] at hk; omega)
    have HB := Aside0.mk (hB.trans hb1)
    clear hrow hg hcell hcw hb1 hB
    go_enter Try.func35, Try.ntmps35
    go_wp2_with (first | ((with_reducible refine gate_builtin (b := .append) (xs := #[.tmp 5, .tmp 6]) rfl ?_); at_builtin; refine appL_ rfl (.tmp 5) (.tmp 6) 26 rfl rfl rfl hr ?_))
    go_ret
    exact ⟨v1, rfl, HR.out.mono (fun _ _ _ => trivial), HB.out⟩

set_option maxHeartbeats 1000000 in
theorem cloneB (v : Value) (vals : List Value) (w : World) (h : Rdv w v vals) (hm : vals.length * 1 ≤ 140737488355328) :
    Calls Try.prog 36 #[v] w fun e w' => ∃ v', e = .returned v' ∧ Row w' w.heap.size (fun _ => True) 4 v' vals ∧ Below w.heap.size w w' := by
  obtain ⟨A0, n, c, rfl, hl, hc, hx, hcell, h1⟩ := h
  have qnil : ∀ (w : World) (a : Option Addr) (n c n' c' : Nat), (binOp .eql 27 (.slice a n c) (.slice none n' c')).run Try.prog w = .ok (.bool a.isNone) w := fun w a n c n' c' => Lib.run_eql_slice_nil w _ _ a n c n' c' Try.underlying27
  cases A0 with
  | none =>
    obtain rfl : vals = [] := by
      rcases Nat.eq_zero_or_pos n with h0 | h0
      · subst h0; exact List.eq_nil_of_length_eq_zero hl
      · obtain ⟨ad, he, _⟩ := hcell h0
        cases he
    go_enter Try.func36, Try.ntmps36
    go_wp2
    go_ret
    exact ⟨_, rfl, Row.nil _ _ _ _, Below.refl _ _⟩
  | some ad =>
    have hB : Below w.heap.size w (w.alloc (.cells #[] 4)) := below_al (Below.refl _ _) _
    have hcw : 0 < n → ∃ ad', some ad = some ad' ∧ ∀ j u, vals[j]? = some u → (w.alloc (.cells #[] 4)).cell? (ad'.add j) = some u := fun h0 => by
      obtain ⟨ad', he, hat⟩ := hcell h0
      exact ⟨ad', he, fun j u hj => pw_cell_below hB (hat j u hj)⟩
    obtain ⟨v1, w1, hr, hrow, hg⟩ := row_append (P := Try.prog) (t := 27) Try.underlying27 infoBo rfl (by omega) (Row.empty w 4) (some ad) n c vals hl hcw h1 (by rw [← hl]; simpa using hm) (by simp)
    have HR := Aside0.mk hrow
    have hb1 : Below w.heap.size (w.alloc (.cells #[] 4)) w1 := (Below.refl w.heap.size (w.alloc (.cells #[] 4))).grown hg (by simp) (fun k hk => by simp [Value.ownBlock] at hk; omega)
    have HB := Aside0.mk (hB.trans hb1)
    clear hrow hg hcell hcw hb1 hB
    go_enter Try.func36, Try.ntmps36
    go_wp2_with (first | ((with_reducible refine gate_builtin (b := .append) (xs := #[.tmp 5, .tmp 6]) rfl ?_); at_builtin; refine appL_ rfl (.tmp 5) (.tmp 6) 27 rfl rfl rfl hr ?_))
    go_ret
    exact ⟨v1, rfl, HR.out.mono (fun _ _ _ => trivial), HB.out⟩

end Go.Proofs.Ytnglgjegkjfnaaa
