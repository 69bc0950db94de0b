import Derived.Test.YtikoonomhojlkaaFqL
import Derived.Test.YtikoonomhojlkaaOpen
import Derived.Test.YtikoonomhojlkaaFqY
set_option linter.unusedSimpArgs false
set_option linter.unusedVariables false
namespace Go.Proofs.Ytikoonomhojlkaa
open Go.RowKit Go.ChangeShapes Go.WideShapes Go.ChangeAt Go.Proofs.YtikoonomhojlkaaW.PrintWords Go.Proofs.YtikoonomhojlkaaW.PrintMore Go.Proofs.YtikoonomhojlkaaW.PrintLast
/-! Those that wait, as data. -/
theorem opensG : Op.Opens Try.prog PFifoLoads.k29 29 (fun _ => True) (fun _ => 1) :=
  Op.opens_mono (Op.opens_struct Try.underlying29 (by kernel_rfl) (Op.opens_isoF (Op.opensF_cons rfl (by kernel_rfl) (by decide) (Op.opens_int Try.underlying3) (Op.opensF_last rfl (by kernel_rfl) (Op.opens_int Try.underlying3))) _ (fun t : Int × Int => (⟨t.1, t.2⟩ : PFifoLoads.S29)) (fun _ => rfl))) (fun _ _ => trivial) (fun _ => by simp)
theorem opensW : Op.Opens Try.prog kW 32 (fun _ => True) (fun _ => 1) :=
  Op.opens_mono (Op.opens_struct Try.underlying32 (by kernel_rfl) (Op.opens_isoF (Op.opensF_cons rfl (by kernel_rfl) (by decide) opensG (Op.opensF_last rfl (by kernel_rfl) (Op.opens_int Try.underlying30))) _ (fun t : PFifoLoads.S29 × Int => (⟨t.1, t.2⟩ : Wt)) (fun _ => rfl))) (fun _ _ => trivial) (fun _ => by simp)
end Go.Proofs.Ytikoonomhojlkaa
set_option linter.unusedSimpArgs false
set_option linter.unusedVariables false
namespace Go.Proofs.Ytikoonomhojlkaa
open Go.RowKit Go.ChangeShapes Go.WideShapes Go.ChangeAt Go.Proofs.YtikoonomhojlkaaW.PrintWords Go.Proofs.YtikoonomhojlkaaW.PrintMore Go.Proofs.YtikoonomhojlkaaW.PrintLast
/-! Acts as data; the queue and the list from round to round. -/
abbrev Ac : Type := Int × Wt × Int × Int
def kAc : Kd Ac := Kd.pair (Kd.int .i64) (Kd.pair kW (Kd.pair (Kd.int .i64) (Kd.int .i64)))
theorem kAc_open {w : World} {x : Ac} {cs : List Value} (h : kAc.K w x cs) : cs = [.int .i64 x.1, .int .i64 x.2.1.f0.f0, .int .i64 x.2.1.f0.f1, .int .u64 x.2.1.f1, .int .i64 x.2.2.1, .int .i64 x.2.2.2] := by
  obtain ⟨_, _, rfl, rfl, ⟨_, _, rfl, h3, ⟨_, _, rfl, rfl, rfl⟩⟩⟩ := h
  obtain rfl := kW_open h3
  rfl
theorem opensAc : Op.Opens Try.prog kAc 51 (fun _ => True) (fun _ => 1) :=
  Op.opens_mono (Op.opens_struct Try.underlying51 (by kernel_rfl) (Op.opensF_cons rfl (by kernel_rfl) (by decide) (Op.opens_int Try.underlying3) (Op.opensF_cons rfl (by kernel_rfl) (by decide) opensW (Op.opensF_cons rfl (by kernel_rfl) (by decide) (Op.opens_int Try.underlying3) (Op.opensF_last rfl (by kernel_rfl) (Op.opens_int Try.underlying3)))))) (fun _ _ => trivial) (fun _ => by simp)
theorem R_empty' (W : World) (base : Nat) (hb : base ≤ W.heap.size) : Kd.R kW TW (W.alloc (.cells #[] TW)) base (fun k => k = W.heap.size) (.slice (some ⟨W.heap.size, 0, none⟩) 0 0) [] := by
  refine ⟨fun k hk => ?_, [], ?_, Reps.none _ _⟩
  · have : W.heap.size = k := by simpa [Value.ownBlock] using hk
    omega
  · exact World.ownsRow_lit (base := base) (e := TW) (size := kW.sz) W #[] 0 hb (Nat.zero_le _) (by simp)
end Go.Proofs.Ytikoonomhojlkaa
set_option linter.unusedSimpArgs false
set_option linter.unusedVariables false
namespace Go.Proofs.Ytikoonomhojlkaa
open Go.RowKit Go.ChangeShapes Go.WideShapes Go.ChangeAt Go.Proofs.YtikoonomhojlkaaW.PrintWords Go.Proofs.YtikoonomhojlkaaW.PrintMore Go.Proofs.YtikoonomhojlkaaW.PrintLast
/-! What was taken and is put back: the list again. -/
theorem sorted_perm : ∀ {l L : List Wt}, l.Pairwise (fun y z => y.f1 < z.f1) → L.Pairwise (fun y z => y.f1 < z.f1) → L.Perm l → L = l
  | [], L, _, _, h => h.eq_nil
  | y :: l, [], _, _, h => by have := h.length_eq; simp at this
  | y :: l, z :: L, hl, hL, h => by
    have h1 := List.pairwise_cons.1 hl
    have h2 := List.pairwise_cons.1 hL
    have hy : y ∈ z :: L := h.mem_iff.2 (List.mem_cons_self)
    have hz : z ∈ y :: l := h.mem_iff.1 (List.mem_cons_self)
    have he : z = y := by
      rcases List.mem_cons.1 hy with e | hy
      · exact e.symm
      · rcases List.mem_cons.1 hz with e | hz
        · exact e
        · have := h2.1 y hy
          have := h1.1 z hz
          omega
    subst he
    rw [sorted_perm h1.2 h2.2 ((List.perm_cons z).1 h)]
theorem bk_end {l L : List Wt} (hg : GoodQ l) (hL : GoodQ L) (h : (L ++ []).Perm l) : L = l := by
  rw [List.append_nil] at h
  exact sorted_perm (rises_pw.1 hg.rises) (rises_pw.1 hL.rises) h
theorem bk_put {l L T : List Wt} {x : Wt} (hg : GoodQ l) (h : (L ++ (T ++ [x])).Perm l) : L.any (isB x.f0.f0 x.f0.f1) = false ∧ (putL L x).2 = 0 ∧ ((putL L x).1 ++ T).Perm l := by
  have hn : ((L ++ (T ++ [x])).map gidOf).Nodup := ((h.map gidOf).nodup_iff).2 hg.apart
  have ht : ((L ++ (T ++ [x])).map (fun y => y.f1)).Nodup := ((h.map (fun y => y.f1)).nodup_iff).2 (by
    rw [List.nodup_iff_pairwise_ne, List.pairwise_map]
    exact (rises_pw.1 hg.rises).imp (fun hlt he => by omega))
  rw [List.map_append, List.nodup_append] at hn ht
  have ha : L.any (isB x.f0.f0 x.f0.f1) = false := by
    rw [List.any_eq_false]
    intro z hz hb
    have := isB_iff.1 hb
    exact hn.2.2 (gidOf z) (List.mem_map.2 ⟨z, hz, rfl⟩) (gidOf x) (List.mem_map.2 ⟨x, by simp, rfl⟩) (by unfold gidOf; rw [this.1, this.2])
  have hb : L.any (eqT x.f1) = false := by
    rw [List.any_eq_false]
    intro z hz hb
    exact ht.2.2 z.f1 (List.mem_map.2 ⟨z, hz, rfl⟩) x.f1 (List.mem_map.2 ⟨x, by simp, rfl⟩) (by simpa [eqT] using hb)
  have hlen : ¬ 4096 ≤ L.length := by
    have h1 := h.length_eq
    have h2 := hg.len
    simp only [List.length_append, List.length_cons, List.length_nil] at h1
    omega
  have hp : putL L x = (insL L x, 0) := by rw [putL, ha, hb, Bool.or_false, if_neg (by decide), if_neg hlen]
  refine ⟨ha, by rw [hp], ?_⟩
  rw [hp]
  refine ((ins_perm L x).append_right T).trans (List.Perm.trans ?_ h)
  exact (List.perm_append_comm (l₁ := x :: L) (l₂ := T)).trans (by
    have h1 : (T ++ x :: L).Perm (T ++ (L ++ [x])) := List.Perm.append_left T (List.perm_append_singleton x L).symm
    refine h1.trans ?_
    rw [← List.append_assoc, ← List.append_assoc]
    exact List.Perm.append_right [x] List.perm_append_comm)
theorem bk_take (l : List Wt) : ((takeL l).2.2 = 0 ∧ ((takeL l).1 ++ [(takeL l).2.1]).Perm l) ∨ ((takeL l).2.2 ≠ 0 ∧ ((takeL l).1 ++ []).Perm l) := by
  cases l with
  | nil => exact .inr ⟨by decide, List.Perm.refl _⟩
  | cons y r => exact .inl ⟨rfl, List.perm_append_singleton y r⟩
theorem bk_drop (l : List Wt) (g0 g1 : Int) : ((dropL l g0 g1).2.2 = 0 ∧ ((dropL l g0 g1).1 ++ [(dropL l g0 g1).2.1]).Perm l) ∨ ((dropL l g0 g1).2.2 ≠ 0 ∧ ((dropL l g0 g1).1 ++ []).Perm l) := by
  unfold dropL
  cases h : l.findIdx? (isB g0 g1) with
  | none => exact .inr ⟨by simp, by simp⟩
  | some j =>
    have hj : j < l.length := by
      rw [List.findIdx?_eq_some_iff_getElem] at h
      exact h.1
    refine .inl ⟨rfl, ?_⟩
    have hx : l.getD j zWt = l[j] := by simp [List.getD, List.getElem?_eq_getElem hj]
    show (l.take j ++ l.drop (j + 1) ++ [l.getD j zWt]).Perm l
    rw [hx, List.append_assoc]
    have h1 : (l.take j ++ (l.drop (j + 1) ++ [l[j]])).Perm (l.take j ++ (l[j] :: l.drop (j + 1))) := List.Perm.append_left _ (List.perm_append_singleton _ _)
    refine h1.trans ?_
    rw [← List.drop_eq_getElem_cons hj, List.take_append_drop]
theorem bk_batch (l : List Wt) (procs room : Int) : ((batchL l procs room).1 ++ (batchL l procs room).2.1).Perm l := by
  unfold batchL
  split
  · simp
  · exact List.perm_append_comm.trans (by rw [List.take_append_drop])
/-- The queue, what was in it, and what was taken. -/
structure BK (w0 : World) (b : Nat) (L lw T : List Wt) (v vw vt : Value) (ok P R : Nat → Prop) (wr : World) : Prop where
  d : DQ w0 b L lw v vw ok P wr
  t : DQ w0 b L T v vt ok R wr
  pr : ∀ k, P k → ¬ R k
section
variable {w0 wr w' : World} {b : Nat} {L L' lw T T' : List Wt} {v v' vw vt vt' : Value} {ok P R : Nat → Prop}
theorem BK.then (h : BK w0 b L lw T v vw vt ok P R wr) (hB : Below wr.heap.size wr w') : BK w0 b L lw T v vw vt ok P R w' := ⟨h.d.then hB, h.t.then hB, h.pr⟩
theorem BK.qstep (h : BK w0 b L lw T v vw vt ok P R wr) (hQ : Que w0 b L' (Ex ok wr w') v' w') (hk : Keep ok wr w') : BK w0 b L' lw T v' vw vt (Ex ok wr w') P R w' := ⟨h.d.qstep hQ hk, h.t.qstep hQ hk, h.pr⟩
theorem BK.tstep (h : BK w0 b L lw T v vw vt ok P R wr) (hR : Kd.R kW TW w' w0.heap.size (Ex R wr w') vt' T') (hk : Keep R wr w') : BK w0 b L lw T' v vw vt' ok P (Ex R wr w') w' :=
  ⟨h.d.far hk (fun k hr => ⟨(h.t.zp k hr).1, (h.t.zp k hr).2.2, fun hp => h.pr k hp hr⟩), h.t.rstep hR hk, fun k hp hr => hr.elim (h.pr k hp) (fun hr => by have := (h.d.zp k hp).2.1; omega)⟩
end
def BKE (w0 : World) (b : Nat) (L lw T : List Wt) (vw vt : Value) (wr : World) : Prop := ∃ v ok P R, BK w0 b L lw T v vw vt ok P R wr
/-- All, and nothing taken yet. -/
theorem bk_new {w0 wr w1 : World} {b : Nat} {L : List Wt} {vw : Value} (h : QueE w0 b L wr) (hR : Kd.R kW TW w1 wr.heap.size (fun _ => True) vw L) (hB : Below wr.heap.size wr w1) : BKE w0 b L L [] vw (.slice (some ⟨w1.heap.size, 0, none⟩) 0 0) (w1.alloc (.cells #[] TW)) := by
  obtain ⟨ok, v, h⟩ := h
  have hz := h.below.size
  have hz1 := hB.size
  have hA : Below w1.heap.size w1 (w1.alloc (.cells #[] TW)) := below_al (Below.refl _ _) _
  have hQ := (h.then hB).then hA
  refine ⟨v, ok, fun k => wr.heap.size ≤ k ∧ k < w1.heap.size, fun k => k = w1.heap.size, ⟨⟨hQ, ?_, fun k hk => ⟨by omega, by simp; omega, fun ho => by have := (h.q.z k ho).2; omega⟩⟩, ⟨hQ, R_empty' _ _ (by omega), fun k hk => by subst hk; exact ⟨by omega, by simp, fun ho => by have := (h.q.z _ ho).2; omega⟩⟩, fun k hk h => by omega⟩⟩
  exact Kd.R_below (Kd.R_mono (Kd.R_lower (Kd.R_mono (Kd.R_bound hR) (fun k ho => (⟨ho.2.1, ho.2.2.1⟩ : wr.heap.size ≤ k ∧ k < w1.heap.size))) hz) (fun _ h => h)) hA
theorem batch_len (l : List Wt) (procs room : Int) : (batchL l procs room).2.1.length ≤ l.length := by
  unfold batchL
  split
  · simp
  · simp only [List.length_take]; omega
/-- A batch in hand as well. -/
structure BK4 (w0 : World) (b : Nat) (L lw B T : List Wt) (v vw vb vt : Value) (ok P R U : Nat → Prop) (wr : World) : Prop where
  k : BK w0 b L lw T v vw vt ok P R wr
  u : DQ w0 b L B v vb ok U wr
  ur : ∀ k, U k → ¬ R k
def BK4E (w0 : World) (b : Nat) (L lw B T : List Wt) (vw vb vt : Value) (wr : World) : Prop := ∃ v ok P R U, BK4 w0 b L lw B T v vw vb vt ok P R U wr
section
variable {w0 wr w' : World} {b : Nat} {L L' lw B T T' : List Wt} {v v' vw vb vt vt' : Value} {ok P R U : Nat → Prop}
theorem BK4.tstep (h : BK4 w0 b L lw B T v vw vb vt ok P R U wr) (hR : Kd.R kW TW w' w0.heap.size (Ex R wr w') vt' T') (hk : Keep R wr w') : BK4 w0 b L lw B T' v vw vb vt' ok P (Ex R wr w') U w' :=
  ⟨h.k.tstep hR hk, h.u.far hk (fun k hr => ⟨(h.k.t.zp k hr).1, (h.k.t.zp k hr).2.2, fun hu => h.ur k hu hr⟩), fun k hu hr => hr.elim (h.ur k hu) (fun hr => by have := (h.u.zp k hu).2.1; omega)⟩
end
theorem R_own {w : World} {base : Nat} {ok : Nat → Prop} {v : Value} {xs : List Wt} (h : Kd.R kW TW w base ok v xs) : Kd.R kW TW w base (fun k => v.ownBlock = some k) v xs := (flat_R flatW).2 ⟨fun _ h => h, ((flat_R flatW).1 h).2⟩
theorem bk_batched {w0 wr w' : World} {b : Nat} {L L' lw B : List Wt} {v v' vw vt vb : Value} {ok P R : Nat → Prop} (h : BK w0 b L lw [] v vw vt ok P R wr) (hq : QB w' w0.heap.size (Ex ok wr w') b L' v') (hu : Kd.R kW TW w' wr.heap.size (fun _ => True) vb B) (hd : ∀ k, vb.ownBlock = some k → ¬ v'.ownBlock = some k) (hk : Keep ok wr w') (hg : GoodQ L') : BK4E w0 b L' lw B [] vw vb vt w' := by
  have hz := h.d.q.below.size
  have hsz := hk.size
  have hin : ∀ k, (k = b ∨ v'.ownBlock = some k) → Ex ok wr w' k := fun k h1 => h1.elim (fun e => by subst e; exact hq.hb) (fun e => hq.r.1 k e)
  have hQ : Que w0 b L' (fun k => k = b ∨ v'.ownBlock = some k) v' w' := ⟨below_then_keep h.d.q.below hz hk (fun i hi => (h.d.q.q.z i hi).1), ⟨fun k h1 => hq.z k (hin k h1), .inl rfl, hq.blk, Kd.R_mono (R_own hq.r) (fun _ h => .inr h)⟩, hg⟩
  have hno : ∀ k, k < wr.heap.size → ¬ ok k → ¬ (k = b ∨ v'.ownBlock = some k) := fun k h1 h2 h3 => (hin k h3).elim h2 (fun h4 => by omega)
  have hbz := (h.d.q.q.z b h.d.q.q.hb).2
  refine ⟨v', fun k => k = b ∨ v'.ownBlock = some k, P, R, fun k => vb.ownBlock = some k, ⟨⟨⟨hQ, Kd.R_step h.d.r (fun k hp hl => hk.block k hl (fun ho => (h.d.zp k hp).2.2 ho)), fun k hp => ?_⟩, ⟨hQ, Kd.R_step h.t.r (fun k hp hl => hk.block k hl (fun ho => (h.t.zp k hp).2.2 ho)), fun k hp => ?_⟩, h.pr⟩, ⟨hQ, Kd.R_lower (R_own hu) hz, fun k hp => ?_⟩, fun k hu' hr => ?_⟩⟩
  · obtain ⟨a, c, d⟩ := h.d.zp k hp
    exact ⟨a, by omega, hno k c d⟩
  · obtain ⟨a, c, d⟩ := h.t.zp k hp
    exact ⟨a, by omega, hno k c d⟩
  · have h1 := (Kd.R_bound (R_own hu)).1 k hp
    exact ⟨by omega, h1.2.2.1, fun h2 => h2.elim (fun e => by omega) (fun e => hd k hp e)⟩
  · have h1 := (Kd.R_bound (R_own hu)).1 k hu'
    have h2 := (h.t.zp k hr).2.1
    omega
end Go.Proofs.Ytikoonomhojlkaa
