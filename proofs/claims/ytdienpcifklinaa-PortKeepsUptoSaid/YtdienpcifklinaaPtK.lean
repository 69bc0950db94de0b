import Derived.Test.YtdienpcifklinaaPtF
namespace Go.Proofs.Ytdienpcifklinaa
open Go.RowKit Go.Proofs.YtdienpcifklinaaW.PrintWords Go.Proofs.YtdienpcifklinaaW.PrintMore Go.Proofs.YtdienpcifklinaaW.PrintLast
/-! PortKeeps: what is kept from act to act. -/
theorem comes_sub {cap : Int} : ∀ (l : List Int) (r : List Ag × Int), ((l.foldl (comes cap) r).1.map (·.f0)).Sublist (r.1.map (·.f0) ++ l)
  | [], r => by simp
  | v :: l, r => by
    rw [List.foldl_cons]
    refine (comes_sub l _).trans ?_
    unfold comes
    split
    · simp
    · simp only
      exact List.Sublist.append (List.Sublist.refl _) (List.sublist_cons_self v l)
theorem comes_cnt {cap : Int} : ∀ (l : List Int) (r : List Ag × Int), r.2 + l.length < 2147483647 → ((l.foldl (comes cap) r).1.length : Int) + (l.foldl (comes cap) r).2 = r.1.length + r.2 + l.length
  | [], r, _ => by simp
  | v :: l, r, h => by
    rw [List.length_cons] at h
    rw [List.foldl_cons]
    by_cases hc : (r.1.length : Int) < cap
    · have e : comes cap r v = (r.1 ++ [⟨v, 0⟩], r.2) := if_pos hc
      rw [e, comes_cnt l _ (by simp only; omega)]
      simp
      omega
    · have e : comes cap r v = (r.1, olderI r.2) := if_neg hc
      have e2 : olderI r.2 = r.2 + 1 := if_pos (by omega)
      rw [e, e2, comes_cnt l _ (by simp only; omega)]
      simp
      omega
structure KI (k : Nat) (s : Pt) (P G : List Int) : Prop where
  q : s.q = true
  sub : (G ++ (s.inn.map (·.f0) ++ s.out)).Sublist P
  cnt : (G.length + s.inn.length + s.out.length : Int) + s.lost = P.length
  le : P.length ≤ k
theorem KI.mono {k m : Nat} {s : Pt} {P G : List Int} (h : KI k s P G) (hk : k ≤ m) : KI m s P G := ⟨h.q, h.sub, h.cnt, Nat.le_trans h.le hk⟩
theorem KI.put {k : Nat} {s : Pt} {P G : List Int} (h : KI k s P G) (v : Int) : KI (k + 1) (putP s v).1 (if (putP s v).2 then P ++ [v] else P) G := by
  have h1 := h.cnt
  unfold putP
  rw [if_pos h.q]
  split
  · exact h.mono (by omega)
  · refine ⟨h.q, ?_, ?_, ?_⟩
    · simp only [if_true]
      have := List.Sublist.append h.sub (List.Sublist.refl [v])
      simpa using this
    · simp; omega
    · simp; exact h.le
theorem KI.getN {k : Nat} {s : Pt} {P G : List Int} (h : KI k s P G) (hn : s.inn = []) : getP s = (s, 0, -1) := by unfold getP; rw [hn]
theorem KI.getS {k : Nat} {s : Pt} {P G : List Int} {x : Ag} {r : List Ag} (h : KI k s P G) (hn : s.inn = x :: r) : getP s = ({ s with inn := r }, x.f0, x.f1) ∧ KI k { s with inn := r } P (G ++ [x.f0]) := by
  have h1 := h.cnt
  have h2 := h.sub
  rw [hn] at h1 h2
  refine ⟨by unfold getP; rw [hn]; simp only [if_pos h.q], h.q, by simpa using h2, ?_, h.le⟩
  simp at h1 ⊢
  omega
theorem KI.deliver {k : Nat} {s : Pt} {P G : List Int} (h : KI k s P G) (hl : 0 ≤ s.lost) (hk : k < 2147483647) : KI k (delivP s) P G := by
  have h1 := h.cnt
  have h3 := h.le
  have hc := comes_cnt (cap := s.cap) s.out (s.inn.map oldA, s.lost) (by simp only; omega)
  have hs := comes_sub (cap := s.cap) s.out (s.inn.map oldA, s.lost)
  have hm : (s.inn.map oldA).map (·.f0) = s.inn.map (·.f0) := by simp [oldA, Function.comp_def]
  simp only [hm] at hs
  unfold delivP
  rw [if_pos h.q]
  refine ⟨h.q, ?_, ?_, h3⟩
  · simp only [List.append_nil]
    exact (List.Sublist.append (List.Sublist.refl _) hs).trans h.sub
  · simp only [List.length_map, List.length_nil] at hc ⊢
    omega
/-- The sampled port, and the statement's own book. -/
structure KS (s : Pt) (last : Int) (has : Bool) (now : Int) (some_ : Bool) : Prop where
  q : s.q = false
  o : s.out = if has then [last] else []
  i : if some_ then ∃ a, s.inn = [⟨now, a⟩] ∧ 0 ≤ a else s.inn = []
theorem KS.put {s : Pt} {last : Int} {has : Bool} {now : Int} {some_ : Bool} (h : KS s last has now some_) (v : Int) : (putP s v).2 = true ∧ KS (putP s v).1 v true now some_ := by
  unfold putP
  rw [h.q]
  exact ⟨rfl, rfl, rfl, h.i⟩
theorem KS.getN {s : Pt} {last : Int} {has : Bool} {now : Int} (h : KS s last has now false) : getP s = (s, 0, -1) := by
  have := h.i
  simp at this
  unfold getP
  rw [this]
theorem KS.getS {s : Pt} {last : Int} {has : Bool} {now : Int} (h : KS s last has now true) : ∃ a, getP s = (s, now, a) ∧ 0 ≤ a := by
  have := h.i
  simp at this
  obtain ⟨a, ha, h0⟩ := this
  refine ⟨a, ?_, h0⟩
  unfold getP
  rw [ha, h.q]
  rfl
theorem KS.deliver {s : Pt} {last : Int} {has : Bool} {now : Int} {some_ : Bool} (h : KS s last has now some_) : KS (delivP s) last false (if has then last else now) (has || some_) := by
  have h1 := h.o
  have h2 := h.i
  unfold delivP
  simp only [h.q, Bool.false_eq_true, if_false]
  cases has with
  | true =>
    simp only [if_true] at h1
    rw [h1]
    exact ⟨rfl, rfl, ⟨0, rfl, by omega⟩⟩
  | false =>
    simp only [Bool.false_eq_true, if_false] at h1
    rw [h1]
    refine ⟨rfl, by simp, ?_⟩
    cases some_ with
    | true =>
      simp only [if_true] at h2
      obtain ⟨a, ha, h0⟩ := h2
      exact ⟨olderI a, by simp [ha, oldA], by unfold olderI; split <;> omega⟩
    | false =>
      simp at h2
      simp [h2]
theorem sub_ne {α : Type} {g p : α} {gs ps : List α} (h : (g :: gs).Sublist (p :: ps)) (hne : p ≠ g) : (g :: gs).Sublist ps := by
  cases h with
  | cons _ h => exact h
  | cons_cons _ h => exact absurd rfl hne
theorem sub_eq {α : Type} {g p : α} {gs ps : List α} (h : (g :: gs).Sublist (p :: ps)) : gs.Sublist ps := by
  cases h with
  | cons _ h => exact (List.sublist_cons_self g gs).trans h
  | cons_cons _ h => exact h
/-- The port and the two lists, in memory. -/
structure Ks (w : World) (b : Nat) (s : Pt) (vP vG : Value) (P G : List Int) (ok okP okG : Nat → Prop) (wr : World) : Prop where
  below : Below w.heap.size w wr
  port : IsPort wr w.heap.size ok b s
  p : Kd.R (Kd.int .i64) TI wr w.heap.size okP vP P
  g : Kd.R (Kd.int .i64) TI wr w.heap.size okG vG G
  zp : ∀ k, okP k → w.heap.size ≤ k ∧ k < wr.heap.size ∧ ¬ ok k ∧ ¬ okG k
  zg : ∀ k, okG k → w.heap.size ≤ k ∧ k < wr.heap.size ∧ ¬ ok k
def KsE (w : World) (b : Nat) (s : Pt) (vP vG : Value) (P G : List Int) (wr : World) : Prop := ∃ ok okP okG, Ks w b s vP vG P G ok okP okG wr
section
variable {w wr w' : World} {b : Nat} {s s' : Pt} {vP vG v1 : Value} {P G l1 : List Int} {ok okP okG : Nat → Prop}
theorem Ks.then (h : Ks w b s vP vG P G ok okP okG wr) (hB : Below wr.heap.size wr w') : Ks w b s vP vG P G ok okP okG w' :=
  ⟨below_then h.below hB, h.port.below hB, Kd.R_below h.p hB, Kd.R_below h.g hB, fun k hk => by obtain ⟨a, c, d, e⟩ := h.zp k hk; exact ⟨a, Nat.lt_of_lt_of_le c hB.size, d, e⟩, fun k hk => by obtain ⟨a, c, d⟩ := h.zg k hk; exact ⟨a, Nat.lt_of_lt_of_le c hB.size, d⟩⟩
theorem Ks.step (h : Ks w b s vP vG P G ok okP okG wr) (hP : IsPort w' w.heap.size (Ex ok wr w') b s') (hk : Keep ok wr w') : KsE w b s' vP vG P G w' :=
  ⟨Ex ok wr w', okP, okG, below_then_keep h.below h.below.size hk (fun i hi => (h.port.z i hi).1), hP, Kd.R_step h.p (fun k ho hl => hk.block k hl (fun f => (h.zp k ho).2.2.1 f)), Kd.R_step h.g (fun k ho hl => hk.block k hl (fun f => (h.zg k ho).2.2 f)),
   fun k hk' => by obtain ⟨a, c, d, e⟩ := h.zp k hk'; exact ⟨a, Nat.lt_of_lt_of_le c hk.size, fun hE => hE.elim d (fun hE => by omega), e⟩, fun k hk' => by obtain ⟨a, c, d⟩ := h.zg k hk'; exact ⟨a, Nat.lt_of_lt_of_le c hk.size, fun hE => hE.elim d (fun hE => by omega)⟩⟩
theorem Ks.pushP (h : Ks w b s vP vG P G ok okP okG wr) (hk : Keep (fun k => vP.ownBlock = some k) wr w') (hr : Kd.R (Kd.int .i64) TI w' w.heap.size (fun k => okP k ∨ wr.heap.size ≤ k) v1 l1) : KsE w b s v1 vG l1 G w' :=
  have hs := h.below.size
  ⟨ok, Ex okP wr w', okG, below_then_keep h.below h.below.size hk (fun i hi => (h.zp i (h.p.1 i hi)).1), h.port.keep hk (fun k hk' ho => (h.zp k (h.p.1 k hk')).2.2.1 ho), R_ex hr, Kd.R_step h.g (fun k ho hl => hk.block k hl (fun f => (h.zp k (h.p.1 k f)).2.2.2 ho)),
   fun k hk' => by
    have := hk.size
    rcases hk' with hk' | hk'
    · obtain ⟨a, c, d, e⟩ := h.zp k hk'; exact ⟨a, Nat.lt_of_lt_of_le c hk.size, d, e⟩
    · exact ⟨by omega, hk'.2, fun ho => by have := (h.port.z k ho).2; omega, fun ho => by have := (h.zg k ho).2.1; omega⟩, fun k hk' => by obtain ⟨a, c, d⟩ := h.zg k hk'; exact ⟨a, Nat.lt_of_lt_of_le c hk.size, d⟩⟩
theorem Ks.pushG (h : Ks w b s vP vG P G ok okP okG wr) (hk : Keep (fun k => vG.ownBlock = some k) wr w') (hr : Kd.R (Kd.int .i64) TI w' w.heap.size (fun k => okG k ∨ wr.heap.size ≤ k) v1 l1) : KsE w b s vP v1 P l1 w' :=
  have hs := h.below.size
  ⟨ok, okP, Ex okG wr w', below_then_keep h.below h.below.size hk (fun i hi => (h.zg i (h.g.1 i hi)).1), h.port.keep hk (fun k hk' ho => (h.zg k (h.g.1 k hk')).2.2 ho), Kd.R_step h.p (fun k ho hl => hk.block k hl (fun f => (h.zp k ho).2.2.2 (h.g.1 k f))), R_ex hr,
   fun k hk' => by
    obtain ⟨a, c, d, e⟩ := h.zp k hk'
    exact ⟨a, Nat.lt_of_lt_of_le c hk.size, d, fun hE => hE.elim e (fun hE => by omega)⟩, fun k hk' => by
    have := hk.size
    rcases hk' with hk' | hk'
    · obtain ⟨a, c, d⟩ := h.zg k hk'; exact ⟨a, Nat.lt_of_lt_of_le c hk.size, d⟩
    · exact ⟨by omega, hk'.2, fun ho => by have := (h.port.z k ho).2; omega⟩⟩
theorem KsE.below (h : KsE w b s vP vG P G wr) : Below w.heap.size w wr := by
  obtain ⟨_, _, _, h⟩ := h
  exact h.below
theorem R_empty1 {α : Type} (d : Kd α) (W : World) (base e : Nat) (hb : base ≤ W.heap.size) (ok : Nat → Prop) (hok : ok W.heap.size) : d.R e (W.alloc (.cells #[] e)) base ok (.slice (some ⟨W.heap.size, 0, none⟩) 0 0) [] := by
  refine ⟨fun k hk => ?_, [], ?_, Reps.none _ _⟩
  · have : W.heap.size = k := by simpa [Value.ownBlock] using hk
    rw [← this]; exact hok
  · exact World.ownsRow_lit (base := base) (e := e) (size := d.sz) W #[] 0 hb (Nat.zero_le _) (by simp)
theorem ks_start {W w2 : World} (hB : Below W.heap.size W w2) (hP : IsPort w2 W.heap.size ok b s) : KsE W b s (.slice (some ⟨w2.heap.size, 0, none⟩) 0 0) (.slice (some ⟨w2.heap.size + 1, 0, none⟩) 0 0) [] [] ((w2.alloc (.cells #[] TI)).alloc (.cells #[] TI)) := by
  have h1 : (w2.alloc (.cells #[] TI)).heap.size = w2.heap.size + 1 := by simp
  have h2 : ((w2.alloc (.cells #[] TI)).alloc (.cells #[] TI)).heap.size = w2.heap.size + 2 := by simp
  have hs := hB.size
  have hb1 : Below w2.heap.size w2 (w2.alloc (.cells #[] TI)) := below_al (Below.refl _ _) _
  have hb2 : Below (w2.alloc (.cells #[] TI)).heap.size (w2.alloc (.cells #[] TI)) ((w2.alloc (.cells #[] TI)).alloc (.cells #[] TI)) := below_al (Below.refl _ _) _
  have r1 := R_empty1 (Kd.int .i64) w2 W.heap.size TI (by omega) (fun k => k = w2.heap.size) rfl
  have r2 := R_empty1 (Kd.int .i64) (w2.alloc (.cells #[] TI)) W.heap.size TI (by omega) (fun k => k = w2.heap.size + 1) h1
  rw [h1] at r2
  refine ⟨ok, fun k => k = w2.heap.size, fun k => k = w2.heap.size + 1, below_then hB (below_then hb1 hb2), hP.below (below_then hb1 hb2), Kd.R_below r1 hb2, r2, fun k hk => ⟨by omega, by omega, fun ho => by have := (hP.z k ho).2; omega, by omega⟩, fun k hk => ⟨by omega, by omega, fun ho => by have := (hP.z k ho).2; omega⟩⟩
end
end Go.Proofs.Ytdienpcifklinaa
