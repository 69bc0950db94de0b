import Derived.Test.YtdienpcifklinaaPtB
set_option linter.unusedSimpArgs false
set_option linter.unusedVariables false
namespace Go.Proofs.Ytdienpcifklinaa
open Go.RowKit Go.Proofs.YtdienpcifklinaaW.PrintWords Go.Proofs.YtdienpcifklinaaW.PrintMore Go.Proofs.YtdienpcifklinaaW.PrintLast
/-! deliver, of both kinds: printed by gen15a.py. -/
theorem own_set1 {w : World} {base e sz g n cap i : Nat} {inner : List Value} {u : Value} (h : w.ownsRow base e sz (.slice (some ⟨g, 0, none⟩) n cap) n inner) (hi : i < n * sz) : (w.setCell ⟨g, i, none⟩ u).ownsRow base e sz (.slice (some ⟨g, 0, none⟩) n cap) n (inner.set i u) := by
  obtain ⟨hl, h2⟩ := h
  refine ⟨by rw [List.length_set]; exact hl, ?_⟩
  rcases h2 with ⟨he, _⟩ | ⟨g', cap', cur, he, hg, hh, hc, hm, hs, ht⟩
  · cases he
  · injection he with e1 _ e3
    injection e1 with e1
    injection e1 with e1
    subst e1; subst e3
    refine .inr ⟨g, cap, cur.setIfInBounds i u, rfl, hg, blk_set hh, hc, hm, by simpa using hs, ?_⟩
    rw [Array.toList_setIfInBounds, ← ht]
    apply List.ext_getElem?
    intro j
    rw [List.getElem?_take, List.getElem?_set, List.getElem?_set, List.getElem?_take]
    by_cases hj : j < n * sz
    · simp only [hj, if_true]
      by_cases e : i = j
      · subst e
        have h1 : i < cur.toList.length := by rw [Array.length_toList, hs]; exact Nat.lt_of_lt_of_le hi (Nat.mul_le_mul_right _ hc)
        have h2 : i < (cur.toList.take (n * sz)).length := by rw [List.length_take]; omega
        have h3 : i < cur.size := by simpa using h1
        simp [hj, h3]
        omega
      · simp [e]
    · have h3 : i ≠ j := by omega
      simp [hj, h3]
theorem flatMap_set1 {α : Type} {enc : α → List Value} {sz : Nat} (hl : ∀ x, (enc x).length = sz) : ∀ (xs : List α) (k : Nat) (x y : α) (j : Nat) (u : Value), xs[k]? = some x → j < sz → enc y = (enc x).set j u → (xs.set k y).flatMap enc = (xs.flatMap enc).set (k * sz + j) u
  | [], k, x, y, j, u, h, _, _ => by simp at h
  | a :: xs, 0, x, y, j, u, h, hj, he => by
    obtain rfl : a = x := by simpa using h
    rw [List.set_cons_zero, List.flatMap_cons, List.flatMap_cons, he, List.set_append_left _ _ (by rw [hl]; omega)]
    simp
  | a :: xs, k + 1, x, y, j, u, h, hj, he => by
    rw [List.set_cons_succ, List.flatMap_cons, List.flatMap_cons, flatMap_set1 hl xs k x y j u (by simpa using h) hj he, List.set_append_right _ _ (by rw [hl, Nat.add_mul]; omega), hl]
    congr 2
    rw [Nat.add_mul]; omega
/-- One cell of one element is written. -/
theorem R_set1 {α : Type} {d : Kd α} {enc : α → List Value} (hF : Flat d enc) {w : World} {base e g n cap k j : Nat} {ok : Nat → Prop} {xs : List α} {x y : α} {u : Value} (h : d.R e w base ok (.slice (some ⟨g, 0, none⟩) n cap) xs) (hk : xs[k]? = some x) (hj : j < d.sz) (he : enc y = (enc x).set j u) :
    d.R e (w.setCell ⟨g, k * d.sz + j, none⟩ u) base ok (.slice (some ⟨g, 0, none⟩) n cap) (xs.set k y) := by
  obtain ⟨hok, ho⟩ := (flat_R hF).1 h
  have hkl := (List.getElem?_eq_some_iff.1 hk).1
  obtain ⟨A, c, hv⟩ := Kd.R_slice h
  injection hv with _ hn _
  subst hn
  refine (flat_R hF).2 ⟨hok, ?_⟩
  rw [List.length_set, flatMap_set1 hF.len xs k x y j u hk hj he]
  refine own_set1 ho ?_
  have : (k + 1) * d.sz ≤ xs.length * d.sz := Nat.mul_le_mul_right _ hkl
  rw [Nat.add_mul] at this
  omega
def agedTo (l : List Ag) (k : Nat) : List Ag := (l.take k).map oldA ++ l.drop k
theorem agedTo_len (l : List Ag) (k : Nat) : (agedTo l k).length = l.length := by simp [agedTo]; omega
theorem agedTo_step {l : List Ag} {k : Nat} {x : Ag} (h : l[k]? = some x) : agedTo l (k + 1) = (agedTo l k).set k (oldA x) := by
  obtain ⟨hk, rfl⟩ := List.getElem?_eq_some_iff.1 h
  unfold agedTo
  rw [List.take_succ_eq_append_getElem hk, List.map_append, List.set_append_right _ _ (by simp; omega)]
  simp [Nat.min_eq_left (Nat.le_of_lt hk)]
  rw [List.drop_eq_getElem_cons hk, List.set_cons_zero]
theorem agedTo_get {l : List Ag} {k : Nat} (h : k < l.length) : (agedTo l k)[k]? = l[k]? := by
  unfold agedTo
  rw [List.getElem?_append_right (by simp; omega), List.getElem?_drop]
  simp [Nat.min_eq_left (Nat.le_of_lt h)]
theorem agedTo_all (l : List Ag) : agedTo l l.length = l.map oldA := by simp [agedTo]
/-- What comes, of the first k. -/
def inTo (s : Pt) (k : Nat) : List Ag × Int := (s.out.take k).foldl (comes s.cap) (s.inn.map oldA, s.lost)
theorem inTo_step {s : Pt} {k : Nat} {v : Int} (h : s.out[k]? = some v) : inTo s (k + 1) = comes s.cap (inTo s k) v := by
  obtain ⟨hk, rfl⟩ := List.getElem?_eq_some_iff.1 h
  unfold inTo
  rw [List.take_succ_eq_append_getElem hk, List.foldl_append]
  rfl
theorem comes_len {cap : Int} {r : List Ag × Int} {v : Int} (h : (r.1.length : Int) ≤ cap) : ((comes cap r v).1.length : Int) ≤ cap := by
  unfold comes
  split
  · simp; omega
  · exact h
theorem comes_lost {cap : Int} {r : List Ag × Int} {v : Int} (h : 0 ≤ r.2 ∧ r.2 ≤ 2147483647) : 0 ≤ (comes cap r v).2 ∧ (comes cap r v).2 ≤ 2147483647 := by
  unfold comes olderI
  split
  · exact h
  · simp only; split <;> omega
theorem inTo_ok {s : Pt} (hg : Good s) : ∀ k, ((inTo s k).1.length : Int) ≤ s.cap ∧ 0 ≤ (inTo s k).2 ∧ (inTo s k).2 ≤ 2147483647
  | 0 => by simp [inTo]; exact ⟨hg.i, hg.l⟩
  | k + 1 => by
    have ih := inTo_ok hg k
    cases h : s.out[k]? with
    | none =>
      have e : inTo s (k + 1) = inTo s k := by
        have := List.getElem?_eq_none_iff.1 h
        unfold inTo
        rw [List.take_of_length_le (by omega), List.take_of_length_le (by omega)]
      rw [e]; exact ih
    | some v =>
      rw [inTo_step h]
      exact ⟨comes_len ih.1, comes_lost ih.2⟩
theorem PtQ.mono {w : World} {base d : Nat} {ok ok' : Nat → Prop} {s : Pt} {vO vI : Value} (h : PtQ w base ok d s vO vI) (hok : ∀ k, ok k → ok' k) : PtQ w base ok' d s vO vI := ⟨h.blk, Kd.R_mono h.o hok, Kd.R_mono h.i hok⟩
theorem ex_ex {w x w' : World} {ok : Nat → Prop} (h1 : w.heap.size ≤ x.heap.size) (h2 : x.heap.size ≤ w'.heap.size) : ∀ k, Ex (Ex ok w x) x w' k → Ex ok w w' k := fun k hk => by
  rcases hk with (h | h) | h
  · exact .inl h
  · exact .inr (by omega)
  · exact .inr (by omega)
theorem keep_ex {w x w' : World} {ok : Nat → Prop} (h : Keep ok w x) (k : Keep (Ex ok w x) x w') : Keep ok w w' := h.trans' k (fun i hi hE => hE.resolve_right (by omega))
def QdA (w : World) (base d : Nat) (ok : Nat → Prop) (s : Pt) (vO vI : Value) (k : Nat) (wr : World) : Prop := PtQ wr base ok d { s with inn := agedTo s.inn k } vO vI ∧ Keep ok w wr
def QdB (w : World) (base d : Nat) (ok : Nat → Prop) (s : Pt) (vO : Value) (k : Nat) (wr : World) : Prop := ∃ vI, PtQ wr base (Ex ok w wr) d { s with inn := (inTo s k).1, lost := (inTo s k).2 } vO vI ∧ Keep ok w wr
set_option maxRecDepth 100000 in
set_option maxHeartbeats 4000000 in
theorem qdeliv {w : World} {base d : Nat} {ok : Nat → Prop} {s : Pt} {vO vI : Value} (hq : s.q = true) (h : PtQ w base ok d s vO vI) (hd : ok d) (hz : ∀ k, ok k → base ≤ k ∧ k < w.heap.size) (hg : Good s) : Calls Try.prog 45 #[.pointer (some ⟨d, 0, none⟩)] w fun e w' => e = .returned (.tuple #[]) ∧ Kept1 w' base (Ex ok w w') d (delivP s) ∧ Keep ok w w' := by
  obtain ⟨AI, cI, rfl, hcI, -⟩ := Kd.R_reads h.i
  have HS : Aside0 (QdA w base d ok s vO (.slice AI s.inn.length cI) 0 w) := ⟨by
    refine ⟨?_, Keep.refl _ _⟩
    have : agedTo s.inn 0 = s.inn := by simp [agedTo]
    rw [this]; exact h⟩
  have c2 := cell_blk h.blk 2
  simp at c2
  have hdl := lt_blk h.blk
  have hbd := (hz d hd).1
  have hcap1 := hg.c1
  have hil := hg.i
  have hol := hg.o
  clear h
  go_enter Try.func45, Try.ntmps45
  go_wp2_with fail
  clear c2 hdl
  go_loopw [10] (fun i wr => ∃ k : Nat, k ≤ s.inn.length ∧ i = .int .i64 k ∧ Aside0 (QdA w base d ok s vO (.slice AI s.inn.length cI) k wr)) (fun i _ => s.inn.length - (intOf i).toNat)
  case atStart => exact ⟨0, by omega, rfl, HS⟩
  case round =>
    clear HS
    obtain ⟨k, hk, rfl, HE⟩ := hrel
    by_cases hlt : k < s.inn.length
    · have H0 := Aside0.mk (HE.out.1.move (w' := wr.drew) (fun _ _ _ => rfl) hd)
      have hk0 := Aside0.mk (HE.out.2.drew)
      obtain ⟨g, cap, he, -, hgl, -, -, -, hat, -, hfz⟩ := own_at ((flat_R flatA).1 H0.out.i).2 (by rw [agedTo_len]; omega)
      rw [agedTo_len] at he
      injection he with he1 _ he3
      subst he1 he3
      obtain ⟨x, hx⟩ : ∃ x, s.inn[k]? = some x := ⟨_, List.getElem?_eq_getElem hlt⟩
      have HX := Aside0.mk ((agedTo_get hlt).trans hx)
      have HT := Aside0.mk (agedTo_step hx)
      have hx0 := (hg.a x (List.mem_of_getElem? hx)).1
      have ya : wr.drew.cell? ⟨g, k * 2 + 1, none⟩ = some (.int .i64 x.f1) := hat (k * 2 + 1) _ (by
        have h1 := flatMap_drop flatA.len (agedTo s.inn k) k
        have h2 : kA.sz = 2 := rfl
        rw [h2] at h1
        obtain ⟨hkl, hkx⟩ := List.getElem?_eq_some_iff.1 HX.out
        rw [List.drop_eq_getElem_cons hkl, hkx] at h1
        have h3 := congrArg (fun l => l[1]?) h1
        rw [List.getElem?_drop] at h3
        rw [← h3]
        rfl)
      have g2 : wr.drew.cell? ⟨d, 2, none⟩ = some (.slice (some ⟨g, 0, none⟩) s.inn.length cI) := cell_blk H0.out.blk 2
      have yf := hfz (k * 2 + 1)
      have hdl := lt_blk H0.out.blk
      have hki : (0 : Int) ≤ (k : Int) := by omega
      have hkl : (k : Int) < (s.inn.length : Int) := by omega
      clear hat hfz hx HE
      go_wp2_with fail
      refine start_ (n := 17) (S := fun w' => w'.cell? ⟨d, 2, none⟩ = some (.slice (some ⟨g, 0, none⟩) s.inn.length cI) ∧ w'.cell? ⟨g, k * 2 + 1, none⟩ = some (.int .i64 x.f1)) (ds := [16]) #[false, false, false, false, false, false, false, false, false, false, false, false, false, false, false, false, false] (by kernel_rfl) rfl rfl ⟨g2, ya⟩ (fun hHeld => ?_)
      generalize wr.drew = x0 at *
      refine pure_ (i := 0) (N := some 13) (v := ?_) (a' := ?_) #[true, false, false, false, false, false, false, false, false, false, false, false, false, false, false, false, false] rfl rfl (by kernel_rfl) (fun _ _ _ h => h) (Or.inl ⟨by rfl, ?_⟩) ?_ ?_
      rotate_left
      · intro w'
        go_simp
        with_reducible rfl
      rotate_left
      · simp only [Act.put, List.setIfInBounds_toArray, List.set_cons_zero, List.set_cons_succ, i64_w, i32_w]
        rfl
      refine pure_ (i := 1) (N := some 14) (v := ?_) (a' := ?_) #[true, true, false, false, false, false, false, false, false, false, false, false, false, false, false, false, false] rfl rfl (by kernel_rfl) (fun _ _ _ h => h) (Or.inl ⟨by rfl, ?_⟩) ?_ ?_
      rotate_left
      · intro w'
        go_simp
        with_reducible rfl
      rotate_left
      · simp only [Act.put, List.setIfInBounds_toArray, List.set_cons_zero, List.set_cons_succ, i64_w, i32_w]
        rfl
      refine pure_ (i := 2) (N := some 15) (v := ?_) (a' := ?_) #[true, true, true, false, false, false, false, false, false, false, false, false, false, false, false, false, false] rfl rfl (by kernel_rfl) (fun _ _ _ h => h) (Or.inl ⟨by rfl, ?_⟩) ?_ ?_
      rotate_left
      · intro w'
        go_simp
        with_reducible rfl
      rotate_left
      · simp only [Act.put, List.setIfInBounds_toArray, List.set_cons_zero, List.set_cons_succ, i64_w, i32_w]
        rfl
      refine pure_ (i := 4) (N := some 17) (v := ?_) (a' := ?_) #[true, true, true, false, true, false, false, false, false, false, false, false, false, false, false, false, false] rfl rfl (by kernel_rfl) (fun _ _ _ h => h) (Or.inl ⟨by rfl, ?_⟩) ?_ ?_
      rotate_left
      · intro w'
        go_simp
        with_reducible rfl
      rotate_left
      · simp only [Act.put, List.setIfInBounds_toArray, List.set_cons_zero, List.set_cons_succ, i64_w, i32_w]
        rfl
      refine pure_ (i := 5) (N := some 18) (v := ?_) (a' := ?_) #[true, true, true, false, true, true, false, false, false, false, false, false, false, false, false, false, false] rfl rfl (by kernel_rfl) (fun _ _ _ h => h) (Or.inl ⟨by rfl, ?_⟩) ?_ ?_
      rotate_left
      · intro w'
        go_simp
        with_reducible rfl
      rotate_left
      · simp only [Act.put, List.setIfInBounds_toArray, List.set_cons_zero, List.set_cons_succ, i64_w, i32_w]
        rfl
      refine pure_ (i := 6) (N := some 19) (v := ?_) (a' := ?_) #[true, true, true, false, true, true, true, false, false, false, false, false, false, false, false, false, false] rfl rfl (by kernel_rfl) (fun _ _ _ h => h) (Or.inl ⟨by rfl, ?_⟩) ?_ ?_
      rotate_left
      · intro w'
        go_simp
        with_reducible rfl
      rotate_left
      · simp only [Act.put, List.setIfInBounds_toArray, List.set_cons_zero, List.set_cons_succ, i64_w, i32_w]
        rfl
      refine pure_ (i := 7) (N := some 20) (v := ?_) (a' := ?_) #[true, true, true, false, true, true, true, true, false, false, false, false, false, false, false, false, false] rfl rfl (by kernel_rfl) (fun _ _ _ h => h) (Or.inl ⟨by rfl, ?_⟩) ?_ ?_
      rotate_left
      · intro w'
        go_simp
        with_reducible rfl
      rotate_left
      · simp only [Act.put, List.setIfInBounds_toArray, List.set_cons_zero, List.set_cons_succ, i64_w, i32_w]
        rfl
      refine pure_ (i := 9) (N := some 22) (v := ?_) (a' := ?_) #[true, true, true, false, true, true, true, true, false, true, false, false, false, false, false, false, false] rfl rfl (by kernel_rfl) (fun _ _ _ h => h) (Or.inl ⟨by rfl, ?_⟩) ?_ ?_
      rotate_left
      · intro w'
        go_simp
        with_reducible rfl
      rotate_left
      · simp only [Act.put, List.setIfInBounds_toArray, List.set_cons_zero, List.set_cons_succ, i64_w, i32_w]
        rfl
      refine take_ (i := 3) (N := some 16) (v := ?_) (a' := ?_) #[true, true, true, true, true, true, true, true, false, true, false, false, false, false, false, false, false] rfl rfl (by kernel_rfl) (fun _ _ _ h => h) (Or.inl ⟨by rfl, ?_⟩) hHeld ?_ ?_
      rotate_left
      · rintro w' ⟨s0, s1⟩
        go_simp
        with_reducible rfl
      rotate_left
      · simp only [Act.put, List.setIfInBounds_toArray, List.set_cons_zero, List.set_cons_succ, i64_w, i32_w]
        rfl
      refine take_ (i := 8) (N := some 21) (v := ?_) (a' := ?_) #[true, true, true, true, true, true, true, true, true, true, false, false, false, false, false, false, false] rfl rfl (by kernel_rfl) (fun _ _ _ h => h) (Or.inl ⟨by rfl, ?_⟩) hHeld ?_ ?_
      rotate_left
      · rintro w' ⟨s0, s1⟩
        go_simp
        with_reducible rfl
      rotate_left
      · simp only [Act.put, List.setIfInBounds_toArray, List.set_cons_zero, List.set_cons_succ, i64_w, i32_w]
        rfl
      refine pure_ (i := 10) (N := some 23) (v := ?_) (a' := ?_) #[true, true, true, true, true, true, true, true, true, true, true, false, false, false, false, false, false] rfl rfl (by kernel_rfl) (fun _ _ _ h => h) (Or.inl ⟨by rfl, ?_⟩) ?_ ?_
      rotate_left
      · intro w'
        go_simp
        with_reducible rfl
      rotate_left
      · simp only [Act.put, List.setIfInBounds_toArray, List.set_cons_zero, List.set_cons_succ, i64_w, i32_w]
        rfl
      refine pure_ (i := 11) (N := some 24) (v := ?_) (a' := ?_) #[true, true, true, true, true, true, true, true, true, true, true, true, false, false, false, false, false] rfl rfl (by kernel_rfl) (fun _ _ _ h => h) (Or.inl ⟨by rfl, ?_⟩) ?_ ?_
      rotate_left
      · intro w'
        go_simp
        with_reducible rfl
      rotate_left
      · simp only [Act.put, List.setIfInBounds_toArray, List.set_cons_zero, List.set_cons_succ, i64_w, i32_w]
        rfl
      refine take_ (i := 12) (N := some 25) (v := ?_) (a' := ?_) #[true, true, true, true, true, true, true, true, true, true, true, true, true, false, false, false, false] rfl rfl (by kernel_rfl) (fun _ _ _ h => h) (Or.inl ⟨by rfl, ?_⟩) hHeld ?_ ?_
      rotate_left
      · rintro w' ⟨s0, s1⟩
        go_simp
        with_reducible rfl
      rotate_left
      · simp only [Act.put, List.setIfInBounds_toArray, List.set_cons_zero, List.set_cons_succ, i64_w, i32_w]
        rfl
      refine one_ (i := 13) (N := some 26) #[true, true, true, true, true, true, true, true, true, true, true, true, true, true, false, false, false] rfl rfl (by kernel_rfl) (by decide) (fun K hK => ?_)
      refine goes_ Try.func49 (by kernel_rfl) rfl #[.int .i64 x.f1] (by rfl) rfl rfl (by simp only [List.map_toArray, List.map_cons, List.map_nil]; rfl) ?_
      with_reducible refine (older_any x.f1 _ hx0).mono ?_
      rintro e w1 ⟨rfl, rfl⟩
      refine ⟨_, rfl, ?_⟩
      refine hK.out _ _ ⟨g2, ya⟩ (fun hHeld => ?_)
      clear hK K
      refine norm_ (a' := ?_) ?_ ?_
      rotate_left
      · show Act.put _ (some 26) _ = _
        simp only [Act.put, List.setIfInBounds_toArray, List.set_cons_zero, List.set_cons_succ, i64_w, i32_w]
        rfl
      refine pure_ (i := 14) (N := some 27) (v := ?_) (a' := ?_) #[true, true, true, true, true, true, true, true, true, true, true, true, true, true, true, false, false] rfl rfl (by kernel_rfl) (fun _ _ _ h => h) (Or.inl ⟨by rfl, ?_⟩) ?_ ?_
      rotate_left
      · intro w'
        go_simp
        with_reducible rfl
      rotate_left
      · simp only [Act.put, List.setIfInBounds_toArray, List.set_cons_zero, List.set_cons_succ, i64_w, i32_w]
        rfl
      refine pure_ (i := 15) (N := some 28) (v := ?_) (a' := ?_) #[true, true, true, true, true, true, true, true, true, true, true, true, true, true, true, true, false] rfl rfl (by kernel_rfl) (fun _ _ _ h => h) (Or.inl ⟨by rfl, ?_⟩) ?_ ?_
      rotate_left
      · intro w'
        go_simp
        with_reducible rfl
      rotate_left
      · simp only [Act.put, List.setIfInBounds_toArray, List.set_cons_zero, List.set_cons_succ, i64_w, i32_w]
        rfl
      refine last_ (i := 16) (N := none) #[true, true, true, true, true, true, true, true, true, true, true, true, true, true, true, true, true] rfl rfl (by kernel_rfl) (by decide) (fun K hK => ?_)
      refine skip_ (w1 := ?_) (by rfl) rfl ?_ ?_
      rotate_left
      · go_simp
        first | with_reducible rfl | rfl
      refine hK.out _ _ ?_
      clear hK K
      refine done_ (by kernel_rfl) ?_
      have hS : Keep (fun i => i = g) x0 (x0.setCell ⟨g, k * 2 + 1, none⟩ (.int .i64 (olderI x.f1))) := (by repeat (first | (with_reducible exact Keep.refl _ _) | (with_reducible refine Keep.drewN ?_ _) | (with_reducible refine Keep.drew ?_) | (with_reducible refine Keep.setCell ?_ _ _ (by first | (right; with_reducible rfl) | (left; simp; done) | (left; simp; omega) | (right; simp; done) | (right; assumption))) | (with_reducible refine Keep.alloc ?_ _)))
      have hR1 := R_set1 (j := 1) (y := oldA x) (u := .int .i64 (olderI x.f1)) flatA H0.out.i HX.out (by decide) rfl
      have hgd : g ≠ d := fun e => by subst e; exact R_blk H0.out.i H0.out.blk (by decide) (by simp [Value.ownBlock])
      have hQ : PtQ (x0.setCell ⟨g, k * 2 + 1, none⟩ (.int .i64 (olderI x.f1))) base ok d { s with inn := agedTo s.inn (k + 1) } vO (.slice (some ⟨g, 0, none⟩) s.inn.length cI) := ⟨blk_keep H0.out.blk hS (fun e => hgd e.symm), R_apart H0.out.o rfl H0.out.i (by decide) (hS.mono (fun i _ e => by subst e; simp [Value.ownBlock])), by rw [HT.out]; exact hR1⟩
      have hKK : Keep ok w (x0.setCell ⟨g, k * 2 + 1, none⟩ (.int .i64 (olderI x.f1))) := hk0.out.trans (hS.mono (fun i _ e => by subst e; exact H0.out.i.1 _ (by simp [Value.ownBlock])))
      have HE := Aside0.mk (show QdA w base d ok s vO (.slice (some ⟨g, 0, none⟩) s.inn.length cI) (k + 1) _ from ⟨hQ, hKK⟩)
      clear hQ hKK hR1 hS
      go_wp2
      go_roundw
      case rel => exact ⟨k + 1, by omega, by go_num, HE⟩
      case measure => simp [intOf]; omega
    · obtain rfl : k = s.inn.length := by omega
      clear hlt
      have HSB : Aside0 (QdB w base d ok s vO 0 wr) := ⟨⟨_, ⟨HE.out.1.blk, R_in HE.out.1.o, by
        have := HE.out.1.i
        simp only [agedTo_all] at this
        exact R_in this⟩, HE.out.2⟩⟩
      obtain ⟨AO, cO, rfl, hcO, -⟩ := Kd.R_reads HE.out.1.o
      have c1 := cell_blk HE.out.1.blk 1
      simp at c1
      have hdl := lt_blk HE.out.1.blk
      clear HE
      go_wp2_with fail
      clear c1 hdl
      go_loopw [35] (fun i wr => ∃ k : Nat, k ≤ s.out.length ∧ i = .int .i64 k ∧ Aside0 (QdB w base d ok s (.slice AO s.out.length cO) k wr)) (fun i _ => s.out.length - (intOf i).toNat)
      case atStart => exact ⟨0, by omega, rfl, HSB⟩
      case round =>
        clear HSB
        obtain ⟨k, hk, rfl, ⟨vI, hQ, hK⟩⟩ := hrel
        by_cases hlt : k < s.out.length
        · obtain ⟨_, _, he, -, hCO⟩ := Kd.R_reads hQ.o
          injection he with he1 he2 he3
          subst he1 he3
          obtain ⟨g, off, rfl, hgl⟩ := C_form hCO (by omega) (by decide)
          have y0 := ints_at hCO k hlt
          obtain ⟨v, hv⟩ : ∃ v, s.out[k]? = some v := ⟨_, List.getElem?_eq_getElem hlt⟩
          have hvr : rd s.out (k : Int) = v := by simp [rd, List.getD_eq_getElem?_getD, hv]
          rw [hvr] at y0
          have HT := Aside0.mk (inTo_step hv)
          obtain ⟨hin, hl0, hl1⟩ := inTo_ok hg k
          obtain ⟨AI2, cI2, rfl, hcI2, -⟩ := Kd.R_reads hQ.i
          simp only at hcI2
          have hki : (0 : Int) ≤ (k : Int) := by omega
          have hkl : (k : Int) < (s.out.length : Int) := by omega
          have hws := hK.size
          have H0 := Aside0.mk (hQ.move (w' := wr.drew) (fun _ _ _ => rfl) (.inl hd))
          have HQ := Aside0.mk hQ
          have HK := Aside0.mk hK
          have hdl := lt_blk hQ.blk
          have g0 := cell_blk H0.out.blk 0; have g2 := cell_blk H0.out.blk 2; have g3 := cell_blk H0.out.blk 3
          have e2 := frozen_blk H0.out.blk 2; have e3 := frozen_blk H0.out.blk 3
          simp at g0 g2 g3
          clear he2 hCO hvr hv hQ hK
          by_cases hc : ((inTo s k).1.length : Int) < s.cap
          · have HC := Aside0.mk (show comes s.cap (inTo s k) v = ((inTo s k).1 ++ [⟨v, 0⟩], (inTo s k).2) from if_pos hc)
            have hlen2 : ((inTo s k).1.length + 1) * 16 ≤ 140737488355328 := by omega
            generalize (inTo s k).1 = l1 at *
            generalize (inTo s k).2 = lo at *
            have hdc : decide ((l1.length : Int) < s.cap) = true := by simp; omega
            go_wp2_with fail
            go_region
            have hs0 : Aside0 (wr.drew.heap.size = wr.heap.size) := ⟨rfl⟩
            have hk9 : Keep (Ex ok w wr) wr wr.drew := (Keep.refl _ _).drew
            have HW := Aside0.mk (HQ.out.o)
            generalize wr.drew = x0 at *
            have g0 := cell_blk H0.out.blk 0; have g2 := cell_blk H0.out.blk 2; have g3 := cell_blk H0.out.blk 3
            simp at g0 g2 g3
            have hdl := lt_blk H0.out.blk
            have hbx : base ≤ x0.heap.size := by omega
            go_wp2_with ((with_reducible refine gate_builtin (b := .append) (xs := #[.tmp 53, .tmp 56]) rfl ?_); at_builtin; refine Kd.R_append kA (w0 := ?aW) base rfl (.tmp 53) (.tmp 56) 38 TA (.agg #[.int .i64 0, .int .i64 0]) 16 rfl Try.underlying38 infoA rfl (by decide) (by omega) (.slice AI2 l1.length cI2) l1 (⟨v, 0⟩ : Ag) [.int .i64 v, .int .i64 0] (fun i => Ex ok w wr i ∨ x0.heap.size ≤ i) (fun _ => False) rfl ?aX ?aM (fun _ h => h.elim) ?aF ?aO ?aB ?aS ?aL ?_; (case aX => first | rfl | exact congrArg (fun n => Value.slice (some ⟨n, 0, none⟩) 1 1) (by simp)); (case aM => exact kA_mkM _ _ _ _); (case aF => exact fun _ h => .inr h); (case aO => exact (Kd.R_mono H0.out.i (fun _ h => .inl h))); (case aB => exact Below.refl _ _); (case aS => first | omega | (simp; omega)); (case aL => exact hlen2); intro v1 w1 ho hb hg hat; have hk1 := grown_keep hg; have hd1 := blk_keep H0.out.blk hk1 (R_blk H0.out.i H0.out.blk (by decide)); have q2 := cell_blk hd1 2; have r2 := frozen_blk hd1 2; have hdl1 := lt_blk hd1; simp at q2; obtain ⟨A1, c1', he1, -, -⟩ := Kd.R_reads ho; rw [List.length_append, List.length_singleton] at he1; subst he1)
            obtain ⟨hQ, hK⟩ := H0.out.putI (w := wr) (by rw [hs0.out]; exact Nat.le_refl _) hk9 (.inl hd) hk1 ho
            go_roundw
            case rel => exact ⟨k + 1, by omega, by go_num, ⟨⟨_, by rw [HT.out, HC.out]; exact hQ.mono (ex_ex hws hK.size), keep_ex HK.out hK⟩⟩⟩
            case measure => simp [intOf]; omega
          · have HC := Aside0.mk (show comes s.cap (inTo s k) v = ((inTo s k).1, olderI (inTo s k).2) from if_neg hc)
            generalize (inTo s k).1 = l1 at *
            generalize (inTo s k).2 = lo at *
            have hdc : decide ((l1.length : Int) < s.cap) = false := by simp; omega
            go_wp2_with fail
            go_region
            have hs0 : Aside0 (wr.drew.heap.size = wr.heap.size) := ⟨rfl⟩
            have hk9 : Keep (Ex ok w wr) wr wr.drew := (Keep.refl _ _).drew
            generalize wr.drew = x0 at *
            have g0 := cell_blk H0.out.blk 0; have g2 := cell_blk H0.out.blk 2; have g3 := cell_blk H0.out.blk 3
            simp at g0 g2 g3
            have hdl := lt_blk H0.out.blk
            by_cases hlo : lo < 2147483647
            · have hol2 : Aside0 (olderI lo = lo + 1) := ⟨if_pos hlo⟩
              go_wp2
              have hS : Keep (fun i => i = d) x0 (x0.setCell ⟨d, 3, none⟩ (.int .i64 (lo + 1))) := (by repeat (first | (with_reducible exact Keep.refl _ _) | (with_reducible refine Keep.drewN ?_ _) | (with_reducible refine Keep.drew ?_) | (with_reducible refine Keep.setCell ?_ _ _ (by first | (right; with_reducible rfl) | (left; simp; done) | (left; simp; omega) | (right; simp; done) | (right; assumption))) | (with_reducible refine Keep.alloc ?_ _)))
              have hQ : PtQ (x0.setCell ⟨d, 3, none⟩ (.int .i64 (lo + 1))) base (Ex ok w wr) d { s with inn := l1, lost := lo + 1 } (.slice (some ⟨g, off, none⟩) s.out.length cO) (.slice AI2 l1.length cI2) := ⟨by
                have := blk_set (i := 3) (u := .int .i64 (lo + 1)) H0.out.blk
                simpa using this, R_keepT H0.out.o rfl H0.out.blk (by decide) hS, R_keepT H0.out.i rfl H0.out.blk (by decide) hS⟩
              have hKK := hk9.trans (hS.mono (fun i _ e => by subst e; exact (Or.inl hd : Ex ok w wr i)))
              go_roundw
              case rel => exact ⟨k + 1, by omega, by go_num, ⟨⟨_, by rw [HT.out, HC.out]; simp only [hol2.out]; exact hQ.mono (fun i hi => hi.imp id (fun h => by have := hKK.size; omega)), keep_ex HK.out hKK⟩⟩⟩
              case measure => simp [intOf]; omega
            · have hol2 : Aside0 (olderI lo = lo) := ⟨if_neg hlo⟩
              go_wp2
              go_roundw
              case rel => exact ⟨k + 1, by omega, by go_num, ⟨⟨_, by rw [HT.out, HC.out]; simp only [hol2.out]; exact H0.out.mono (fun i hi => hi.imp id (fun h => by have := hk9.size; omega)), keep_ex HK.out hk9⟩⟩⟩
              case measure => simp [intOf]; omega
        · obtain rfl : k = s.out.length := by omega
          have f1 := frozen_blk hQ.blk 1
          have c1 := cell_blk hQ.blk 1
          simp at c1
          have hdl := lt_blk hQ.blk
          have HQ := Aside0.mk hQ
          have HK := Aside0.mk hK
          clear hQ hK
          go_wp2
          go_end0
          have hS : Keep (fun i => i = d) wr (wr.setCell ⟨d, 1, none⟩ (.slice none 0 0)) := (by repeat (first | (with_reducible exact Keep.refl _ _) | (with_reducible refine Keep.drewN ?_ _) | (with_reducible refine Keep.drew ?_) | (with_reducible refine Keep.setCell ?_ _ _ (by first | (right; with_reducible rfl) | (left; simp; done) | (left; simp; omega) | (right; simp; done) | (right; assumption))) | (with_reducible refine Keep.alloc ?_ _)))
          have hP : delivP s = { s with inn := (inTo s s.out.length).1, lost := (inTo s s.out.length).2, out := [] } := by
            rw [delivP, if_pos hq, inTo, List.take_length]
          rw [hP]
          have hsz : (wr.setCell ⟨d, 1, none⟩ (.slice none 0 0)).heap.size = wr.heap.size := by simp [World.setCell]
          refine ⟨rfl, .inl ⟨hq, .slice none 0 0, vI, ⟨?_, Kd.R_nil _ _ _ _ _, R_keepT (Kd.R_mono HQ.out.i (fun i hi => hi.imp id (fun h => by omega))) rfl HQ.out.blk (by decide) hS⟩⟩, HK.out.trans (hS.mono (fun i _ e => by subst e; exact hd))⟩
          have := blk_set (i := 1) (u := .slice none 0 0) HQ.out.blk
          simpa using this
theorem sdeliv {w : World} {base d : Nat} {ok : Nat → Prop} {s : Pt} {age : Int} {vO vI : Value} (hq : s.q = false) (h : PtS w base ok d s age vO vI) (hd : ok d) : Calls Try.prog 51 #[.pointer (some ⟨d, 0, none⟩)] w fun e w' => e = .returned (.tuple #[]) ∧ Kept1 w' base (Ex ok w w') d (delivP s) ∧ Keep ok w w' := by
  obtain ⟨AO, cO, rfl, hcO, -⟩ := Kd.R_reads h.o
  obtain ⟨AI, cI, rfl, hcI, -⟩ := Kd.R_reads h.i
  have H := Aside0.mk h
  have c0 := cell_blk h.blk 0; have c1 := cell_blk h.blk 1; have c2 := cell_blk h.blk 2
  have f0 := frozen_blk h.blk 0; have f1 := frozen_blk h.blk 1; have f2 := frozen_blk h.blk 2
  simp at c0 c1 c2
  have hdl := lt_blk h.blk
  have ha := h.age
  have hol := h.ol
  have hOld := older_any age w ha.1
  have hao : Aside0 (0 ≤ olderI age ∧ olderI age ≤ 2147483647) := ⟨by unfold olderI; split <;> omega⟩
  clear h
  cases ho : s.out with
  | nil =>
    have hP : Aside0 (delivP s = { s with inn := s.inn.map oldA }) := ⟨by unfold delivP; rw [hq, ho]; rfl⟩
    rw [ho] at c0
    simp only [List.length_nil] at c0
    clear ho
    go_enter Try.func51, Try.ntmps51
    go_wp2_with fail
    refine hOld.mono ?_
    clear hOld
    rintro e w1 ⟨rfl, rfl⟩
    generalize hga : olderI age = a2 at *
    have HGA := Aside0.mk hga
    clear hga
    go_wp2
    go_end0
    have hS : Keep (fun i => i = d) w (w.setCell ⟨d, 2, none⟩ (.int .i64 a2)) := (by repeat (first | (with_reducible exact Keep.refl _ _) | (with_reducible refine Keep.drewN ?_ _) | (with_reducible refine Keep.drew ?_) | (with_reducible refine Keep.setCell ?_ _ _ (by first | (right; with_reducible rfl) | (left; simp; done) | (left; simp; omega) | (right; simp; done) | (right; assumption))) | (with_reducible refine Keep.alloc ?_ _)))
    rw [hP.out]
    refine ⟨rfl, .inr ⟨hq, a2, .slice AO s.out.length cO, .slice AI (s.inn.map (·.f0)).length cI, ⟨?_, R_in (R_keepT H.out.o rfl H.out.blk (by decide) hS), ?_, ?_, H.out.ol, H.out.cap, H.out.lost, hao.out⟩⟩, hS.mono (fun i _ e => by subst e; exact hd)⟩
    · have := blk_set (i := 2) (u := .int .i64 a2) H.out.blk
      simpa using this
    · have := R_in (ok := ok) (W := w) (w1 := w.setCell ⟨d, 2, none⟩ (.int .i64 a2)) (R_keepT H.out.i rfl H.out.blk (by decide) hS)
      simpa [oldA, Function.comp_def] using this
    · rcases H.out.one with hi | ⟨v, hi⟩
      · exact .inl (by simp [hi])
      · exact .inr ⟨v, by simp [hi, oldA, HGA.out]⟩
  | cons v r =>
    have hr : r = [] := by rw [ho] at hol; simp at hol; exact hol
    subst hr
    have hP : Aside0 (delivP s = { s with inn := [⟨v, 0⟩], out := [] }) := ⟨by unfold delivP; rw [hq, ho]; rfl⟩
    have HO := Aside0.mk ho
    rw [ho] at c0
    simp only [List.length_cons, List.length_nil] at c0
    clear ho
    go_enter Try.func51, Try.ntmps51
    go_wp2_with fail
    refine hOld.mono ?_
    clear hOld
    rintro e w1 ⟨rfl, rfl⟩
    generalize hga : olderI age = a2 at *
    have HGA := Aside0.mk hga
    clear hga
    go_wp2
    go_end0
    have hS : Keep (fun i => i = d) w ((((w.setCell ⟨d, 2, none⟩ (.int .i64 a2)).setCell ⟨d, 1, none⟩ (.slice AO 1 cO)).setCell ⟨d, 0, none⟩ (.slice none 0 0)).setCell ⟨d, 2, none⟩ (.int .i64 0)) := (by repeat (first | (with_reducible exact Keep.refl _ _) | (with_reducible refine Keep.drewN ?_ _) | (with_reducible refine Keep.drew ?_) | (with_reducible refine Keep.setCell ?_ _ _ (by first | (right; with_reducible rfl) | (left; simp; done) | (left; simp; omega) | (right; simp; done) | (right; assumption))) | (with_reducible refine Keep.alloc ?_ _)))
    have hB : ((((w.setCell ⟨d, 2, none⟩ (.int .i64 a2)).setCell ⟨d, 1, none⟩ (.slice AO 1 cO)).setCell ⟨d, 0, none⟩ (.slice none 0 0)).setCell ⟨d, 2, none⟩ (.int .i64 0)).heap[d]? = some (.cells #[.slice none 0 0, .slice AO 1 cO, .int .i64 0] TS (0, 0)) := by
      have := blk_set (i := 2) (u := .int .i64 0) (blk_set (i := 0) (u := .slice none 0 0) (blk_set (i := 1) (u := .slice AO 1 cO) (blk_set (i := 2) (u := .int .i64 a2) H.out.blk)))
      simpa using this
    have hR := R_in (ok := ok) (W := w) (w1 := ((((w.setCell ⟨d, 2, none⟩ (.int .i64 a2)).setCell ⟨d, 1, none⟩ (.slice AO 1 cO)).setCell ⟨d, 0, none⟩ (.slice none 0 0)).setCell ⟨d, 2, none⟩ (.int .i64 0))) (R_keepT H.out.o rfl H.out.blk (by decide) hS)
    rw [hP.out]
    rw [HO.out] at hR
    exact ⟨rfl, .inr ⟨hq, 0, _, _, ⟨hB, Kd.R_nil _ _ _ _ _, hR, .inr ⟨v, rfl⟩, by simp, H.out.cap, H.out.lost, by omega⟩⟩, hS.mono (fun i _ e => by subst e; exact hd)⟩
end Go.Proofs.Ytdienpcifklinaa
