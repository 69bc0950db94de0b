import Derived.Test.YtdienpcifklinaaPtC
import Derived.Test.YtdienpcifklinaaPPortOwnx2
set_option linter.unusedSimpArgs false
set_option linter.unusedVariables false
namespace Go.Proofs.Ytdienpcifklinaa
open Go.RowKit Go.Proofs.YtdienpcifklinaaW.PrintWords Go.Proofs.YtdienpcifklinaaW.PrintMore Go.Proofs.YtdienpcifklinaaW.PrintLast
/-! state, New, the methods of a port: printed by gen15b.py. -/
theorem R_empty {α : Type} (d : Kd α) (W : World) (base e : Nat) (hb : base ≤ W.heap.size) (ok : Nat → Prop) (hok : ∀ k, W.heap.size ≤ k → ok k) : d.R e (W.alloc (.cells #[] e)) base ok (.slice (some ⟨W.heap.size, 0, none⟩) 0 0) [] := by
  refine ⟨fun k hk => ?_, [], ?_, Reps.none _ _⟩
  · have : W.heap.size = k := by simpa [Value.ownBlock] using hk
    exact hok k (by omega)
  · exact World.ownsRow_lit (base := base) (e := e) (size := d.sz) W #[] 0 hb (Nat.zero_le _) (by simp)

set_option maxHeartbeats 1000000 in
theorem cloneI_some (ad : Addr) (c : Nat) (xs : List (Int)) (w : World) (hr : Kd.C (Kd.int .i64) w (some ad) xs.length xs) (hm : xs.length * 8 ≤ 140737488355328) :
    Calls Try.prog 28 #[.slice (some ad) xs.length c] w fun e w' => ∃ v, e = .returned v ∧ Kd.R (Kd.int .i64) TI w' w.heap.size (fun _ => True) v xs ∧ Below w.heap.size w w' := by
  have HR := Aside0.mk hr
  clear hr
  have qnil : ∀ (w : World) (a : Option Addr) (n c n' c' : Nat), (binOp .eql 25 (.slice a n c) (.slice none n' c')).run Try.prog w = .ok (.bool a.isNone) w := fun w a n c n' c' => Lib.run_eql_slice_nil w _ _ a n c n' c' Try.underlying25
  go_enter Try.func28, Try.ntmps28
  go_wp2_with (first | ((with_reducible refine gate_builtin (b := .append) (xs := #[.tmp 5, .tmp 6]) rfl ?_); at_builtin; refine Kd.R_append_rows (Kd.int .i64) (w0 := w) w.heap.size rfl (.tmp 5) (.tmp 6) 25 TI (.int .i64 0) 8 rfl Try.underlying25 infoI rfl (by decide) (by omega) (.slice (some ⟨w.heap.size, 0, none⟩) 0 0) ([] : List (Int)) xs _ _ _ (fun _ => True) (fun _ => False) rfl rfl ?aO ?aR (fun _ _ h =>  h) (fun _ h => h.elim) ?aF ?aB ?aS ?aL ?_; (case aR => exact Kd.C_alloc HR.out _); (case aB => exact below_alloc (Below.refl _ _) _); (case aF => exact (fun _ _ => trivial)); (case aO => exact R_empty _ _ _ _ (Nat.le_refl _) _ (fun _ _ => trivial)); (case aS => simp); (case aL => simp; omega); intro v1 w1 ho hb hg hat))
  go_ret
  exact ⟨v1, rfl, by simpa using ho, hb⟩
theorem cloneI_nil (c : Nat) (w : World) :
    Calls Try.prog 28 #[.slice none 0 c] w fun e w' => e = .returned (.slice none 0 0) ∧ w = w' := by
  have qnil : ∀ (w : World) (a : Option Addr) (n c n' c' : Nat), (binOp .eql 25 (.slice a n c) (.slice none n' c')).run Try.prog w = .ok (.bool a.isNone) w := fun w a n c n' c' => Lib.run_eql_slice_nil w _ _ a n c n' c' Try.underlying25
  go_enter Try.func28, Try.ntmps28
  go_wp2
  go_ret
  exact ⟨rfl, rfl⟩
theorem cloneI_any (A0 : Option Addr) (c : Nat) (xs : List (Int)) (w : World) (hr : Kd.C (Kd.int .i64) w A0 xs.length xs) (hm : xs.length * 8 ≤ 140737488355328) :
    Calls Try.prog 28 #[.slice A0 xs.length c] w fun e w' => ∃ v, e = .returned v ∧ Kd.R (Kd.int .i64) TI w' w.heap.size (fun _ => True) v xs ∧ Below w.heap.size w w' := by
  cases A0 with
  | none =>
    have h0 : xs = [] := by
      rcases Nat.eq_zero_or_pos xs.length with h | h
      · exact List.eq_nil_of_length_eq_zero h
      · obtain ⟨ad, he, _⟩ := hr.2.2 h
        cases he
    subst h0
    exact (cloneI_nil c w).mono fun e w' ⟨he, hw⟩ => by subst hw; exact ⟨_, he, Kd.R_nil _ _ _ _ _, Below.refl _ _⟩
  | some ad => exact cloneI_some ad c xs w hr hm

set_option maxHeartbeats 1000000 in
theorem cloneA_some (ad : Addr) (c : Nat) (xs : List (Ag)) (w : World) (hr : Kd.C (kA) w (some ad) xs.length xs) (hm : xs.length * 16 ≤ 140737488355328) :
    Calls Try.prog 29 #[.slice (some ad) xs.length c] w fun e w' => ∃ v, e = .returned v ∧ Kd.R (kA) TA w' w.heap.size (fun _ => True) v xs ∧ Below w.heap.size w w' := by
  have HR := Aside0.mk hr
  clear hr
  have qnil : ∀ (w : World) (a : Option Addr) (n c n' c' : Nat), (binOp .eql 38 (.slice a n c) (.slice none n' c')).run Try.prog w = .ok (.bool a.isNone) w := fun w a n c n' c' => Lib.run_eql_slice_nil w _ _ a n c n' c' Try.underlying38
  go_enter Try.func29, Try.ntmps29
  go_wp2_with (first | ((with_reducible refine gate_builtin (b := .append) (xs := #[.tmp 5, .tmp 6]) rfl ?_); at_builtin; refine Kd.R_append_rows (kA) (w0 := w) w.heap.size rfl (.tmp 5) (.tmp 6) 38 TA (.agg #[.int .i64 0, .int .i64 0]) 16 rfl Try.underlying38 infoA rfl (by decide) (by omega) (.slice (some ⟨w.heap.size, 0, none⟩) 0 0) ([] : List (Ag)) xs _ _ _ (fun _ => True) (fun _ => False) rfl rfl ?aO ?aR (fun _ _ h =>  h) (fun _ h => h.elim) ?aF ?aB ?aS ?aL ?_; (case aR => exact Kd.C_alloc HR.out _); (case aB => exact below_alloc (Below.refl _ _) _); (case aF => exact (fun _ _ => trivial)); (case aO => exact R_empty _ _ _ _ (Nat.le_refl _) _ (fun _ _ => trivial)); (case aS => simp); (case aL => simp; omega); intro v1 w1 ho hb hg hat))
  go_ret
  exact ⟨v1, rfl, by simpa using ho, hb⟩
theorem cloneA_nil (c : Nat) (w : World) :
    Calls Try.prog 29 #[.slice none 0 c] w fun e w' => e = .returned (.slice none 0 0) ∧ w = w' := by
  have qnil : ∀ (w : World) (a : Option Addr) (n c n' c' : Nat), (binOp .eql 38 (.slice a n c) (.slice none n' c')).run Try.prog w = .ok (.bool a.isNone) w := fun w a n c n' c' => Lib.run_eql_slice_nil w _ _ a n c n' c' Try.underlying38
  go_enter Try.func29, Try.ntmps29
  go_wp2
  go_ret
  exact ⟨rfl, rfl⟩
theorem cloneA_any (A0 : Option Addr) (c : Nat) (xs : List (Ag)) (w : World) (hr : Kd.C (kA) w A0 xs.length xs) (hm : xs.length * 16 ≤ 140737488355328) :
    Calls Try.prog 29 #[.slice A0 xs.length c] w fun e w' => ∃ v, e = .returned v ∧ Kd.R (kA) TA w' w.heap.size (fun _ => True) v xs ∧ Below w.heap.size w w' := by
  cases A0 with
  | none =>
    have h0 : xs = [] := by
      rcases Nat.eq_zero_or_pos xs.length with h | h
      · exact List.eq_nil_of_length_eq_zero h
      · obtain ⟨ad, he, _⟩ := hr.2.2 h
        cases he
    subst h0
    exact (cloneA_nil c w).mono fun e w' ⟨he, hw⟩ => by subst hw; exact ⟨_, he, Kd.R_nil _ _ _ _ _, Below.refl _ _⟩
  | some ad => exact cloneA_some ad c xs w hr hm

abbrev TZ : Nat := 40
/-- A queued port's own block. -/
structure PtQb (w : World) (d : Nat) (s : Pt) (vO vI : Value) : Prop where
  blk : w.heap[d]? = some (.cells #[.int .i64 s.cap, vO, vI, .int .i64 s.lost] TQ (0, 0))
def StateP (s : Pt) (w : World) (e : Ending) (w' : World) : Prop := ∃ vO vI, e = .returned (.agg #[.bool s.q, .int .i64 s.cap, vO, vI, .int .i64 s.lost]) ∧ Kd.R (Kd.int .i64) TI w' w.heap.size (fun _ => True) vO s.out ∧ Kd.R kA TA w' w.heap.size (fun _ => True) vI s.inn ∧ Below w.heap.size w w'
theorem blk_set5 {w : World} {b t : Nat} {a0 a1 a2 a3 a4 u0 u1 u2 u3 u4 : Value} (h : w.heap[b]? = some (.cells #[a0, a1, a2, a3, a4] t (0, 0))) : (((((w.setCell ⟨b, 0, none⟩ u0).setCell ⟨b, 1, none⟩ u1).setCell ⟨b, 2, none⟩ u2).setCell ⟨b, 3, none⟩ u3).setCell ⟨b, 4, none⟩ u4).heap[b]? = some (.cells #[u0, u1, u2, u3, u4] t (0, 0)) := by
  have h1 := (blk_set (i := 4) (u := u4) (blk_set (i := 3) (u := u3) (blk_set (i := 2) (u := u2) (blk_set (i := 1) (u := u1) (blk_set (i := 0) (u := u0) h)))))
  simpa using h1
theorem cells5 {w : World} {b t : Nat} {a0 a1 a2 a3 a4 : Value} (h : w.heap[b]? = some (.cells #[a0, a1, a2, a3, a4] t (0, 0))) : w.cell? ⟨b, 0, none⟩ = some a0 ∧ w.cell? ⟨b, 1, none⟩ = some a1 ∧ w.cell? ⟨b, 2, none⟩ = some a2 ∧ w.cell? ⟨b, 3, none⟩ = some a3 ∧ w.cell? ⟨b, 4, none⟩ = some a4 :=
  ⟨cell_blk h 0, cell_blk h 1, cell_blk h 2, cell_blk h 3, cell_blk h 4⟩
theorem froz5 {w : World} {b t : Nat} {cs : Array Value} (h : w.heap[b]? = some (.cells cs t (0, 0))) : w.frozen? ⟨b, 0, none⟩ = false ∧ w.frozen? ⟨b, 1, none⟩ = false ∧ w.frozen? ⟨b, 2, none⟩ = false ∧ w.frozen? ⟨b, 3, none⟩ = false ∧ w.frozen? ⟨b, 4, none⟩ = false :=
  ⟨frozen_blk h 0, frozen_blk h 1, frozen_blk h 2, frozen_blk h 3, frozen_blk h 4⟩
theorem set5_keep (w : World) (b : Nat) (u0 u1 u2 u3 u4 : Value) : Keep (fun k => k = b) w (((((w.setCell ⟨b, 0, none⟩ u0).setCell ⟨b, 1, none⟩ u1).setCell ⟨b, 2, none⟩ u2).setCell ⟨b, 3, none⟩ u3).setCell ⟨b, 4, none⟩ u4) :=
  (by repeat (first | (with_reducible exact Keep.refl _ _) | (with_reducible refine Keep.drewN ?_ _) | (with_reducible refine Keep.drew ?_) | (with_reducible refine Keep.setCell ?_ _ _ (by first | (right; with_reducible rfl) | (left; simp; done) | (left; simp; omega) | (right; simp; done) | (right; assumption))) | (with_reducible refine Keep.alloc ?_ _)))
set_option maxRecDepth 100000 in
set_option maxHeartbeats 4000000 in
theorem qstate {w : World} {base d : Nat} {ok : Nat → Prop} {s : Pt} {vO vI : Value} (hq : s.q = true) (h : PtQ w base ok d s vO vI) (hg : Good s) : Calls Try.prog 48 #[.pointer (some ⟨d, 0, none⟩)] w (StateP s w) := by
  obtain ⟨AO, cO, rfl, hcO, hCO⟩ := Kd.R_reads h.o
  obtain ⟨AI, cI, rfl, hcI, hCI⟩ := Kd.R_reads h.i
  have hA : Below w.heap.size w (w.alloc (.cells #[.bool false, .int .i64 0, .slice none 0 0, .slice none 0 0, .int .i64 0] TZ)) := below_al (Below.refl _ _) _
  have hRes : (w.alloc (.cells #[.bool false, .int .i64 0, .slice none 0 0, .slice none 0 0, .int .i64 0] TZ)).heap[w.heap.size]? = some (.cells #[.bool false, .int .i64 0, .slice none 0 0, .slice none 0 0, .int .i64 0] TZ (0, 0)) := blk_new _ _
  have hC1 := Kd.C_below hCO hA
  have hC2 := Kd.C_below hCI hA
  have hblk := blk_below h.blk hA
  have hcap1 := hg.c1
  have hol := hg.o
  have hil := hg.i
  clear h hCO hCI
  go_enter Try.func48, Try.ntmps48
  go_wp2_with fail
  generalize (w.alloc (.cells #[.bool false, .int .i64 0, .slice none 0 0, .slice none 0 0, .int .i64 0] TZ)) = W at *
  have hCO := Kd.C_below hC1 (Below.refl W.heap.size W).drew
  have hCI := Kd.C_below hC2 (Below.refl W.heap.size W).drew
  have H0 : Aside0 (PtQb W.drew d s (.slice AO s.out.length cO) (.slice AI s.inn.length cI)) := ⟨⟨blk_drew hblk⟩⟩
  have hRes0 : Aside0 (W.drew.heap[w.heap.size]? = some (.cells #[.bool false, .int .i64 0, .slice none 0 0, .slice none 0 0, .int .i64 0] TZ (0, 0))) := ⟨blk_drew hRes⟩
  have hB0 : Aside0 (Below w.heap.size w W.drew) := ⟨hA.drew⟩
  clear hC1 hC2 hblk hRes hA
  refine start_ (n := 20) (S := fun w' => w'.cell? ⟨d, 0, none⟩ = some (.int .i64 s.cap) ∧ w'.cell? ⟨d, 1, none⟩ = some (.slice AO s.out.length cO) ∧ w'.cell? ⟨d, 2, none⟩ = some (.slice AI s.inn.length cI) ∧ w'.cell? ⟨d, 3, none⟩ = some (.int .i64 s.lost)) (ds := [19]) #[false, false, false, false, false, false, false, false, false, false, false, false, false, false, false, false, false, false, false, false] (by kernel_rfl) rfl rfl ⟨cell_blk H0.out.blk 0, cell_blk H0.out.blk 1, cell_blk H0.out.blk 2, cell_blk H0.out.blk 3⟩ (fun hHeld => ?_)
  generalize W.drew = x0 at *
  refine pure_ (i := 0) (N := some 3) (v := ?_) (a' := ?_) #[true, false, false, false, false, false, false, false, false, false, false, false, false, false, false, false, false, false, false, false] rfl rfl (by kernel_rfl) (fun _ _ _ h => h) (Or.inl ⟨by rfl, ?_⟩) ?_ ?_
  rotate_left
  · intro w'
    go_simp
    with_reducible rfl
  rotate_left
  · simp only [Act.put, List.setIfInBounds_toArray, List.set_cons_zero, List.set_cons_succ, i64_w, i32_w]
    rfl
  refine pure_ (i := 1) (N := some 4) (v := ?_) (a' := ?_) #[true, true, false, false, false, false, false, false, false, false, false, false, false, false, false, false, false, false, false, false] rfl rfl (by kernel_rfl) (fun _ _ _ h => h) (Or.inl ⟨by rfl, ?_⟩) ?_ ?_
  rotate_left
  · intro w'
    go_simp
    with_reducible rfl
  rotate_left
  · simp only [Act.put, List.setIfInBounds_toArray, List.set_cons_zero, List.set_cons_succ, i64_w, i32_w]
    rfl
  refine pure_ (i := 2) (N := some 5) (v := ?_) (a' := ?_) #[true, true, true, false, false, false, false, false, false, false, false, false, false, false, false, false, false, false, false, false] rfl rfl (by kernel_rfl) (fun _ _ _ h => h) (Or.inl ⟨by rfl, ?_⟩) ?_ ?_
  rotate_left
  · intro w'
    go_simp
    with_reducible rfl
  rotate_left
  · simp only [Act.put, List.setIfInBounds_toArray, List.set_cons_zero, List.set_cons_succ, i64_w, i32_w]
    rfl
  refine pure_ (i := 4) (N := some 7) (v := ?_) (a' := ?_) #[true, true, true, false, true, false, false, false, false, false, false, false, false, false, false, false, false, false, false, false] rfl rfl (by kernel_rfl) (fun _ _ _ h => h) (Or.inl ⟨by rfl, ?_⟩) ?_ ?_
  rotate_left
  · intro w'
    go_simp
    with_reducible rfl
  rotate_left
  · simp only [Act.put, List.setIfInBounds_toArray, List.set_cons_zero, List.set_cons_succ, i64_w, i32_w]
    rfl
  refine pure_ (i := 5) (N := some 8) (v := ?_) (a' := ?_) #[true, true, true, false, true, true, false, false, false, false, false, false, false, false, false, false, false, false, false, false] rfl rfl (by kernel_rfl) (fun _ _ _ h => h) (Or.inl ⟨by rfl, ?_⟩) ?_ ?_
  rotate_left
  · intro w'
    go_simp
    with_reducible rfl
  rotate_left
  · simp only [Act.put, List.setIfInBounds_toArray, List.set_cons_zero, List.set_cons_succ, i64_w, i32_w]
    rfl
  refine pure_ (i := 6) (N := some 9) (v := ?_) (a' := ?_) #[true, true, true, false, true, true, true, false, false, false, false, false, false, false, false, false, false, false, false, false] rfl rfl (by kernel_rfl) (fun _ _ _ h => h) (Or.inl ⟨by rfl, ?_⟩) ?_ ?_
  rotate_left
  · intro w'
    go_simp
    with_reducible rfl
  rotate_left
  · simp only [Act.put, List.setIfInBounds_toArray, List.set_cons_zero, List.set_cons_succ, i64_w, i32_w]
    rfl
  refine pure_ (i := 9) (N := some 12) (v := ?_) (a' := ?_) #[true, true, true, false, true, true, true, false, false, true, false, false, false, false, false, false, false, false, false, false] rfl rfl (by kernel_rfl) (fun _ _ _ h => h) (Or.inl ⟨by rfl, ?_⟩) ?_ ?_
  rotate_left
  · intro w'
    go_simp
    with_reducible rfl
  rotate_left
  · simp only [Act.put, List.setIfInBounds_toArray, List.set_cons_zero, List.set_cons_succ, i64_w, i32_w]
    rfl
  refine pure_ (i := 10) (N := some 13) (v := ?_) (a' := ?_) #[true, true, true, false, true, true, true, false, false, true, true, false, false, false, false, false, false, false, false, false] rfl rfl (by kernel_rfl) (fun _ _ _ h => h) (Or.inl ⟨by rfl, ?_⟩) ?_ ?_
  rotate_left
  · intro w'
    go_simp
    with_reducible rfl
  rotate_left
  · simp only [Act.put, List.setIfInBounds_toArray, List.set_cons_zero, List.set_cons_succ, i64_w, i32_w]
    rfl
  refine pure_ (i := 11) (N := some 14) (v := ?_) (a' := ?_) #[true, true, true, false, true, true, true, false, false, true, true, true, false, false, false, false, false, false, false, false] rfl rfl (by kernel_rfl) (fun _ _ _ h => h) (Or.inl ⟨by rfl, ?_⟩) ?_ ?_
  rotate_left
  · intro w'
    go_simp
    with_reducible rfl
  rotate_left
  · simp only [Act.put, List.setIfInBounds_toArray, List.set_cons_zero, List.set_cons_succ, i64_w, i32_w]
    rfl
  refine pure_ (i := 14) (N := some 17) (v := ?_) (a' := ?_) #[true, true, true, false, true, true, true, false, false, true, true, true, false, false, true, false, false, false, false, false] rfl rfl (by kernel_rfl) (fun _ _ _ h => h) (Or.inl ⟨by rfl, ?_⟩) ?_ ?_
  rotate_left
  · intro w'
    go_simp
    with_reducible rfl
  rotate_left
  · simp only [Act.put, List.setIfInBounds_toArray, List.set_cons_zero, List.set_cons_succ, i64_w, i32_w]
    rfl
  refine pure_ (i := 15) (N := some 18) (v := ?_) (a' := ?_) #[true, true, true, false, true, true, true, false, false, true, true, true, false, false, true, true, false, false, false, false] rfl rfl (by kernel_rfl) (fun _ _ _ h => h) (Or.inl ⟨by rfl, ?_⟩) ?_ ?_
  rotate_left
  · intro w'
    go_simp
    with_reducible rfl
  rotate_left
  · simp only [Act.put, List.setIfInBounds_toArray, List.set_cons_zero, List.set_cons_succ, i64_w, i32_w]
    rfl
  refine pure_ (i := 16) (N := some 19) (v := ?_) (a' := ?_) #[true, true, true, false, true, true, true, false, false, true, true, true, false, false, true, true, true, false, false, false] rfl rfl (by kernel_rfl) (fun _ _ _ h => h) (Or.inl ⟨by rfl, ?_⟩) ?_ ?_
  rotate_left
  · intro w'
    go_simp
    with_reducible rfl
  rotate_left
  · simp only [Act.put, List.setIfInBounds_toArray, List.set_cons_zero, List.set_cons_succ, i64_w, i32_w]
    rfl
  refine take_ (i := 3) (N := some 6) (v := ?_) (a' := ?_) #[true, true, true, true, true, true, true, false, false, true, true, true, false, false, true, true, true, false, false, false] rfl rfl (by kernel_rfl) (fun _ _ _ h => h) (Or.inl ⟨by rfl, ?_⟩) hHeld ?_ ?_
  rotate_left
  · rintro w' ⟨s0, s1, s2, s3⟩
    go_simp
    with_reducible rfl
  rotate_left
  · simp only [Act.put, List.setIfInBounds_toArray, List.set_cons_zero, List.set_cons_succ, i64_w, i32_w]
    rfl
  refine take_ (i := 7) (N := some 10) (v := ?_) (a' := ?_) #[true, true, true, true, true, true, true, true, false, true, true, true, false, false, true, true, true, false, false, false] rfl rfl (by kernel_rfl) (fun _ _ _ h => h) (Or.inl ⟨by rfl, ?_⟩) hHeld ?_ ?_
  rotate_left
  · rintro w' ⟨s0, s1, s2, s3⟩
    go_simp
    with_reducible rfl
  rotate_left
  · simp only [Act.put, List.setIfInBounds_toArray, List.set_cons_zero, List.set_cons_succ, i64_w, i32_w]
    rfl
  refine take_ (i := 12) (N := some 15) (v := ?_) (a' := ?_) #[true, true, true, true, true, true, true, true, false, true, true, true, true, false, true, true, true, false, false, false] rfl rfl (by kernel_rfl) (fun _ _ _ h => h) (Or.inl ⟨by rfl, ?_⟩) hHeld ?_ ?_
  rotate_left
  · rintro w' ⟨s0, s1, s2, s3⟩
    go_simp
    with_reducible rfl
  rotate_left
  · simp only [Act.put, List.setIfInBounds_toArray, List.set_cons_zero, List.set_cons_succ, i64_w, i32_w]
    rfl
  refine take_ (i := 17) (N := some 20) (v := ?_) (a' := ?_) #[true, true, true, true, true, true, true, true, false, true, true, true, true, false, true, true, true, true, false, false] rfl rfl (by kernel_rfl) (fun _ _ _ h => h) (Or.inl ⟨by rfl, ?_⟩) hHeld ?_ ?_
  rotate_left
  · rintro w' ⟨s0, s1, s2, s3⟩
    go_simp
    with_reducible rfl
  rotate_left
  · simp only [Act.put, List.setIfInBounds_toArray, List.set_cons_zero, List.set_cons_succ, i64_w, i32_w]
    rfl
  refine one_ (i := 8) (N := some 11) #[true, true, true, true, true, true, true, true, true, true, true, true, true, false, true, true, true, true, false, false] rfl rfl (by kernel_rfl) (by decide) (fun K hK => ?_)
  refine goes_ Try.func28 (by kernel_rfl) rfl #[.slice AO s.out.length cO] (by rfl) rfl rfl (by simp only [List.map_toArray, List.map_cons, List.map_nil]; rfl) ?_
  with_reducible refine (cloneI_any AO cO s.out x0 hCO (by omega)).mono ?_
  rintro e w1 ⟨vO1, rfl, hR1, hB1⟩
  refine ⟨_, rfl, ?_⟩
  obtain ⟨A1, c1, rfl⟩ := Kd.R_slice hR1
  have hQ1 := blk_below H0.out.blk hB1
  refine hK.out _ _ ⟨cell_blk hQ1 0, cell_blk hQ1 1, cell_blk hQ1 2, cell_blk hQ1 3⟩ (fun hHeld => ?_)
  clear hK K
  refine norm_ (a' := ?_) ?_ ?_
  rotate_left
  · show Act.put _ (some 11) _ = _
    simp only [Act.put, List.setIfInBounds_toArray, List.set_cons_zero, List.set_cons_succ, i64_w, i32_w]
    rfl
  refine one_ (i := 13) (N := some 16) #[true, true, true, true, true, true, true, true, true, true, true, true, true, true, true, true, true, true, false, false] rfl rfl (by kernel_rfl) (by decide) (fun K hK => ?_)
  refine goes_ Try.func29 (by kernel_rfl) rfl #[.slice AI s.inn.length cI] (by rfl) rfl rfl (by simp only [List.map_toArray, List.map_cons, List.map_nil]; rfl) ?_
  with_reducible refine (cloneA_any AI cI s.inn w1 (Kd.C_below hCI hB1) (by omega)).mono ?_
  rintro e w2 ⟨vI1, rfl, hR2, hB12⟩
  refine ⟨_, rfl, ?_⟩
  obtain ⟨A2, c2, rfl⟩ := Kd.R_slice hR2
  have hB2 : Below x0.heap.size x0 w2 := below_then hB1 hB12
  have hQ2 := blk_below H0.out.blk hB2
  refine hK.out _ _ ⟨cell_blk hQ2 0, cell_blk hQ2 1, cell_blk hQ2 2, cell_blk hQ2 3⟩ (fun hHeld => ?_)
  clear hK K
  refine norm_ (a' := ?_) ?_ ?_
  rotate_left
  · show Act.put _ (some 16) _ = _
    simp only [Act.put, List.setIfInBounds_toArray, List.set_cons_zero, List.set_cons_succ, i64_w, i32_w]
    rfl
  refine pure_ (i := 18) (N := some 21) (v := ?_) (a' := ?_) #[true, true, true, true, true, true, true, true, true, true, true, true, true, true, true, true, true, true, true, false] rfl rfl (by kernel_rfl) (fun _ _ _ h => h) (Or.inl ⟨by rfl, ?_⟩) ?_ ?_
  rotate_left
  · intro w'
    go_simp
    with_reducible rfl
  rotate_left
  · simp only [Act.put, List.setIfInBounds_toArray, List.set_cons_zero, List.set_cons_succ, i64_w, i32_w]
    rfl
  refine last_ (i := 19) (N := none) #[true, true, true, true, true, true, true, true, true, true, true, true, true, true, true, true, true, true, true, true] rfl rfl (by kernel_rfl) (by decide) (fun K hK => ?_)
  have hZ := blk_below hRes0.out hB2
  obtain ⟨z0, z1, z2, z3, z4⟩ := cells5 hZ
  obtain ⟨y0, y1, y2, y3, y4⟩ := froz5 hZ
  have hZl := lt_blk hZ
  refine skip_ (w1 := ?_) (by rfl) rfl ?_ ?_
  rotate_left
  · go_simp
    first | with_reducible rfl | rfl
  refine hK.out _ _ ?_
  clear hK K
  refine done_ (by kernel_rfl) ?_
  have h5 := blk_set5 (u0 := .bool true) (u1 := .int .i64 s.cap) (u2 := .slice A1 s.out.length c1) (u3 := .slice A2 s.inn.length c2) (u4 := .int .i64 s.lost) hZ
  have hk5 := set5_keep w2 w.heap.size (.bool true) (.int .i64 s.cap) (.slice A1 s.out.length c1) (.slice A2 s.inn.length c2) (.int .i64 s.lost)
  obtain ⟨q0, q1, q2, q3, q4⟩ := cells5 h5
  have hz1 := hB1.size
  have hxs := hB0.out.size
  have hE1 := Kd.R_lower (R_keepT (Kd.R_below hR1 hB12) rfl hZ (by decide) hk5) (show w.heap.size ≤ x0.heap.size by omega)
  have hE2 := Kd.R_lower (R_keepT hR2 rfl hZ (by decide) hk5) (show w.heap.size ≤ w1.heap.size by omega)
  have hBB := below_then_keep (below_then hB0.out hB2) (by have := hB2.size; omega) hk5 (fun i e => by omega)
  generalize (((((w2.setCell ⟨w.heap.size, 0, none⟩ (.bool true)).setCell ⟨w.heap.size, 1, none⟩ (.int .i64 s.cap)).setCell ⟨w.heap.size, 2, none⟩ (.slice A1 s.out.length c1)).setCell ⟨w.heap.size, 3, none⟩ (.slice A2 s.inn.length c2)).setCell ⟨w.heap.size, 4, none⟩ (.int .i64 s.lost)) = w9 at *
  clear z0 z1 z2 z3 z4 y0 y1 y2 y3 y4
  go_wp2
  refine bodyPost_ret (v := .agg #[.bool true, .int .i64 s.cap, .slice A1 s.out.length c1, .slice A2 s.inn.length c2, .int .i64 s.lost]) (by simp [results, Try.results48, go_sem, q0, q1, q2, q3, q4]) rfl ⟨_, _, by rw [hq], hE1, hE2, hBB⟩
def SsI (W : World) (s : Pt) (B : Nat) (vO1 : Value) (k : Nat) (wr : World) : Prop := ∃ vJ, Below W.heap.size W wr ∧ wr.heap[B]? = some (.cells #[.bool false, .int .i64 1, vO1, vJ, .int .i64 0] TZ (0, 0)) ∧ Kd.R (Kd.int .i64) TI wr W.heap.size (fun _ => True) vO1 s.out ∧ Kd.R kA TA wr W.heap.size (fun _ => True) vJ (s.inn.take k)
theorem sone {s : Pt} {age : Int} (h : s.inn = [] ∨ ∃ v, s.inn = [⟨v, age⟩]) {k : Nat} {x : Ag} (hx : s.inn[k]? = some x) : x.f1 = age ∧ k = 0 ∧ s.inn.length = 1 := by
  rcases h with h | ⟨v, h⟩
  · rw [h] at hx; simp at hx
  · rw [h] at hx
    cases k with
    | zero => obtain rfl : (⟨v, age⟩ : Ag) = x := by simpa using hx
              exact ⟨rfl, rfl, by rw [h]; rfl⟩
    | succ k => simp at hx
set_option maxRecDepth 100000 in
set_option maxHeartbeats 4000000 in
theorem sstate {w : World} {base d : Nat} {ok : Nat → Prop} {s : Pt} {age : Int} {vO vI : Value} (hq : s.q = false) (h : PtS w base ok d s age vO vI) : Calls Try.prog 54 #[.pointer (some ⟨d, 0, none⟩)] w (StateP s w) := by
  obtain ⟨AO, cO, rfl, hcO, hCO⟩ := Kd.R_reads h.o
  obtain ⟨AI, cI, rfl, hcI, hCI⟩ := Kd.R_reads h.i
  have hA : Below w.heap.size w (w.alloc (.cells #[.bool false, .int .i64 0, .slice none 0 0, .slice none 0 0, .int .i64 0] TZ)) := below_al (Below.refl _ _) _
  have hRes : Aside0 ((w.alloc (.cells #[.bool false, .int .i64 0, .slice none 0 0, .slice none 0 0, .int .i64 0] TZ)).heap[w.heap.size]? = some (.cells #[.bool false, .int .i64 0, .slice none 0 0, .slice none 0 0, .int .i64 0] TZ (0, 0))) := ⟨blk_new _ _⟩
  have H := Aside0.mk h
  have HW := Aside0.mk hA
  have hblk := blk_below h.blk hA
  have c0 := cell_blk hblk 0
  simp at c0
  have hdl := lt_blk hblk
  have hol := h.ol
  have hCl := Aside0.mk (cloneI_any AO cO s.out _ (Kd.C_below hCO hA) (by omega))
  have hlw : w.heap.size + 1 = (w.alloc (.cells #[.bool false, .int .i64 0, .slice none 0 0, .slice none 0 0, .int .i64 0] TZ)).heap.size := by simp
  clear h hCO hA hblk hCI
  go_enter Try.func54, Try.ntmps54
  go_wp2_with fail
  generalize (w.alloc (.cells #[.bool false, .int .i64 0, .slice none 0 0, .slice none 0 0, .int .i64 0] TZ)) = W at *
  refine hCl.out.mono ?_
  clear hCl
  rintro e w1 ⟨vO1, rfl, hR1, hB1⟩
  have hB2 : Below w1.heap.size w1 (w1.alloc (.cells #[.bool false, .int .i64 1, vO1, .slice none 0 0, .int .i64 0] TZ)) := below_al (Below.refl _ _) _
  have hsz1 := hB1.size
  have HB2 := below_then hB1 hB2
  have HO2 := Kd.R_below hR1 hB2
  have HS : Aside0 (SsI W s w1.heap.size vO1 0 (w1.alloc (.cells #[.bool false, .int .i64 1, vO1, .slice none 0 0, .int .i64 0] TZ))) := ⟨⟨.slice none 0 0, HB2, blk_new _ _, HO2, by simpa using Kd.R_nil _ _ _ _ _⟩⟩
  have hblk2 := blk_below (blk_below H.out.blk HW.out) HB2
  have c1 := cell_blk hblk2 1
  simp at c1
  have hdl2 := lt_blk hblk2
  obtain ⟨AZ, cZ, rfl⟩ := Kd.R_slice hR1
  clear hR1 hB1 hB2 HB2 HO2 hblk2 c0 hdl
  obtain ⟨B, hBB⟩ : ∃ B, B = w1.heap.size := ⟨_, rfl⟩
  have hBw : W.heap.size ≤ B := by omega
  go_wp2_with fail
  rw [← hBB] at HS ⊢
  generalize (w1.alloc (.cells #[.bool false, .int .i64 1, .slice AZ s.out.length cZ, .slice none 0 0, .int .i64 0] TZ)) = W2 at *
  clear c1 hdl2
  have hml : (s.inn.map (·.f0)).length = s.inn.length := by simp
  rw [hml] at *
  clear hml hBB
  go_loopw [17] (fun i wr => ∃ k : Nat, k ≤ s.inn.length ∧ i = .int .i64 k ∧ Aside0 (SsI W s B (.slice AZ s.out.length cZ) k wr)) (fun i _ => s.inn.length - (intOf i).toNat)
  case atStart => exact ⟨0, by omega, rfl, HS⟩
  case round =>
    clear HS
    obtain ⟨k, hk, rfl, ⟨vJ, hB, hT, hO, hJ⟩⟩ := hrel
    obtain ⟨AJ, cJ, hvJ⟩ := Kd.R_slice hJ
    have hak : Aside0 ((s.inn.take k).length = k) := ⟨by rw [List.length_take]; omega⟩
    rw [hak.out] at hvJ
    subst hvJ
    by_cases hlt : k < s.inn.length
    · obtain ⟨x, hx⟩ : ∃ x, s.inn[k]? = some x := ⟨_, List.getElem?_eq_getElem hlt⟩
      obtain ⟨hxa, hk0, hl1⟩ := sone H.out.one hx
      obtain ⟨_, _, he, -, hCI⟩ := Kd.R_reads (Kd.R_below (Kd.R_below H.out.i HW.out) hB)
      injection he with he1 he2 he3
      subst he1 he3
      obtain ⟨g, off, rfl, hgl⟩ := C_form hCI (by simp; omega) (by decide)
      have y0 := ints_at hCI k (by simp; omega)
      obtain ⟨v, hv⟩ : ∃ v, v = x.f0 := ⟨_, rfl⟩
      have hvr : rd (s.inn.map (·.f0)) (k : Int) = v := by simp [rd, List.getD_eq_getElem?_getD, hx, hv]
      rw [hvr] at y0
      have hxe : x = ⟨v, age⟩ := by rw [hv, ← hxa]
      have htk : Aside0 (s.inn.take (k + 1) = s.inn.take k ++ [⟨v, age⟩]) := ⟨by rw [List.take_add_one, hx, hxe]; rfl⟩
      have hki : (0 : Int) ≤ (k : Int) := by omega
      have hkl : (k : Int) < (s.inn.length : Int) := by omega
      have hws := hB.size
      have hrB := (Below.refl wr.heap.size wr).drew
      have hxs : W.heap.size ≤ wr.drew.heap.size := hws
      have HB := Aside0.mk (hB.drew)
      have HT : Aside0 (wr.drew.heap[B]? = some (.cells #[.bool false, .int .i64 1, .slice AZ s.out.length cZ, .slice AJ k cJ, .int .i64 0] TZ (0, 0))) := ⟨hT⟩
      have HD : Aside0 (wr.drew.heap[d]? = some (.cells #[.slice AO s.out.length cO, .slice (some ⟨g, off, none⟩) s.inn.length cI, .int .i64 age] TS (0, 0))) := ⟨blk_below (blk_below (by have := H.out.blk; simpa using this) HW.out) hB.drew⟩
      have HO := Aside0.mk (Kd.R_below hO hrB)
      have HJ := Aside0.mk (Kd.R_below hJ hrB)
      clear he2 hCI hvr hB hT hO hJ hx hxa hk0 hv hxe hrB
      go_wp2_with fail
      refine start_ (n := 12) (S := fun w' => w'.cell? ⟨B, 3, none⟩ = some (.slice AJ k cJ) ∧ w'.cell? ⟨d, 2, none⟩ = some (.int .i64 age)) (ds := [9, 11]) #[false, false, false, false, false, false, false, false, false, false, false, false] (by kernel_rfl) rfl rfl ⟨(cells5 HT.out).2.2.2.1, cell_blk HD.out 2⟩ (fun hHeld => ?_)
      generalize wr.drew = x0 at *
      refine pure_ (i := 0) (N := some 21) (v := ?_) (a' := ?_) #[true, false, false, false, false, false, false, false, false, false, false, false] rfl rfl (by kernel_rfl) (fun _ _ _ h => h) (Or.inl ⟨by rfl, ?_⟩) ?_ ?_
      rotate_left
      · intro w'
        go_simp
        with_reducible rfl
      rotate_left
      · simp only [Act.put, List.setIfInBounds_toArray, List.set_cons_zero, List.set_cons_succ, i64_w, i32_w]
        rfl
      refine pure_ (i := 2) (N := some 23) (v := ?_) (a' := ?_) #[true, false, true, false, false, false, false, false, false, false, false, false] rfl rfl (by kernel_rfl) (fun _ _ _ h => h) (Or.inl ⟨by rfl, ?_⟩) ?_ ?_
      rotate_left
      · intro w'
        go_simp
        with_reducible rfl
      rotate_left
      · simp only [Act.put, List.setIfInBounds_toArray, List.set_cons_zero, List.set_cons_succ, i64_w, i32_w]
        rfl
      refine pure_ (i := 3) (N := some 24) (v := ?_) (a' := ?_) #[true, false, true, true, false, false, false, false, false, false, false, false] rfl rfl (by kernel_rfl) (fun _ _ _ h => h) (Or.inl ⟨by rfl, ?_⟩) ?_ ?_
      rotate_left
      · intro w'
        go_simp
        with_reducible rfl
      rotate_left
      · simp only [Act.put, List.setIfInBounds_toArray, List.set_cons_zero, List.set_cons_succ, i64_w, i32_w]
        rfl
      refine pure_ (i := 4) (N := some 25) (v := ?_) (a' := ?_) #[true, false, true, true, true, false, false, false, false, false, false, false] rfl rfl (by kernel_rfl) (fun _ _ _ h => h) (Or.inl ⟨by rfl, ?_⟩) ?_ ?_
      rotate_left
      · intro w'
        go_simp
        with_reducible rfl
      rotate_left
      · simp only [Act.put, List.setIfInBounds_toArray, List.set_cons_zero, List.set_cons_succ, i64_w, i32_w]
        rfl
      refine pure_ (i := 5) (N := some 26) (v := ?_) (a' := ?_) #[true, false, true, true, true, true, false, false, false, false, false, false] rfl rfl (by kernel_rfl) (fun _ _ _ h => h) (Or.inl ⟨by rfl, ?_⟩) ?_ ?_
      rotate_left
      · intro w'
        go_simp
        with_reducible rfl
      rotate_left
      · simp only [Act.put, List.setIfInBounds_toArray, List.set_cons_zero, List.set_cons_succ, i64_w, i32_w]
        rfl
      refine take_ (i := 1) (N := some 22) (v := ?_) (a' := ?_) #[true, true, true, true, true, true, false, false, false, false, false, false] rfl rfl (by kernel_rfl) (fun _ _ _ h => h) (Or.inl ⟨by rfl, ?_⟩) hHeld ?_ ?_
      rotate_left
      · rintro w' ⟨s0, s1⟩
        go_simp
        with_reducible rfl
      rotate_left
      · simp only [Act.put, List.setIfInBounds_toArray, List.set_cons_zero, List.set_cons_succ, i64_w, i32_w]
        rfl
      refine take_ (i := 6) (N := some 27) (v := ?_) (a' := ?_) #[true, true, true, true, true, true, true, false, false, false, false, false] rfl rfl (by kernel_rfl) (fun _ _ _ h => h) (Or.inl ⟨by rfl, ?_⟩) hHeld ?_ ?_
      rotate_left
      · rintro w' ⟨s0, s1⟩
        go_simp
        with_reducible rfl
      rotate_left
      · simp only [Act.put, List.setIfInBounds_toArray, List.set_cons_zero, List.set_cons_succ, i64_w, i32_w]
        rfl
      refine pure_ (i := 7) (N := some 28) (v := ?_) (a' := ?_) #[true, true, true, true, true, true, true, true, false, false, false, false] rfl rfl (by kernel_rfl) (fun _ _ _ h => h) (Or.inl ⟨by rfl, ?_⟩) ?_ ?_
      rotate_left
      · intro w'
        go_simp
        with_reducible rfl
      rotate_left
      · simp only [Act.put, List.setIfInBounds_toArray, List.set_cons_zero, List.set_cons_succ, i64_w, i32_w]
        rfl
      refine one_ (i := 8) (N := some 29) #[true, true, true, true, true, true, true, true, true, false, false, false] rfl rfl (by kernel_rfl) (by decide) (fun K hK => ?_)
      refine value_ (w1 := ?_) (v := ?_) (by rfl) rfl ?_ ?_
      rotate_left 2
      · go_simp
        constructor
        · rfl
        · rfl
      have hT0 := blk_below HT.out (show Below x0.heap.size x0 (x0.alloc (.cells #[.int .i64 v, .int .i64 age] TA)) from below_al (Below.refl _ _) _)
      have hD0 := blk_below HD.out (show Below x0.heap.size x0 (x0.alloc (.cells #[.int .i64 v, .int .i64 age] TA)) from below_al (Below.refl _ _) _)
      refine hK.out _ _ ⟨(cells5 hT0).2.2.2.1, cell_blk hD0 2⟩ (fun hHeld => ?_)
      clear hK K
      refine norm_ (a' := ?_) ?_ ?_
      rotate_left
      · show Act.put _ (some 29) _ = _
        simp only [Act.put, List.setIfInBounds_toArray, List.set_cons_zero, List.set_cons_succ, i64_w, i32_w]
        rfl
      refine last_ (i := 9) (N := some 30) #[true, true, true, true, true, true, true, true, true, true, false, false] rfl rfl (by kernel_rfl) (by decide) (fun K hK => ?_)
      refine Kd.R_append_step kA (w0 := x0) W.heap.size (by rfl) (.tmp 22) (.tmp 29) 38 TA (.agg #[.int .i64 0, .int .i64 0]) 16 rfl Try.underlying38 infoA rfl (by decide) (by omega) (.slice AJ k cJ) (s.inn.take k) (⟨v, age⟩ : Ag) [.int .i64 v, .int .i64 age] (fun _ => True) (fun _ => False) rfl rfl (kA_mkM _ _ _ _) (fun _ h => h.elim) (fun _ _ => trivial) HJ.out (Below.refl _ _) (by omega) (by rw [hak.out]; omega) ?_
      intro v1 w5 ho hb hg hat
      obtain ⟨A1, c1, he⟩ := Kd.R_slice ho
      rw [List.length_append, List.length_singleton, hak.out] at he
      subst he
      have hk5 := grown_keep hg
      have hT5 := blk_keep HT.out hk5 (R_blk HJ.out HT.out (by decide))
      obtain ⟨f0, f1, f2, f3, f4⟩ := froz5 hT5
      obtain ⟨g0, g1, g2, g3, g4⟩ := cells5 hT5
      have hTl := lt_blk hT5
      refine hK.out _ _ ?_
      clear hK K
      refine norm_ (a' := ?_) ?_ ?_
      rotate_left
      · show Act.put _ (some 30) _ = _
        simp only [Act.put, List.setIfInBounds_toArray, List.set_cons_zero, List.set_cons_succ, i64_w, i32_w]
        rfl
      refine pure_ (i := 10) (N := some 31) (v := ?_) (a' := ?_) #[true, true, true, true, true, true, true, true, true, true, true, false] rfl rfl (by kernel_rfl) (fun _ _ _ h => h) (Or.inl ⟨by rfl, ?_⟩) ?_ ?_
      rotate_left
      · intro w'
        go_simp
        with_reducible rfl
      rotate_left
      · simp only [Act.put, List.setIfInBounds_toArray, List.set_cons_zero, List.set_cons_succ, i64_w, i32_w]
        rfl
      refine last_ (i := 11) (N := none) #[true, true, true, true, true, true, true, true, true, true, true, true] rfl rfl (by kernel_rfl) (by decide) (fun K hK => ?_)
      refine skip_ (w1 := ?_) (by rfl) rfl ?_ ?_
      rotate_left
      · go_simp
        first | with_reducible rfl | rfl
      refine hK.out _ _ ?_
      clear hK K
      refine done_ (by kernel_rfl) ?_
      have hS : Keep (fun i => i = B) w5 (w5.setCell ⟨B, 3, none⟩ (.slice A1 (k + 1) c1)) := (by repeat (first | (with_reducible exact Keep.refl _ _) | (with_reducible refine Keep.drewN ?_ _) | (with_reducible refine Keep.drew ?_) | (with_reducible refine Keep.setCell ?_ _ _ (by first | (right; with_reducible rfl) | (left; simp; done) | (left; simp; omega) | (right; simp; done) | (right; assumption))) | (with_reducible refine Keep.alloc ?_ _)))
      have hT6 : (w5.setCell ⟨B, 3, none⟩ (.slice A1 (k + 1) c1)).heap[B]? = some (.cells #[.bool false, .int .i64 1, .slice AZ s.out.length cZ, .slice A1 (k + 1) c1, .int .i64 0] TZ (0, 0)) := by
        have := blk_set (i := 3) (u := .slice A1 (k + 1) c1) hT5
        simpa using this
      have hB6 := below_then_keep (below_then_keep HB.out HB.out.size hk5 (fun i e => (Kd.R_bound HJ.out).1 i e |>.2.1)) (Nat.le_trans HB.out.size hk5.size) hS (fun i e => by subst e; exact hBw)
      have hO6 := R_keepT (R_apart HO.out rfl HJ.out (by decide) hk5) rfl hT5 (by decide) hS
      have hJ6 := R_keepT (Kd.R_mono ho (fun _ _ => trivial)) rfl hT5 (by decide) hS
      have HE := Aside0.mk (show SsI W s B (.slice AZ s.out.length cZ) (k + 1) _ from ⟨_, hB6, hT6, hO6, by rw [htk.out]; exact hJ6⟩)
      clear hB6 hT6 hO6 hJ6 hS
      go_wp2
      go_roundw
      case rel => exact ⟨k + 1, by omega, by go_num, HE⟩
      case measure => simp [intOf]; omega
    · obtain rfl : k = s.inn.length := by omega
      obtain ⟨q0, q1, q2, q3, q4⟩ := cells5 hT
      have hRw := blk_below hRes.out hB
      obtain ⟨r0, r1, r2, r3, r4⟩ := cells5 hRw
      obtain ⟨p0, p1, p2, p3, p4⟩ := froz5 hRw
      have hRl := lt_blk hRw
      have hQl := lt_blk hT
      have hne : B ≠ w.heap.size := by omega
      have hLast := And.intro hB (And.intro hO hJ)
      have HL := Aside0.mk hLast
      have HRw := Aside0.mk hRw
      clear hLast hB hO hJ hT hRw
      go_wp2
      have h5 := blk_set5 (u0 := .bool false) (u1 := .int .i64 1) (u2 := .slice AZ s.out.length cZ) (u3 := .slice AJ s.inn.length cJ) (u4 := .int .i64 0) HRw.out
      have hk5 := set5_keep wr w.heap.size (.bool false) (.int .i64 1) (.slice AZ s.out.length cZ) (.slice AJ s.inn.length cJ) (.int .i64 0)
      obtain ⟨z0, z1, z2, z3, z4⟩ := cells5 h5
      have hE1 := Kd.R_lower (R_keepT HL.out.2.1 rfl HRw.out (by decide) hk5) (show w.heap.size ≤ W.heap.size by omega)
      have hE2 := Kd.R_lower (R_keepT HL.out.2.2 rfl HRw.out (by decide) hk5) (show w.heap.size ≤ W.heap.size by omega)
      rw [List.take_length] at hE2
      have hBB := below_then_keep (HW.out.trans (HL.out.1.mono HW.out.size)) (by have := HL.out.1.size; omega) hk5 (fun i e => by omega)
      refine bodyPost_ret (v := .agg #[.bool false, .int .i64 1, .slice AZ s.out.length cZ, .slice AJ s.inn.length cJ, .int .i64 0]) (by simp [results, Try.results54, go_sem, z0, z1, z2, z3, z4]) rfl ⟨_, _, by rw [hq, H.out.cap, H.out.lost], hE1, hE2, hBB⟩
end Go.Proofs.Ytdienpcifklinaa
