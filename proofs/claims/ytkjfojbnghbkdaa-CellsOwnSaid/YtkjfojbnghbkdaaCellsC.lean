import Derived.Test.YtkjfojbnghbkdaaCellsB
import Derived.Test.YtkjfojbnghbkdaaPCellsOwnx
namespace Go.Proofs.Ytkjfojbnghbkdaa
open Go.RowKit Go.Proofs.YtkjfojbnghbkdaaW.PrintWords

theorem R_empty {α : Type} (d : Kd α) (W : World) (base e : Nat) (hb : base ≤ W.heap.size) (ok : Nat → Prop) (hok : ∀ k, W.heap.size ≤ k → ok k) : d.R e (W.alloc (.cells #[] e)) base ok (.slice (some ⟨W.heap.size, 0, none⟩) 0 0) [] := by
  refine ⟨fun k hk => ?_, [], ?_, Reps.none _ _⟩
  · have : W.heap.size = k := by simpa [Value.ownBlock] using hk
    exact hok k (by omega)
  · exact World.ownsRow_lit (base := base) (e := e) (size := d.sz) W #[] 0 hb (Nat.zero_le _) (by simp)

set_option maxHeartbeats 1000000 in
theorem clone_some (ad : Addr) (c : Nat) (xs : List (Int)) (w : World) (hr : Kd.C (Kd.int .i64) w (some ad) xs.length xs) (hm : xs.length * 8 ≤ 140737488355328) :
    Calls Try.prog 32 #[.slice (some ad) xs.length c] w fun e w' => ∃ v, e = .returned v ∧ Kd.R (Kd.int .i64) 2 w' w.heap.size (fun _ => True) v xs ∧ Below w.heap.size w w' := by
  have HR := Aside0.mk hr
  clear hr
  have qnil : ∀ (w : World) (a : Option Addr) (n c n' c' : Nat), (binOp .eql 22 (.slice a n c) (.slice none n' c')).run Try.prog w = .ok (.bool a.isNone) w := fun w a n c n' c' => Lib.run_eql_slice_nil w _ _ a n c n' c' Try.underlying22
  go_enter Try.func32, Try.ntmps32
  go_wp2_with (first | ((with_reducible refine gate_builtin (b := .append) (xs := #[.tmp 5, .tmp 6]) rfl ?_); at_builtin; refine Kd.R_append_rows (Kd.int .i64) (w0 := w) w.heap.size rfl (.tmp 5) (.tmp 6) 22 2 (.int .i64 0) 8 rfl Try.underlying22 Try.info2 rfl (by decide) (by omega) (.slice (some ⟨w.heap.size, 0, none⟩) 0 0) ([] : List (Int)) xs _ _ _ (fun _ => True) (fun _ => False) rfl rfl ?aO ?aR (fun _ _ h =>  h) (fun _ h => h.elim) ?aF ?aB ?aS ?aL ?_; (case aR => exact Kd.C_alloc HR.out _); (case aB => exact below_alloc (Below.refl _ _) _); (case aF => exact (fun _ _ => trivial)); (case aO => exact R_empty _ _ _ _ (Nat.le_refl _) _ (fun _ _ => trivial)); (case aS => simp); (case aL => simp; omega); intro v1 w1 ho hb hg hat))
  go_ret
  exact ⟨v1, rfl, by simpa using ho, hb⟩
theorem clone_nil (c : Nat) (w : World) :
    Calls Try.prog 32 #[.slice none 0 c] w fun e w' => e = .returned (.slice none 0 0) ∧ w = w' := by
  have qnil : ∀ (w : World) (a : Option Addr) (n c n' c' : Nat), (binOp .eql 22 (.slice a n c) (.slice none n' c')).run Try.prog w = .ok (.bool a.isNone) w := fun w a n c n' c' => Lib.run_eql_slice_nil w _ _ a n c n' c' Try.underlying22
  go_enter Try.func32, Try.ntmps32
  go_wp2
  go_ret
  exact ⟨rfl, rfl⟩
theorem clone_any (A0 : Option Addr) (c : Nat) (xs : List (Int)) (w : World) (hr : Kd.C (Kd.int .i64) w A0 xs.length xs) (hm : xs.length * 8 ≤ 140737488355328) :
    Calls Try.prog 32 #[.slice A0 xs.length c] w fun e w' => ∃ v, e = .returned v ∧ Kd.R (Kd.int .i64) 2 w' w.heap.size (fun _ => True) v xs ∧ Below w.heap.size w w' := by
  cases A0 with
  | none =>
    have h0 : xs = [] := by
      rcases Nat.eq_zero_or_pos xs.length with h | h
      · exact List.eq_nil_of_length_eq_zero h
      · obtain ⟨ad, he, _⟩ := hr.2.2 h
        cases he
    subst h0
    exact (clone_nil c w).mono fun e w' ⟨he, hw⟩ => by subst hw; exact ⟨_, he, Kd.R_nil _ _ _ _ _, Below.refl _ _⟩
  | some ad => exact clone_some ad c xs w hr hm


theorem C_of_block {w : World} {b e : Nat} {fr : Nat × Nat} {xs : List Int} (h : w.heap[b]? = some (.cells (ints xs) e fr)) (hm : xs.length ≤ 256) : Kd.C (Kd.int .i64) w (some ⟨b, 0, none⟩) xs.length xs := by
  refine ⟨rfl, by omega, fun _ => ⟨_, rfl, fun j p hp => ⟨[.int .i64 p], rfl, rfl, fun i u hu => ?_⟩⟩⟩
  have hi : i = 0 := by
    have := (List.getElem?_eq_some_iff.1 hu).1
    simpa using this
  subst hi
  simp at hu
  subst hu
  have ha : (⟨b, 0, none⟩ : Addr).add (j * (Kd.int .i64).sz + 0) = ⟨b, j, none⟩ := by
    have : (Kd.int .i64).sz = 1 := rfl
    rw [this, add_plain]; simp
  rw [ha, cell_blk h]
  simp [ints, hp]

theorem len_any (b vb : Nat) (xs : List Int) (w : World) (hI : IsCells w b vb xs) : Calls Try.prog 19 #[.pointer (some ⟨b, 0, none⟩)] w fun e w' => e = .returned (.int .i64 xs.length) ∧ w = w' := by
  have hl := hI.len
  have c1 := cell_blk hI.blk 1
  simp at c1
  go_enter Try.func19, Try.ntmps19
  go_wp2
  go_ret
  exact ⟨rfl, rfl⟩
theorem len_nobody (p : Value) (w : World) (hI : Nobody w p) : Calls Try.prog 19 #[p] w fun e w' => e = .returned (.int .i64 0) ∧ w = w' := by
  rcases hI with rfl | ⟨b, rfl, hb⟩
  · go_enter Try.func19, Try.ntmps19
    go_wp2
    go_ret
    exact ⟨rfl, rfl⟩
  · have c1 := cell_blk hb 1
    simp at c1
    go_enter Try.func19, Try.ntmps19
    go_wp2
    go_ret
    exact ⟨rfl, rfl⟩
set_option maxHeartbeats 1000000 in
theorem values_any (b vb : Nat) (xs : List Int) (w : World) (hI : IsCells w b vb xs) : Calls Try.prog 21 #[.pointer (some ⟨b, 0, none⟩)] w fun e w' => ∃ v, e = .returned v ∧ Kd.R (Kd.int .i64) 2 w' w.heap.size (fun _ => True) v xs ∧ Below w.heap.size w w' := by
  have hl := hI.len
  have c1 := cell_blk hI.blk 1
  simp at c1
  go_enter Try.func21, Try.ntmps21
  go_wp2_with fail
  refine (clone_some _ _ xs w (C_of_block hI.vals hl) (by omega)).mono ?_
  rintro e w1 ⟨v, rfl, hv, hb⟩
  go_wp2
  go_ret
  exact ⟨v, rfl, hv, hb⟩
theorem values_nobody (p : Value) (w : World) (hI : Nobody w p) : Calls Try.prog 21 #[p] w fun e w' => e = .returned (.slice none 0 0) ∧ w = w' := by
  rcases hI with rfl | ⟨b, rfl, hb⟩
  · go_enter Try.func21, Try.ntmps21
    go_wp2
    go_ret
    exact ⟨rfl, rfl⟩
  · have c1 := cell_blk hb 1
    simp at c1
    go_enter Try.func21, Try.ntmps21
    go_wp2_with fail
    refine (clone_nil 0 w).mono ?_
    rintro e w1 ⟨rfl, rfl⟩
    go_wp2
    go_ret
    exact ⟨rfl, rfl⟩
set_option maxHeartbeats 1000000 in
theorem load_nobody (p : Value) (i : Int) (w : World) (hI : Nobody w p) :
    Calls Try.prog 22 #[p, .int .i64 i] w fun e w' => e = .returned (.tuple #[Acc.zero.val, .int .i64 1]) ∧ Below w.heap.size w w' := by
  have HW : Below w.heap.size w (w.alloc (.cells zc 28)) := (by repeat (first | (with_reducible exact Below.refl _ _) | (with_reducible refine Below.drew ?_) | (with_reducible refine below_drewN ?_ _) | (with_reducible refine below_al ?_ _) | (with_reducible refine Below.alloc ?_ (by first | exact Nat.le_refl _ | omega | (simp; done) | (simp; omega)) _) | (with_reducible refine Below.setCell ?_ (by first | (simp only []; omega) | (simp; done) | (simp; omega)) _)))
  have HR : (w.alloc (.cells zc 28)).heap[w.heap.size]? = some (.cells zc 28 (0, 0)) := blk_new _ _
  have hN := Aside0.mk (hI.below HW)
  clear hI
  go_enter Try.func22, Try.ntmps22
  go_wp2_with fail
  refine (access_nobody p i 1 false _ (w.alloc (.cells zc 28)) hN.out).mono ?_
  rintro e w1 ⟨rfl, hB⟩
  obtain ⟨hcell, hfr, hlt⟩ := res_cells HR (Keep.of_below hB : Keep (fun _ => False) _ w1) (by simp)
  have hB' : Below w.heap.size w w1 := HW.trans (hB.mono HW.size)
  have h0 := hcell 0
  have h1 := hcell 1
  have h2 := hcell 2
  have h3 := hcell 3
  have h4 := hcell 4
  simp [zc] at h0 h1 h2 h3 h4
  clear hcell
  go_wp2
  refine bodyPost_ret (v := .tuple #[.agg #[.int .i64 0, .int .i64 0, .int .i64 0, .int .i64 0, .bool false], .int .i64 1]) (by simp [results, Try.results22, go_sem, h0, h1, h2, h3, h4]) rfl ⟨rfl, (by repeat (first | (with_reducible exact hB') | (with_reducible refine Below.drew ?_) | (with_reducible refine below_drewN ?_ _) | (with_reducible refine below_al ?_ _) | (with_reducible refine Below.alloc ?_ (by first | exact Nat.le_refl _ | omega | (simp; done) | (simp; omega)) _) | (with_reducible refine Below.setCell ?_ (by first | (simp only []; omega) | (simp; done) | (simp; omega)) _)))⟩
set_option maxHeartbeats 1000000 in
theorem store_nobody (p : Value) (i : Int) (v : Int) (w : World) (hI : Nobody w p) :
    Calls Try.prog 13 #[p, .int .i64 i, .int .i64 v] w fun e w' => e = .returned (.tuple #[Acc.zero.val, .int .i64 1]) ∧ Below w.heap.size w w' := by
  have HW : Below w.heap.size w ((w.alloc (.cells #[.int .i64 v] 2)).alloc (.cells zc 28)) := (by repeat (first | (with_reducible exact Below.refl _ _) | (with_reducible refine Below.drew ?_) | (with_reducible refine below_drewN ?_ _) | (with_reducible refine below_al ?_ _) | (with_reducible refine Below.alloc ?_ (by first | exact Nat.le_refl _ | omega | (simp; done) | (simp; omega)) _) | (with_reducible refine Below.setCell ?_ (by first | (simp only []; omega) | (simp; done) | (simp; omega)) _)))
  have HR : ((w.alloc (.cells #[.int .i64 v] 2)).alloc (.cells zc 28)).heap[w.heap.size + 1]? = some (.cells zc 28 (0, 0)) := blk_new1 _ _ _
  have hN := Aside0.mk (hI.below HW)
  clear hI
  go_enter Try.func13, Try.ntmps13
  go_wp2_with fail
  refine (access_nobody p i 2 true _ ((w.alloc (.cells #[.int .i64 v] 2)).alloc (.cells zc 28)) hN.out).mono ?_
  rintro e w1 ⟨rfl, hB⟩
  obtain ⟨hcell, hfr, hlt⟩ := res_cells HR (Keep.of_below hB : Keep (fun _ => False) _ w1) (by simp)
  have hB' : Below w.heap.size w w1 := HW.trans (hB.mono HW.size)
  have h0 := hcell 0
  have h1 := hcell 1
  have h2 := hcell 2
  have h3 := hcell 3
  have h4 := hcell 4
  simp [zc] at h0 h1 h2 h3 h4
  clear hcell
  go_wp2
  refine bodyPost_ret (v := .tuple #[.agg #[.int .i64 0, .int .i64 0, .int .i64 0, .int .i64 0, .bool false], .int .i64 1]) (by simp [results, Try.results13, go_sem, h0, h1, h2, h3, h4]) rfl ⟨rfl, (by repeat (first | (with_reducible exact hB') | (with_reducible refine Below.drew ?_) | (with_reducible refine below_drewN ?_ _) | (with_reducible refine below_al ?_ _) | (with_reducible refine Below.alloc ?_ (by first | exact Nat.le_refl _ | omega | (simp; done) | (simp; omega)) _) | (with_reducible refine Below.setCell ?_ (by first | (simp only []; omega) | (simp; done) | (simp; omega)) _)))⟩
set_option maxHeartbeats 1000000 in
theorem swap_nobody (p : Value) (i : Int) (old v : Int) (w : World) (hI : Nobody w p) :
    Calls Try.prog 14 #[p, .int .i64 i, .int .i64 old, .int .i64 v] w fun e w' => e = .returned (.tuple #[Acc.zero.val, .int .i64 1]) ∧ Below w.heap.size w w' := by
  have HW : Below w.heap.size w (((w.alloc (.cells #[.int .i64 old] 2)).alloc (.cells #[.int .i64 v] 2)).alloc (.cells zc 28)) := (by repeat (first | (with_reducible exact Below.refl _ _) | (with_reducible refine Below.drew ?_) | (with_reducible refine below_drewN ?_ _) | (with_reducible refine below_al ?_ _) | (with_reducible refine Below.alloc ?_ (by first | exact Nat.le_refl _ | omega | (simp; done) | (simp; omega)) _) | (with_reducible refine Below.setCell ?_ (by first | (simp only []; omega) | (simp; done) | (simp; omega)) _)))
  have HR : (((w.alloc (.cells #[.int .i64 old] 2)).alloc (.cells #[.int .i64 v] 2)).alloc (.cells zc 28)).heap[w.heap.size + 2]? = some (.cells zc 28 (0, 0)) := blk_new2 _ _ _ _
  have hN := Aside0.mk (hI.below HW)
  clear hI
  go_enter Try.func14, Try.ntmps14
  go_wp2_with fail
  refine (access_nobody p i 3 true _ (((w.alloc (.cells #[.int .i64 old] 2)).alloc (.cells #[.int .i64 v] 2)).alloc (.cells zc 28)) hN.out).mono ?_
  rintro e w1 ⟨rfl, hB⟩
  obtain ⟨hcell, hfr, hlt⟩ := res_cells HR (Keep.of_below hB : Keep (fun _ => False) _ w1) (by simp)
  have hB' : Below w.heap.size w w1 := HW.trans (hB.mono HW.size)
  have h0 := hcell 0
  have h1 := hcell 1
  have h2 := hcell 2
  have h3 := hcell 3
  have h4 := hcell 4
  simp [zc] at h0 h1 h2 h3 h4
  clear hcell
  go_wp2
  refine bodyPost_ret (v := .tuple #[.agg #[.int .i64 0, .int .i64 0, .int .i64 0, .int .i64 0, .bool false], .int .i64 1]) (by simp [results, Try.results14, go_sem, h0, h1, h2, h3, h4]) rfl ⟨rfl, (by repeat (first | (with_reducible exact hB') | (with_reducible refine Below.drew ?_) | (with_reducible refine below_drewN ?_ _) | (with_reducible refine below_al ?_ _) | (with_reducible refine Below.alloc ?_ (by first | exact Nat.le_refl _ | omega | (simp; done) | (simp; omega)) _) | (with_reducible refine Below.setCell ?_ (by first | (simp only []; omega) | (simp; done) | (simp; omega)) _)))⟩
set_option maxHeartbeats 1000000 in
theorem add_nobody (p : Value) (i : Int) (v : Int) (w : World) (hI : Nobody w p) :
    Calls Try.prog 23 #[p, .int .i64 i, .int .i64 v] w fun e w' => e = .returned (.tuple #[Acc.zero.val, .int .i64 1]) ∧ Below w.heap.size w w' := by
  have HW : Below w.heap.size w ((w.alloc (.cells #[.int .i64 v] 2)).alloc (.cells zc 28)) := (by repeat (first | (with_reducible exact Below.refl _ _) | (with_reducible refine Below.drew ?_) | (with_reducible refine below_drewN ?_ _) | (with_reducible refine below_al ?_ _) | (with_reducible refine Below.alloc ?_ (by first | exact Nat.le_refl _ | omega | (simp; done) | (simp; omega)) _) | (with_reducible refine Below.setCell ?_ (by first | (simp only []; omega) | (simp; done) | (simp; omega)) _)))
  have HR : ((w.alloc (.cells #[.int .i64 v] 2)).alloc (.cells zc 28)).heap[w.heap.size + 1]? = some (.cells zc 28 (0, 0)) := blk_new1 _ _ _
  have hN := Aside0.mk (hI.below HW)
  clear hI
  go_enter Try.func23, Try.ntmps23
  go_wp2_with fail
  refine (access_nobody p i 4 true _ ((w.alloc (.cells #[.int .i64 v] 2)).alloc (.cells zc 28)) hN.out).mono ?_
  rintro e w1 ⟨rfl, hB⟩
  obtain ⟨hcell, hfr, hlt⟩ := res_cells HR (Keep.of_below hB : Keep (fun _ => False) _ w1) (by simp)
  have hB' : Below w.heap.size w w1 := HW.trans (hB.mono HW.size)
  have h0 := hcell 0
  have h1 := hcell 1
  have h2 := hcell 2
  have h3 := hcell 3
  have h4 := hcell 4
  simp [zc] at h0 h1 h2 h3 h4
  clear hcell
  go_wp2
  refine bodyPost_ret (v := .tuple #[.agg #[.int .i64 0, .int .i64 0, .int .i64 0, .int .i64 0, .bool false], .int .i64 1]) (by simp [results, Try.results23, go_sem, h0, h1, h2, h3, h4]) rfl ⟨rfl, (by repeat (first | (with_reducible exact hB') | (with_reducible refine Below.drew ?_) | (with_reducible refine below_drewN ?_ _) | (with_reducible refine below_al ?_ _) | (with_reducible refine Below.alloc ?_ (by first | exact Nat.le_refl _ | omega | (simp; done) | (simp; omega)) _) | (with_reducible refine Below.setCell ?_ (by first | (simp only []; omega) | (simp; done) | (simp; omega)) _)))⟩

set_option maxHeartbeats 2000000 in
theorem awake_any (w : World) : Calls Try.prog 15 #[] w fun e w' => e = .returned (.bool true) ∧ Below w.heap.size w w' := by
  have hs1 : stp (List.replicate 1 0) 2 0 0 5 = ([5], ⟨0, 2, 0, 5, true⟩, 0) := by decide
  have hs2 : stp [5] 1 0 0 0 = ([5], ⟨0, 1, 5, 5, false⟩, 0) := by decide
  have S1 := Aside0.mk hs1
  have S2 := Aside0.mk hs2
  clear hs1 hs2
  go_enter Try.func15, Try.ntmps15
  go_wp2_with fail
  refine (new_ok 1 (by omega) w).mono ?_
  rintro e w1 ⟨rfl, hI, hB⟩
  have hlt := hB.size
  go_wp2_with fail
  refine (store_any _ _ _ 0 5 w1 hI).mono ?_
  rw [S1.out]
  rintro e w2 ⟨rfl, hI2, hK⟩
  have hB2 : Below w.heap.size w w2 := below_then_keep hB hB.size hK (by simp)
  unfold Acc.val
  go_wp2_with fail
  refine (load_any _ _ _ 0 _ (hI2.new (by repeat (first | (with_reducible exact Below.refl _ _) | (with_reducible refine Below.drew ?_) | (with_reducible refine below_drewN ?_ _) | (with_reducible refine below_al ?_ _) | (with_reducible refine Below.alloc ?_ (by first | exact Nat.le_refl _ | omega | (simp; done) | (simp; omega)) _) | (with_reducible refine Below.setCell ?_ (by first | (simp only []; omega) | (simp; done) | (simp; omega)) _))))).mono ?_
  rw [S2.out]
  rintro e w3 ⟨rfl, hI3, hK3⟩
  have hB3 : Below w.heap.size w w3 := below_then_keep (w1 := _) (by repeat (first | (with_reducible exact hB2) | (with_reducible refine Below.drew ?_) | (with_reducible refine below_drewN ?_ _) | (with_reducible refine below_al ?_ _) | (with_reducible refine Below.alloc ?_ (by first | exact Nat.le_refl _ | omega | (simp; done) | (simp; omega)) _) | (with_reducible refine Below.setCell ?_ (by first | (simp only []; omega) | (simp; done) | (simp; omega)) _))) (by first | exact hB2.size | (simp; have := hB2.size; omega)) hK3 (by simp)
  have hl3 := hB3.size
  unfold Acc.val
  go_wp2
  go_ret
  exact ⟨rfl, (by repeat (first | (with_reducible exact hB3) | (with_reducible refine Below.drew ?_) | (with_reducible refine below_drewN ?_ _) | (with_reducible refine below_al ?_ _) | (with_reducible refine Below.alloc ?_ (by first | exact Nat.le_refl _ | omega | (simp; done) | (simp; omega)) _) | (with_reducible refine Below.setCell ?_ (by first | (simp only []; omega) | (simp; done) | (simp; omega)) _)))⟩
end Go.Proofs.Ytkjfojbnghbkdaa
