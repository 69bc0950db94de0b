import Derived.Test.YtnglgjegkjfnaaaSlC
set_option linter.unusedSimpArgs false
set_option linter.unusedVariables false
namespace Go.Proofs.Ytnglgjegkjfnaaa
open Go.RowKit Go.Proofs.YtnglgjegkjfnaaaW.PrintWords Go.Proofs.YtnglgjegkjfnaaaW.PrintMore
/-! is, proc, Live, Alive, New. -/
abbrev TS : Nat := 57
def newS (limit procs : Int) : Sl := ⟨limit, [], [], List.replicate procs.toNat [], []⟩
def okNew (limit procs : Int) : Bool := decide (1 ≤ limit) && (decide (limit ≤ 4096) && (decide (1 ≤ procs) && decide (procs ≤ 64)))
theorem okNew_iff {limit procs : Int} : okNew limit procs = true ↔ 1 ≤ limit ∧ limit ≤ 4096 ∧ 1 ≤ procs ∧ procs ≤ 64 := by
  simp [okNew, and_assoc]
def procS (s : Sl) (p : Int) : Bool := decide (0 ≤ p) && decide (p < s.caches.length)
def aliveS (s : Sl) (x g : Int) : Bool := decide (0 ≤ x) && (decide (x < s.gens.length) && (s.alive.getD x.toNat false && decide (s.gens.getD x.toNat 0 = g)))
def liveS (s : Sl) : Nat := s.alive.countP id
theorem SlB.cells {T : TypeId} {w : World} {base b : Nat} {col : Nat → Nat} {s : Sl} {vG vA vC vF : Value} {vs : List Value} (h : SlB T w base b col s vG vA vC vF vs) :
    w.cell? ⟨b, 0, none⟩ = some (.int .i64 s.limit) ∧ w.cell? ⟨b, 1, none⟩ = some vG ∧ w.cell? ⟨b, 2, none⟩ = some vA ∧ w.cell? ⟨b, 3, none⟩ = some vC ∧ w.cell? ⟨b, 4, none⟩ = some vF :=
  ⟨cell_blk h.blk 0, cell_blk h.blk 1, cell_blk h.blk 2, cell_blk h.blk 3, cell_blk h.blk 4⟩
theorem is_slab {b : Nat} {s : Sl} {base : Nat} {col : Nat → Nat} (w : World) (h : IsSlab TS w base b col s) (hl : 0 < s.limit) : Calls Try.prog 34 #[.pointer (some ⟨b, 0, none⟩)] w fun e w' => e = .returned (.bool true) ∧ w = w' := by
  obtain ⟨vG, vA, vC, vF, vs, h⟩ := h
  obtain ⟨c0, -⟩ := h.cells
  have hn := sneq_ptr b
  have hlt := lt_blk h.blk
  have hd : decide (s.limit > 0) = true := by simp; omega
  clear h
  go_enter Try.func34, Try.ntmps34
  go_wp2
  go_ret
  exact ⟨rfl, rfl⟩
theorem proc_slab {b : Nat} {s : Sl} {base : Nat} {col : Nat → Nat} (p : Int) (w : World) (h : IsSlab TS w base b col s) (hl : 0 < s.limit) : Calls Try.prog 37 #[.pointer (some ⟨b, 0, none⟩), .int .i64 p] w fun e w' => e = .returned (.bool (procS s p)) ∧ w = w' := by
  have H := Aside0.mk h
  obtain ⟨vG, vA, vC, vF, vs, h⟩ := h
  obtain ⟨-, -, -, c3, -⟩ := h.cells
  obtain ⟨A, cc, rfl, hc⟩ := h.r.c.slice
  rw [h.r.l] at c3 hc
  have hlt := lt_blk h.blk
  clear h
  by_cases h0 : 0 ≤ p
  · have hd : decide (p ≥ 0) = true := by simp; omega
    have hP : procS s p = decide (p < s.caches.length) := by simp [procS, h0]
    rw [hP]
    clear hP
    go_enter Try.func37, Try.ntmps37
    go_wp2_with fail
    refine (is_slab w H.out hl).mono ?_
    rintro e w1 ⟨rfl, rfl⟩
    go_wp2
    go_ret
    exact ⟨by simp, rfl⟩
  · have hd : decide (p ≥ 0) = false := by simp; omega
    have hP : procS s p = false := by simp [procS, h0]
    rw [hP]
    clear hP
    go_enter Try.func37, Try.ntmps37
    go_wp2_with fail
    refine (is_slab w H.out hl).mono ?_
    rintro e w1 ⟨rfl, rfl⟩
    go_wp2
    go_ret
    exact ⟨rfl, rfl⟩
theorem infoSl : (Try.prog.info? 26).map (fun i => (i.zero, i.size, i.bytes)) = some (some (.slice none 0 0), 1, 24) := by kernel_rfl
theorem infoIn : (Try.prog.info? 3).map (fun i => (i.zero, i.size, i.bytes)) = some (some (.int .i64 0), 1, 8) := by kernel_rfl
theorem infoBo : (Try.prog.info? 4).map (fun i => (i.zero, i.size, i.bytes)) = some (some (.bool false), 1, 1) := by kernel_rfl
/-- A new row of n equal values. -/
theorem row_made (w : World) (n : Nat) (z : Value) (e : TypeId) (hz : z.oneCell' = true) (hn : n ≤ 9223372036854775807) : Row (w.alloc (.cells (madeCells #[z] n) e)) w.heap.size (fun k => k = w.heap.size) e (.slice (some ⟨w.heap.size, 0, none⟩) n n) (List.replicate n z) := by
  refine ⟨fun k hk => by simpa [Value.ownBlock] using hk.symm, ⟨by simp, .inr ⟨w.heap.size, 0, n, madeCells #[z] n, ?_, Nat.le_refl _, blk_new _ _, by simp, by simp only [maxLen]; omega, by simp [size_madeCells], ?_⟩⟩, fun u hu => ?_⟩
  · rw [List.length_replicate]
  · apply List.ext_getElem
    · simp [size_madeCells]
    · intro i h1 h2
      simp [madeCells, Nat.mod_one]
  · rw [List.eq_of_mem_replicate hu]; exact hz
def NewPost (limit procs : Int) (w : World) (e : Ending) (w' : World) : Prop := Below w.heap.size w w' ∧ ((okNew limit procs = true ∧ ∃ b col, e = .returned (.tuple #[.pointer (some ⟨b, 0, none⟩), .int .i64 0]) ∧ IsSlab TS w' w.heap.size b col (newS limit procs) ∧ ∀ k, k < w.heap.size → col k = 0) ∨ (okNew limit procs = false ∧ e = .returned (.tuple #[.pointer none, .int .i64 1])))
set_option maxHeartbeats 1000000 in
theorem snew_any (limit procs : Int) (w : World) : Calls Try.prog 13 #[.int .i64 limit, .int .i64 procs] w (NewPost limit procs w) := by
  cases hk : okNew limit procs with
  | false =>
    have HK := Aside0.mk hk
    have hb : limit < 1 ∨ (1 ≤ limit ∧ 4096 < limit) ∨ (1 ≤ limit ∧ limit ≤ 4096 ∧ procs < 1) ∨ (1 ≤ limit ∧ limit ≤ 4096 ∧ 1 ≤ procs ∧ 64 < procs) := by
      have : ¬ (1 ≤ limit ∧ limit ≤ 4096 ∧ 1 ≤ procs ∧ procs ≤ 64) := fun h => by rw [okNew_iff.2 h] at hk; cases hk
      omega
    clear hk
    rcases hb with h | ⟨h0, h⟩ | ⟨h0, h1, h⟩ | ⟨h0, h1, h2, h⟩
    · go_enter Try.func13, Try.ntmps13
      go_wp2
      go_ret2
      exact ⟨(by repeat (first | (with_reducible exact Below.refl _ _) | (with_reducible refine Below.drew ?_) | (with_reducible refine below_drewN ?_ _) | (with_reducible refine below_al ?_ _) | (with_reducible refine Below.alloc ?_ (by first | exact Nat.le_refl _ | omega | (simp; done) | (simp; omega)) _) | (with_reducible refine Below.setCell ?_ (by first | (simp only []; omega) | (simp; done) | (simp; omega)) _))), .inr ⟨HK.out, rfl⟩⟩
    · have h0' : ¬ limit < 1 := by omega
      go_enter Try.func13, Try.ntmps13
      go_wp2
      go_ret2
      exact ⟨(by repeat (first | (with_reducible exact Below.refl _ _) | (with_reducible refine Below.drew ?_) | (with_reducible refine below_drewN ?_ _) | (with_reducible refine below_al ?_ _) | (with_reducible refine Below.alloc ?_ (by first | exact Nat.le_refl _ | omega | (simp; done) | (simp; omega)) _) | (with_reducible refine Below.setCell ?_ (by first | (simp only []; omega) | (simp; done) | (simp; omega)) _))), .inr ⟨HK.out, rfl⟩⟩
    · have h0' : ¬ limit < 1 := by omega
      have h1' : ¬ 4096 < limit := by omega
      go_enter Try.func13, Try.ntmps13
      go_wp2
      go_ret2
      exact ⟨(by repeat (first | (with_reducible exact Below.refl _ _) | (with_reducible refine Below.drew ?_) | (with_reducible refine below_drewN ?_ _) | (with_reducible refine below_al ?_ _) | (with_reducible refine Below.alloc ?_ (by first | exact Nat.le_refl _ | omega | (simp; done) | (simp; omega)) _) | (with_reducible refine Below.setCell ?_ (by first | (simp only []; omega) | (simp; done) | (simp; omega)) _))), .inr ⟨HK.out, rfl⟩⟩
    · have h0' : ¬ limit < 1 := by omega
      have h1' : ¬ 4096 < limit := by omega
      have h2' : ¬ procs < 1 := by omega
      go_enter Try.func13, Try.ntmps13
      go_wp2
      go_ret2
      exact ⟨(by repeat (first | (with_reducible exact Below.refl _ _) | (with_reducible refine Below.drew ?_) | (with_reducible refine below_drewN ?_ _) | (with_reducible refine below_al ?_ _) | (with_reducible refine Below.alloc ?_ (by first | exact Nat.le_refl _ | omega | (simp; done) | (simp; omega)) _) | (with_reducible refine Below.setCell ?_ (by first | (simp only []; omega) | (simp; done) | (simp; omega)) _))), .inr ⟨HK.out, rfl⟩⟩
  | true =>
    have HK := Aside0.mk hk
    obtain ⟨h0, h1, h2, h3⟩ := okNew_iff.1 hk
    clear hk
    obtain ⟨n, rfl⟩ := Int.eq_ofNat_of_zero_le (show 0 ≤ procs by omega)
    have h0' : ¬ limit < 1 := by omega
    have h1' : ¬ 4096 < limit := by omega
    have h2' : ¬ (n : Int) < 1 := by omega
    have h3' : ¬ 64 < (n : Int) := by omega
    have hmk := run_make_row' (P := Try.prog) 28 26 (.slice none 0 0) 24 Try.underlying28 infoSl rfl .i64 .i64 n (by omega) (by omega)
    have hR := row_made w n (.slice none 0 0) 26 rfl (by omega)
    go_enter Try.func13, Try.ntmps13
    go_wp2
    go_ret2
    have hB : Below w.heap.size w ((w.alloc (.cells (madeCells #[.slice none 0 0] n) 26)).alloc (.cells #[.int .i64 limit, .slice none 0 0, .slice none 0 0, .slice (some ⟨w.heap.size, 0, none⟩) n n, .slice none 0 0] TS)) := (by repeat (first | (with_reducible exact Below.refl _ _) | (with_reducible refine Below.drew ?_) | (with_reducible refine below_drewN ?_ _) | (with_reducible refine below_al ?_ _) | (with_reducible refine Below.alloc ?_ (by first | exact Nat.le_refl _ | omega | (simp; done) | (simp; omega)) _) | (with_reducible refine Below.setCell ?_ (by first | (simp only []; omega) | (simp; done) | (simp; omega)) _)))
    have hA : Below (w.alloc (.cells (madeCells #[.slice none 0 0] n) 26)).heap.size (w.alloc (.cells (madeCells #[.slice none 0 0] n) 26)) ((w.alloc (.cells (madeCells #[.slice none 0 0] n) 26)).alloc (.cells #[.int .i64 limit, .slice none 0 0, .slice none 0 0, .slice (some ⟨w.heap.size, 0, none⟩) n n, .slice none 0 0] TS)) := below_al (Below.refl _ _) _
    refine ⟨hB, .inl ⟨HK.out, w.heap.size + 1, fun k => if k = w.heap.size then 4 else if k = w.heap.size + 1 then 1 else 0, rfl, ⟨.slice none 0 0, .slice none 0 0, .slice (some ⟨w.heap.size, 0, none⟩) n n, .slice none 0 0, List.replicate n (.slice none 0 0), ⟨⟨?_, ?_, ?_, ?_, ?_, ?_, ?_, ?_⟩, ?_, ?_⟩⟩, fun k hk => ?_⟩⟩
    · exact Row.nil _ _ _ _
    · exact Row.nil _ _ _ _
    · exact (hR.below hA).mono fun k _ hk => by simp [hk]
    · exact Row.nil _ _ _ _
    · simp [newS]
    · intro i x hx
      have hx' : i < n ∧ x = [] := by
        have := List.getElem?_eq_some_iff.1 hx
        obtain ⟨h1, h2⟩ := this
        simp [newS] at h1 h2
        exact ⟨h1, h2⟩
      obtain ⟨hi, rfl⟩ := hx'
      exact ⟨.slice none 0 0, by simp [hi], Row.nil _ _ _ _⟩
    · intro k hk
      simp at hk
      have h1 : k ≠ w.heap.size := by omega
      have h2 : k ≠ w.heap.size + 1 := by omega
      simp [h1, h2]
    · intro k hk
      by_cases h1 : k = w.heap.size
      · omega
      · by_cases h2 : k = w.heap.size + 1
        · omega
        · simp [h1, h2] at hk
    · exact blk_new1 _ _ _
    · simp
    · have h1 : k ≠ w.heap.size := by omega
      have h2 : k ≠ w.heap.size + 1 := by omega
      simp [h1, h2]
set_option maxHeartbeats 1000000 in
theorem live_slab {b : Nat} {s : Sl} {base : Nat} {col : Nat → Nat} (w : World) (h : IsSlab TS w base b col s) (hl : 0 < s.limit) (hb : s.alive.length ≤ 1000000) : Calls Try.prog 21 #[.pointer (some ⟨b, 0, none⟩)] w fun e w' => e = .returned (.int .i64 (liveS s)) ∧ Below w.heap.size w w' := by
  have H := Aside0.mk h
  obtain ⟨vG, vA, vC, vF, vs, h⟩ := h
  obtain ⟨-, -, c2, -, -⟩ := h.cells
  obtain ⟨A, cc, hA, hc⟩ := h.r.a.slice
  subst hA
  rw [bools_len] at c2 hc
  have HB := Aside0.mk h
  have hlt := lt_blk h.blk
  clear h
  go_enter Try.func21, Try.ntmps21
  go_wp2_with fail
  refine (is_slab _ (H.out.below (by repeat (first | (with_reducible exact Below.refl _ _) | (with_reducible refine Below.drew ?_) | (with_reducible refine below_drewN ?_ _) | (with_reducible refine below_al ?_ _) | (with_reducible refine Below.alloc ?_ (by first | exact Nat.le_refl _ | omega | (simp; done) | (simp; omega)) _) | (with_reducible refine Below.setCell ?_ (by first | (simp only []; omega) | (simp; done) | (simp; omega)) _)))) hl).mono ?_
  rintro e w1 ⟨rfl, rfl⟩
  go_wp2
  go_loopw [3, 14] (fun n i wr => ∃ k : Nat, k ≤ s.alive.length ∧ i = .int .i64 k ∧ n = .int .i64 ((s.alive.take k).countP id : Nat) ∧ Aside0 (Below w.heap.size w wr)) (fun _ i _ => s.alive.length - (intOf i).toNat)
  case atStart => exact ⟨0, by omega, rfl, rfl, ⟨(by repeat (first | (with_reducible exact Below.refl _ _) | (with_reducible refine Below.drew ?_) | (with_reducible refine below_drewN ?_ _) | (with_reducible refine below_al ?_ _) | (with_reducible refine Below.alloc ?_ (by first | exact Nat.le_refl _ | omega | (simp; done) | (simp; omega)) _) | (with_reducible refine Below.setCell ?_ (by first | (simp only []; omega) | (simp; done) | (simp; omega)) _)))⟩⟩
  case round =>
    obtain ⟨k, hk, rfl, rfl, HW⟩ := hrel
    have hcn : (s.alive.take k).countP id ≤ 1000000 := Nat.le_trans List.countP_le_length (by rw [List.length_take]; omega)
    have hn := Aside0.mk (rfl : (s.alive.take k).countP id = (s.alive.take k).countP id)
    by_cases hlt2 : k < s.alive.length
    · obtain ⟨g, o, c', he, hg, -, hat⟩ := (HB.out.r.a.below HW.out).form (by rw [bools_len]; omega)
      injection he with he1 he2 he3
      subst he1
      have hx : s.alive[k]? = some s.alive[k] := List.getElem?_eq_getElem hlt2
      have hcell := (hat k).1 _ (bools_get hx)
      have hT : Aside0 ((s.alive.take (k + 1)).countP id = (s.alive.take k).countP id + (if s.alive[k] then 1 else 0)) := ⟨by
        rw [List.take_succ_eq_append_getElem hlt2, List.countP_append]
        cases s.alive[k] <;> rfl⟩
      clear hat hx hn
      generalize (s.alive.take k).countP id = m at *
      cases hy : s.alive[k] with
      | true =>
        rw [hy] at hcell hT
        clear hy
        go_wp2
        go_roundw
        case rel => exact ⟨k + 1, by omega, by go_num, by rw [hT.out]; go_num, HW⟩
        case measure => simp [intOf]; omega
      | false =>
        rw [hy] at hcell hT
        clear hy
        go_wp2
        go_roundw
        case rel => exact ⟨k + 1, by omega, by go_num, by rw [hT.out]; rfl, HW⟩
        case measure => simp [intOf]; omega
    · obtain rfl : k = s.alive.length := by omega
      clear hn
      rw [List.take_length] at *
      go_wp2
      go_ret
      exact ⟨rfl, HW.out⟩
end Go.Proofs.Ytnglgjegkjfnaaa
