import Derived.Test.YtnglgjegkjfnaaaSlAC
namespace Go.Proofs.Ytnglgjegkjfnaaa
open Go.RowKit Go.ChangeShapes Go.WideShapes Go.ChangeAt Go.Proofs.YtnglgjegkjfnaaaW.PrintWords Go.Proofs.YtnglgjegkjfnaaaW.PrintMore
/-! The document's New. -/
def NewR (limit procs : Int) (w : World) (e : Ending) (w' : World) : Prop := Below w.heap.size w w' ∧
  ((okNew limit procs = true ∧ ∃ A c, e = .returned (.tuple #[.agg #[.int .i64 limit, .slice none 0 0, .slice none 0 0, .slice A procs.toNat c, .slice none 0 0], .int .i64 0]) ∧ Row w' w.heap.size (fun _ => True) 26 (.slice A procs.toNat c) (List.replicate procs.toNat (.slice none 0 0))) ∨
   (okNew limit procs = false ∧ e = .returned (.tuple #[.agg #[.int .i64 0, .slice none 0 0, .slice none 0 0, .slice none 0 0, .slice none 0 0], .int .i64 1])))
/-- Behind k rounds: the answer in R, the state in S. -/
structure NrW (w wr : World) (R S : Nat) (limit : Int) (k : Nat) (v : Value) : Prop where
  below : Below w.heap.size w wr
  r : wr.heap[R]? = some (.cells #[.int .i64 0, .slice none 0 0, .slice none 0 0, .slice none 0 0, .slice none 0 0] 30 (0, 0))
  s : wr.heap[S]? = some (.cells #[.int .i64 limit, .slice none 0 0, .slice none 0 0, v, .slice none 0 0] 30 (0, 0))
  row : Row wr w.heap.size (fun _ => True) 26 v (List.replicate k (.slice none 0 0))
  rw0 : w.heap.size ≤ R
  sw : w.heap.size ≤ S
  ne : R ≠ S
def NrE (w : World) (R S : Nat) (limit : Int) (k : Nat) (wr : World) : Prop := ∃ v, NrW w wr R S limit k v
theorem set1_below {w W : World} {g i : Nat} {v : Value} (h : Below w.heap.size w W) (hg : w.heap.size ≤ g) : Below w.heap.size w (W.setCell ⟨g, i, none⟩ v) :=
  below_then_keep h h.size (show Keep (fun k => k = g) W _ from (by repeat (first | (with_reducible exact Keep.refl _ _) | (with_reducible refine Keep.drewN ?_ _) | (with_reducible refine Keep.drew ?_) | (with_reducible refine Keep.setCell ?_ _ _ (by first | (right; with_reducible rfl) | (left; simp; done) | (left; simp; omega) | (right; simp; done) | (right; assumption))) | (with_reducible refine Keep.alloc ?_ _)))) (fun k e => by subst e; exact hg)
theorem NrW.step {w wr w5 : World} {R S k : Nat} {limit : Int} {v v5 : Value} (h : NrW w wr R S limit k v) (hg : (wr.alloc (.cells #[.slice none 0 0] 26)).grownBy w5 v.ownBlock) (hr : Row w5 w.heap.size (fun k => True ∨ (wr.alloc (.cells #[.slice none 0 0] 26)).heap.size ≤ k) 26 v5 (List.replicate k (.slice none 0 0) ++ [.slice none 0 0])) : NrW w (w5.setCell ⟨S, 3, none⟩ v5) R S limit (k + 1) v5 := by
  have hA : Below wr.heap.size wr (wr.alloc (.cells #[.slice none 0 0] 26)) := below_al (Below.refl _ _) _
  have hk5 := grown_keep (ok := fun k => v.ownBlock = some k) hg (fun _ h => h)
  have hnR : ¬ v.ownBlock = some R := fun e => row_type_blk h.row e h.r (by decide)
  have hnS : ¬ v.ownBlock = some S := fun e => row_type_blk h.row e h.s (by decide)
  have hR5 := blk_keep (blk_below h.r hA) hk5 hnR
  have hS5 := blk_keep (blk_below h.s hA) hk5 hnS
  have hK : Keep (fun i => i = S) w5 (w5.setCell ⟨S, 3, none⟩ v5) := (by repeat (first | (with_reducible exact Keep.refl _ _) | (with_reducible refine Keep.drewN ?_ _) | (with_reducible refine Keep.drew ?_) | (with_reducible refine Keep.setCell ?_ _ _ (by first | (right; with_reducible rfl) | (left; simp; done) | (left; simp; omega) | (right; simp; done) | (right; assumption))) | (with_reducible refine Keep.alloc ?_ _)))
  have hB5 : Below w.heap.size w w5 := below_then_keep (below_then h.below hA) (below_then h.below hA).size hk5 (fun i hi => h.row.base_le i hi)
  refine ⟨set1_below hB5 h.sw, blk_keep hR5 hK h.ne, ?_, ?_, h.rw0, h.sw, h.ne⟩
  · have := blk_set (i := 3) (u := v5) hS5
    simpa using this
  · have h2 := row_keepT hr hS5 (by decide) hK
    rw [← List.replicate_succ'] at h2
    exact h2.mono (fun _ _ _ => trivial)
set_option maxHeartbeats 2000000 in
theorem new_ref (limit procs : Int) (w : World) : Calls Try.prog 14 #[.int .i64 limit, .int .i64 procs] w (NewR limit procs w) := by
  have hlw := Nat.le_refl w.heap.size
  cases hk : okNew limit procs with
  | false =>
    have HK := Aside0.mk hk
    have hb : limit < 1 ∨ (1 ≤ limit ∧ 4096 < limit) ∨ (1 ≤ limit ∧ limit ≤ 4096 ∧ procs < 1) ∨ (1 ≤ limit ∧ limit ≤ 4096 ∧ 1 ≤ procs ∧ 64 < procs) := by
      have : ¬ (1 ≤ limit ∧ limit ≤ 4096 ∧ 1 ≤ procs ∧ procs ≤ 64) := fun h => by rw [okNew_iff.2 h] at hk; cases hk
      omega
    clear hk
    have hB : Below w.heap.size w (w.alloc (.cells #[.int .i64 0, .slice none 0 0, .slice none 0 0, .slice none 0 0, .slice none 0 0] 30)) := (by repeat (first | (with_reducible exact Below.refl _ _) | (with_reducible refine Below.drew ?_) | (with_reducible refine below_drewN ?_ _) | (with_reducible refine below_al ?_ _) | (with_reducible refine Below.alloc ?_ (by first | exact Nat.le_refl _ | omega | (simp; done) | (simp; omega)) _) | (with_reducible refine Below.setCell ?_ (by first | (simp only []; omega) | (simp; done) | (simp; omega)) _)))
    rcases hb with h | ⟨h0, h⟩ | ⟨h0, h1, h⟩ | ⟨h0, h1, h2, h⟩
    · go_enter Try.func14, Try.ntmps14
      go_wp2
      --MARK1
      refine bodyPost_ret (v := .tuple #[.agg #[.int .i64 0, .slice none 0 0, .slice none 0 0, .slice none 0 0, .slice none 0 0], .int .i64 1]) (by simp [results, Try.results14, go_sem]) rfl ⟨hB, .inr ⟨HK.out, rfl⟩⟩
    · have h0' : ¬ limit < 1 := by omega
      go_enter Try.func14, Try.ntmps14
      go_wp2
      refine bodyPost_ret (v := .tuple #[.agg #[.int .i64 0, .slice none 0 0, .slice none 0 0, .slice none 0 0, .slice none 0 0], .int .i64 1]) (by simp [results, Try.results14, go_sem]) rfl ⟨hB, .inr ⟨HK.out, rfl⟩⟩
    · have h0' : ¬ limit < 1 := by omega
      have h1' : ¬ 4096 < limit := by omega
      go_enter Try.func14, Try.ntmps14
      go_wp2
      refine bodyPost_ret (v := .tuple #[.agg #[.int .i64 0, .slice none 0 0, .slice none 0 0, .slice none 0 0, .slice none 0 0], .int .i64 1]) (by simp [results, Try.results14, go_sem]) rfl ⟨hB, .inr ⟨HK.out, rfl⟩⟩
    · have h0' : ¬ limit < 1 := by omega
      have h1' : ¬ 4096 < limit := by omega
      have h2' : ¬ procs < 1 := by omega
      go_enter Try.func14, Try.ntmps14
      go_wp2
      refine bodyPost_ret (v := .tuple #[.agg #[.int .i64 0, .slice none 0 0, .slice none 0 0, .slice none 0 0, .slice none 0 0], .int .i64 1]) (by simp [results, Try.results14, go_sem]) rfl ⟨hB, .inr ⟨HK.out, rfl⟩⟩
  | true =>
    have HK := Aside0.mk hk
    obtain ⟨h0, h1, h2, h3⟩ := okNew_iff.1 hk
    clear hk
    obtain ⟨n, rfl⟩ := Int.eq_ofNat_of_zero_le (show 0 ≤ procs by omega)
    have h0' : ¬ limit < 1 := by omega
    have h1' : ¬ 4096 < limit := by omega
    have h2' : ¬ (n : Int) < 1 := by omega
    have h3' : ¬ 64 < (n : Int) := by omega
    have hE : Aside0 (NrE w w.heap.size (w.heap.size + 1) limit 0 ((w.alloc (.cells #[.int .i64 0, .slice none 0 0, .slice none 0 0, .slice none 0 0, .slice none 0 0] 30)).alloc (.cells #[.int .i64 limit, .slice none 0 0, .slice none 0 0, .slice none 0 0, .slice none 0 0] 30))) :=
      ⟨⟨.slice none 0 0, (by repeat (first | (with_reducible exact Below.refl _ _) | (with_reducible refine Below.drew ?_) | (with_reducible refine below_drewN ?_ _) | (with_reducible refine below_al ?_ _) | (with_reducible refine Below.alloc ?_ (by first | exact Nat.le_refl _ | omega | (simp; done) | (simp; omega)) _) | (with_reducible refine Below.setCell ?_ (by first | (simp only []; omega) | (simp; done) | (simp; omega)) _))), blk_alloc (blk_new _ _), blk_new1 _ _ _, Row.nil _ _ _ _, by omega, by omega, by omega⟩⟩
    go_enter Try.func14, Try.ntmps14
    go_wp2_with fail
    --MARK2
    generalize ((w.alloc (.cells #[.int .i64 0, .slice none 0 0, .slice none 0 0, .slice none 0 0, .slice none 0 0] 30)).alloc (.cells #[.int .i64 limit, .slice none 0 0, .slice none 0 0, .slice none 0 0, .slice none 0 0] 30)) = W at *
    obtain ⟨S, hS⟩ : ∃ S, w.heap.size + 1 = S := ⟨_, rfl⟩
    rw [hS] at hE ⊢
    clear hS
    go_loopw [7] (fun i wr => ∃ k : Nat, k ≤ n ∧ i = .int .i64 k ∧ Aside0 (NrE w w.heap.size S limit k wr)) (fun i _ => n - (intOf i).toNat)
    case atStart => exact ⟨0, by omega, rfl, hE⟩
    case round =>
      clear hE
      obtain ⟨k, hkn, rfl, HE⟩ := hrel
      obtain ⟨v, hN⟩ := HE.out
      obtain ⟨A, cA, hv, hcA⟩ := hN.row.slice
      rw [List.length_replicate] at hv
      subst hv
      obtain ⟨s0, s1, s2, s3, s4⟩ := cells5 hN.s
      obtain ⟨f0, f1, f2, f3, f4⟩ := froz5 hN.s
      obtain ⟨p0, p1, p2, p3, p4⟩ := cells5 hN.r
      obtain ⟨t0, t1, t2, t3, t4⟩ := froz5 hN.r
      have hSl := lt_blk hN.s
      have hRl := lt_blk hN.r
      by_cases hlt : k < n
      · have hA1 : Below wr.heap.size wr (wr.alloc (.cells #[.slice none 0 0] 26)) := below_al (Below.refl _ _) _
        have hbase := (below_then hN.below hA1).size
        obtain ⟨v5, w5, hr5, hrow5, hg5⟩ := row_append (P := Try.prog) (t := 28) Try.underlying28 infoSl rfl (by omega) (hN.row.below hA1) (some ⟨wr.heap.size, 0, none⟩) 1 1 [.slice none 0 0] rfl (fun _ => ⟨_, rfl, fun j u hj => by match j, hj with | 0, hj => (obtain rfl : Value.slice none 0 0 = u := by simpa using hj); rw [adds]; exact cell_blk (blk_new _ _) 0⟩) (fun u hu => by rw [List.mem_singleton.1 hu]; rfl) (by rw [List.length_replicate]; omega) hbase
        have HN := Aside0.mk (hN.step hg5 hrow5)
        obtain ⟨A5, c5, he5, -⟩ := hrow5.slice
        rw [List.length_append, List.length_singleton, List.length_replicate] at he5
        have hk5 := grown_keep (ok := fun k => (Value.slice A k cA).ownBlock = some k ∨ True) hg5 (fun _ h => .inr trivial)
        have hnS : ¬ (Value.slice A k cA).ownBlock = some S := fun e => row_type_blk hN.row e hN.s (by decide)
        have hS5 := blk_keep (blk_below hN.s hA1) (grown_keep (ok := fun i => (Value.slice A k cA).ownBlock = some i) hg5 (fun _ h => h)) hnS
        have q3 := cell_blk hS5 3
        have g3 := frozen_blk hS5 3
        have hS5l := lt_blk hS5
        simp at q3
        subst he5
        clear hrow5 hg5 hN HE hA1 hbase hnS hS5 hk5
        go_wp2_with (first | ((with_reducible refine gate_builtin (b := .append) (xs := #[.tmp 31, .tmp 32]) rfl ?_); at_builtin; refine appL_ rfl (.tmp 31) (.tmp 32) 28 rfl rfl rfl hr5 ?_))
        --MARK3
        go_roundw
        case rel => exact ⟨k + 1, by omega, by go_num, ⟨⟨_, HN.out⟩⟩⟩
        case measure => simp [intOf]; omega
      · obtain rfl : k = n := by omega
        have HN := Aside0.mk hN
        clear hN HE
        go_wp2
        --MARK4
        have hKR : Keep (fun i => i = w.heap.size) wr (((((wr.setCell ⟨w.heap.size, 0, none⟩ (.int .i64 limit)).setCell ⟨w.heap.size, 1, none⟩ (.slice none 0 0)).setCell ⟨w.heap.size, 2, none⟩ (.slice none 0 0)).setCell ⟨w.heap.size, 3, none⟩ (.slice A k cA)).setCell ⟨w.heap.size, 4, none⟩ (.slice none 0 0)) := set5_keep _ _ _ _ _ _ _
        have hP : NewR limit k w (.returned (.tuple #[.agg #[.int .i64 limit, .slice none 0 0, .slice none 0 0, .slice A k cA, .slice none 0 0], .int .i64 0])) (((((wr.setCell ⟨w.heap.size, 0, none⟩ (.int .i64 limit)).setCell ⟨w.heap.size, 1, none⟩ (.slice none 0 0)).setCell ⟨w.heap.size, 2, none⟩ (.slice none 0 0)).setCell ⟨w.heap.size, 3, none⟩ (.slice A k cA)).setCell ⟨w.heap.size, 4, none⟩ (.slice none 0 0)) :=
          ⟨below_then_keep HN.out.below HN.out.below.size hKR (fun i e => by subst e; exact hlw), .inl ⟨HK.out, A, cA, rfl, row_keepT HN.out.row HN.out.r (by decide) hKR⟩⟩
        obtain ⟨r0, r1, r2, r3, r4⟩ := cells5 (blk_set5 (u0 := .int .i64 limit) (u1 := .slice none 0 0) (u2 := .slice none 0 0) (u3 := .slice A k cA) (u4 := .slice none 0 0) HN.out.r)
        clear hKR
        generalize (((((wr.setCell ⟨w.heap.size, 0, none⟩ (.int .i64 limit)).setCell ⟨w.heap.size, 1, none⟩ (.slice none 0 0)).setCell ⟨w.heap.size, 2, none⟩ (.slice none 0 0)).setCell ⟨w.heap.size, 3, none⟩ (.slice A k cA)).setCell ⟨w.heap.size, 4, none⟩ (.slice none 0 0)) = w9 at *
        refine bodyPost_ret (v := .tuple #[.agg #[.int .i64 limit, .slice none 0 0, .slice none 0 0, .slice A k cA, .slice none 0 0], .int .i64 0]) ?_ rfl hP
        simp [results, Try.results14, go_sem, r0, r1, r2, r3, r4]
end Go.Proofs.Ytnglgjegkjfnaaa
