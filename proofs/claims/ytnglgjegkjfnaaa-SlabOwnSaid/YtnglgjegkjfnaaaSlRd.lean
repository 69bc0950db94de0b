import Derived.Test.YtnglgjegkjfnaaaSlAC
import Derived.Deep.DrawnRows
set_option linter.unusedSimpArgs false
set_option linter.unusedVariables false
namespace Go.Proofs.Ytnglgjegkjfnaaa
open Go.RowKit Go.ChangeShapes Go.WideShapes Go.ChangeAt Go.Proofs.YtnglgjegkjfnaaaW.PrintWords Go.Proofs.YtnglgjegkjfnaaaW.PrintMore
/-! The document's New. -/
def NewR (limit procs : Int) (w : World) (e : Ending) (w' : World) : Prop := Below w.heap.size w w' ∧
  ((okNew limit procs = true ∧ ∃ A c, e = .returned (.tuple #[.agg #[.int .i64 limit, .slice none 0 0, .slice none 0 0, .slice A procs.toNat c, .slice none 0 0], .int .i64 0]) ∧ Row w' w.heap.size (fun _ => True) 26 (.slice A procs.toNat c) (List.replicate procs.toNat (.slice none 0 0))) ∨
   (okNew limit procs = false ∧ e = .returned (.tuple #[.agg #[.int .i64 0, .slice none 0 0, .slice none 0 0, .slice none 0 0, .slice none 0 0], .int .i64 1])))
/-- Behind k rounds: the answer in R, the state in S. -/
structure NrW (w wr : World) (R S : Nat) (limit : Int) (k : Nat) (v : Value) : Prop where
  below : Below w.heap.size w wr
  r : wr.heap[R]? = some (.cells #[.int .i64 0, .slice none 0 0, .slice none 0 0, .slice none 0 0, .slice none 0 0] 30 (0, 0))
  s : wr.heap[S]? = some (.cells #[.int .i64 limit, .slice none 0 0, .slice none 0 0, v, .slice none 0 0] 30 (0, 0))
  row : Row wr w.heap.size (fun _ => True) 26 v (List.replicate k (.slice none 0 0))
  rw0 : w.heap.size ≤ R
  sw : w.heap.size ≤ S
  ne : R ≠ S
def NrE (w : World) (R S : Nat) (limit : Int) (k : Nat) (wr : World) : Prop := ∃ v, NrW w wr R S limit k v
theorem set1_below {w W : World} {g i : Nat} {v : Value} (h : Below w.heap.size w W) (hg : w.heap.size ≤ g) : Below w.heap.size w (W.setCell ⟨g, i, none⟩ v) :=
  below_then_keep h h.size (show Keep (fun k => k = g) W _ from (by repeat (first | (with_reducible exact Keep.refl _ _) | (with_reducible refine Keep.drewN ?_ _) | (with_reducible refine Keep.drew ?_) | (with_reducible refine Keep.setCell ?_ _ _ (by first | (right; with_reducible rfl) | (left; simp; done) | (left; simp; omega) | (right; simp; done) | (right; assumption))) | (with_reducible refine Keep.alloc ?_ _)))) (fun k e => by subst e; exact hg)
theorem NrW.step {w wr w5 : World} {R S k : Nat} {limit : Int} {v v5 : Value} (h : NrW w wr R S limit k v) (hg : (wr.alloc (.cells #[.slice none 0 0] 26)).grownBy w5 v.ownBlock) (hr : Row w5 w.heap.size (fun k => True ∨ (wr.alloc (.cells #[.slice none 0 0] 26)).heap.size ≤ k) 26 v5 (List.replicate k (.slice none 0 0) ++ [.slice none 0 0])) : NrW w (w5.setCell ⟨S, 3, none⟩ v5) R S limit (k + 1) v5 := by
  have hA : Below wr.heap.size wr (wr.alloc (.cells #[.slice none 0 0] 26)) := below_al (Below.refl _ _) _
  have hk5 := grown_keep (ok := fun k => v.ownBlock = some k) hg (fun _ h => h)
  have hnR : ¬ v.ownBlock = some R := fun e => row_type_blk h.row e h.r (by decide)
  have hnS : ¬ v.ownBlock = some S := fun e => row_type_blk h.row e h.s (by decide)
  have hR5 := blk_keep (blk_below h.r hA) hk5 hnR
  have hS5 := blk_keep (blk_below h.s hA) hk5 hnS
  have hK : Keep (fun i => i = S) w5 (w5.setCell ⟨S, 3, none⟩ v5) := (by repeat (first | (with_reducible exact Keep.refl _ _) | (with_reducible refine Keep.drewN ?_ _) | (with_reducible refine Keep.drew ?_) | (with_reducible refine Keep.setCell ?_ _ _ (by first | (right; with_reducible rfl) | (left; simp; done) | (left; simp; omega) | (right; simp; done) | (right; assumption))) | (with_reducible refine Keep.alloc ?_ _)))
  have hB5 : Below w.heap.size w w5 := below_then_keep (below_then h.below hA) (below_then h.below hA).size hk5 (fun i hi => h.row.base_le i hi)
  refine ⟨set1_below hB5 h.sw, blk_keep hR5 hK h.ne, ?_, ?_, h.rw0, h.sw, h.ne⟩
  · have := blk_set (i := 3) (u := v5) hS5
    simpa using this
  · have h2 := row_keepT hr hS5 (by decide) hK
    rw [← List.replicate_succ'] at h2
    exact h2.mono (fun _ _ _ => trivial)
set_option maxHeartbeats 2000000 in
theorem new_ref (limit procs : Int) (w : World) : Calls Try.prog 14 #[.int .i64 limit, .int .i64 procs] w (NewR limit procs w) := by
  have hlw := Nat.le_refl w.heap.size
  cases hk : okNew limit procs with
  | false =>
    have HK := Aside0.mk hk
    have hb : limit < 1 ∨ (1 ≤ limit ∧ 4096 < limit) ∨ (1 ≤ limit ∧ limit ≤ 4096 ∧ procs < 1) ∨ (1 ≤ limit ∧ limit ≤ 4096 ∧ 1 ≤ procs ∧ 64 < procs) := by
      have : ¬ (1 ≤ limit ∧ limit ≤ 4096 ∧ 1 ≤ procs ∧ procs ≤ 64) := fun h => by rw [okNew_iff.2 h] at hk; cases hk
      omega
    clear hk
    have hB : Below w.heap.size w (w.alloc (.cells #[.int .i64 0, .slice none 0 0, .slice none 0 0, .slice none 0 0, .slice none 0 0] 30)) := (by repeat (first | (with_reducible exact Below.refl _ _) | (with_reducible refine Below.drew ?_) | (with_reducible refine below_drewN ?_ _) | (with_reducible refine below_al ?_ _) | (with_reducible refine Below.alloc ?_ (by first | exact Nat.le_refl _ | omega | (simp; done) | (simp; omega)) _) | (with_reducible refine Below.setCell ?_ (by first | (simp only []; omega) | (simp; done) | (simp; omega)) _)))
    rcases hb with h | ⟨h0, h⟩ | ⟨h0, h1, h⟩ | ⟨h0, h1, h2, h⟩
    · go_enter Try.func14, Try.ntmps14
      go_wp2
      --MARK1
      refine bodyPost_ret (v := .tuple #[.agg #[.int .i64 0, .slice none 0 0, .slice none 0 0, .slice none 0 0, .slice none 0 0], .int .i64 1]) (by simp [results, Try.results14, go_sem]) rfl ⟨hB, .inr ⟨HK.out, rfl⟩⟩
    · have h0' : ¬ limit < 1 := by omega
      go_enter Try.func14, Try.ntmps14
      go_wp2
      refine bodyPost_ret (v := .tuple #[.agg #[.int .i64 0, .slice none 0 0, .slice none 0 0, .slice none 0 0, .slice none 0 0], .int .i64 1]) (by simp [results, Try.results14, go_sem]) rfl ⟨hB, .inr ⟨HK.out, rfl⟩⟩
    · have h0' : ¬ limit < 1 := by omega
      have h1' : ¬ 4096 < limit := by omega
      go_enter Try.func14, Try.ntmps14
      go_wp2
      refine bodyPost_ret (v := .tuple #[.agg #[.int .i64 0, .slice none 0 0, .slice none 0 0, .slice none 0 0, .slice none 0 0], .int .i64 1]) (by simp [results, Try.results14, go_sem]) rfl ⟨hB, .inr ⟨HK.out, rfl⟩⟩
    · have h0' : ¬ limit < 1 := by omega
      have h1' : ¬ 4096 < limit := by omega
      have h2' : ¬ procs < 1 := by omega
      go_enter Try.func14, Try.ntmps14
      go_wp2
      refine bodyPost_ret (v := .tuple #[.agg #[.int .i64 0, .slice none 0 0, .slice none 0 0, .slice none 0 0, .slice none 0 0], .int .i64 1]) (by simp [results, Try.results14, go_sem]) rfl ⟨hB, .inr ⟨HK.out, rfl⟩⟩
  | true =>
    have HK := Aside0.mk hk
    obtain ⟨h0, h1, h2, h3⟩ := okNew_iff.1 hk
    clear hk
    obtain ⟨n, rfl⟩ := Int.eq_ofNat_of_zero_le (show 0 ≤ procs by omega)
    have h0' : ¬ limit < 1 := by omega
    have h1' : ¬ 4096 < limit := by omega
    have h2' : ¬ (n : Int) < 1 := by omega
    have h3' : ¬ 64 < (n : Int) := by omega
    have hE : Aside0 (NrE w w.heap.size (w.heap.size + 1) limit 0 ((w.alloc (.cells #[.int .i64 0, .slice none 0 0, .slice none 0 0, .slice none 0 0, .slice none 0 0] 30)).alloc (.cells #[.int .i64 limit, .slice none 0 0, .slice none 0 0, .slice none 0 0, .slice none 0 0] 30))) :=
      ⟨⟨.slice none 0 0, (by repeat (first | (with_reducible exact Below.refl _ _) | (with_reducible refine Below.drew ?_) | (with_reducible refine below_drewN ?_ _) | (with_reducible refine below_al ?_ _) | (with_reducible refine Below.alloc ?_ (by first | exact Nat.le_refl _ | omega | (simp; done) | (simp; omega)) _) | (with_reducible refine Below.setCell ?_ (by first | (simp only []; omega) | (simp; done) | (simp; omega)) _))), blk_alloc (blk_new _ _), blk_new1 _ _ _, Row.nil _ _ _ _, by omega, by omega, by omega⟩⟩
    go_enter Try.func14, Try.ntmps14
    go_wp2_with fail
    --MARK2
    generalize ((w.alloc (.cells #[.int .i64 0, .slice none 0 0, .slice none 0 0, .slice none 0 0, .slice none 0 0] 30)).alloc (.cells #[.int .i64 limit, .slice none 0 0, .slice none 0 0, .slice none 0 0, .slice none 0 0] 30)) = W at *
    obtain ⟨S, hS⟩ : ∃ S, w.heap.size + 1 = S := ⟨_, rfl⟩
    rw [hS] at hE ⊢
    clear hS
    go_loopw [7] (fun i wr => ∃ k : Nat, k ≤ n ∧ i = .int .i64 k ∧ Aside0 (NrE w w.heap.size S limit k wr)) (fun i _ => n - (intOf i).toNat)
    case atStart => exact ⟨0, by omega, rfl, hE⟩
    case round =>
      clear hE
      obtain ⟨k, hkn, rfl, HE⟩ := hrel
      obtain ⟨v, hN⟩ := HE.out
      obtain ⟨A, cA, hv, hcA⟩ := hN.row.slice
      rw [List.length_replicate] at hv
      subst hv
      obtain ⟨s0, s1, s2, s3, s4⟩ := cells5 hN.s
      obtain ⟨f0, f1, f2, f3, f4⟩ := froz5 hN.s
      obtain ⟨p0, p1, p2, p3, p4⟩ := cells5 hN.r
      obtain ⟨t0, t1, t2, t3, t4⟩ := froz5 hN.r
      have hSl := lt_blk hN.s
      have hRl := lt_blk hN.r
      by_cases hlt : k < n
      · have hA1 : Below wr.heap.size wr (wr.alloc (.cells #[.slice none 0 0] 26)) := below_al (Below.refl _ _) _
        have hbase := (below_then hN.below hA1).size
        obtain ⟨v5, w5, hr5, hrow5, hg5⟩ := row_append (P := Try.prog) (t := 28) Try.underlying28 infoSl rfl (by omega) (hN.row.below hA1) (some ⟨wr.heap.size, 0, none⟩) 1 1 [.slice none 0 0] rfl (fun _ => ⟨_, rfl, fun j u hj => by match j, hj with | 0, hj => (obtain rfl : Value.slice none 0 0 = u := by simpa using hj); rw [adds]; exact cell_blk (blk_new _ _) 0⟩) (fun u hu => by rw [List.mem_singleton.1 hu]; rfl) (by rw [List.length_replicate]; omega) hbase
        have HN := Aside0.mk (hN.step hg5 hrow5)
        obtain ⟨A5, c5, he5, -⟩ := hrow5.slice
        rw [List.length_append, List.length_singleton, List.length_replicate] at he5
        have hk5 := grown_keep (ok := fun k => (Value.slice A k cA).ownBlock = some k ∨ True) hg5 (fun _ h => .inr trivial)
        have hnS : ¬ (Value.slice A k cA).ownBlock = some S := fun e => row_type_blk hN.row e hN.s (by decide)
        have hS5 := blk_keep (blk_below hN.s hA1) (grown_keep (ok := fun i => (Value.slice A k cA).ownBlock = some i) hg5 (fun _ h => h)) hnS
        have q3 := cell_blk hS5 3
        have g3 := frozen_blk hS5 3
        have hS5l := lt_blk hS5
        simp at q3
        subst he5
        clear hrow5 hg5 hN HE hA1 hbase hnS hS5 hk5
        go_wp2_with (first | ((with_reducible refine gate_builtin (b := .append) (xs := #[.tmp 31, .tmp 32]) rfl ?_); at_builtin; refine appL_ rfl (.tmp 31) (.tmp 32) 28 rfl rfl rfl hr5 ?_))
        --MARK3
        go_roundw
        case rel => exact ⟨k + 1, by omega, by go_num, ⟨⟨_, HN.out⟩⟩⟩
        case measure => simp [intOf]; omega
      · obtain rfl : k = n := by omega
        have HN := Aside0.mk hN
        clear hN HE
        go_wp2
        --MARK4
        have hKR : Keep (fun i => i = w.heap.size) wr (((((wr.setCell ⟨w.heap.size, 0, none⟩ (.int .i64 limit)).setCell ⟨w.heap.size, 1, none⟩ (.slice none 0 0)).setCell ⟨w.heap.size, 2, none⟩ (.slice none 0 0)).setCell ⟨w.heap.size, 3, none⟩ (.slice A k cA)).setCell ⟨w.heap.size, 4, none⟩ (.slice none 0 0)) := set5_keep _ _ _ _ _ _ _
        have hP : NewR limit k w (.returned (.tuple #[.agg #[.int .i64 limit, .slice none 0 0, .slice none 0 0, .slice A k cA, .slice none 0 0], .int .i64 0])) (((((wr.setCell ⟨w.heap.size, 0, none⟩ (.int .i64 limit)).setCell ⟨w.heap.size, 1, none⟩ (.slice none 0 0)).setCell ⟨w.heap.size, 2, none⟩ (.slice none 0 0)).setCell ⟨w.heap.size, 3, none⟩ (.slice A k cA)).setCell ⟨w.heap.size, 4, none⟩ (.slice none 0 0)) :=
          ⟨below_then_keep HN.out.below HN.out.below.size hKR (fun i e => by subst e; exact hlw), .inl ⟨HK.out, A, cA, rfl, row_keepT HN.out.row HN.out.r (by decide) hKR⟩⟩
        obtain ⟨r0, r1, r2, r3, r4⟩ := cells5 (blk_set5 (u0 := .int .i64 limit) (u1 := .slice none 0 0) (u2 := .slice none 0 0) (u3 := .slice A k cA) (u4 := .slice none 0 0) HN.out.r)
        clear hKR
        generalize (((((wr.setCell ⟨w.heap.size, 0, none⟩ (.int .i64 limit)).setCell ⟨w.heap.size, 1, none⟩ (.slice none 0 0)).setCell ⟨w.heap.size, 2, none⟩ (.slice none 0 0)).setCell ⟨w.heap.size, 3, none⟩ (.slice A k cA)).setCell ⟨w.heap.size, 4, none⟩ (.slice none 0 0)) = w9 at *
        refine bodyPost_ret (v := .tuple #[.agg #[.int .i64 limit, .slice none 0 0, .slice none 0 0, .slice A k cA, .slice none 0 0], .int .i64 0]) ?_ rfl hP
        simp [results, Try.results14, go_sem, r0, r1, r2, r3, r4]
end Go.Proofs.Ytnglgjegkjfnaaa
set_option linter.unusedSimpArgs false
set_option linter.unusedVariables false
namespace Go.Proofs.Ytnglgjegkjfnaaa
open Go.RowKit Go.ChangeShapes Go.WideShapes Go.ChangeAt Go.Proofs.YtnglgjegkjfnaaaW.PrintWords Go.Proofs.YtnglgjegkjfnaaaW.PrintMore
/-! The document's free: may a slot stand in a free list? -/
def freeB (s : Sl) (x : Int) : Bool := decide (0 ≤ x) && (decide (x < s.gens.length) && (!aliveAt s x.toNat && decide (genAt s x.toNat < 2147483647)))
theorem freeB_iff {s : Sl} {x : Int} : freeB s x = true ↔ FreeAt s x := by
  simp [freeB, FreeAt]
end Go.Proofs.Ytnglgjegkjfnaaa
set_option linter.unusedSimpArgs false
set_option linter.unusedVariables false
namespace Go.Proofs.Ytnglgjegkjfnaaa
open Go.RowKit Go.ChangeShapes Go.WideShapes Go.ChangeAt Go.Proofs.YtnglgjegkjfnaaaW.PrintWords Go.Proofs.YtnglgjegkjfnaaaW.PrintMore Go.Proofs.YtnglgjegkjfnaaaW.PrintLast
/-! The document's Load: what it takes is just what is Wf. -/
def LoadP (s : Sl) (w : World) (e : Ending) (w' : World) : Prop := Below w.heap.size w w' ∧
  ((okNew s.limit s.caches.length = false ∧ e = .returned (.int .i64 1)) ∨ (okNew s.limit s.caches.length = true ∧ Wf s ∧ e = .returned (.int .i64 0)) ∨ (okNew s.limit s.caches.length = true ∧ ¬ Wf s ∧ e = .returned (.int .i64 40)))
def listsS (s : Sl) : List (List Int) := s.caches ++ [s.free]
def preS (s : Sl) (p : Nat) : List Int := ((listsS s).take p).flatten
theorem preS_all (s : Sl) : preS s (s.caches.length + 1) = allS s := by
  unfold preS listsS allS
  rw [List.take_of_length_le (by simp)]
  simp [List.flatten_append]
theorem preS_step {s : Sl} {p : Nat} {l : List Int} (h : (listsS s)[p]? = some l) : preS s (p + 1) = preS s p ++ l := by
  unfold preS
  have hp : p < (listsS s).length := (List.getElem?_eq_some_iff.1 h).1
  have he : (listsS s)[p] = l := (List.getElem?_eq_some_iff.1 h).2
  rw [List.take_succ_eq_append_getElem hp, he, List.flatten_append]
  simp
theorem all_at {s : Sl} {p k : Nat} {l : List Int} {x : Int} (h : (listsS s)[p]? = some l) (hk : l[k]? = some x) : ∃ rest, allS s = (preS s p ++ l.take k) ++ x :: rest := by
  have hp : p < (listsS s).length := (List.getElem?_eq_some_iff.1 h).1
  have he : (listsS s)[p] = l := (List.getElem?_eq_some_iff.1 h).2
  have hkl : k < l.length := (List.getElem?_eq_some_iff.1 hk).1
  have hke : l[k] = x := (List.getElem?_eq_some_iff.1 hk).2
  refine ⟨l.drop (k + 1) ++ ((listsS s).drop (p + 1)).flatten, ?_⟩
  have h1 : allS s = (listsS s).flatten := by simp [allS, listsS, List.flatten_append]
  rw [h1]
  conv => lhs; rw [← List.take_append_drop p (listsS s), List.drop_eq_getElem_cons hp, he]
  rw [List.flatten_append, List.flatten_cons]
  conv => lhs; rw [← List.take_append_drop k l, List.drop_eq_getElem_cons hkl, hke]
  simp [preS, List.append_assoc]
structure LdI (s : Sl) (L st : List Int) : Prop where
  len : st.length = s.gens.length
  cnt : ∀ x : Nat, x < s.gens.length → st.getD x 0 = (L.count (x : Int) : Int)
  fr : ∀ y ∈ L, FreeAt s y
  nd : L.Nodup
theorem LdI.start (s : Sl) : LdI s [] (List.replicate s.gens.length 0) :=
  ⟨by simp, fun x hx => by simp [List.getD_eq_getElem?_getD, hx], fun y hy => (by cases hy), List.nodup_nil⟩
theorem LdI.step {s : Sl} {L st : List Int} {m : Nat} (h : LdI s L st) (hf : FreeAt s m) (h0 : st.getD m 0 ≤ 0) : LdI s (L ++ [(m : Int)]) (st.set m (st.getD m 0 + 1)) := by
  have hm : m < s.gens.length := by have := hf.2.1; omega
  have hc := h.cnt m hm
  have hn : (m : Int) ∉ L := fun hmem => by
    have := List.count_pos_iff.2 hmem
    omega
  refine ⟨by rw [List.length_set]; exact h.len, fun x hx => ?_, fun y hy => ?_, List.nodup_append.2 ⟨h.nd, by simp, fun a ha b hb => by rw [List.mem_singleton.1 hb]; rintro rfl; exact hn ha⟩⟩
  · by_cases e : m = x
    · subst e
      rw [getD_set_self (by rw [h.len]; exact hm), List.count_append, hc]
      simp
    · rw [getD_set_ne e, h.cnt x hx, List.count_append]
      have : ¬ (m : Int) = (x : Int) := by omega
      simp [this]
  · rcases List.mem_append.1 hy with hy | hy
    · exact h.fr y hy
    · rw [List.mem_singleton.1 hy]; exact hf
theorem wf_of {s : Sl} {st : List Int} (hk : okNew s.limit s.caches.length = true) (hg : (s.gens.length : Int) ≤ s.limit) (ha : s.alive.length = s.gens.length) (hgen : ∀ j, j < s.gens.length → 1 ≤ genAt s j ∧ genAt s j ≤ 2147483647) (hc : ∀ (i : Nat) (l : List Int), s.caches[i]? = some l → l.length < 64) (h : LdI s (allS s) st) (hl : ∀ i, i < s.gens.length → freeB s i = true → st.getD i 0 ≠ 0) : Wf s := by
  obtain ⟨h0, h1, h2, h3⟩ := okNew_iff.1 hk
  refine ⟨h0, h1, by omega, by omega, hg, ha, fun c hcm => ?_, fun i hi _ => (hgen i hi).1, fun i hi => ⟨by have := (hgen i hi).1; omega, (hgen i hi).2⟩, h.nd, fun x hx => ⟨h.fr x hx, fun f => f⟩, fun i hi hd hm => .inl ?_⟩
  · obtain ⟨i, hi, rfl⟩ := List.getElem_of_mem hcm
    exact hc i _ (List.getElem?_eq_getElem hi)
  · have hne := hl i hi (freeB_iff.2 ⟨by omega, by omega, hd, hm⟩)
    rw [h.cnt i hi] at hne
    exact List.count_pos_iff.1 (by omega)
theorem wf_last {s : Sl} {st : List Int} {i : Nat} (hW : Wf s) (h : LdI s (allS s) st) (hi : i < s.gens.length) (hf : freeB s i = true) : st.getD i 0 ≠ 0 := by
  obtain ⟨-, -, h1, h2⟩ := freeB_iff.1 hf
  rw [Int.toNat_natCast] at h1 h2
  rcases hW.al i hi h1 h2 with h3 | h3
  · rw [h.cnt i hi]
    have := List.count_pos_iff.2 h3
    omega
  · exact h3.elim
theorem dup {s : Sl} {L rest st : List Int} {m : Nat} {y : Int} (hW : Wf s) (hr : allS s = L ++ (m : Int) :: rest) (h : LdI s L st) (hy : st[m]? = some y) (h0 : 0 < y) : False := by
  have hm : m < s.gens.length := by rw [← h.len]; exact (List.getElem?_eq_some_iff.1 hy).1
  have hc := h.cnt m hm
  rw [List.getD_eq_getElem?_getD, hy] at hc
  have hc' : y = (L.count (m : Int) : Int) := hc
  have hmem : (m : Int) ∈ L := List.count_pos_iff.1 (by omega)
  have hn := hW.nd
  rw [hr] at hn
  exact (List.nodup_append.1 hn).2.2 _ hmem _ (by simp) rfl
/-- The state in block B; the counts in block G. -/
structure LdW (w wr : World) (B : Nat) (s : Sl) (base : Nat) (col : Nat → Nat) (vG vA vC vF : Value) (vs : List Value) : Prop where
  below : Below w.heap.size w wr
  r : SlV wr base col s vG vA vC vF vs
  b : wr.heap[B]? = some (.cells #[.int .i64 s.limit, vG, vA, vC, vF] 30 (0, 0))
structure LdS (w wr : World) (B G : Nat) (s : Sl) (base : Nat) (col : Nat → Nat) (vG vA vC vF : Value) (vs : List Value) (L st : List Int) : Prop where
  m : LdW w wr B s base col vG vA vC vF vs
  row : Row wr w.heap.size (fun _ => True) 3 (.slice (some ⟨G, 0, none⟩) s.gens.length s.gens.length) (ints st)
  i : LdI s L st
  g0 : col G = 0
  gw : w.heap.size ≤ G
  ne : B ≠ G
end Go.Proofs.Ytnglgjegkjfnaaa
set_option linter.unusedSimpArgs false
set_option linter.unusedVariables false
namespace Go.Proofs.Ytnglgjegkjfnaaa
open Go.RowKit Go.ChangeShapes Go.WideShapes Go.ChangeAt Go.Proofs.YtnglgjegkjfnaaaW.PrintWords Go.Proofs.YtnglgjegkjfnaaaW.PrintMore
/-! A state that is only read, whosever memory it is. -/
structure Rdf (w : World) (v : Value) (vals : List Value) : Prop where
  ex : ∃ A c, v = .slice A vals.length c ∧ vals.length ≤ c
  mx : vals.length ≤ 9223372036854775807
  at_ : 0 < vals.length → ∃ g o c, v = .slice (some ⟨g, o, none⟩) vals.length c ∧ g < w.heap.size ∧ ∀ j u, vals[j]? = some u → w.cell? ⟨g, o + j, none⟩ = some u
  one : ∀ u ∈ vals, u.oneCell' = true
section
variable {w w' : World} {base : Nat} {ok : Nat → Prop} {e : TypeId} {v vG vA vC vF : Value} {vals vs : List Value} {s : Sl} {col : Nat → Nat}
theorem Rdf.slice (h : Rdf w v vals) : ∃ A c, v = .slice A vals.length c ∧ vals.length ≤ c := h.ex
theorem Rdf.form (h : Rdf w v vals) (hn : 0 < vals.length) : ∃ g o c, v = .slice (some ⟨g, o, none⟩) vals.length c ∧ g < w.heap.size ∧ True ∧ ∀ i, (∀ u, vals[i]? = some u → w.cell? ⟨g, o + i, none⟩ = some u) ∧ True := by
  obtain ⟨g, o, c, he, hg, hat⟩ := h.at_ hn
  exact ⟨g, o, c, he, hg, trivial, fun i => ⟨fun u hu => hat i u hu, trivial⟩⟩
theorem Rdf.below (h : Rdf w v vals) (hB : Below w.heap.size w w') : Rdf w' v vals :=
  ⟨h.ex, h.mx, fun h0 => by
    obtain ⟨g, o, c, he, hg, hat⟩ := h.at_ h0
    exact ⟨g, o, c, he, Nat.lt_of_lt_of_le hg hB.size, fun j u hj => pw_cell_below hB (hat j u hj)⟩, h.one⟩
theorem Rdf.reads (h : Rdf w v vals) : Rdv w v vals := by
  obtain ⟨A, c, rfl, hc⟩ := h.ex
  refine ⟨A, vals.length, c, rfl, rfl, hc, h.mx, fun h0 => ?_, h.one⟩
  obtain ⟨g, o, c', he, hg, hat⟩ := h.at_ h0
  injection he with e1 _ _
  subst e1
  exact ⟨_, rfl, fun j u hj => by rw [adds]; exact hat j u hj⟩
theorem Row.rdf (h : Row w base ok e v vals) : Rdf w v vals :=
  ⟨h.slice, q_max h.row, fun h0 => by
    obtain ⟨g, o, c, he, hg, _, hat⟩ := h.form h0
    exact ⟨g, o, c, he, hg, fun j u hj => (hat j).1 u hj⟩, h.one⟩
/-- A state, read. -/
structure SlR (w : World) (s : Sl) (vG vA vC vF : Value) (vs : List Value) : Prop where
  g : Rdf w vG (ints s.gens)
  a : Rdf w vA (bools s.alive)
  c : Rdf w vC vs
  f : Rdf w vF (ints s.free)
  l : vs.length = s.caches.length
  v : ∀ (i : Nat) (x : List Int), s.caches[i]? = some x → ∃ v, vs[i]? = some v ∧ Rdf w v (ints x)
theorem SlR.below (h : SlR w s vG vA vC vF vs) (hB : Below w.heap.size w w') : SlR w' s vG vA vC vF vs :=
  ⟨h.g.below hB, h.a.below hB, h.c.below hB, h.f.below hB, h.l, fun i x hx => by
    obtain ⟨v, hv, hr⟩ := h.v i x hx
    exact ⟨v, hv, hr.below hB⟩⟩
theorem SlV.rd (h : SlV w base col s vG vA vC vF vs) : SlR w s vG vA vC vF vs :=
  ⟨h.g.rdf, h.a.rdf, h.c.rdf, h.f.rdf, h.l, fun i x hx => by
    obtain ⟨v, hv, hr⟩ := h.v i x hx
    exact ⟨v, hv, hr.rdf⟩⟩
/-- The lists, one behind the other. -/
theorem SlR.list (h : SlR w s vG vA vC vF vs) {p : Nat} {l : List Int} (hl : (listsS s)[p]? = some l) : ∃ v, (vs ++ [vF])[p]? = some v ∧ Rdf w v (ints l) := by
  unfold listsS at hl
  by_cases hp : p < s.caches.length
  · rw [List.getElem?_append_left hp] at hl
    obtain ⟨v, hv, hr⟩ := h.v p l hl
    exact ⟨v, by rw [List.getElem?_append_left (by rw [h.l]; exact hp)]; exact hv, hr⟩
  · rw [List.getElem?_append_right (by omega)] at hl
    have hp0 : p - s.caches.length = 0 := by
      have := (List.getElem?_eq_some_iff.1 hl).1
      simp at this
      omega
    rw [hp0] at hl
    obtain rfl : s.free = l := by simpa using hl
    exact ⟨vF, by rw [List.getElem?_append_right (by rw [h.l]; omega), h.l, hp0]; rfl, h.f⟩
end
end Go.Proofs.Ytnglgjegkjfnaaa
