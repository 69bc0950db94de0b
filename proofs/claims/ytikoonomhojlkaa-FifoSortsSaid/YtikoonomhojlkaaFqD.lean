import Derived.Test.YtikoonomhojlkaaFqB
import Derived.Test.YtikoonomhojlkaaFqC
set_option linter.unusedSimpArgs false
set_option linter.unusedVariables false
namespace Go.Proofs.Ytikoonomhojlkaa
open Go.RowKit Go.Lib Go.Proofs.YtikoonomhojlkaaW.PrintWords Go.Proofs.YtikoonomhojlkaaW.PrintMore Go.Proofs.YtikoonomhojlkaaW.PrintLast
/-! slices.Insert; slices.Clone. -/
theorem flat_ins (xs : List Wt) (i : Nat) (x : Wt) : (xs.take i ++ x :: xs.drop i).flatMap eW = (xs.flatMap eW).take (i * 3) ++ eW x ++ (xs.flatMap eW).drop (i * 3) := by
  rw [List.flatMap_append, List.flatMap_cons, flatMap_take (enc := eW) (sz := 3) (fun _ => rfl), flatMap_drop (enc := eW) (sz := 3) (fun _ => rfl), List.append_assoc]
theorem ins_len (xs : List Wt) (i : Nat) (x : Wt) (hi : i ≤ xs.length) : (xs.take i ++ x :: xs.drop i).length = xs.length + 1 := by
  rw [List.length_append, List.length_take, List.length_cons, List.length_drop]; omega
def InsP (w0 : World) (base : Nat) (ok : Nat → Prop) (v : Value) (xs : List Wt) (i : Nat) (x : Wt) (e : Ending) (w' : World) : Prop := ∃ v', e = .returned v' ∧ Kd.R kW TW w' base (fun k => ok k ∨ w0.heap.size ≤ k) v' (xs.take i ++ x :: xs.drop i) ∧ Keep (fun k => v.ownBlock = some k) w0 w'
set_option maxHeartbeats 4000000 in
set_option maxRecDepth 100000 in
theorem ins_wt (w0 : World) (base : Nat) (ok : Nat → Prop) (v : Value) (xs : List Wt) (i : Nat) (x : Wt) (h : Kd.R kW TW w0 base ok v xs) (hi : i ≤ xs.length) (hbw : base ≤ w0.heap.size) (hbig : (xs.length + 1) * 24 ≤ 140737488355328) :
    Calls Try.prog 26 #[v, .int .i64 i, .slice (some ⟨w0.heap.size, 0, none⟩) 1 1] (w0.alloc (.cells #[.int .i64 x.f0.f0, .int .i64 x.f0.f1, .int .u64 x.f1] TW)) (InsP w0 base ok v xs i x) := by
  have hblk : (w0.alloc (.cells (eW x).toArray TW)).heap[w0.heap.size]? = some (.cells (eW x).toArray TW (0, 0)) := blk_new _ _
  have hA : Below w0.heap.size w0 (w0.alloc (.cells (eW x).toArray TW)) := below_al (Below.refl _ _) _
  have hK : Keep (fun k => v.ownBlock = some k) w0 (w0.alloc (.cells (eW x).toArray TW)) := Keep.of_below hA
  by_cases hlt : i < xs.length
  · have h2 := Kd.R_below h hA
    obtain ⟨hok, ho⟩ := (flat_R flatW).1 h2
    have hsz : kW.sz = 3 := rfl
    rw [hsz] at ho
    obtain ⟨g, cap, rfl, hbg, hgl, hnc, hcm, hil, hat, hsp, hfz⟩ := own_at ho (by omega)
    have hgw : g < w0.heap.size := by
      obtain ⟨cs', hc'⟩ := R_typed' h g (by simp [Value.ownBlock])
      exact lt_blk hc'
    by_cases hroom : xs.length + 1 ≤ cap
    · refine (ins_shift _ base g cap xs.length i w0.heap.size (xs.flatMap eW) (eW x) ho hlt hroom (by omega) hblk rfl (inner_one xs) (eW_one x)).mono ?_
      rintro e w' ⟨rfl, rfl⟩
      refine ⟨_, rfl, ?_, hK.trans ((ins_keep _ g 3 i _ _).mono (fun k _ e => by subst e; simp [Value.ownBlock]))⟩
      refine (flat_R flatW).2 ⟨fun k hk => .inl (hok k (by simpa [Value.ownBlock] using hk)), ?_⟩
      rw [hsz, flat_ins, ins_len xs i x hi]
      exact ins_own ho hi hroom rfl
    · refine (ins_grow _ base g cap xs.length i w0.heap.size (xs.flatMap eW) (eW x) ho hlt (by omega) hbig hblk rfl (inner_one xs) (eW_one x)).mono ?_
      rintro e w' ⟨G, ROW, rfl, rfl, hG, hGm, hRs, hRk⟩
      refine ⟨_, rfl, ?_, hK.trans (Keep.of_below (gro_keep _ 3 i _ _ ROW TW))⟩
      refine (flat_R flatW).2 ⟨fun k hk => .inr ?_, ?_⟩
      · have e1 : (w0.alloc (.cells (eW x).toArray TW)).heap.size = k := by simpa [Value.ownBlock] using hk
        have := hA.size
        omega
      · rw [hsz, flat_ins, ins_len xs i x hi]
        exact gro_own (Nat.le_trans hbw hA.size) hil hi rfl hG hGm hRs hRk
  · obtain rfl : i = xs.length := by omega
    have HX := Aside0.mk (show xs.take xs.length ++ x :: xs.drop xs.length = xs ++ [x] by simp)
    have H := Aside0.mk h
    obtain ⟨hok, ho⟩ := (flat_R flatW).1 h
    rcases ho.2 with ⟨rfl, h0⟩ | ⟨g, cap, cur, rfl, hg, hh, hc, hm, hs, ht⟩
    · obtain rfl : xs = [] := List.length_eq_zero_iff.1 h0
      clear h ho hok hblk hA hK h0 hlt
      unfold InsP
      go_enter Try.func26, Try.ntmps26
      go_wp2_with ((with_reducible refine gate_builtin (b := .append) (xs := #[.tmp 23, .tmp 24]) rfl ?_); at_builtin; refine Kd.R_append kW (w0 := w0) base rfl (.tmp 23) (.tmp 24) 22 TW (.agg #[.int .i64 0, .int .i64 0, .int .u64 0]) 24 rfl Try.underlying22 infoW rfl (by decide) (by omega) (.slice none 0 0) ([] : List Wt) x [.int .i64 x.f0.f0, .int .i64 x.f0.f1, .int .u64 x.f1] (fun k => ok k ∨ w0.heap.size ≤ k) (fun _ => False) rfl ?aX ?aM (fun _ h => h.elim) ?aF ?aO ?aB ?aS ?aL ?_; (case aX => first | rfl | exact congrArg (fun n => Value.slice (some ⟨n, 0, none⟩) 1 1) (by simp)); (case aM => exact kW_mkM _ _ _ _); (case aF => exact fun _ h => .inr h); (case aO => exact (Kd.R_mono H.out (fun _ h => .inl h))); (case aB => exact Below.refl _ _); (case aS => first | omega | (simp; omega)); (case aL => first | omega | simp); intro v1 w1 ho hb hg hat; skip)
      go_ret
      exact ⟨v1, rfl, by first | exact ho | (rw [HX.out]; exact ho), ⟨hg.os, hg.tape, hg.output, hg.size, fun k hk hn => hg.block k hk (fun e => hn e.symm)⟩⟩
    · have hcm : cap ≤ 9223372036854775807 := by unfold maxLen at hm; omega
      clear h ho hok hblk hA hK hlt hg hh hm hs ht
      unfold InsP
      go_enter Try.func26, Try.ntmps26
      go_wp2_with ((with_reducible refine gate_builtin (b := .append) (xs := #[.tmp 23, .tmp 24]) rfl ?_); at_builtin; refine Kd.R_append kW (w0 := w0) base rfl (.tmp 23) (.tmp 24) 22 TW (.agg #[.int .i64 0, .int .i64 0, .int .u64 0]) 24 rfl Try.underlying22 infoW rfl (by decide) (by omega) (.slice (some ⟨g, 0, none⟩) xs.length cap) xs x [.int .i64 x.f0.f0, .int .i64 x.f0.f1, .int .u64 x.f1] (fun k => ok k ∨ w0.heap.size ≤ k) (fun _ => False) rfl ?aX ?aM (fun _ h => h.elim) ?aF ?aO ?aB ?aS ?aL ?_; (case aX => first | rfl | exact congrArg (fun n => Value.slice (some ⟨n, 0, none⟩) 1 1) (by simp)); (case aM => exact kW_mkM _ _ _ _); (case aF => exact fun _ h => .inr h); (case aO => exact (Kd.R_mono H.out (fun _ h => .inl h))); (case aB => exact Below.refl _ _); (case aS => first | omega | (simp; omega)); (case aL => first | omega | simp); intro v1 w1 ho hb hg hat; skip)
      all_goals
        go_ret
        exact ⟨v1, rfl, by first | exact ho | (rw [HX.out]; exact ho), ⟨hg.os, hg.tape, hg.output, hg.size, fun k hk hn => hg.block k hk (fun e => hn e.symm)⟩⟩

end Go.Proofs.Ytikoonomhojlkaa
