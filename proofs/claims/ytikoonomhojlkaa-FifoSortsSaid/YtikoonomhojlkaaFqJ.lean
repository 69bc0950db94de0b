import Derived.Test.YtikoonomhojlkaaFqI
set_option linter.unusedSimpArgs false
set_option linter.unusedVariables false
namespace Go.Proofs.Ytikoonomhojlkaa
open Go.RowKit Go.Proofs.YtikoonomhojlkaaW.PrintWords Go.Proofs.YtikoonomhojlkaaW.PrintMore Go.Proofs.YtikoonomhojlkaaW.PrintLast
/-! New, Has, Len, All. -/
theorem new_any (w : World) : Calls Try.prog 9 #[] w fun e w' => e = .returned (.pointer (some ⟨w.heap.size, 0, none⟩)) ∧ QB w' w.heap.size (fun k => k = w.heap.size) w.heap.size [] (.slice none 0 0) ∧ Below w.heap.size w w' := by
  have hB : Below w.heap.size w (w.alloc (.cells #[.slice none 0 0] TQ)) := below_al (Below.refl _ _) _
  have HQ : Aside0 (QB (w.alloc (.cells #[.slice none 0 0] TQ)) w.heap.size (fun k => k = w.heap.size) w.heap.size [] (.slice none 0 0)) := ⟨⟨fun k hk => by subst hk; simp, rfl, blk_new _ _, Kd.R_nil _ _ _ _ _⟩⟩
  have HB := Aside0.mk hB
  clear hB
  go_enter Try.func9, Try.ntmps9
  go_wp2
  go_ret
  exact ⟨rfl, HQ.out, HB.out⟩
theorem has_any {w : World} {base b : Nat} {ok : Nat → Prop} {l : List Wt} {v : Value} (g0 g1 : Int) (h : QB w base ok b l v) (hl : l.length ≤ 4096) : Calls Try.prog 13 #[.pointer (some ⟨b, 0, none⟩), .agg #[.int .i64 g0, .int .i64 g1]] w fun e w' => e = .returned (.bool (l.any (isB g0 g1))) ∧ Below w.heap.size w w' := by
  have hB : Below w.heap.size w (w.alloc (.cells #[.int .i64 g0, .int .i64 g1] 29)) := below_al (Below.refl _ _) _
  have HF := Aside0.mk (find_b g0 g1 (h.below hB) hl)
  have HB := Aside0.mk hB
  clear hB h
  go_enter Try.func13, Try.ntmps13
  go_wp2_with fail
  refine HF.out.mono ?_
  clear HF
  rintro e w1 ⟨hB1, rf, rfl, ⟨h0, hA⟩ | ⟨rfl, hA⟩⟩
  · have HB1 := Aside0.mk (HB.out.trans (hB1.mono HB.out.size))
    have HA := Aside0.mk hA
    clear hB1 hA
    go_wp2
    go_ret
    exact ⟨by rw [HA.out]; rfl, HB1.out⟩
  · have HB1 := Aside0.mk (HB.out.trans (hB1.mono HB.out.size))
    have HA := Aside0.mk hA
    clear hB1 hA
    go_wp2
    go_ret
    exact ⟨by rw [HA.out]; rfl, HB1.out⟩
theorem len_any {w : World} {base b : Nat} {ok : Nat → Prop} {l : List Wt} {v : Value} (h : QB w base ok b l v) : Calls Try.prog 23 #[.pointer (some ⟨b, 0, none⟩)] w fun e w' => e = .returned (.int .i64 l.length) ∧ w = w' := by
  obtain ⟨A, c, rfl, -, -⟩ := h.reads
  have hb := cell_blk h.blk 0
  simp only [List.getElem?_toArray, List.getElem?_cons_zero] at hb
  clear h
  go_enter Try.func23, Try.ntmps23
  go_wp2
  go_ret
  exact ⟨rfl, rfl⟩
end Go.Proofs.Ytikoonomhojlkaa
