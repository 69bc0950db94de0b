import Derived.Test.YtikoonomhojlkaaFqA
set_option linter.unusedSimpArgs false
set_option linter.unusedVariables false
namespace Go.Proofs.Ytikoonomhojlkaa
open Go.RowKit Go.Lib Go.Proofs.YtikoonomhojlkaaW.PrintWords Go.Proofs.YtikoonomhojlkaaW.PrintMore Go.Proofs.YtikoonomhojlkaaW.PrintLast
/-! slices.Insert: there is room. -/
set_option maxHeartbeats 4000000 in
set_option maxRecDepth 100000 in
theorem ins_shift (w : World) (base g cap n i vb : Nat) (inner vs : List Value) (ho : w.ownsRow base TW 3 (.slice (some ⟨g, 0, none⟩) n cap) n inner) (hi : i < n) (hroom : n + 1 ≤ cap) (hvb : vb ≠ g) (hb : w.heap[vb]? = some (.cells vs.toArray TW (0, 0))) (hvl : vs.length = 3) (h1c : ∀ u ∈ inner, u.oneCell' = true) (h1v : ∀ u ∈ vs, u.oneCell' = true) :
    Calls Try.prog 26 #[.slice (some ⟨g, 0, none⟩) n cap, .int .i64 i, .slice (some ⟨vb, 0, none⟩) 1 1] w fun e w' => e = .returned (.slice (some ⟨g, 0, none⟩) (n + 1) cap) ∧ w' = insW w g 3 i inner vs := by
  have hblk : ∃ cs, w.heap[g]? = some (.cells cs TW (0, 0)) ∧ cs.size = cap * 3 := by
    rcases ho.2 with ⟨he, _⟩ | ⟨g', cap', cur, he, _, hh, _, _, hs, _⟩
    · cases he
    · injection he with e1 _ e3
      injection e1 with e1
      injection e1 with e1
      subst e1; subst e3
      exact ⟨_, hh, hs⟩
  obtain ⟨cs, hgb, hcs⟩ := hblk
  obtain ⟨g', cap', he, hbg, hgl, hnc, hcm, hil, hat, hsp, hfz⟩ := own_at ho (by omega)
  obtain ⟨rfl, rfl⟩ : g = g' ∧ cap = cap' := by simpa using he
  clear he
  have hsz : (Try.prog.info? TW).map (·.size) = some 3 := by kernel_rfl
  have hT := Try.underlying22
  have hvs : ∀ j v, vs[j]? = some v → w.cell? ⟨vb, j, none⟩ = some v := fun j v hj => by rw [cell_blk hb]; simpa using hj
  have hsa : w.shape? vb = some (TW, 3) := by unfold World.shape?; rw [hb]; simp [hvl]
  have hsb : w.shape? g = some (TW, cap * 3) := by unfold World.shape?; rw [hgb]; simp [hcs]
  have hov : ∀ lb cb, (callFunc 38 #[.slice (some ⟨vb, 0, none⟩) 1 1, .slice (some ⟨g, (i + 1) * 3, none⟩) lb cb]).run Try.prog w = .ok (.value (.bool false)) w := fun lb cb => by
    rw [run_callFunc_extern Try.func38 (by kernel_rfl) (by kernel_rfl) (by kernel_rfl) (e := Extern.SlicesOverlaps.overlaps #[TWs, TWs] #[4]) (by kernel_rfl),
      Lib.run_overlaps_apart w TWs 4 TW hT 3 (fun w => by kernel_rfl) ⟨vb, 0, none⟩ ⟨g, (i + 1) * 3, none⟩ 1 1 lb cb hvb TW TW 3 (cap * 3) hsa hsb (by omega) (frozen_blk hb 0) (frozen_blk hb 3)]
    rfl
  have hdl : (inner.drop (i * 3)).length = (n - i) * 3 := by rw [List.length_drop, hil, ← Nat.sub_mul]
  have hw1 : IntKind.i64.wrap ((i : Int) + 1) = (i : Int) + 1 := by rw [IntKind.wrap_i64]; omega
  have hw2 : IntKind.i64.wrap ((n : Int) + 1) = (n : Int) + 1 := by rw [IntKind.wrap_i64]; omega
  have hb1 : (0 : Int) ≤ (i : Int) + 1 := by omega
  have htn : ((i : Int) + 1).toNat = i + 1 := by omega
  have htm : ((n : Int) + 1).toNat = n + 1 := by omega
  have hz2 : ¬ ((i : Int) = (n : Int)) := by omega
  have hin : i ≤ n := by omega
  have hb2 : ¬ (cap = i + 1) := by omega
  have hb3 : (i : Int) ≤ (n : Int) + 1 := by omega
  have hb4 : ¬ (cap = i) := by omega
  have hb5 : ¬ ((cap : Int) < (n : Int) + 1) := by omega
  have hb6 : (i : Int) ≤ (cap : Int) := by omega
  have hb7 : (n : Int) + 1 ≤ (cap : Int) := by omega
  have hcp1 : ∀ ty dc sc, (Builtin.copy_ #[TWs, TWs] ty #[.slice (some ⟨g, (i + 1) * 3, none⟩) (n - i) dc, .slice (some ⟨g, i * 3, none⟩) (n + 1 - i) sc]).run Try.prog w.drew = .ok (goInt (n - i : Nat)) (w.drew.setCells g ((i + 1) * 3) (inner.drop (i * 3))) := fun ty dc sc =>
    run_copy_sz w.drew _ _ ty TW 3 (n - i) g ((i + 1) * 3) (n - i) dc ⟨g, i * 3, none⟩ (n + 1 - i) sc (inner.drop (i * 3)) hT hsz (by simp only [Nat.min_def]; split <;> omega) hdl
      (fun j v hj => by rw [adds]; exact hat _ v (by rwa [List.getElem?_drop] at hj))
      (fun j hj => hsp _ (by rw [hdl] at hj; omega)) (fun j hj => hfz _) (fun v hv => h1c v (List.mem_of_mem_drop hv))
  obtain ⟨W1, hW1⟩ : ∃ W1, W1 = w.drew.setCells g ((i + 1) * 3) (inner.drop (i * 3)) := ⟨_, rfl⟩
  have hsp1 : ∀ k, k < cap * 3 → (W1.cell? ⟨g, k, none⟩).isSome = true := fun k hk => by
    rw [hW1, cell_blk (blk_setCells _ _ (blk_drew hgb)), Array.getElem?_eq_getElem (by rw [size_setArr]; omega)]
    rfl
  have hvs1 : ∀ j v, vs[j]? = some v → W1.cell? ⟨vb, j, none⟩ = some v := fun j v hj => by
    rw [hW1, World.cell?_setCells_out g _ _ _ _ (fun h _ => absurd h hvb)]
    exact hvs j v hj
  have hfz1 : ∀ k, W1.frozen? ⟨g, k, none⟩ = false := fun k => by rw [hW1]; exact frozen_blk (blk_setCells _ _ (blk_drew hgb)) k
  have hcp2 : ∀ (W : World), (∀ x, W.cell? x = W1.cell? x) → (∀ x, W.frozen? x = W1.frozen? x) → ∀ ty dc, (Builtin.copy_ #[TWs, TWs] ty #[.slice (some ⟨g, i * 3, none⟩) (n + 1 - i) dc, .slice (some ⟨vb, 0, none⟩) 1 1]).run Try.prog W = .ok (goInt (1 : Nat)) (W.setCells g (i * 3) vs) := fun W hWc hWf ty dc =>
    run_copy_sz W _ _ ty TW 3 1 g (i * 3) (n + 1 - i) dc ⟨vb, 0, none⟩ 1 1 vs hT hsz (by simp only [Nat.min_def]; split <;> omega) (by rw [hvl])
      (fun j v hj => by rw [adds, hWc, Nat.zero_add]; exact hvs1 j v hj)
      (fun j hj => by rw [hWc]; exact hsp1 _ (by rw [hvl] at hj; omega)) (fun j hj => by rw [hWf]; exact hfz1 _) h1v
  rw [← hW1] at hcp1
  have HD : Aside0 (insW w g 3 i inner vs = W1.setCells g (i * 3) vs) := ⟨by rw [insW, hW1]⟩
  rw [HD.out]
  clear ho hat hsp hfz hsp1 hvs1 hfz1 hvs hsa hsb hgb hcs hb hdl HD
  go_enter Try.func26, Try.ntmps26
  go_wp2_with (simp only [hov])
  go_region_law (refine step_copy_runI rfl _ _ TWs TWs rfl _ _ (by simp [Act.eval, Act.put]) (by simp [Act.eval, Act.put]) (hcp1 _ _ _) ?_)
  go_wp2_with (at_builtin; refine wpList_copy_runI _ rfl _ _ TWs TWs rfl _ _ rfl rfl (hcp2 _ (fun _ => rfl) (fun _ => rfl) _ _) ?_)
  go_ret
  exact ⟨rfl, by rw [hW1]⟩
end Go.Proofs.Ytikoonomhojlkaa
