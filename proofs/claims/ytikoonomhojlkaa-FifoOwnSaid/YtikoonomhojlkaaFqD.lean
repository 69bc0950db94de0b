import Derived.Test.YtikoonomhojlkaaFqA
set_option linter.unusedSimpArgs false
set_option linter.unusedVariables false
namespace Go.Proofs.Ytikoonomhojlkaa
open Go.RowKit Go.Lib Go.Proofs.YtikoonomhojlkaaW.PrintWords Go.Proofs.YtikoonomhojlkaaW.PrintMore Go.Proofs.YtikoonomhojlkaaW.PrintLast
/-! slices.Insert: there is room. -/
set_option maxHeartbeats 4000000 in
set_option maxRecDepth 100000 in
theorem ins_shift (w : World) (base g cap n i vb : Nat) (inner vs : List Value) (ho : w.ownsRow base TW 3 (.slice (some ⟨g, 0, none⟩) n cap) n inner) (hi : i < n) (hroom : n + 1 ≤ cap) (hvb : vb ≠ g) (hb : w.heap[vb]? = some (.cells vs.toArray TW (0, 0))) (hvl : vs.length = 3) (h1c : ∀ u ∈ inner, u.oneCell' = true) (h1v : ∀ u ∈ vs, u.oneCell' = true) :
    Calls Try.prog 26 #[.slice (some ⟨g, 0, none⟩) n cap, .int .i64 i, .slice (some ⟨vb, 0, none⟩) 1 1] w fun e w' => e = .returned (.slice (some ⟨g, 0, none⟩) (n + 1) cap) ∧ w' = insW w g 3 i inner vs := by
  have hblk : ∃ cs, w.heap[g]? = some (.cells cs TW (0, 0)) ∧ cs.size = cap * 3 := by
    rcases ho.2 with ⟨he, _⟩ | ⟨g', cap', cur, he, _, hh, _, _, hs, _⟩
    · cases he
    · injection he with e1 _ e3
      injection e1 with e1
      injection e1 with e1
      subst e1; subst e3
      exact ⟨_, hh, hs⟩
  obtain ⟨cs, hgb, hcs⟩ := hblk
  obtain ⟨g', cap', he, hbg, hgl, hnc, hcm, hil, hat, hsp, hfz⟩ := own_at ho (by omega)
  obtain ⟨rfl, rfl⟩ : g = g' ∧ cap = cap' := by simpa using he
  clear he
  have hsz : (Try.prog.info? TW).map (·.size) = some 3 := by kernel_rfl
  have hT := Try.underlying22
  have hvs : ∀ j v, vs[j]? = some v → w.cell? ⟨vb, j, none⟩ = some v := fun j v hj => by rw [cell_blk hb]; simpa using hj
  have hsa : w.shape? vb = some (TW, 3) := by unfold World.shape?; rw [hb]; simp [hvl]
  have hsb : w.shape? g = some (TW, cap * 3) := by unfold World.shape?; rw [hgb]; simp [hcs]
  have hov : ∀ lb cb, (callFunc 38 #[.slice (some ⟨vb, 0, none⟩) 1 1, .slice (some ⟨g, (i + 1) * 3, none⟩) lb cb]).run Try.prog w = .ok (.value (.bool false)) w := fun lb cb => by
    rw [run_callFunc_extern Try.func38 (by kernel_rfl) (by kernel_rfl) (by kernel_rfl) (e := Extern.SlicesOverlaps.overlaps #[TWs, TWs] #[4]) (by kernel_rfl),
      Lib.run_overlaps_apart w TWs 4 TW hT 3 (fun w => by kernel_rfl) ⟨vb, 0, none⟩ ⟨g, (i + 1) * 3, none⟩ 1 1 lb cb hvb TW TW 3 (cap * 3) hsa hsb (by omega) (frozen_blk hb 0) (frozen_blk hb 3)]
    rfl
  have hdl : (inner.drop (i * 3)).length = (n - i) * 3 := by rw [List.length_drop, hil, ← Nat.sub_mul]
  have hw1 : IntKind.i64.wrap ((i : Int) + 1) = (i : Int) + 1 := by rw [IntKind.wrap_i64]; omega
  have hw2 : IntKind.i64.wrap ((n : Int) + 1) = (n : Int) + 1 := by rw [IntKind.wrap_i64]; omega
  have hb1 : (0 : Int) ≤ (i : Int) + 1 := by omega
  have htn : ((i : Int) + 1).toNat = i + 1 := by omega
  have htm : ((n : Int) + 1).toNat = n + 1 := by omega
  have hz2 : ¬ ((i : Int) = (n : Int)) := by omega
  have hin : i ≤ n := by omega
  have hb2 : ¬ (cap = i + 1) := by omega
  have hb3 : (i : Int) ≤ (n : Int) + 1 := by omega
  have hb4 : ¬ (cap = i) := by omega
  have hb5 : ¬ ((cap : Int) < (n : Int) + 1) := by omega
  have hb6 : (i : Int) ≤ (cap : Int) := by omega
  have hb7 : (n : Int) + 1 ≤ (cap : Int) := by omega
  have hcp1 : ∀ ty dc sc, (Builtin.copy_ #[TWs, TWs] ty #[.slice (some ⟨g, (i + 1) * 3, none⟩) (n - i) dc, .slice (some ⟨g, i * 3, none⟩) (n + 1 - i) sc]).run Try.prog w.drew = .ok (goInt (n - i : Nat)) (w.drew.setCells g ((i + 1) * 3) (inner.drop (i * 3))) := fun ty dc sc =>
    run_copy_sz w.drew _ _ ty TW 3 (n - i) g ((i + 1) * 3) (n - i) dc ⟨g, i * 3, none⟩ (n + 1 - i) sc (inner.drop (i * 3)) hT hsz (by simp only [Nat.min_def]; split <;> omega) hdl
      (fun j v hj => by rw [adds]; exact hat _ v (by rwa [List.getElem?_drop] at hj))
      (fun j hj => hsp _ (by rw [hdl] at hj; omega)) (fun j hj => hfz _) (fun v hv => h1c v (List.mem_of_mem_drop hv))
  obtain ⟨W1, hW1⟩ : ∃ W1, W1 = w.drew.setCells g ((i + 1) * 3) (inner.drop (i * 3)) := ⟨_, rfl⟩
  have hsp1 : ∀ k, k < cap * 3 → (W1.cell? ⟨g, k, none⟩).isSome = true := fun k hk => by
    rw [hW1, cell_blk (blk_setCells _ _ (blk_drew hgb)), Array.getElem?_eq_getElem (by rw [size_setArr]; omega)]
    rfl
  have hvs1 : ∀ j v, vs[j]? = some v → W1.cell? ⟨vb, j, none⟩ = some v := fun j v hj => by
    rw [hW1, World.cell?_setCells_out g _ _ _ _ (fun h _ => absurd h hvb)]
    exact hvs j v hj
  have hfz1 : ∀ k, W1.frozen? ⟨g, k, none⟩ = false := fun k => by rw [hW1]; exact frozen_blk (blk_setCells _ _ (blk_drew hgb)) k
  have hcp2 : ∀ (W : World), (∀ x, W.cell? x = W1.cell? x) → (∀ x, W.frozen? x = W1.frozen? x) → ∀ ty dc, (Builtin.copy_ #[TWs, TWs] ty #[.slice (some ⟨g, i * 3, none⟩) (n + 1 - i) dc, .slice (some ⟨vb, 0, none⟩) 1 1]).run Try.prog W = .ok (goInt (1 : Nat)) (W.setCells g (i * 3) vs) := fun W hWc hWf ty dc =>
    run_copy_sz W _ _ ty TW 3 1 g (i * 3) (n + 1 - i) dc ⟨vb, 0, none⟩ 1 1 vs hT hsz (by simp only [Nat.min_def]; split <;> omega) (by rw [hvl])
      (fun j v hj => by rw [adds, hWc, Nat.zero_add]; exact hvs1 j v hj)
      (fun j hj => by rw [hWc]; exact hsp1 _ (by rw [hvl] at hj; omega)) (fun j hj => by rw [hWf]; exact hfz1 _) h1v
  rw [← hW1] at hcp1
  have HD : Aside0 (insW w g 3 i inner vs = W1.setCells g (i * 3) vs) := ⟨by rw [insW, hW1]⟩
  rw [HD.out]
  clear ho hat hsp hfz hsp1 hvs1 hfz1 hvs hsa hsb hgb hcs hb hdl HD
  go_enter Try.func26, Try.ntmps26
  go_wp2_with (simp only [hov])
  go_region_law (refine step_copy_runI rfl _ _ TWs TWs rfl _ _ (by simp [Act.eval, Act.put]) (by simp [Act.eval, Act.put]) (hcp1 _ _ _) ?_)
  go_wp2_with (at_builtin; refine wpList_copy_runI _ rfl _ _ TWs TWs rfl _ _ rfl rfl (hcp2 _ (fun _ => rfl) (fun _ => rfl) _ _) ?_)
  go_ret
  exact ⟨rfl, by rw [hW1]⟩
end Go.Proofs.Ytikoonomhojlkaa
set_option linter.unusedSimpArgs false
set_option linter.unusedVariables false
namespace Go.Proofs.Ytikoonomhojlkaa
open Go.RowKit Go.Lib Go.Proofs.YtikoonomhojlkaaW.PrintWords Go.Proofs.YtikoonomhojlkaaW.PrintMore Go.Proofs.YtikoonomhojlkaaW.PrintLast
/-! slices.Insert: there is no room. -/
set_option maxHeartbeats 4000000 in
set_option maxRecDepth 100000 in
theorem ins_grow (w : World) (base g cap n i vb : Nat) (inner vs : List Value) (ho : w.ownsRow base TW 3 (.slice (some ⟨g, 0, none⟩) n cap) n inner) (hi : i < n) (hroom : cap < n + 1) (hbig : (n + 1) * 24 ≤ 140737488355328) (hb : w.heap[vb]? = some (.cells vs.toArray TW (0, 0))) (hvl : vs.length = 3) (h1c : ∀ u ∈ inner, u.oneCell' = true) (h1v : ∀ u ∈ vs, u.oneCell' = true) :
    Calls Try.prog 26 #[.slice (some ⟨g, 0, none⟩) n cap, .int .i64 i, .slice (some ⟨vb, 0, none⟩) 1 1] w fun e w' => ∃ G ROW, e = .returned (.slice (some ⟨w.heap.size, 0, none⟩) (n + 1) G) ∧ w' = groW w 3 i inner vs ROW TW ∧ n + 1 ≤ G ∧ G ≤ maxLen ∧ ROW.size = G * 3 ∧ ∀ k u, k < i * 3 → inner[k]? = some u → ROW[k]? = some u := by
  obtain ⟨g', cap', he, hbg, hgl, hnc, hcm, hil, hat, hsp, hfz⟩ := own_at ho (by omega)
  obtain ⟨rfl, rfl⟩ : g = g' ∧ cap = cap' := by simpa using he
  clear he
  have hsz : (Try.prog.info? TW).map (·.size) = some 3 := by kernel_rfl
  have hT := Try.underlying22
  have hTi := Try.underlying3
  obtain ⟨i0, hi0, hzz⟩ := Option.map_eq_some_iff.1 infoW
  simp only [Prod.mk.injEq] at hzz
  obtain ⟨hz0, hzs, hzb⟩ := hzz
  have hvs : ∀ j v, vs[j]? = some v → w.cell? ⟨vb, j, none⟩ = some v := fun j v hj => by rw [cell_blk hb]; simpa using hj
  have hvw := lt_blk hb
  have hkk : (n : Int) + 1 - (i : Int) = ((n + 1 - i : Nat) : Int) := by omega
  have hik : i + (n + 1 - i) = n + 1 := by omega
  have htl : (inner.take (i * 3)).length = i * 3 := by rw [List.length_take, hil]; omega
  have hdl : (inner.drop (i * 3)).length = (n - i) * 3 := by rw [List.length_drop, hil, ← Nat.sub_mul]
  have hold : (Builtin.firstCells i0.size i (.slice (some ⟨g, 0, none⟩) i cap)).run Try.prog w.drew = .ok (inner.take (i * 3)).toArray w.drew := by
    rw [hzs]
    exact run_firstCells_some w.drew 3 i ⟨g, 0, none⟩ i cap (inner.take (i * 3)) htl (fun j v hj => by
      rw [adds, Nat.zero_add]
      rw [List.getElem?_take] at hj
      split at hj
      · exact hat j v hj
      · cases hj)
  have hrz : ∀ ty, (Builtin.append_ #[TWs, 3] ty #[.slice (some ⟨g, 0, none⟩) i cap, .int .i64 ((n : Int) + 1 - (i : Int))]).run Try.prog w =
      .ok (.slice (some ⟨w.heap.size, 0, none⟩) (n + 1) (grownCap w (n + 1) cap TW)) (w.drew.alloc (.cells ((inner.take (i * 3)).toArray ++ Builtin.zeroCells zW (n + 1 - i) ++ Builtin.zeroCells zW (grownCap w (n + 1) cap TW - (n + 1))) TW)) := fun ty => by
    have h := Lib.run_append_grow_zeros w TWs 3 ty TW i0 _ .i64 .i64 hT hTi hi0 hz0 (some ⟨g, 0, none⟩) i cap (inner.take (i * 3)) hold (n + 1 - i) (by omega) (by omega) (by omega) (by omega) (by rw [hzb]; omega) (by rw [hzb, hik]; exact growslice_fits hroom hbig)
    rw [hik] at h
    rw [hkk]
    exact h
  obtain ⟨G, hG⟩ : ∃ G, G = grownCap w (n + 1) cap TW := ⟨_, rfl⟩
  have hGn : n + 1 ≤ G := by rw [hG]; exact grownCap_ge w _ _ _
  have hGm : G ≤ maxLen := by rw [hG]; exact grownCap_le_maxLen w (n + 1) cap TW (by unfold maxLen; omega)
  obtain ⟨ROW, hROW⟩ : ∃ ROW : Array Value, ROW = (inner.take (i * 3)).toArray ++ Builtin.zeroCells zW (n + 1 - i) ++ Builtin.zeroCells zW (G - (n + 1)) := ⟨_, rfl⟩
  rw [← hG, ← hROW] at hrz
  have hRl : ROW.size = G * 3 := by
    rw [hROW]
    simp only [Array.size_append, List.size_toArray, htl]
    simp [Builtin.zeroCells]
    omega
  have hRk : ∀ k u, k < i * 3 → inner[k]? = some u → ROW[k]? = some u := fun k u hk hu => by
    rw [hROW, Array.getElem?_append_left (by simp only [Array.size_append, List.size_toArray, htl]; omega), Array.getElem?_append_left (by simp only [List.size_toArray, htl]; omega)]
    rw [List.getElem?_toArray, List.getElem?_take, if_pos hk]
    exact hu
  obtain ⟨W1, hW1⟩ : ∃ W1, W1 = w.drew.alloc (.cells ROW TW) := ⟨_, rfl⟩
  rw [← hW1] at hrz
  have hN : ∀ j, j < G * 3 → (W1.cell? ⟨w.heap.size, j, none⟩).isSome = true := fun j hj => by
    rw [hW1, World.cell?_alloc_at (w := w.drew) ROW _ w.heap.size j rfl, Array.getElem?_eq_getElem (by omega)]; rfl
  have hNf : ∀ j, W1.frozen? ⟨w.heap.size, j, none⟩ = false := fun j => by rw [hW1]; exact World.frozen?_alloc_at (w := w.drew) ROW _ w.heap.size j rfl
  have hOb : ∀ j v, w.cell? ⟨g, j, none⟩ = some v → W1.cell? ⟨g, j, none⟩ = some v := fun j v h => by rw [hW1, World.cell?_alloc_past (w := w.drew) _ g j hgl]; exact h
  have hOv : ∀ j v, w.cell? ⟨vb, j, none⟩ = some v → W1.cell? ⟨vb, j, none⟩ = some v := fun j v h => by rw [hW1, World.cell?_alloc_past (w := w.drew) _ vb j hvw]; exact h
  have hcpA : ∀ (W : World), (∀ x, W.cell? x = W1.cell? x) → (∀ x, W.frozen? x = W1.frozen? x) → ∀ ty dc, (Builtin.copy_ #[TWs, TWs] ty #[.slice (some ⟨w.heap.size, i * 3, none⟩) (n + 1 - i) dc, .slice (some ⟨vb, 0, none⟩) 1 1]).run Try.prog W = .ok (goInt (1 : Nat)) (W.setCells w.heap.size (i * 3) vs) := fun W hWc hWf ty dc =>
    run_copy_sz W _ _ ty TW 3 1 w.heap.size (i * 3) (n + 1 - i) dc ⟨vb, 0, none⟩ 1 1 vs hT hsz (by simp only [Nat.min_def]; split <;> omega) (by rw [hvl])
      (fun j v hj => by rw [adds, hWc, Nat.zero_add]; exact hOv _ v (hvs j v hj))
      (fun j hj => by rw [hWc]; exact hN _ (by rw [hvl] at hj; omega)) (fun j hj => by rw [hWf]; exact hNf _) h1v
  have hG63 : G ≤ 9223372036854775807 := by unfold maxLen at hGm; omega
  have hGi : ¬ (G = i) := by omega
  have hGim : ¬ (G = i + 1) := by omega
  have hci : ¬ (cap = i) := by omega
  have hbN : g ≠ w.heap.size := by omega
  have hcpB : ∀ (W : World), (∀ x, W.cell? x = (W1.setCells w.heap.size (i * 3) vs).cell? x) → (∀ x, W.frozen? x = (W1.setCells w.heap.size (i * 3) vs).frozen? x) → ∀ ty dc sc, (Builtin.copy_ #[TWs, TWs] ty #[.slice (some ⟨w.heap.size, (i + 1) * 3, none⟩) (n - i) dc, .slice (some ⟨g, i * 3, none⟩) (n - i) sc]).run Try.prog W = .ok (goInt (n - i : Nat)) (W.setCells w.heap.size ((i + 1) * 3) (inner.drop (i * 3))) := fun W hWc hWf ty dc sc =>
    run_copy_sz W _ _ ty TW 3 (n - i) w.heap.size ((i + 1) * 3) (n - i) dc ⟨g, i * 3, none⟩ (n - i) sc (inner.drop (i * 3)) hT hsz (by simp only [Nat.min_def]; split <;> omega) hdl
      (fun j v hj => by
        rw [adds, hWc, World.cell?_setCells_out _ _ _ _ _ (fun h _ => absurd h hbN)]
        exact hOb _ v (hat _ v (by rwa [List.getElem?_drop] at hj)))
      (fun j hj => by rw [hWc]; exact isSome_setCells _ _ _ _ (fun t ht => hN _ (by rw [hvl] at ht; omega)) _ (hN _ (by rw [hdl] at hj; omega)))
      (fun j hj => by rw [hWf, World.frozen?_setCells]; exact hNf _) (fun v hv => h1c v (List.mem_of_mem_drop hv))
  subst hW1
  have hE1 : ∀ x, ((w.alloc (.cells ROW TW)).drew).cell? x = (w.drew.alloc (.cells ROW TW)).cell? x := fun x => rfl
  have hE2 : ∀ x, ((w.alloc (.cells ROW TW)).drew).frozen? x = (w.drew.alloc (.cells ROW TW)).frozen? x := fun x => rfl
  have hF1 : ∀ x, (((w.alloc (.cells ROW TW)).drew.setCells w.heap.size (i * 3) vs).drew).cell? x = ((w.drew.alloc (.cells ROW TW)).setCells w.heap.size (i * 3) vs).cell? x := fun x => rfl
  have hF2 : ∀ x, (((w.alloc (.cells ROW TW)).drew.setCells w.heap.size (i * 3) vs).drew).frozen? x = ((w.drew.alloc (.cells ROW TW)).setCells w.heap.size (i * 3) vs).frozen? x := fun x => rfl
  have hw1 : IntKind.i64.wrap ((i : Int) + 1) = (i : Int) + 1 := by rw [IntKind.wrap_i64]; omega
  have hw2 : IntKind.i64.wrap ((n : Int) + 1) = (n : Int) + 1 := by rw [IntKind.wrap_i64]; omega
  have hw3 : IntKind.i64.wrap ((n : Int) + 1 - (i : Int)) = (n : Int) + 1 - (i : Int) := by rw [IntKind.wrap_i64]; omega
  have hb1 : (0 : Int) ≤ (i : Int) + 1 := by omega
  have htn : ((i : Int) + 1).toNat = i + 1 := by omega
  have hin : i ≤ n := by omega
  have hz2 : ¬ ((i : Int) = (n : Int)) := by omega
  have hz3 : (cap : Int) < (n : Int) + 1 := by omega
  have hb3 : (i : Int) ≤ (n : Int) := by omega
  have hRes := Aside0.mk (And.intro hGn (And.intro hGm (And.intro hRl hRk)))
  clear hkk hik hold hROW hG hRl hRk hGm ho hat hsp hfz hN hNf hOb hOv hvs hb htl
  go_enter Try.func26, Try.ntmps26
  go_wp2_with (first
    | (at_builtin; refine Lib.wpList_append_run _ rfl _ _ _ _ rfl _ _ rfl rfl _ _ (hrz _) ?_)
    | (at_builtin; refine wpList_copy_runI _ rfl _ _ TWs TWs rfl _ _ rfl rfl (hcpA _ hE1 hE2 _ _) ?_)
    | (at_builtin; refine wpList_copy_runI _ rfl _ _ TWs TWs rfl _ _ rfl rfl (hcpB _ (fun _ => rfl) (fun _ => rfl) _ _ _) ?_))
  go_region_law (refine step_copy_runI rfl _ _ TWs TWs rfl (.slice (some ⟨w.heap.size, (i + 1) * 3, none⟩) (n - i) (G - (i + 1))) (.slice (some ⟨g, i * 3, none⟩) (n - i) (cap - i)) (by simp [Act.eval, Act.put]) (by simp [Act.eval, Act.put]) (hcpB _ hF1 hF2 3 (G - (i + 1)) (cap - i)) ?_)
  go_wp2
  go_ret
  exact ⟨G, ROW, rfl, rfl, hRes.out⟩
end Go.Proofs.Ytikoonomhojlkaa
set_option linter.unusedSimpArgs false
set_option linter.unusedVariables false
namespace Go.Proofs.Ytikoonomhojlkaa
open Go.RowKit Go.Lib Go.Proofs.YtikoonomhojlkaaW.PrintWords Go.Proofs.YtikoonomhojlkaaW.PrintMore Go.Proofs.YtikoonomhojlkaaW.PrintLast
/-! slices.Insert; slices.Clone. -/
theorem flat_ins (xs : List Wt) (i : Nat) (x : Wt) : (xs.take i ++ x :: xs.drop i).flatMap eW = (xs.flatMap eW).take (i * 3) ++ eW x ++ (xs.flatMap eW).drop (i * 3) := by
  rw [List.flatMap_append, List.flatMap_cons, flatMap_take (enc := eW) (sz := 3) (fun _ => rfl), flatMap_drop (enc := eW) (sz := 3) (fun _ => rfl), List.append_assoc]
theorem ins_len (xs : List Wt) (i : Nat) (x : Wt) (hi : i ≤ xs.length) : (xs.take i ++ x :: xs.drop i).length = xs.length + 1 := by
  rw [List.length_append, List.length_take, List.length_cons, List.length_drop]; omega
def InsP (w0 : World) (base : Nat) (ok : Nat → Prop) (v : Value) (xs : List Wt) (i : Nat) (x : Wt) (e : Ending) (w' : World) : Prop := ∃ v', e = .returned v' ∧ Kd.R kW TW w' base (fun k => ok k ∨ w0.heap.size ≤ k) v' (xs.take i ++ x :: xs.drop i) ∧ Keep (fun k => v.ownBlock = some k) w0 w'
set_option maxHeartbeats 4000000 in
set_option maxRecDepth 100000 in
theorem ins_wt (w0 : World) (base : Nat) (ok : Nat → Prop) (v : Value) (xs : List Wt) (i : Nat) (x : Wt) (h : Kd.R kW TW w0 base ok v xs) (hi : i ≤ xs.length) (hbw : base ≤ w0.heap.size) (hbig : (xs.length + 1) * 24 ≤ 140737488355328) :
    Calls Try.prog 26 #[v, .int .i64 i, .slice (some ⟨w0.heap.size, 0, none⟩) 1 1] (w0.alloc (.cells #[.int .i64 x.f0.f0, .int .i64 x.f0.f1, .int .u64 x.f1] TW)) (InsP w0 base ok v xs i x) := by
  have hblk : (w0.alloc (.cells (eW x).toArray TW)).heap[w0.heap.size]? = some (.cells (eW x).toArray TW (0, 0)) := blk_new _ _
  have hA : Below w0.heap.size w0 (w0.alloc (.cells (eW x).toArray TW)) := below_al (Below.refl _ _) _
  have hK : Keep (fun k => v.ownBlock = some k) w0 (w0.alloc (.cells (eW x).toArray TW)) := Keep.of_below hA
  by_cases hlt : i < xs.length
  · have h2 := Kd.R_below h hA
    obtain ⟨hok, ho⟩ := (flat_R flatW).1 h2
    have hsz : kW.sz = 3 := rfl
    rw [hsz] at ho
    obtain ⟨g, cap, rfl, hbg, hgl, hnc, hcm, hil, hat, hsp, hfz⟩ := own_at ho (by omega)
    have hgw : g < w0.heap.size := by
      obtain ⟨cs', hc'⟩ := R_typed' h g (by simp [Value.ownBlock])
      exact lt_blk hc'
    by_cases hroom : xs.length + 1 ≤ cap
    · refine (ins_shift _ base g cap xs.length i w0.heap.size (xs.flatMap eW) (eW x) ho hlt hroom (by omega) hblk rfl (inner_one xs) (eW_one x)).mono ?_
      rintro e w' ⟨rfl, rfl⟩
      refine ⟨_, rfl, ?_, hK.trans ((ins_keep _ g 3 i _ _).mono (fun k _ e => by subst e; simp [Value.ownBlock]))⟩
      refine (flat_R flatW).2 ⟨fun k hk => .inl (hok k (by simpa [Value.ownBlock] using hk)), ?_⟩
      rw [hsz, flat_ins, ins_len xs i x hi]
      exact ins_own ho hi hroom rfl
    · refine (ins_grow _ base g cap xs.length i w0.heap.size (xs.flatMap eW) (eW x) ho hlt (by omega) hbig hblk rfl (inner_one xs) (eW_one x)).mono ?_
      rintro e w' ⟨G, ROW, rfl, rfl, hG, hGm, hRs, hRk⟩
      refine ⟨_, rfl, ?_, hK.trans (Keep.of_below (gro_keep _ 3 i _ _ ROW TW))⟩
      refine (flat_R flatW).2 ⟨fun k hk => .inr ?_, ?_⟩
      · have e1 : (w0.alloc (.cells (eW x).toArray TW)).heap.size = k := by simpa [Value.ownBlock] using hk
        have := hA.size
        omega
      · rw [hsz, flat_ins, ins_len xs i x hi]
        exact gro_own (Nat.le_trans hbw hA.size) hil hi rfl hG hGm hRs hRk
  · obtain rfl : i = xs.length := by omega
    have HX := Aside0.mk (show xs.take xs.length ++ x :: xs.drop xs.length = xs ++ [x] by simp)
    have H := Aside0.mk h
    obtain ⟨hok, ho⟩ := (flat_R flatW).1 h
    rcases ho.2 with ⟨rfl, h0⟩ | ⟨g, cap, cur, rfl, hg, hh, hc, hm, hs, ht⟩
    · obtain rfl : xs = [] := List.length_eq_zero_iff.1 h0
      clear h ho hok hblk hA hK h0 hlt
      unfold InsP
      go_enter Try.func26, Try.ntmps26
      go_wp2_with ((with_reducible refine gate_builtin (b := .append) (xs := #[.tmp 23, .tmp 24]) rfl ?_); at_builtin; refine Kd.R_append kW (w0 := w0) base rfl (.tmp 23) (.tmp 24) 22 TW (.agg #[.int .i64 0, .int .i64 0, .int .u64 0]) 24 rfl Try.underlying22 infoW rfl (by decide) (by omega) (.slice none 0 0) ([] : List Wt) x [.int .i64 x.f0.f0, .int .i64 x.f0.f1, .int .u64 x.f1] (fun k => ok k ∨ w0.heap.size ≤ k) (fun _ => False) rfl ?aX ?aM (fun _ h => h.elim) ?aF ?aO ?aB ?aS ?aL ?_; (case aX => first | rfl | exact congrArg (fun n => Value.slice (some ⟨n, 0, none⟩) 1 1) (by simp)); (case aM => exact kW_mkM _ _ _ _); (case aF => exact fun _ h => .inr h); (case aO => exact (Kd.R_mono H.out (fun _ h => .inl h))); (case aB => exact Below.refl _ _); (case aS => first | omega | (simp; omega)); (case aL => first | omega | simp); intro v1 w1 ho hb hg hat; skip)
      go_ret
      exact ⟨v1, rfl, by first | exact ho | (rw [HX.out]; exact ho), ⟨hg.os, hg.tape, hg.output, hg.size, fun k hk hn => hg.block k hk (fun e => hn e.symm)⟩⟩
    · have hcm : cap ≤ 9223372036854775807 := by unfold maxLen at hm; omega
      clear h ho hok hblk hA hK hlt hg hh hm hs ht
      unfold InsP
      go_enter Try.func26, Try.ntmps26
      go_wp2_with ((with_reducible refine gate_builtin (b := .append) (xs := #[.tmp 23, .tmp 24]) rfl ?_); at_builtin; refine Kd.R_append kW (w0 := w0) base rfl (.tmp 23) (.tmp 24) 22 TW (.agg #[.int .i64 0, .int .i64 0, .int .u64 0]) 24 rfl Try.underlying22 infoW rfl (by decide) (by omega) (.slice (some ⟨g, 0, none⟩) xs.length cap) xs x [.int .i64 x.f0.f0, .int .i64 x.f0.f1, .int .u64 x.f1] (fun k => ok k ∨ w0.heap.size ≤ k) (fun _ => False) rfl ?aX ?aM (fun _ h => h.elim) ?aF ?aO ?aB ?aS ?aL ?_; (case aX => first | rfl | exact congrArg (fun n => Value.slice (some ⟨n, 0, none⟩) 1 1) (by simp)); (case aM => exact kW_mkM _ _ _ _); (case aF => exact fun _ h => .inr h); (case aO => exact (Kd.R_mono H.out (fun _ h => .inl h))); (case aB => exact Below.refl _ _); (case aS => first | omega | (simp; omega)); (case aL => first | omega | simp); intro v1 w1 ho hb hg hat; skip)
      all_goals
        go_ret
        exact ⟨v1, rfl, by first | exact ho | (rw [HX.out]; exact ho), ⟨hg.os, hg.tape, hg.output, hg.size, fun k hk hn => hg.block k hk (fun e => hn e.symm)⟩⟩

set_option maxHeartbeats 1000000 in
theorem cloneW_some (ad : Addr) (c : Nat) (xs : List (Wt)) (w : World) (hr : Kd.C (kW) w (some ad) xs.length xs) (hm : xs.length * 24 ≤ 140737488355328) :
    Calls Try.prog 29 #[.slice (some ad) xs.length c] w fun e w' => ∃ v, e = .returned v ∧ Kd.R (kW) TW w' w.heap.size (fun _ => True) v xs ∧ Below w.heap.size w w' := by
  have HR := Aside0.mk hr
  clear hr
  have qnil : ∀ (w : World) (a : Option Addr) (n c n' c' : Nat), (binOp .eql 22 (.slice a n c) (.slice none n' c')).run Try.prog w = .ok (.bool a.isNone) w := fun w a n c n' c' => Lib.run_eql_slice_nil w _ _ a n c n' c' Try.underlying22
  go_enter Try.func29, Try.ntmps29
  go_wp2_with (first | ((with_reducible refine gate_builtin (b := .append) (xs := #[.tmp 5, .tmp 6]) rfl ?_); at_builtin; refine Kd.R_append_rows (kW) (w0 := w) w.heap.size rfl (.tmp 5) (.tmp 6) 22 TW (.agg #[.int .i64 0, .int .i64 0, .int .u64 0]) 24 rfl Try.underlying22 infoW rfl (by decide) (by omega) (.slice (some ⟨w.heap.size, 0, none⟩) 0 0) ([] : List (Wt)) xs _ _ _ (fun _ => True) (fun _ => False) rfl rfl ?aO ?aR (fun _ _ h =>  h) (fun _ h => h.elim) ?aF ?aB ?aS ?aL ?_; (case aR => exact Kd.C_alloc HR.out _); (case aB => exact below_alloc (Below.refl _ _) _); (case aF => exact (fun _ _ => trivial)); (case aO => exact R_empty _ _ _ _ (Nat.le_refl _) _ (fun _ _ => trivial)); (case aS => simp); (case aL => simp; omega); intro v1 w1 ho hb hg hat))
  go_ret
  exact ⟨v1, rfl, by simpa using ho, hb⟩
theorem cloneW_nil (c : Nat) (w : World) :
    Calls Try.prog 29 #[.slice none 0 c] w fun e w' => e = .returned (.slice none 0 0) ∧ w = w' := by
  have qnil : ∀ (w : World) (a : Option Addr) (n c n' c' : Nat), (binOp .eql 22 (.slice a n c) (.slice none n' c')).run Try.prog w = .ok (.bool a.isNone) w := fun w a n c n' c' => Lib.run_eql_slice_nil w _ _ a n c n' c' Try.underlying22
  go_enter Try.func29, Try.ntmps29
  go_wp2
  go_ret
  exact ⟨rfl, rfl⟩
theorem cloneW_any (A0 : Option Addr) (c : Nat) (xs : List (Wt)) (w : World) (hr : Kd.C (kW) w A0 xs.length xs) (hm : xs.length * 24 ≤ 140737488355328) :
    Calls Try.prog 29 #[.slice A0 xs.length c] w fun e w' => ∃ v, e = .returned v ∧ Kd.R (kW) TW w' w.heap.size (fun _ => True) v xs ∧ Below w.heap.size w w' := by
  cases A0 with
  | none =>
    have h0 : xs = [] := by
      rcases Nat.eq_zero_or_pos xs.length with h | h
      · exact List.eq_nil_of_length_eq_zero h
      · obtain ⟨ad, he, _⟩ := hr.2.2 h
        cases he
    subst h0
    exact (cloneW_nil c w).mono fun e w' ⟨he, hw⟩ => by subst hw; exact ⟨_, he, Kd.R_nil _ _ _ _ _, Below.refl _ _⟩
  | some ad => exact cloneW_some ad c xs w hr hm

end Go.Proofs.Ytikoonomhojlkaa
