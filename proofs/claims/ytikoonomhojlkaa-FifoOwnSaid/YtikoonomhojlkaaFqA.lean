import Derived.Test.YtikoonomhojlkaaIns
import Derived.Test.YtikoonomhojlkaaPFifoLoadsx0
set_option linter.unusedSimpArgs false
set_option linter.unusedVariables false
namespace Go.Proofs.Ytikoonomhojlkaa
open Go.RowKit Go.Lib Go.Proofs.YtikoonomhojlkaaW.PrintWords Go.Proofs.YtikoonomhojlkaaW.PrintMore Go.Proofs.YtikoonomhojlkaaW.PrintLast
/-! Those that wait; slices.Insert, Delete, Clone at them. -/
abbrev Wt : Type := PFifoLoads.S32
abbrev kW : Kd Wt := PFifoLoads.k32
abbrev TW : Nat := 32
abbrev TWs : Nat := 22
def eW (x : Wt) : List Value := [.int .i64 x.f0.f0, .int .i64 x.f0.f1, .int .u64 x.f1]
abbrev zW : Array Value := #[.int .i64 0, .int .i64 0, .int .u64 0]
theorem kW_open {w : World} {x : Wt} {cs : List Value} (h : kW.K w x cs) : cs = eW x := PFifoLoads.k32_open h
theorem kW_mkM (w : World) (base : Nat) (ok : Nat → Prop) (x : Wt) : kW.M w base ok x (eW x) := PFifoLoads.k32_mkM w base ok x
theorem flatW : Flat kW eW := ⟨⟨fun h => PFifoLoads.k32_openM h, fun h => by subst h; exact kW_mkM _ _ _ _⟩, fun _ => rfl⟩
theorem infoW : (Try.prog.info? TW).map (fun i => (i.zero, i.size, i.bytes)) = some (some (.agg zW), 3, 24) := by kernel_rfl
theorem waits_at {w : World} {b off n : Nat} {xs : List Wt} (h : kW.C w (some ⟨b, off, none⟩) n xs) (i : Nat) (hi : i < n) : ∃ e, xs[i]? = some e ∧ w.cell? ⟨b, off + i * 3, none⟩ = some (.int .i64 e.f0.f0) ∧ w.cell? ⟨b, off + i * 3 + 1, none⟩ = some (.int .i64 e.f0.f1) ∧ w.cell? ⟨b, off + i * 3 + 2, none⟩ = some (.int .u64 e.f1) := by
  obtain ⟨ad, e, hc⟩ := h.2.2 (by omega)
  injection e with e
  subst e
  have hl : i < xs.length := by have := h.1; omega
  obtain ⟨cs, hcl, hK, hat⟩ := hc i _ (List.getElem?_eq_getElem hl)
  obtain rfl := kW_open hK
  refine ⟨_, List.getElem?_eq_getElem hl, ?_, ?_, ?_⟩
  · have := hat 0 _ rfl; rw [adds] at this; exact this
  · have := hat 1 _ rfl; rw [adds, ← Nat.add_assoc] at this; exact this
  · have := hat 2 _ rfl; rw [adds, ← Nat.add_assoc] at this; exact this

set_option maxHeartbeats 4000000 in
set_option maxRecDepth 100000 in
theorem del_wt (w : World) (base : Nat) (ok : Nat → Prop) (v : Value) (xs : List (Wt)) (i j : Nat) (h : Kd.R (kW) 32 w base ok v xs) (hij : i < j) (hj : j ≤ xs.length) :
    Calls Try.prog 27 #[v, .int .i64 i, .int .i64 j] w fun e w' => ∃ v', e = .returned v' ∧ Kd.R (kW) 32 w' base ok v' (xs.take i ++ xs.drop j) ∧ Keep (fun k => v.ownBlock = some k) w w' ∧ v'.ownBlock = v.ownBlock := by
  obtain ⟨hok, ho⟩ := (flat_R flatW).1 h
  have hlen : ∀ x, (eW x).length = 3 := (flatW).len
  obtain ⟨g, cap, rfl, hbg, hgl, hnc, hcm, hil, hat, hsp, hfz⟩ := own_at ho (by omega)
  obtain ⟨i0, hi0, hzz⟩ := Option.map_eq_some_iff.1 infoW
  simp only [Prod.mk.injEq] at hzz
  obtain ⟨hz0, hz1, hz2⟩ := hzz
  have hsz : (kW).sz = 3 := rfl
  rw [hsz] at ho hil hsp
  generalize hn : xs.length = n at *
  obtain ⟨inner, hinn⟩ : ∃ inner, inner = xs.flatMap eW := ⟨_, rfl⟩
  rw [← hinn] at ho hil hat
  have h1c : ∀ u ∈ inner, u.oneCell' = true := fun u hu => by
    rw [hinn] at hu
    obtain ⟨x, _, hx⟩ := List.mem_flatMap.1 hu
    exact (kW).K_one (w := w) ((kW).K_of_M ((flatW).iff (w := w) (base := 0) (ok := fun _ => True).2 (rfl : eW x = eW x))) u hx
  obtain ⟨zs, hzs⟩ : ∃ zs, zs = (Builtin.zeroCells #[.int .i64 0, .int .i64 0, .int .u64 0] (j - i)).toList := ⟨_, rfl⟩
  have hzl : zs.length = (j - i) * 3 := by rw [hzs]; simp [Builtin.zeroCells]
  have hz1c : ∀ u ∈ zs, u.oneCell' = true := fun u hu => by
    rw [hzs] at hu
    exact zero_one #[.int .i64 0, .int .i64 0, .int .u64 0] (by decide) (by decide) _ u hu
  have hdel := del_own ho hij hj hzl
  have HR : Aside0 (Kd.R (kW) 32 (delW w g 3 i j n inner zs) base ok (.slice (some ⟨g, 0, none⟩) (n - (j - i)) cap) (xs.take i ++ xs.drop j)) := ⟨(flat_R flatW).2 ⟨fun k hk => hok k (by simpa [Value.ownBlock] using hk), by
    rw [hsz, List.flatMap_append, flatMap_take hlen, flatMap_drop hlen, ← hinn, List.length_append, List.length_take, List.length_drop, hn, show min i n + (n - j) = n - (j - i) by omega]
    exact hdel⟩⟩
  have HK : Aside0 (Keep (fun k => (Value.slice (some ⟨g, 0, none⟩) n cap).ownBlock = some k) w (delW w g 3 i j n inner zs)) := ⟨(del_keep w g 3 i j n inner zs).mono (fun k _ e => by subst e; simp [Value.ownBlock])⟩
  obtain ⟨news, hnews⟩ : ∃ news, news = inner.drop (j * 3) := ⟨_, rfl⟩
  have s1 : Hid (news.length = (n - j) * 3) := by rw [hnews, List.length_drop, hil]; show n * 3 - j * 3 = _; rw [← Nat.sub_mul]
  have s2 : Hid (∀ u ∈ news, u.oneCell' = true) := fun u hu => h1c u (List.mem_of_mem_drop (hnews ▸ hu))
  have s3 : Hid (∀ t, t < news.length → (w.drew.cell? ⟨g, 0 + i * 3 + t, none⟩).isSome = true ∧ w.drew.frozen? ⟨g, 0 + i * 3 + t, none⟩ = false) := fun t ht => by
    rw [s1.out] at ht
    exact ⟨hsp _ (by have : n * 3 ≤ cap * 3 := Nat.mul_le_mul_right _ hnc; omega), hfz _⟩
  obtain ⟨W1, hW1⟩ : ∃ W1, W1 = w.drew.setCells g (0 + i * 3) news := ⟨_, rfl⟩
  have hb1 : ∃ cs, W1.heap[g]? = some (.cells cs 32 (0, 0)) ∧ cs.size = cap * 3 := by
    rcases ho.2 with ⟨he, _⟩ | ⟨g', cap', cur, he, _, hh, _, _, hs, _⟩
    · cases he
    · injection he with e1 _ e3
      injection e1 with e1
      injection e1 with e1
      subst e1; subst e3
      exact ⟨_, by rw [hW1]; exact blk_setCells news _ (blk_drew hh), by rw [size_setArr]; exact hs⟩
  obtain ⟨cs1, hcs1, hsz1⟩ := hb1
  have hcl : ∀ ty, (Builtin.clear_ #[22] ty #[.slice (some ⟨g, (i + (n - j)) * 3, none⟩) (n - (i + (n - j))) (cap - (i + (n - j)))]).run Try.prog W1 = .ok (.tuple #[]) (W1.setCells g ((i + (n - j)) * 3) zs) :=
    fun ty => run_clear_cells W1 _ _ ty (.agg #[.int .i64 0, .int .i64 0, .int .u64 0]) Try.underlying22 (fun w => by kernel_rfl) zs g _ _ _ (by omega) (by rw [hzs, show n - (i + (n - j)) = j - i by omega]; rfl) hz1c (fun t ht => by
      rw [hzl] at ht
      rw [cell_blk hcs1, Array.getElem?_eq_getElem (by
        have h1 : (i + (n - j)) * 3 + (j - i) * 3 = n * 3 := by rw [← Nat.add_mul]; congr 1; omega
        have h2 : n * 3 ≤ cap * 3 := Nat.mul_le_mul_right _ hnc
        omega)]
      rfl) (fun t _ => frozen_blk hcs1 _)
  have hD : Hid (delW w g 3 i j n inner zs = W1.setCells g ((i + (n - j)) * 3) zs) := by rw [hW1, hnews, Nat.zero_add]; rfl
  have hW : Hid (W1 = w.drew.setCells g (0 + i * 3) news) := hW1
  obtain ⟨A, hA, hsrc⟩ : ∃ A : Addr, (if cap = j then some (⟨g, 0, none⟩ : Addr) else some ⟨g, j * 3, none⟩) = some A ∧ Hid (∀ t u, news[t]? = some u → w.drew.cell? (A.add t) = some u) := by
    by_cases hc : cap = j
    · refine ⟨⟨g, 0, none⟩, by simp [hc], fun t u hu => ?_⟩
      have := (List.getElem?_eq_some_iff.1 hu).1
      rw [s1.out, show n - j = 0 by omega, Nat.zero_mul] at this
      omega
    · refine ⟨⟨g, j * 3, none⟩, by simp [hc], fun t u hu => ?_⟩
      rw [adds]
      exact hat _ u (by rw [← hu, hnews, List.getElem?_drop])
  have hic : i ≤ cap := by omega
  have hjc : j ≤ cap := by omega
  have hne : ¬ i = j := by omega
  clear h ho hdel hat hsp hfz h1c hz1c hzl hzs hil hinn hn hnews hW1 hlen hok hcs1 hsz1 hsz hz0 hz2
  go_enter Try.func27, Try.ntmps27
  go_wp2_with fail
  --MARKD
  go_region_law (refine step_append_room rfl (.tmp 22) (.tmp 25) 22 rfl 32 i0 3 Try.underlying22 hi0 hz1 g 0 i cap (by simp [Act.eval, Act.put]) A (n - j) (cap - j) news (by simp [Act.eval, Act.put, hA]) s1.out hsrc.out s2.out (by omega) s3.out ?_; rw [← hW.out])
  go_wp2
  go_ret
  exact ⟨_, rfl, by rw [← hD.out, show n - (j - i) = i + (n - j) by omega] at *; exact HR.out, by rw [← hD.out]; exact HK.out, by simp [Value.ownBlock]⟩

theorem R_typed' {α : Type} {d : Kd α} {w : World} {base e : Nat} {ok : Nat → Prop} {v : Value} {xs : List α} (h : d.R e w base ok v xs) : ∀ k, v.ownBlock = some k → ∃ cs, w.heap[k]? = some (.cells cs e (0, 0)) := by
  obtain ⟨inner, ho⟩ := Kd.R_own h
  exact fun k hk => own_typed ho k hk
theorem R_empty {α : Type} (d : Kd α) (W : World) (base e : Nat) (hb : base ≤ W.heap.size) (ok : Nat → Prop) (hok : ∀ k, W.heap.size ≤ k → ok k) : d.R e (W.alloc (.cells #[] e)) base ok (.slice (some ⟨W.heap.size, 0, none⟩) 0 0) [] := by
  refine ⟨fun k hk => ?_, [], ?_, Reps.none _ _⟩
  · have : W.heap.size = k := by simpa [Value.ownBlock] using hk
    exact hok k (by omega)
  · exact World.ownsRow_lit (base := base) (e := e) (size := d.sz) W #[] 0 hb (Nat.zero_le _) (by simp)
theorem eW_one (x : Wt) : ∀ u ∈ eW x, u.oneCell' = true := by
  intro u hu
  simp [eW] at hu
  rcases hu with rfl | rfl | rfl <;> rfl
theorem inner_one (xs : List Wt) : ∀ u ∈ xs.flatMap eW, u.oneCell' = true := fun u hu => by
  obtain ⟨x, _, hx⟩ := List.mem_flatMap.1 hu
  exact eW_one x u hx
end Go.Proofs.Ytikoonomhojlkaa
