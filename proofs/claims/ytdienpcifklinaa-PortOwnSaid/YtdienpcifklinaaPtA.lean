import Derived.Test.YtdienpcifklinaaDel
import Derived.Test.YtdienpcifklinaaWMore
import Derived.Test.YtdienpcifklinaaWLast
import Derived.Test.YtdienpcifklinaaPPortOwnx0
set_option linter.unusedSimpArgs false
set_option linter.unusedVariables false
namespace Go.Proofs.Ytdienpcifklinaa
open Go.RowKit Go.Proofs.YtdienpcifklinaaW.PrintWords Go.Proofs.YtdienpcifklinaaW.PrintMore Go.Proofs.YtdienpcifklinaaW.PrintLast
/-! Ports: values with their ages; slices.Delete, slices.Clone at them. -/
abbrev Ag : Type := PPortOwn.S68
abbrev kA : Kd Ag := PPortOwn.k68
def eA (x : Ag) : List Value := [.int .i64 x.f0, .int .i64 x.f1]
theorem kA_open {w : World} {x : Ag} {cs : List Value} (h : kA.K w x cs) : cs = [.int .i64 x.f0, .int .i64 x.f1] := PPortOwn.k68_open h
theorem kA_mkM (w : World) (base : Nat) (ok : Nat → Prop) (x : Ag) : kA.M w base ok x [.int .i64 x.f0, .int .i64 x.f1] := PPortOwn.k68_mkM w base ok x
theorem flatA : Flat kA eA := ⟨⟨fun h => PPortOwn.k68_openM h, fun h => by subst h; exact kA_mkM _ _ _ _⟩, fun _ => rfl⟩
theorem infoA : (Try.prog.info? 68).map (fun i => (i.zero, i.size, i.bytes)) = some (some (.agg #[.int .i64 0, .int .i64 0]), 2, 16) := by kernel_rfl
theorem infoI : (Try.prog.info? 2).map (fun i => (i.zero, i.size, i.bytes)) = some (some (.int .i64 0), 1, 8) := by kernel_rfl
theorem aged_at {w : World} {b off n : Nat} {xs : List Ag} (h : kA.C w (some ⟨b, off, none⟩) n xs) (i : Nat) (hi : i < n) : ∃ e, xs[i]? = some e ∧ w.cell? ⟨b, off + i * 2, none⟩ = some (.int .i64 e.f0) ∧ w.cell? ⟨b, off + i * 2 + 1, none⟩ = some (.int .i64 e.f1) := by
  obtain ⟨ad, e, hc⟩ := h.2.2 (by omega)
  injection e with e
  subst e
  have hl : i < xs.length := by have := h.1; omega
  obtain ⟨cs, hcl, hK, hat⟩ := hc i _ (List.getElem?_eq_getElem hl)
  obtain rfl := kA_open hK
  refine ⟨_, List.getElem?_eq_getElem hl, ?_, ?_⟩
  · have := hat 0 _ rfl; rw [adds] at this; exact this
  · have := hat 1 _ rfl; rw [adds, ← Nat.add_assoc] at this; exact this

set_option maxHeartbeats 4000000 in
set_option maxRecDepth 100000 in
theorem del_aged (w : World) (base : Nat) (ok : Nat → Prop) (v : Value) (xs : List (Ag)) (i j : Nat) (h : Kd.R (kA) 68 w base ok v xs) (hij : i < j) (hj : j ≤ xs.length) :
    Calls Try.prog 50 #[v, .int .i64 i, .int .i64 j] w fun e w' => ∃ v', e = .returned v' ∧ Kd.R (kA) 68 w' base ok v' (xs.take i ++ xs.drop j) ∧ Keep (fun k => v.ownBlock = some k) w w' ∧ v'.ownBlock = v.ownBlock := by
  obtain ⟨hok, ho⟩ := (flat_R flatA).1 h
  have hlen : ∀ x, (eA x).length = 2 := (flatA).len
  obtain ⟨g, cap, rfl, hbg, hgl, hnc, hcm, hil, hat, hsp, hfz⟩ := own_at ho (by omega)
  obtain ⟨i0, hi0, hzz⟩ := Option.map_eq_some_iff.1 infoA
  simp only [Prod.mk.injEq] at hzz
  obtain ⟨hz0, hz1, hz2⟩ := hzz
  have hsz : (kA).sz = 2 := rfl
  rw [hsz] at ho hil hsp
  generalize hn : xs.length = n at *
  obtain ⟨inner, hinn⟩ : ∃ inner, inner = xs.flatMap eA := ⟨_, rfl⟩
  rw [← hinn] at ho hil hat
  have h1c : ∀ u ∈ inner, u.oneCell' = true := fun u hu => by
    rw [hinn] at hu
    obtain ⟨x, _, hx⟩ := List.mem_flatMap.1 hu
    exact (kA).K_one (w := w) ((kA).K_of_M ((flatA).iff (w := w) (base := 0) (ok := fun _ => True).2 (rfl : eA x = eA x))) u hx
  obtain ⟨zs, hzs⟩ : ∃ zs, zs = (Builtin.zeroCells #[.int .i64 0, .int .i64 0] (j - i)).toList := ⟨_, rfl⟩
  have hzl : zs.length = (j - i) * 2 := by rw [hzs]; simp [Builtin.zeroCells]
  have hz1c : ∀ u ∈ zs, u.oneCell' = true := fun u hu => by
    rw [hzs] at hu
    exact zero_one #[.int .i64 0, .int .i64 0] (by decide) (by decide) _ u hu
  have hdel := del_own ho hij hj hzl
  have HR : Aside0 (Kd.R (kA) 68 (delW w g 2 i j n inner zs) base ok (.slice (some ⟨g, 0, none⟩) (n - (j - i)) cap) (xs.take i ++ xs.drop j)) := ⟨(flat_R flatA).2 ⟨fun k hk => hok k (by simpa [Value.ownBlock] using hk), by
    rw [hsz, List.flatMap_append, flatMap_take hlen, flatMap_drop hlen, ← hinn, List.length_append, List.length_take, List.length_drop, hn, show min i n + (n - j) = n - (j - i) by omega]
    exact hdel⟩⟩
  have HK : Aside0 (Keep (fun k => (Value.slice (some ⟨g, 0, none⟩) n cap).ownBlock = some k) w (delW w g 2 i j n inner zs)) := ⟨(del_keep w g 2 i j n inner zs).mono (fun k _ e => by subst e; simp [Value.ownBlock])⟩
  obtain ⟨news, hnews⟩ : ∃ news, news = inner.drop (j * 2) := ⟨_, rfl⟩
  have s1 : Hid (news.length = (n - j) * 2) := by rw [hnews, List.length_drop, hil]; show n * 2 - j * 2 = _; rw [← Nat.sub_mul]
  have s2 : Hid (∀ u ∈ news, u.oneCell' = true) := fun u hu => h1c u (List.mem_of_mem_drop (hnews ▸ hu))
  have s3 : Hid (∀ t, t < news.length → (w.drew.cell? ⟨g, 0 + i * 2 + t, none⟩).isSome = true ∧ w.drew.frozen? ⟨g, 0 + i * 2 + t, none⟩ = false) := fun t ht => by
    rw [s1.out] at ht
    exact ⟨hsp _ (by have : n * 2 ≤ cap * 2 := Nat.mul_le_mul_right _ hnc; omega), hfz _⟩
  obtain ⟨W1, hW1⟩ : ∃ W1, W1 = w.drew.setCells g (0 + i * 2) news := ⟨_, rfl⟩
  have hb1 : ∃ cs, W1.heap[g]? = some (.cells cs 68 (0, 0)) ∧ cs.size = cap * 2 := by
    rcases ho.2 with ⟨he, _⟩ | ⟨g', cap', cur, he, _, hh, _, _, hs, _⟩
    · cases he
    · injection he with e1 _ e3
      injection e1 with e1
      injection e1 with e1
      subst e1; subst e3
      exact ⟨_, by rw [hW1]; exact blk_setCells news _ (blk_drew hh), by rw [size_setArr]; exact hs⟩
  obtain ⟨cs1, hcs1, hsz1⟩ := hb1
  have hcl : ∀ ty, (Builtin.clear_ #[38] ty #[.slice (some ⟨g, (i + (n - j)) * 2, none⟩) (n - (i + (n - j))) (cap - (i + (n - j)))]).run Try.prog W1 = .ok (.tuple #[]) (W1.setCells g ((i + (n - j)) * 2) zs) :=
    fun ty => run_clear_cells W1 _ _ ty (.agg #[.int .i64 0, .int .i64 0]) Try.underlying38 (fun w => by kernel_rfl) zs g _ _ _ (by omega) (by rw [hzs, show n - (i + (n - j)) = j - i by omega]; rfl) hz1c (fun t ht => by
      rw [hzl] at ht
      rw [cell_blk hcs1, Array.getElem?_eq_getElem (by
        have h1 : (i + (n - j)) * 2 + (j - i) * 2 = n * 2 := by rw [← Nat.add_mul]; congr 1; omega
        have h2 : n * 2 ≤ cap * 2 := Nat.mul_le_mul_right _ hnc
        omega)]
      rfl) (fun t _ => frozen_blk hcs1 _)
  have hD : Hid (delW w g 2 i j n inner zs = W1.setCells g ((i + (n - j)) * 2) zs) := by rw [hW1, hnews, Nat.zero_add]; rfl
  have hW : Hid (W1 = w.drew.setCells g (0 + i * 2) news) := hW1
  obtain ⟨A, hA, hsrc⟩ : ∃ A : Addr, (if cap = j then some (⟨g, 0, none⟩ : Addr) else some ⟨g, j * 2, none⟩) = some A ∧ Hid (∀ t u, news[t]? = some u → w.drew.cell? (A.add t) = some u) := by
    by_cases hc : cap = j
    · refine ⟨⟨g, 0, none⟩, by simp [hc], fun t u hu => ?_⟩
      have := (List.getElem?_eq_some_iff.1 hu).1
      rw [s1.out, show n - j = 0 by omega, Nat.zero_mul] at this
      omega
    · refine ⟨⟨g, j * 2, none⟩, by simp [hc], fun t u hu => ?_⟩
      rw [adds]
      exact hat _ u (by rw [← hu, hnews, List.getElem?_drop])
  have hic : i ≤ cap := by omega
  have hjc : j ≤ cap := by omega
  have hne : ¬ i = j := by omega
  clear h ho hdel hat hsp hfz h1c hz1c hzl hzs hil hinn hn hnews hW1 hlen hok hcs1 hsz1 hsz hz0 hz2
  go_enter Try.func50, Try.ntmps50
  go_wp2_with fail
  --MARKD
  go_region_law (refine step_append_room rfl (.tmp 22) (.tmp 25) 38 rfl 68 i0 2 Try.underlying38 hi0 hz1 g 0 i cap (by simp [Act.eval, Act.put]) A (n - j) (cap - j) news (by simp [Act.eval, Act.put, hA]) s1.out hsrc.out s2.out (by omega) s3.out ?_; rw [← hW.out])
  go_wp2
  go_ret
  exact ⟨_, rfl, by rw [← hD.out, show n - (j - i) = i + (n - j) by omega] at *; exact HR.out, by rw [← hD.out]; exact HK.out, by simp [Value.ownBlock]⟩

end Go.Proofs.Ytdienpcifklinaa
