/- PortKeeps: of a queued port what was got, can be got, waits and was lost is all that was put; what was got is in the order of the puts; of a sampled one what is got is the last value ahead of the last delivery. Condition (Upto): at most 1048576 items in all. -/
import Derived.Test.YtdienpcifklinaaPtK
import Derived.Deep.DrawnRows
namespace Go.Proofs.Ytdienpcifklinaa
open Go.RowKit Go.ChangeShapes Go.WideShapes Go.ChangeAt Go.Proofs.YtdienpcifklinaaW.PrintWords Go.Proofs.YtdienpcifklinaaW.PrintMore Go.Proofs.YtdienpcifklinaaW.PrintLast
set_option maxRecDepth 100000 in
set_option maxHeartbeats 16000000 in
theorem keepsF (w : World) (cap : Int) (A : Option Addr) (c : Nat) (acts : List Ac) (hC : kAc.C w A acts.length acts) (hc : acts.length ≤ c) (hl : acts.length ≤ 1048576) :
    Calls Try.prog 6 #[.agg #[.bool false, .int .i64 cap], .slice A acts.length c] w fun e w' => e = .returned (.bool true) ∧ Below w.heap.size w w' := by
  have HC := Aside0.mk hC
  have hA : Below w.heap.size w (w.alloc (.cells #[.bool false, .int .i64 cap] 23)) := below_al (Below.refl _ _) _
  have HA := Aside0.mk hA
  have hX := Aside0.mk (show (w.alloc (.cells #[.bool false, .int .i64 cap] 23)).heap[w.heap.size]? = some (.cells #[.bool false, .int .i64 cap] 23 (0, 0)) from blk_new _ _)
  have hXl := lt_blk hX.out
  have hWz : w.heap.size < (w.alloc (.cells #[.bool false, .int .i64 cap] 23)).heap.size := hXl
  have hww : Aside0 (w.heap.size ≤ (w.alloc (.cells #[.bool false, .int .i64 cap] 23)).heap.size) := ⟨by omega⟩
  clear hA hC
  go_enter Try.func6, Try.ntmps6
  go_wp2_with fail
  generalize (w.alloc (.cells #[.bool false, .int .i64 cap] 23)) = W at *
  refine (made_any false cap W).mono ?_
  rintro e w1 ⟨pa, ok, rfl, hP1, hB1⟩
  have hq1 := peq_some pa
  have HP1 := Aside0.mk hP1
  have HB1 := Aside0.mk hB1
  clear hP1 hB1
  go_wp2_with fail
  refine (lives_any w1).mono ?_
  rintro e w2 ⟨rfl, hB2⟩
  have H3 := Aside0.mk (ks_start (below_then HB1.out hB2) (HP1.out.below hB2))
  have hs1 := HB1.out.size
  have hs2 := hB2.size
  have hsz : ((w2.alloc (.cells #[] TI)).alloc (.cells #[] TI)).heap.size = w2.heap.size + 2 := by simp
  clear HP1 HB1 hB2
  generalize capOk false cap = cp at *
  go_wp2_with fail
  go_loopw [6, 7, 8, 9, 10, 11, 12] (fun vP vG la ha no so i wr => ∃ (k : Nat) (s : Pt) (P G : List Int) (last now : Int) (has sm : Bool), k ≤ acts.length ∧ i = .int .i64 k ∧ la = .int .i64 last ∧ ha = .bool has ∧ no = .int .i64 now ∧ so = .bool sm ∧ Aside0 (KS s last has now sm ∧ P.length ≤ k ∧ G.length ≤ k) ∧ Aside0 (KsE W pa s vP vG P G wr)) (fun _ _ _ _ _ _ i _ => acts.length - (intOf i).toNat)
  case atStart => exact ⟨0, _, [], [], 0, 0, false, false, by omega, rfl, rfl, rfl, rfl, rfl, ⟨⟨rfl, rfl, by simp [newP]⟩, Nat.le_refl _, Nat.le_refl _⟩, H3⟩
  case round =>
    clear H3 hsz
    obtain ⟨k, s, P, G, last, now, has, sm, hk, rfl, rfl, rfl, rfl, rfl, HI, HE⟩ := hrel
    obtain ⟨ok, okP, okG, hK⟩ := HE.out
    obtain ⟨AP, cP, rfl, -, -⟩ := Kd.R_reads hK.p
    obtain ⟨AG, cG, rfl, -, -⟩ := Kd.R_reads hK.g
    have HK := Aside0.mk hK
    have hBr := Aside0.mk (HA.out.trans (hK.below.mono (by omega)))
    have hXr := blk_below hX.out hK.below
    have s0 := cell_blk hXr 0; have s1 := cell_blk hXr 1
    simp at s0 s1
    have hXrl := lt_blk hXr
    clear hK HE
    by_cases hlt : k < acts.length
    · obtain ⟨ab, off, rfl, hab⟩ := C_form HC.out (by omega) (by decide)
      obtain ⟨⟨d, v⟩, ha, e0, e1⟩ := act_at HC.out k hlt
      simp only at e0 e1
      have y0 := (hBr.out.cell (p := ⟨ab, off + k * 2, none⟩) hab).trans e0
      have y1 := (hBr.out.cell (p := ⟨ab, off + k * 2 + 1, none⟩) hab).trans e1
      have hki : (0 : Int) ≤ (k : Int) := by omega
      have hkl : (k : Int) < (acts.length : Int) := by omega
      have E1 := Aside0.mk e1
      have HXr := Aside0.mk hXr
      clear ha e0 e1 hXr
      rcases (show d = 0 ∨ d = 1 ∨ d = 2 ∨ (d ≠ 0 ∧ d ≠ 1 ∧ d ≠ 2) by omega) with rfl | rfl | rfl | ⟨hd, hd', hd''⟩
      · have hT := port_put v HK.out.port
        go_wp2_with fail
        refine hT.mono ?_
        clear hT y0 y1 s0 s1 hXrl
        rintro e W5 ⟨rfl, hP5, hk5⟩
        have HE5 := Aside0.mk (HK.out.step hP5 hk5)
        obtain ⟨ok5, okP5, okG5, hK5⟩ := HE5.out
        have HK5 := Aside0.mk hK5
        have y1 := ((HA.out.trans (hK5.below.mono (by omega))).cell (p := ⟨ab, off + k * 2 + 1, none⟩) hab).trans E1.out
        have hW5 := hK5.below.size
        have habl : ab < W5.heap.size := by omega
        clear hP5 hk5 HE5 hK5
        obtain ⟨hb, hIv⟩ := HI.out.1.put v
        have HI6 : Aside0 (KS (putP s v).1 v true now sm ∧ (P ++ [v]).length ≤ k + 1 ∧ G.length ≤ k + 1) := ⟨hIv, by have := HI.out.2.1; simp; omega, by have := HI.out.2.2; omega⟩
        rw [hb]
        have hPl : (P.length + 1) * 8 ≤ 140737488355328 := by have := HI.out.2.1; omega
        clear hIv hb
        go_wp2_with ((with_reducible refine gate_builtin (b := .append) (xs := #[.tmp 48, .tmp 54]) rfl ?_); at_builtin; refine Kd.R_append (Kd.int .i64) (w0 := W5) W.heap.size rfl (.tmp 48) (.tmp 54) 25 TI (.int .i64 0) 8 rfl Try.underlying25 infoI rfl (by decide) (by omega) (.slice AP P.length cP) P v [.int .i64 v] (fun k => okP5 k ∨ W5.heap.size ≤ k) (fun _ => False) rfl ?aX ?aM (fun _ h => h.elim) ?aF ?aO ?aB ?aS ?aL ?_; (case aX => first | rfl | exact congrArg (fun n => Value.slice (some ⟨n, 0, none⟩) 1 1) (by simp)); (case aM => exact rfl); (case aF => exact fun _ h => .inr h); (case aO => exact (Kd.R_mono HK5.out.p (fun _ h => .inl h))); (case aB => exact Below.refl _ _); (case aS => first | omega | (simp; omega)); (case aL => omega); intro v6 w6 ho hb hg hat; have hk1 := grown_keep hg; obtain ⟨A1, c1', he1, -, -⟩ := Kd.R_reads ho; rw [List.length_append, List.length_singleton] at he1; subst he1; have HE6 := Aside0.mk (HK5.out.pushP hk1 ho); have hab6 : ab < w6.heap.size := (by have := hg.size; omega); have hB6 := KsE.below HE6.out; have hB7 := HA.out.trans (hB6.mono hww.out); have y1 := (hB7.cell (p := ⟨ab, off + k * 2 + 1, none⟩) hab).trans E1.out; clear hB6 hB7)
        go_roundw
        case rel => exact ⟨k + 1, _, _, G, _, now, true, sm, by omega, by go_num, rfl, rfl, rfl, rfl, HI6, HE6⟩
        case measure => simp [intOf]; omega
      · have hT := port_get HK.out.port
        cases sm with
        | false =>
          rw [HI.out.1.getN] at hT
          go_wp2_with fail
          refine hT.mono ?_
          clear hT y0 y1 s0 s1 hXrl
          rintro e W5 ⟨rfl, hP5, hk5⟩
          have HE5 := Aside0.mk (HK.out.step hP5 hk5)
          obtain ⟨ok5, okP5, okG5, hK5⟩ := HE5.out
          have HK5 := Aside0.mk hK5
          have hXr := blk_below hX.out hK5.below
          have s0 := cell_blk hXr 0; have s1 := cell_blk hXr 1
          simp at s0 s1
          have hXrl := lt_blk hXr
          have hW5 := hK5.below.size
          clear hP5 hk5 HE5 hK5 hXr
          go_wp2
          go_roundw
          case rel => exact ⟨k + 1, s, P, G, last, now, has, false, by omega, by go_num, rfl, rfl, rfl, rfl, ⟨HI.out.1, by have := HI.out.2.1; omega, by have := HI.out.2.2; omega⟩, ⟨⟨ok5, okP5, okG5, HK5.out⟩⟩⟩
          case measure => simp [intOf]; omega
        | true =>
          obtain ⟨ag, hg0, hx0⟩ := HI.out.1.getS
          rw [hg0] at hT
          have hGl : (G.length + 1) * 8 ≤ 140737488355328 := by have := HI.out.2.2; omega
          have hda : decide (ag ≥ 0) = true := by simp; omega
          clear hg0
          go_wp2_with fail
          refine hT.mono ?_
          clear hT y0 y1 s0 s1 hXrl
          rintro e W5 ⟨rfl, hP5, hk5⟩
          have HE5 := Aside0.mk (HK.out.step hP5 hk5)
          obtain ⟨ok5, okP5, okG5, hK5⟩ := HE5.out
          have HK5 := Aside0.mk hK5
          have hXr := blk_below hX.out hK5.below
          have s0 := cell_blk hXr 0; have s1 := cell_blk hXr 1
          simp at s0 s1
          have hXrl := lt_blk hXr
          have hW5 := hK5.below.size
          clear hP5 hk5 HE5 hK5 hXr
          go_wp2_with ((with_reducible refine gate_builtin (b := .append) (xs := #[.tmp 70, .tmp 72]) rfl ?_); at_builtin; refine Kd.R_append (Kd.int .i64) (w0 := W5) W.heap.size rfl (.tmp 70) (.tmp 72) 25 TI (.int .i64 0) 8 rfl Try.underlying25 infoI rfl (by decide) (by omega) (.slice AG G.length cG) G now [.int .i64 now] (fun k => okG5 k ∨ W5.heap.size ≤ k) (fun _ => False) rfl ?aX ?aM (fun _ h => h.elim) ?aF ?aO ?aB ?aS ?aL ?_; (case aX => first | rfl | exact congrArg (fun n => Value.slice (some ⟨n, 0, none⟩) 1 1) (by simp)); (case aM => exact rfl); (case aF => exact fun _ h => .inr h); (case aO => exact (Kd.R_mono HK5.out.g (fun _ h => .inl h))); (case aB => exact Below.refl _ _); (case aS => first | omega | (simp; omega)); (case aL => omega); intro v6 w6 ho hb hg hat; have hk1 := grown_keep hg; obtain ⟨A1, c1', he1, -, -⟩ := Kd.R_reads ho; rw [List.length_append, List.length_singleton] at he1; subst he1; have HE6 := Aside0.mk (HK5.out.pushG hk1 ho); have hX6 := blk_below hX.out (KsE.below HE6.out); have s0 := cell_blk hX6 0; have s1 := cell_blk hX6 1; simp at s0 s1; have hXl6 := lt_blk hX6; clear hX6)
          go_roundw
          case rel => exact ⟨k + 1, s, P, (G ++ [now]), last, now, has, true, by omega, by go_num, rfl, rfl, rfl, rfl, ⟨HI.out.1, by have := HI.out.2.1; omega, by have := HI.out.2.2; simp; omega⟩, HE6⟩
          case measure => simp [intOf]; omega

      · have hT := port_deliver HK.out.port
        go_wp2_with fail
        refine hT.mono ?_
        clear hT y0 y1 s0 s1 hXrl
        rintro e W5 ⟨rfl, hP5, hk5⟩
        have HE5 := Aside0.mk (HK.out.step hP5 hk5)
        clear hP5 hk5
        cases has with
        | true =>
          go_wp2
          go_roundw
          case rel => exact ⟨k + 1, _, P, G, last, last, false, true, by omega, by go_num, rfl, rfl, rfl, rfl, ⟨HI.out.1.deliver, by have := HI.out.2.1; omega, by have := HI.out.2.2; omega⟩, HE5⟩
          case measure => simp [intOf]; omega
        | false =>
          go_wp2
          go_roundw
          case rel => exact ⟨k + 1, _, P, G, last, now, false, sm, by omega, by go_num, rfl, rfl, rfl, rfl, ⟨HI.out.1.deliver, by have := HI.out.2.1; omega, by have := HI.out.2.2; omega⟩, HE5⟩
          case measure => simp [intOf]; omega
      · go_wp2
        go_roundw
        case rel => exact ⟨k + 1, s, P, G, last, now, has, sm, by omega, by go_num, rfl, rfl, rfl, rfl, ⟨HI.out.1, by have := HI.out.2.1; omega, by have := HI.out.2.2; omega⟩, ⟨⟨ok, okP, okG, HK.out⟩⟩⟩
        case measure => simp [intOf]; omega
    · obtain rfl : k = acts.length := by omega
      go_wp2
      go_ret
      exact ⟨rfl, hBr.out⟩
set_option maxRecDepth 100000 in
set_option maxHeartbeats 16000000 in
theorem keepsT (w : World) (cap : Int) (A : Option Addr) (c : Nat) (acts : List Ac) (hC : kAc.C w A acts.length acts) (hc : acts.length ≤ c) (hl : acts.length ≤ 1048576) :
    Calls Try.prog 6 #[.agg #[.bool true, .int .i64 cap], .slice A acts.length c] w fun e w' => e = .returned (.bool true) ∧ Below w.heap.size w w' := by
  have HC := Aside0.mk hC
  have hA : Below w.heap.size w (w.alloc (.cells #[.bool true, .int .i64 cap] 23)) := below_al (Below.refl _ _) _
  have HA := Aside0.mk hA
  have hX := Aside0.mk (show (w.alloc (.cells #[.bool true, .int .i64 cap] 23)).heap[w.heap.size]? = some (.cells #[.bool true, .int .i64 cap] 23 (0, 0)) from blk_new _ _)
  have hXl := lt_blk hX.out
  have hWz : w.heap.size < (w.alloc (.cells #[.bool true, .int .i64 cap] 23)).heap.size := hXl
  have hww : Aside0 (w.heap.size ≤ (w.alloc (.cells #[.bool true, .int .i64 cap] 23)).heap.size) := ⟨by omega⟩
  clear hA hC
  go_enter Try.func6, Try.ntmps6
  go_wp2_with fail
  generalize (w.alloc (.cells #[.bool true, .int .i64 cap] 23)) = W at *
  refine (made_any true cap W).mono ?_
  rintro e w1 ⟨pa, ok, rfl, hP1, hB1⟩
  have hq1 := peq_some pa
  have HP1 := Aside0.mk hP1
  have HB1 := Aside0.mk hB1
  clear hP1 hB1
  go_wp2_with fail
  refine (lives_any w1).mono ?_
  rintro e w2 ⟨rfl, hB2⟩
  have H3 := Aside0.mk (ks_start (below_then HB1.out hB2) (HP1.out.below hB2))
  have hs1 := HB1.out.size
  have hs2 := hB2.size
  have hsz : ((w2.alloc (.cells #[] TI)).alloc (.cells #[] TI)).heap.size = w2.heap.size + 2 := by simp
  clear HP1 HB1 hB2
  generalize capOk true cap = cp at *
  go_wp2_with fail
  go_loopw [6, 7, 8, 9, 10, 11, 12] (fun vP vG la ha no so i wr => ∃ (k : Nat) (s : Pt) (P G : List Int) (last now : Int) (has sm : Bool), k ≤ acts.length ∧ i = .int .i64 k ∧ la = .int .i64 last ∧ ha = .bool has ∧ no = .int .i64 now ∧ so = .bool sm ∧ Aside0 (KI k s P G) ∧ Aside0 (KsE W pa s vP vG P G wr)) (fun _ _ _ _ _ _ i _ => acts.length - (intOf i).toNat)
  case atStart => exact ⟨0, _, [], [], 0, 0, false, false, by omega, rfl, rfl, rfl, rfl, rfl, ⟨⟨rfl, List.Sublist.refl _, rfl, Nat.le_refl _⟩⟩, H3⟩
  case round =>
    clear H3 hsz
    obtain ⟨k, s, P, G, last, now, has, sm, hk, rfl, rfl, rfl, rfl, rfl, HI, HE⟩ := hrel
    obtain ⟨ok, okP, okG, hK⟩ := HE.out
    obtain ⟨AP, cP, rfl, -, -⟩ := Kd.R_reads hK.p
    obtain ⟨AG, cG, rfl, -, -⟩ := Kd.R_reads hK.g
    have HK := Aside0.mk hK
    have hBr := Aside0.mk (HA.out.trans (hK.below.mono (by omega)))
    have hXr := blk_below hX.out hK.below
    have s0 := cell_blk hXr 0; have s1 := cell_blk hXr 1
    simp at s0 s1
    have hXrl := lt_blk hXr
    clear hK HE
    by_cases hlt : k < acts.length
    · obtain ⟨ab, off, rfl, hab⟩ := C_form HC.out (by omega) (by decide)
      obtain ⟨⟨d, v⟩, ha, e0, e1⟩ := act_at HC.out k hlt
      simp only at e0 e1
      have y0 := (hBr.out.cell (p := ⟨ab, off + k * 2, none⟩) hab).trans e0
      have y1 := (hBr.out.cell (p := ⟨ab, off + k * 2 + 1, none⟩) hab).trans e1
      have hki : (0 : Int) ≤ (k : Int) := by omega
      have hkl : (k : Int) < (acts.length : Int) := by omega
      have E1 := Aside0.mk e1
      have HXr := Aside0.mk hXr
      clear ha e0 e1 hXr
      rcases (show d = 0 ∨ d = 1 ∨ d = 2 ∨ (d ≠ 0 ∧ d ≠ 1 ∧ d ≠ 2) by omega) with rfl | rfl | rfl | ⟨hd, hd', hd''⟩
      · have hT := port_put v HK.out.port
        go_wp2_with fail
        refine hT.mono ?_
        clear hT y0 y1 s0 s1 hXrl
        rintro e W5 ⟨rfl, hP5, hk5⟩
        have HE5 := Aside0.mk (HK.out.step hP5 hk5)
        obtain ⟨ok5, okP5, okG5, hK5⟩ := HE5.out
        have HK5 := Aside0.mk hK5
        have y1 := ((HA.out.trans (hK5.below.mono (by omega))).cell (p := ⟨ab, off + k * 2 + 1, none⟩) hab).trans E1.out
        have hW5 := hK5.below.size
        have habl : ab < W5.heap.size := by omega
        clear hP5 hk5 HE5 hK5
        have hIv := HI.out.put v
        cases hb : (putP s v).2 with
        | true =>
          rw [hb] at hIv
          simp only [if_true] at hIv
          have HI6 := Aside0.mk hIv
          have hPl : (P.length + 1) * 8 ≤ 140737488355328 := by have := HI.out.le; omega
          clear hIv hb
          go_wp2_with ((with_reducible refine gate_builtin (b := .append) (xs := #[.tmp 48, .tmp 54]) rfl ?_); at_builtin; refine Kd.R_append (Kd.int .i64) (w0 := W5) W.heap.size rfl (.tmp 48) (.tmp 54) 25 TI (.int .i64 0) 8 rfl Try.underlying25 infoI rfl (by decide) (by omega) (.slice AP P.length cP) P v [.int .i64 v] (fun k => okP5 k ∨ W5.heap.size ≤ k) (fun _ => False) rfl ?aX ?aM (fun _ h => h.elim) ?aF ?aO ?aB ?aS ?aL ?_; (case aX => first | rfl | exact congrArg (fun n => Value.slice (some ⟨n, 0, none⟩) 1 1) (by simp)); (case aM => exact rfl); (case aF => exact fun _ h => .inr h); (case aO => exact (Kd.R_mono HK5.out.p (fun _ h => .inl h))); (case aB => exact Below.refl _ _); (case aS => first | omega | (simp; omega)); (case aL => omega); intro v6 w6 ho hb hg hat; have hk1 := grown_keep hg; obtain ⟨A1, c1', he1, -, -⟩ := Kd.R_reads ho; rw [List.length_append, List.length_singleton] at he1; subst he1; have HE6 := Aside0.mk (HK5.out.pushP hk1 ho); have hab6 : ab < w6.heap.size := (by have := hg.size; omega); have hB6 := KsE.below HE6.out; have hB7 := HA.out.trans (hB6.mono hww.out); have y1 := (hB7.cell (p := ⟨ab, off + k * 2 + 1, none⟩) hab).trans E1.out; clear hB6 hB7)
          go_roundw
          case rel => exact ⟨k + 1, _, _, G, _, now, true, sm, by omega, by go_num, rfl, rfl, rfl, rfl, HI6, HE6⟩
          case measure => simp [intOf]; omega
        | false =>
          rw [hb] at hIv
          simp only [Bool.false_eq_true, if_false] at hIv
          have HI6 := Aside0.mk hIv
          clear hIv hb
          go_wp2
          go_roundw
          case rel => exact ⟨k + 1, _, P, G, last, now, has, sm, by omega, by go_num, rfl, rfl, rfl, rfl, HI6, ⟨⟨ok5, okP5, okG5, HK5.out⟩⟩⟩
          case measure => simp [intOf]; omega
      · have hT := port_get HK.out.port
        cases hin : s.inn with
        | nil =>
          rw [HI.out.getN hin] at hT
          go_wp2_with fail
          refine hT.mono ?_
          clear hT y0 y1 s0 s1 hXrl
          rintro e W5 ⟨rfl, hP5, hk5⟩
          have HE5 := Aside0.mk (HK.out.step hP5 hk5)
          obtain ⟨ok5, okP5, okG5, hK5⟩ := HE5.out
          have HK5 := Aside0.mk hK5
          have hXr := blk_below hX.out hK5.below
          have s0 := cell_blk hXr 0; have s1 := cell_blk hXr 1
          simp at s0 s1
          have hXrl := lt_blk hXr
          have hW5 := hK5.below.size
          clear hP5 hk5 HE5 hK5 hXr
          clear hin
          go_wp2
          go_roundw
          case rel => exact ⟨k + 1, s, P, G, last, now, has, sm, by omega, by go_num, rfl, rfl, rfl, rfl, ⟨HI.out.mono (by omega)⟩, ⟨⟨ok5, okP5, okG5, HK5.out⟩⟩⟩
          case measure => simp [intOf]; omega
        | cons x r =>
          obtain ⟨hg0, hI6⟩ := HI.out.getS hin
          have hx0 := (HK.out.port.good.a x (by rw [hin]; exact List.mem_cons_self)).1
          rw [hg0] at hT
          have HI6 := Aside0.mk (hI6.mono (Nat.le_succ k))
          have hGl : (G.length + 1) * 8 ≤ 140737488355328 := by have := hI6.cnt; have := hI6.le; have := HK.out.port.good.l; simp at *; omega
          obtain ⟨v, hv⟩ : ∃ v, v = x.f0 := ⟨_, rfl⟩
          obtain ⟨ag, hag⟩ : ∃ ag, ag = x.f1 := ⟨_, rfl⟩
          rw [← hv, ← hag] at hT
          rw [← hv] at HI6
          rw [← hag] at hx0
          have hda : decide (ag ≥ 0) = true := by simp; omega
          clear hg0 hI6 hin hv hag
          go_wp2_with fail
          refine hT.mono ?_
          clear hT y0 y1 s0 s1 hXrl
          rintro e W5 ⟨rfl, hP5, hk5⟩
          have HE5 := Aside0.mk (HK.out.step hP5 hk5)
          obtain ⟨ok5, okP5, okG5, hK5⟩ := HE5.out
          have HK5 := Aside0.mk hK5
          have hXr := blk_below hX.out hK5.below
          have s0 := cell_blk hXr 0; have s1 := cell_blk hXr 1
          simp at s0 s1
          have hXrl := lt_blk hXr
          have hW5 := hK5.below.size
          clear hP5 hk5 HE5 hK5 hXr
          go_wp2_with ((with_reducible refine gate_builtin (b := .append) (xs := #[.tmp 70, .tmp 72]) rfl ?_); at_builtin; refine Kd.R_append (Kd.int .i64) (w0 := W5) W.heap.size rfl (.tmp 70) (.tmp 72) 25 TI (.int .i64 0) 8 rfl Try.underlying25 infoI rfl (by decide) (by omega) (.slice AG G.length cG) G v [.int .i64 v] (fun k => okG5 k ∨ W5.heap.size ≤ k) (fun _ => False) rfl ?aX ?aM (fun _ h => h.elim) ?aF ?aO ?aB ?aS ?aL ?_; (case aX => first | rfl | exact congrArg (fun n => Value.slice (some ⟨n, 0, none⟩) 1 1) (by simp)); (case aM => exact rfl); (case aF => exact fun _ h => .inr h); (case aO => exact (Kd.R_mono HK5.out.g (fun _ h => .inl h))); (case aB => exact Below.refl _ _); (case aS => first | omega | (simp; omega)); (case aL => omega); intro v6 w6 ho hb hg hat; have hk1 := grown_keep hg; obtain ⟨A1, c1', he1, -, -⟩ := Kd.R_reads ho; rw [List.length_append, List.length_singleton] at he1; subst he1; have HE6 := Aside0.mk (HK5.out.pushG hk1 ho); have hX6 := blk_below hX.out (KsE.below HE6.out); have s0 := cell_blk hX6 0; have s1 := cell_blk hX6 1; simp at s0 s1; have hXl6 := lt_blk hX6; clear hX6)
          go_roundw
          case rel => exact ⟨k + 1, _, P, _, last, now, has, sm, by omega, by go_num, rfl, rfl, rfl, rfl, HI6, HE6⟩
          case measure => simp [intOf]; omega

      · have hT := port_deliver HK.out.port
        go_wp2_with fail
        refine hT.mono ?_
        clear hT y0 y1 s0 s1 hXrl
        rintro e W5 ⟨rfl, hP5, hk5⟩
        have HE5 := Aside0.mk (HK.out.step hP5 hk5)
        clear hP5 hk5
        cases has with
        | true =>
          go_wp2
          go_roundw
          case rel => exact ⟨k + 1, _, P, G, last, last, false, true, by omega, by go_num, rfl, rfl, rfl, rfl, ⟨(HI.out.deliver HK.out.port.good.l.1 (by omega)).mono (by omega)⟩, HE5⟩
          case measure => simp [intOf]; omega
        | false =>
          go_wp2
          go_roundw
          case rel => exact ⟨k + 1, _, P, G, last, now, false, sm, by omega, by go_num, rfl, rfl, rfl, rfl, ⟨(HI.out.deliver HK.out.port.good.l.1 (by omega)).mono (by omega)⟩, HE5⟩
          case measure => simp [intOf]; omega
      · go_wp2
        go_roundw
        case rel => exact ⟨k + 1, s, P, G, last, now, has, sm, by omega, by go_num, rfl, rfl, rfl, rfl, ⟨HI.out.mono (by omega)⟩, ⟨⟨ok, okP, okG, HK.out⟩⟩⟩
        case measure => simp [intOf]; omega
    · obtain rfl : k = acts.length := by omega
      have hT := port_state HK.out.port
      have hcnt := HI.out.cnt
      have hle := HI.out.le
      have hlo := HK.out.port.good.l
      have hsub := Aside0.mk ((List.sublist_append_left G _).trans HI.out.sub)
      go_wp2_with fail
      refine hT.mono ?_
      clear hT s0 s1 hXrl hXr
      rintro e w4 ⟨vO, vI, rfl, hR1, hR2, hB4⟩
      obtain ⟨AO, cO, rfl, -, -⟩ := Kd.R_reads hR1
      obtain ⟨AI, cI, rfl, -, -⟩ := Kd.R_reads hR2
      have HK4 := Aside0.mk (HK.out.then hB4)
      clear hR1 hR2 hB4 hBr HI
      have hA5 : Below w4.heap.size w4 (w4.alloc (.cells #[.bool s.q, .int .i64 s.cap, .slice AO s.out.length cO, .slice AI s.inn.length cI, .int .i64 s.lost] TZ)) := below_al (Below.refl _ _) _
      have HK5 := Aside0.mk (HK4.out.then hA5)
      clear hA5 HK HK4
      generalize s.out.length = no at *
      generalize s.inn.length = ni at *
      generalize s.lost = nl at *
      have hne : ((((G.length : Int) + (ni : Int)) + (no : Int)) + nl == (P.length : Int)) = true := by simp; omega
      have hnb : ((((G.length : Int) + (ni : Int)) + (no : Int)) + nl != (P.length : Int)) = false := by simp; omega
      have HCN := Aside0.mk hcnt
      have hGb : G.length ≤ 2000000 := by omega
      have hnib : ni ≤ 2000000 := by omega
      have hnob : no ≤ 2000000 := by omega
      clear hcnt
      go_wp2_with fail
      generalize (w4.alloc (.cells #[.bool s.q, .int .i64 s.cap, .slice AO no cO, .slice AI ni cI, .int .i64 nl] TZ)) = W5 at *
      go_loopw [16, 17] (fun kk ii wr => ∃ k i : Nat, k ≤ P.length ∧ i ≤ G.length ∧ kk = .int .i64 k ∧ ii = .int .i64 i ∧ Aside0 ((G.drop i).Sublist (P.drop k)) ∧ Aside0 (Below W5.heap.size W5 wr)) (fun _ ii _ => G.length - (intOf ii).toNat)
      case atStart => exact ⟨0, 0, by omega, by omega, rfl, rfl, hsub, ⟨Below.refl _ _⟩⟩
      case round =>
        clear hsub
        obtain ⟨k, i, hk, hi, rfl, rfl, HS, HB⟩ := hrel
        by_cases hig : i < G.length
        · obtain ⟨g, hgi⟩ : ∃ g, G[i]? = some g := ⟨_, List.getElem?_eq_getElem hig⟩
          have hgd : Aside0 (G.drop i = g :: G.drop (i + 1)) := ⟨by
            obtain ⟨h1, rfl⟩ := List.getElem?_eq_some_iff.1 hgi
            exact List.drop_eq_getElem_cons h1⟩
          have hii : (0 : Int) ≤ (i : Int) := by omega
          have hil : (i : Int) < (G.length : Int) := by omega
          have HGI := Aside0.mk hgi
          clear hgi
          go_wp2_with fail
          go_loopw [16] (fun kk wr => ∃ k : Nat, k ≤ P.length ∧ kk = .int .i64 k ∧ Aside0 ((G.drop i).Sublist (P.drop k)) ∧ Aside0 (Below W5.heap.size W5 wr)) (fun kk _ => P.length - (intOf kk).toNat)
          case atStart => exact ⟨k, hk, rfl, HS, HB⟩
          case round =>
            clear HS HB
            obtain ⟨k, hk, rfl, HS, HB⟩ := hrel
            have hkp : k < P.length := by
              have := HS.out
              rw [hgd.out] at this
              have := this.length_le
              simp at this
              omega
            obtain ⟨p, hpk⟩ : ∃ p, P[k]? = some p := ⟨_, List.getElem?_eq_getElem hkp⟩
            have hpd : P.drop k = p :: P.drop (k + 1) := by
              obtain ⟨h1, rfl⟩ := List.getElem?_eq_some_iff.1 hpk
              exact List.drop_eq_getElem_cons h1
            have hsb := HS.out
            rw [hgd.out, hpd] at hsb
            obtain ⟨_, _, he, -, hC1⟩ := Kd.R_reads (Kd.R_below HK5.out.p HB.out)
            injection he with he1 he2 he3
            subst he1 he3
            obtain ⟨_, _, he, -, hC2⟩ := Kd.R_reads (Kd.R_below HK5.out.g HB.out)
            injection he with he1 he2 he3
            subst he1 he3
            obtain ⟨a1, o1, rfl, hg1⟩ := C_form hC1 (by omega) (by decide)
            obtain ⟨a2, o2, rfl, hg2⟩ := C_form hC2 (by omega) (by decide)
            have y1 := ints_at hC1 k hkp
            have y2 := ints_at hC2 i hig
            have hr1 : rd P (k : Int) = p := by simp [rd, List.getD_eq_getElem?_getD, hpk]
            have hr2 : rd G (i : Int) = g := by simp [rd, List.getD_eq_getElem?_getD, HGI.out]
            rw [hr1] at y1
            rw [hr2] at y2
            have hkki : (0 : Int) ≤ (k : Int) := by omega
            have hkkl : (k : Int) < (P.length : Int) := by omega
            have hdk : decide ((k : Int) < (P.length : Int)) = true := by simp; omega
            clear hC1 hC2 hr1 hr2 hpd hpk he2
            by_cases hpg : p = g
            · subst hpg
              have HS2 := Aside0.mk (sub_eq hsb)
              clear hsb
              have hkne : ((k : Int) == (P.length : Int)) = false := by simp; omega
              go_wp2_with fail
              go_region
              go_wp2
              go_roundw
              case rel => exact ⟨k + 1, i + 1, by omega, by omega, by go_num, by go_num, HS2, ⟨HB.out.drew⟩⟩
              case measure => simp [intOf]; omega
            · have HS2 : Aside0 ((G.drop i).Sublist (P.drop (k + 1))) := ⟨by rw [hgd.out]; exact sub_ne hsb hpg⟩
              have hpg2 : (p == g) = false := by simp [hpg]
              clear hsb
              go_wp2_with fail
              go_region
              go_wp2
              go_roundw
              case rel => exact ⟨k + 1, by omega, by go_num, HS2, ⟨HB.out.drew⟩⟩
              case measure => simp [intOf]; omega
        · obtain rfl : i = G.length := by omega
          go_wp2
          go_ret
          exact ⟨rfl, HA.out.trans ((below_then HK5.out.below HB.out).mono hww.out)⟩
theorem portKeeps.walk (w : World) (cs : Array Value) (x : Bool × Int) (hK : kSh.K w x cs.toList) (_ : True) (A : Option Addr) (c : Nat) (acts : List Ac) (hc : acts.length ≤ c) (hC : kAc.C w A acts.length acts) (_ : acts.length * Try.prog.bytesOf 30 ≤ reachBytes ∧ acts.length ≤ 9223372036854775807 ∧ ∀ x ∈ acts, True) (hM : 1 + acts.length ≤ 1048576) :
    Calls Try.prog 6 #[.agg cs, .slice A acts.length c] w fun e w' => e = .returned (.bool true) ∧ Below w.heap.size w w' := by
  obtain rfl : cs = #[.bool x.1, .int .i64 x.2] := Array.toList_inj.1 (kSh_open hK)
  obtain ⟨q, cap⟩ := x
  cases q with
  | true => exact keepsT w cap A c acts hC hc (by omega)
  | false => exact keepsF w cap A c acts hC hc (by omega)
theorem portKeeps.own : ownKnob Try.prog.godebug = none := by kernel_rfl
theorem portKeeps.laidOut : laidOutB Try.prog = true := by kernel_rfl
set_option maxRecDepth 100000 in
set_option maxHeartbeats 1000000 in
theorem portKeeps.lifted (os : Os) (started : os.Started) (H : Type) (enc : TypeId × Value → H)
  (F : Stop.Interp) : ReturnsInHanded {} Try.checked os 6 .any ((Rows.OpenSpec.upto Rows.portKeepsSpec).pre6 enc Try.prog Try.f6 Rows.portKeepsUptoRow.domain false) (((Rows.OpenSpec.upto Rows.portKeepsSpec).at F).post enc Try.prog Try.f6 false true false false) := by
  refine returnsInHanded_of_cond_sized (C := Try.checked) (s := Rows.OpenSpec.upto Rows.portKeepsSpec) (k := Rows.uptoSmall) rfl portKeeps.own started (by kernel_rfl) Try.func6
    (OpenSpec.witness (enc := enc) (C := Try.checked) (s := Rows.OpenSpec.upto Rows.portKeepsSpec) (k := Rows.uptoSmall) rfl false ⟨#[], #[.agg #[.bool false, .int .i64 0], .slice none 0 0], []⟩ 8 (by kernel_rfl) (by kernel_rfl) (by kernel_rfl)
      (x := ([.agg [.lit (.bool false), .lit (.int .i64 0)], .nil], [], [])) (by kernel_rfl) rfl (by kernel_rfl)) ?_
  intro W base args ds gs before hval0 hW hcnd hk hsz0 _
  have hsz : (DataW.weightsEach Try.prog (Try.f6.params.toList ++ Rows.portKeepsSpec.plain.varTypes Try.prog) (ds ++ gs)).all (· ≤ reachBytes) = true := hsz0
  have hval : ∀ (j : Nat) t v, Try.f6.params[j]? = some t → args[j]? = some v → Value.okWide Try.prog W .any base t v := hval0
  have hW' := hW
  obtain ⟨p, q, hA0, hV, rfl, hfz, hnd⟩ := hW
  have hA : DataW.TrodAll enc Try.prog W 0 (fun _ => true) true Try.f6.params.toList args.toList ds p := hA0
  rw [Try.params6] at hA hval hsz
  obtain ⟨v0, vs0, d0, ds0, p0, q0, hargs, rfl, rfl, h0, r0⟩ := trodAll_cons hA
  obtain ⟨v1, vs1, d1, ds1, p1, q1, rfl, rfl, rfl, h1, r1⟩ := trodAll_cons r0
  obtain ⟨rfl, rfl, rfl⟩ := trodAll_nil r1
  obtain rfl : args = #[v0, v1] := by cases args; simp_all
  obtain ⟨rfl, rfl⟩ := trodVars_none hV
  have k0 := h0
  have lt0 : ∀ x ∈ p0, x.block < W.heap.size := by obtain ⟨m, hm⟩ := k0; exact DataW.trod_lt m _ _ _ hm
  have W0 := Op.weights_of hsz (j := 0) (t := 23) (d := d0) rfl rfl
  obtain ⟨cs0, rfl, sz0⟩ := okWide_struct Try.underlying23 (hval 0 23 v0 rfl rfl)
  obtain ⟨f0, hf0⟩ := h0
  obtain ⟨a0, hK0, hG0, hM0⟩ := opensSh H enc W _ true f0 _ (d0, p0) hf0 W0
  have k1 := h1
  have lt1 : ∀ x ∈ p1, x.block < W.heap.size := by obtain ⟨m, hm⟩ := k1; exact DataW.trod_lt m _ _ _ hm
  have W1 := Op.weights_of hsz (j := 1) (t := 24) (d := d1) rfl rfl
  obtain ⟨A1, len1, cap1, rfl⟩ := okWide_slice Try.underlying24 (hval 1 24 v1 rfl rfl)
  obtain ⟨f1, hf1⟩ := h1
  obtain ⟨a1, hK1, hG1, hM1⟩ := opensActs H enc W _ true f1 _ (d1, p1) hf1 W1
  obtain ⟨A', c', he1, hc1, hC1⟩ := hK1
  obtain ⟨rfl, rfl, rfl⟩ : A1 = A' ∧ len1 = a1.length ∧ cap1 = c' := by simpa [Value.cells] using he1
  have hM : Rows.uptoBulk d0 + Rows.uptoBulk d1 ≤ 1048576 := by
    have := of_decide_eq_true hk
    simp only [List.append_nil, Rows.uptoBulkAll] at this
    omega
  have hMM := Nat.le_trans (Nat.add_le_add hM0 hM1) hM
  clear hA0 hval0 hsz0 hsz
  refine (portKeeps.walk W cs0 a0 hK0 hG0 A1 cap1 a1 hc1 hC1 hG1 hMM).mono fun e W' ⟨he, bel⟩ => ?_
  subst he
  exact ⟨_, rfl, _, _, _, [], _, [], hW', trodAll_mk1 (shut_bool Try.underlying4 _), (trodAll_cons_mk (Below.trod portKeeps.laidOut (by kernel_rfl) (of_decide_eq_true (by kernel_rfl)) k0 bel lt0) (trodAll_cons_mk (Below.trod portKeeps.laidOut (by kernel_rfl) (of_decide_eq_true (by kernel_rfl)) k1 bel lt1) trodAll_mk0)), rfl, bel.frame _, fun h => by cases h⟩
theorem portKeeps_holds : Rows.PortKeepsUptoSaid :=
  OpenClaim.holds_of_cond 6 Try.f6 rfl rfl rfl rfl rfl rfl rfl ⟨rfl, rfl, rfl, rfl, rfl⟩ rfl rfl rfl rfl rfl (by kernel_rfl) Try.func6 (by kernel_rfl)
    (of_decide_eq_true (by kernel_rfl)) (by unfold Func.isWrapper; first | (rw [if_pos (by decide +kernel)]; kernel_rfl) | (rw [if_neg (by decide +kernel)]; exact ⟨rfl, rfl⟩))
    (fun os started H enc _ F => portKeeps.lifted os started H enc F)
#print axioms portKeeps_holds

end Go.Proofs.Ytdienpcifklinaa
