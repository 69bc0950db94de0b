import Derived.Test.YtdienpcifklinaaPtD
import Derived.LaidEqlPtr
set_option linter.unusedSimpArgs false
set_option linter.unusedVariables false
namespace Go.Proofs.Ytdienpcifklinaa
open Go.RowKit Go.Proofs.YtdienpcifklinaaW.PrintWords Go.Proofs.YtdienpcifklinaaW.PrintMore Go.Proofs.YtdienpcifklinaaW.PrintLast
/-! The methods of a port; New; lives, made: printed by gen15c.py. -/
theorem putP_q (s : Pt) (v : Int) : (putP s v).1.q = s.q := by unfold putP; split <;> (try split) <;> rfl
theorem getP_q (s : Pt) : (getP s).1.q = s.q := by unfold getP; split <;> (try split) <;> rfl
theorem delivP_q (s : Pt) : (delivP s).q = s.q := by unfold delivP; split <;> (try split) <;> rfl
theorem putP_good {s : Pt} (v : Int) (h : Good s) : Good (putP s v).1 := by
  have h1 := h.o
  have h2 := h.c0
  unfold putP
  split
  · split
    · exact h
    · exact ⟨h.c0, h.c1, by simp; omega, h.i, h.a, h.l⟩
  · exact ⟨h.c0, h.c1, by simp; omega, h.i, h.a, h.l⟩
theorem getP_good {s : Pt} (h : Good s) : Good (getP s).1 := by
  have h1 := h.i
  unfold getP
  split
  · exact h
  · rename_i x r hx
    split
    · rw [hx, List.length_cons] at h1
      exact ⟨h.c0, h.c1, h.o, by simp only; omega, fun y hy => h.a y (by rw [hx]; exact List.mem_cons_of_mem _ hy), h.l⟩
    · exact h
theorem oldA_ok {x : Ag} (h : 0 ≤ x.f1 ∧ x.f1 ≤ 2147483647) : 0 ≤ (oldA x).f1 ∧ (oldA x).f1 ≤ 2147483647 := by
  unfold oldA olderI; simp only; split <;> omega
theorem comes_ages {cap : Int} : ∀ (l : List Int) (r : List Ag × Int), (∀ x ∈ r.1, 0 ≤ x.f1 ∧ x.f1 ≤ 2147483647) → ∀ x ∈ (l.foldl (comes cap) r).1, 0 ≤ x.f1 ∧ x.f1 ≤ 2147483647
  | [], r, h => h
  | v :: l, r, h => by
    rw [List.foldl_cons]
    refine comes_ages l _ (fun x hx => ?_)
    unfold comes at hx
    split at hx
    · rcases List.mem_append.1 hx with hx | hx
      · exact h x hx
      · rw [List.mem_singleton.1 hx]; exact ⟨Int.le_refl _, by show (0 : Int) ≤ _; omega⟩
    · exact h x hx
theorem delivP_good {s : Pt} (h : Good s) : Good (delivP s) := by
  have h2 := h.c0
  have h3 := h.i
  have ha : ∀ x ∈ s.inn.map oldA, 0 ≤ x.f1 ∧ x.f1 ≤ 2147483647 := fun x hx => by
    obtain ⟨y, hy, rfl⟩ := List.mem_map.1 hx
    exact oldA_ok (h.a y hy)
  have hk := inTo_ok h s.out.length
  unfold inTo at hk
  rw [List.take_length] at hk
  unfold delivP
  split
  · exact ⟨h.c0, h.c1, by simp; omega, hk.1, comes_ages _ _ ha, hk.2⟩
  · split
    · exact ⟨h.c0, h.c1, h.o, by simp; exact h3, ha, h.l⟩
    · exact ⟨h.c0, h.c1, by simp; omega, by simp; omega, fun x hx => by rw [List.mem_singleton.1 hx]; exact ⟨Int.le_refl _, by show (0 : Int) ≤ _; omega⟩, h.l⟩
theorem Kept1.mono {w : World} {base d : Nat} {ok ok' : Nat → Prop} {s : Pt} (h : Kept1 w base ok d s) (hok : ∀ k, ok k → ok' k) : Kept1 w base ok' d s := by
  rcases h with ⟨hq, vO, vI, h⟩ | ⟨hq, age, vO, vI, h⟩
  · exact .inl ⟨hq, vO, vI, h.mono hok⟩
  · exact .inr ⟨hq, age, vO, vI, ⟨h.blk, Kd.R_mono h.o hok, Kd.R_mono h.i hok, h.one, h.ol, h.cap, h.lost, h.age⟩⟩
abbrev No (ok : Nat → Prop) (b : Nat) (k : Nat) : Prop := ok k ∧ k ≠ b
theorem IsPort.behind {w w' : World} {base b d : Nat} {ok : Nat → Prop} {s s' : Pt} (h : PtH w base ok b d s) (hk : Keep (No ok b) w w') (h1 : Kept1 w' base (Ex (No ok b) w w') d s') (hq : s'.q = s.q) (hg : Good s') : IsPort w' base (Ex ok w w') b s' ∧ Keep ok w w' :=
  ⟨⟨d, fun k hk' => by
    rcases hk' with hk' | hk'
    · have := h.z k hk'; have := hk.size; omega
    · have := (h.z b h.hb).1; have := (h.z b h.hb).2; omega, .inl h.hb, .inl h.hd, by rw [hq]; exact blk_keep h.port hk (fun f => f.2 rfl), h1.mono (fun k h => h.imp (fun h => h.1) id), hg⟩, hk.mono (fun _ _ h => h.1)⟩
theorem PtQ.avoid {w : World} {base b d : Nat} {ok : Nat → Prop} {s : Pt} {vO vI p : Value} (h : PtQ w base ok d s vO vI) (hb : w.heap[b]? = some (.cells #[p] 56 (0, 0))) : PtQ w base (No ok b) d s vO vI ∧ d ≠ b :=
  ⟨⟨h.blk, Kd.R_types h.o hb (fun q hq => by rw [List.mem_singleton.1 hq]; decide), Kd.R_types h.i hb (fun q hq => by rw [List.mem_singleton.1 hq]; decide)⟩, fun e => by subst e; exact absurd (blk_types hb h.blk) (by decide)⟩
theorem PtS.avoid {w : World} {base b d : Nat} {ok : Nat → Prop} {s : Pt} {age : Int} {vO vI p : Value} (h : PtS w base ok d s age vO vI) (hb : w.heap[b]? = some (.cells #[p] 56 (0, 0))) : PtS w base (No ok b) d s age vO vI ∧ d ≠ b :=
  ⟨⟨h.blk, Kd.R_types h.o hb (fun q hq => by rw [List.mem_singleton.1 hq]; decide), Kd.R_types h.i hb (fun q hq => by rw [List.mem_singleton.1 hq]; decide), h.one, h.ol, h.cap, h.lost, h.age⟩, fun e => by subst e; exact absurd (blk_types hb h.blk) (by decide)⟩
theorem port_put {w : World} {base b : Nat} {ok : Nat → Prop} {s : Pt} (v : Int) (h : IsPort w base ok b s) : Calls Try.prog 11 #[.pointer (some ⟨b, 0, none⟩), .int .i64 v] w fun e w' => e = .returned (.bool (putP s v).2) ∧ IsPort w' base (Ex ok w w') b (putP s v).1 ∧ Keep ok w w' := by
  obtain ⟨d, h⟩ := h
  have H := Aside0.mk h
  have c0 := cell_blk h.port 0
  simp at c0
  have hbl := lt_blk h.port
  rcases h.in1 with ⟨hq, vO, vI, hQ⟩ | ⟨hq, age, vO, vI, hS⟩
  · obtain ⟨hQ1, hdb⟩ := hQ.avoid h.port
    have hm : ∀ w, (method 191 58 (.pointer (some ⟨d, 0, none⟩)) "rota/port.put").run Try.prog w = .ok (47, .pointer (some ⟨d, 0, none⟩)) w := fun _ => by kernel_rfl
    have hC := qput v hq hQ1 ⟨h.hd, hdb⟩ (fun k hk => h.z k hk.1) h.g
    rw [hq, show TP true = 58 from rfl] at c0
    clear h hQ hQ1
    go_enter Try.func11, Try.ntmps11
    go_wp2_with fail
    refine hC.mono ?_
    clear hC
    rintro e w1 ⟨rfl, h1, hk1⟩
    have HE := Aside0.mk (IsPort.behind H.out hk1 h1 (putP_q s v) (putP_good v H.out.g))
    clear h1 hk1
    go_wp2
    go_ret
    exact ⟨rfl, HE.out.1, HE.out.2⟩
  · obtain ⟨hS1, hdb⟩ := hS.avoid h.port
    have hm : ∀ w, (method 191 61 (.pointer (some ⟨d, 0, none⟩)) "rota/port.put").run Try.prog w = .ok (53, .pointer (some ⟨d, 0, none⟩)) w := fun _ => by kernel_rfl
    have hC := sput v hq hS1 ⟨h.hd, hdb⟩ (fun k hk => h.z k hk.1)
    rw [hq, show TP false = 61 from rfl] at c0
    clear h hS hS1
    go_enter Try.func11, Try.ntmps11
    go_wp2_with fail
    refine hC.mono ?_
    clear hC
    rintro e w1 ⟨rfl, h1, hk1⟩
    have HE := Aside0.mk (IsPort.behind H.out hk1 h1 (putP_q s v) (putP_good v H.out.g))
    clear h1 hk1
    go_wp2
    go_ret
    exact ⟨rfl, HE.out.1, HE.out.2⟩
theorem port_get {w : World} {base b : Nat} {ok : Nat → Prop} {s : Pt} (h : IsPort w base ok b s) : Calls Try.prog 12 #[.pointer (some ⟨b, 0, none⟩)] w fun e w' => e = .returned (.tuple #[.int .i64 (getP s).2.1, .int .i64 (getP s).2.2]) ∧ IsPort w' base (Ex ok w w') b (getP s).1 ∧ Keep ok w w' := by
  obtain ⟨d, h⟩ := h
  have H := Aside0.mk h
  have c0 := cell_blk h.port 0
  simp at c0
  have hbl := lt_blk h.port
  rcases h.in1 with ⟨hq, vO, vI, hQ⟩ | ⟨hq, age, vO, vI, hS⟩
  · obtain ⟨hQ1, hdb⟩ := hQ.avoid h.port
    have hm : ∀ w, (method 191 58 (.pointer (some ⟨d, 0, none⟩)) "rota/port.get").run Try.prog w = .ok (46, .pointer (some ⟨d, 0, none⟩)) w := fun _ => by kernel_rfl
    have hC := qget hq hQ1 ⟨h.hd, hdb⟩ (fun k hk => h.z k hk.1)
    rw [hq, show TP true = 58 from rfl] at c0
    clear h hQ hQ1
    go_enter Try.func12, Try.ntmps12
    go_wp2_with fail
    refine hC.mono ?_
    clear hC
    rintro e w1 ⟨rfl, h1, hk1⟩
    have HE := Aside0.mk (IsPort.behind H.out hk1 h1 (getP_q s) (getP_good H.out.g))
    clear h1 hk1
    go_wp2
    go_ret2
    exact ⟨rfl, HE.out.1, HE.out.2⟩
  · obtain ⟨hS1, hdb⟩ := hS.avoid h.port
    have hm : ∀ w, (method 191 61 (.pointer (some ⟨d, 0, none⟩)) "rota/port.get").run Try.prog w = .ok (52, .pointer (some ⟨d, 0, none⟩)) w := fun _ => by kernel_rfl
    have hC := sget hq hS1
    rw [hq, show TP false = 61 from rfl] at c0
    clear h hS hS1
    go_enter Try.func12, Try.ntmps12
    go_wp2_with fail
    refine hC.mono ?_
    clear hC
    rintro e w1 ⟨rfl, h1, hk1⟩
    have HE := Aside0.mk (IsPort.behind H.out hk1 h1 (getP_q s) (getP_good H.out.g))
    clear h1 hk1
    go_wp2
    go_ret2
    exact ⟨rfl, HE.out.1, HE.out.2⟩
theorem port_deliver {w : World} {base b : Nat} {ok : Nat → Prop} {s : Pt} (h : IsPort w base ok b s) : Calls Try.prog 13 #[.pointer (some ⟨b, 0, none⟩)] w fun e w' => e = .returned (.tuple #[]) ∧ IsPort w' base (Ex ok w w') b (delivP s) ∧ Keep ok w w' := by
  obtain ⟨d, h⟩ := h
  have H := Aside0.mk h
  have c0 := cell_blk h.port 0
  simp at c0
  have hbl := lt_blk h.port
  rcases h.in1 with ⟨hq, vO, vI, hQ⟩ | ⟨hq, age, vO, vI, hS⟩
  · obtain ⟨hQ1, hdb⟩ := hQ.avoid h.port
    have hm : ∀ w, (method 191 58 (.pointer (some ⟨d, 0, none⟩)) "rota/port.deliver").run Try.prog w = .ok (45, .pointer (some ⟨d, 0, none⟩)) w := fun _ => by kernel_rfl
    have hC := qdeliv hq hQ1 ⟨h.hd, hdb⟩ (fun k hk => h.z k hk.1) h.g
    rw [hq, show TP true = 58 from rfl] at c0
    clear h hQ hQ1
    go_enter Try.func13, Try.ntmps13
    go_wp2_with fail
    refine hC.mono ?_
    clear hC
    rintro e w1 ⟨rfl, h1, hk1⟩
    have HE := Aside0.mk (IsPort.behind H.out hk1 h1 (delivP_q s) (delivP_good H.out.g))
    clear h1 hk1
    go_wp2
    go_end0
    exact ⟨rfl, HE.out.1, HE.out.2⟩
  · obtain ⟨hS1, hdb⟩ := hS.avoid h.port
    have hm : ∀ w, (method 191 61 (.pointer (some ⟨d, 0, none⟩)) "rota/port.deliver").run Try.prog w = .ok (51, .pointer (some ⟨d, 0, none⟩)) w := fun _ => by kernel_rfl
    have hC := sdeliv hq hS1 ⟨h.hd, hdb⟩
    rw [hq, show TP false = 61 from rfl] at c0
    clear h hS hS1
    go_enter Try.func13, Try.ntmps13
    go_wp2_with fail
    refine hC.mono ?_
    clear hC
    rintro e w1 ⟨rfl, h1, hk1⟩
    have HE := Aside0.mk (IsPort.behind H.out hk1 h1 (delivP_q s) (delivP_good H.out.g))
    clear h1 hk1
    go_wp2
    go_end0
    exact ⟨rfl, HE.out.1, HE.out.2⟩
set_option maxHeartbeats 1000000 in
theorem port_state {w : World} {base b : Nat} {ok : Nat → Prop} {s : Pt} (h : IsPort w base ok b s) : Calls Try.prog 18 #[.pointer (some ⟨b, 0, none⟩)] w (StateP s w) := by
  obtain ⟨d, h⟩ := h
  have H := Aside0.mk h
  have hA : Below w.heap.size w (w.alloc (.cells #[.bool false, .int .i64 0, .slice none 0 0, .slice none 0 0, .int .i64 0] TZ)) := below_al (Below.refl _ _) _
  have hRes : Aside0 ((w.alloc (.cells #[.bool false, .int .i64 0, .slice none 0 0, .slice none 0 0, .int .i64 0] TZ)).heap[w.heap.size]? = some (.cells #[.bool false, .int .i64 0, .slice none 0 0, .slice none 0 0, .int .i64 0] TZ (0, 0))) := ⟨blk_new _ _⟩
  have c0 := cell_blk (blk_below h.port hA) 0
  simp at c0
  have hbl := lt_blk (blk_below h.port hA)
  rcases h.in1 with ⟨hq, vO, vI, hQ⟩ | ⟨hq, age, vO, vI, hS⟩
  · skip
    have hm : ∀ w, (method 191 58 (.pointer (some ⟨d, 0, none⟩)) "rota/port.state").run Try.prog w = .ok (48, .pointer (some ⟨d, 0, none⟩)) w := fun _ => by kernel_rfl
    have hC := qstate hq (hQ.move (fun k hk hl => hA.block k hl) h.hd) h.g
    rw [hq, show TP true = 58 from rfl] at c0
    have HW := Aside0.mk hA
    clear h hQ hA
    go_enter Try.func18, Try.ntmps18
    go_wp2_with fail
    generalize (w.alloc (.cells #[.bool false, .int .i64 0, .slice none 0 0, .slice none 0 0, .int .i64 0] TZ)) = W at *
    refine hC.mono ?_
    clear hC
    rintro e w1 ⟨vO1, vI1, rfl, hR1, hR2, hB1⟩
    obtain ⟨A1, c1, rfl⟩ := Kd.R_slice hR1
    obtain ⟨A2, c2, rfl⟩ := Kd.R_slice hR2
    have hRw := blk_below hRes.out hB1
    obtain ⟨r0, r1, r2, r3, r4⟩ := cells5 hRw
    obtain ⟨p0, p1, p2, p3, p4⟩ := froz5 hRw
    have hRl := lt_blk hRw
    have HL := Aside0.mk (And.intro hB1 (And.intro hR1 hR2))
    have HRw := Aside0.mk hRw
    clear hB1 hR1 hR2 hRw
    rw [hq]
    go_wp2
    have h5 := blk_set5 (u0 := .bool true) (u1 := .int .i64 s.cap) (u2 := .slice A1 s.out.length c1) (u3 := .slice A2 s.inn.length c2) (u4 := .int .i64 s.lost) HRw.out
    have hk5 := set5_keep w1 w.heap.size (.bool true) (.int .i64 s.cap) (.slice A1 s.out.length c1) (.slice A2 s.inn.length c2) (.int .i64 s.lost)
    obtain ⟨z0, z1, z2, z3, z4⟩ := cells5 h5
    have hE1 := Kd.R_lower (R_keepT HL.out.2.1 rfl HRw.out (by decide) hk5) HW.out.size
    have hE2 := Kd.R_lower (R_keepT HL.out.2.2 rfl HRw.out (by decide) hk5) HW.out.size
    have hBB := below_then_keep (HW.out.trans (HL.out.1.mono HW.out.size)) (by have := HL.out.1.size; have := HW.out.size; omega) hk5 (fun i e => by omega)
    refine bodyPost_ret (v := .agg #[.bool true, .int .i64 s.cap, .slice A1 s.out.length c1, .slice A2 s.inn.length c2, .int .i64 s.lost]) (by simp [results, Try.results18, go_sem, z0, z1, z2, z3, z4]) rfl ⟨_, _, by rw [hq], hE1, hE2, hBB⟩
  · skip
    have hm : ∀ w, (method 191 61 (.pointer (some ⟨d, 0, none⟩)) "rota/port.state").run Try.prog w = .ok (54, .pointer (some ⟨d, 0, none⟩)) w := fun _ => by kernel_rfl
    have hC := sstate hq (hS.move (fun k hk hl => hA.block k hl) h.hd)
    rw [hq, show TP false = 61 from rfl] at c0
    have HW := Aside0.mk hA
    clear h hS hA
    go_enter Try.func18, Try.ntmps18
    go_wp2_with fail
    generalize (w.alloc (.cells #[.bool false, .int .i64 0, .slice none 0 0, .slice none 0 0, .int .i64 0] TZ)) = W at *
    refine hC.mono ?_
    clear hC
    rintro e w1 ⟨vO1, vI1, rfl, hR1, hR2, hB1⟩
    obtain ⟨A1, c1, rfl⟩ := Kd.R_slice hR1
    obtain ⟨A2, c2, rfl⟩ := Kd.R_slice hR2
    have hRw := blk_below hRes.out hB1
    obtain ⟨r0, r1, r2, r3, r4⟩ := cells5 hRw
    obtain ⟨p0, p1, p2, p3, p4⟩ := froz5 hRw
    have hRl := lt_blk hRw
    have HL := Aside0.mk (And.intro hB1 (And.intro hR1 hR2))
    have HRw := Aside0.mk hRw
    clear hB1 hR1 hR2 hRw
    rw [hq]
    go_wp2
    have h5 := blk_set5 (u0 := .bool false) (u1 := .int .i64 s.cap) (u2 := .slice A1 s.out.length c1) (u3 := .slice A2 s.inn.length c2) (u4 := .int .i64 s.lost) HRw.out
    have hk5 := set5_keep w1 w.heap.size (.bool false) (.int .i64 s.cap) (.slice A1 s.out.length c1) (.slice A2 s.inn.length c2) (.int .i64 s.lost)
    obtain ⟨z0, z1, z2, z3, z4⟩ := cells5 h5
    have hE1 := Kd.R_lower (R_keepT HL.out.2.1 rfl HRw.out (by decide) hk5) HW.out.size
    have hE2 := Kd.R_lower (R_keepT HL.out.2.2 rfl HRw.out (by decide) hk5) HW.out.size
    have hBB := below_then_keep (HW.out.trans (HL.out.1.mono HW.out.size)) (by have := HL.out.1.size; have := HW.out.size; omega) hk5 (fun i e => by omega)
    refine bodyPost_ret (v := .agg #[.bool false, .int .i64 s.cap, .slice A1 s.out.length c1, .slice A2 s.inn.length c2, .int .i64 s.lost]) (by simp [results, Try.results18, go_sem, z0, z1, z2, z3, z4]) rfl ⟨_, _, by rw [hq], hE1, hE2, hBB⟩
def sizeOk (q : Bool) (cap : Int) : Bool := decide (1 ≤ cap) && (decide (cap ≤ 1024) && (q || decide (cap = 1)))
theorem size_any (q : Bool) (cap : Int) (w : World) : Calls Try.prog 23 #[.bool q, .int .i64 cap] w fun e w' => e = .returned (.bool (sizeOk q cap)) ∧ Below w.heap.size w w' := by
  have h : PPortOwn.port_size.f q cap = some (sizeOk q cap) := by
    unfold PPortOwn.port_size.f sizeOk
    by_cases h1 : 1 ≤ cap
    · by_cases h2 : cap ≤ 1024
      · cases q with
        | true => simp [h1, h2]
        | false => simp [h1, h2]; by_cases h3 : cap = 1 <;> simp [h3]
      · simp [h1, h2]
    · simp [h1]
  exact (PPortOwn.port_size.calls q cap _ w h).mono (fun e w' h => ⟨h.1, h.2.below⟩)
def newP (q : Bool) (cap : Int) : Pt := ⟨q, cap, [], [], 0⟩
def NewP (q : Bool) (cap : Int) (w : World) (e : Ending) (w' : World) : Prop := Below w.heap.size w w' ∧ ((sizeOk q cap = true ∧ ∃ b ok, e = .returned (.tuple #[.pointer (some ⟨b, 0, none⟩), .int .i64 0]) ∧ IsPort w' w.heap.size ok b (newP q cap)) ∨ (sizeOk q cap = false ∧ e = .returned (.tuple #[.pointer none, .int .i64 1])))
theorem sizeOk_iff {q : Bool} {cap : Int} (h : sizeOk q cap = true) : 1 ≤ cap ∧ cap ≤ 1024 ∧ (q = false → cap = 1) := by
  simp only [sizeOk, Bool.and_eq_true, decide_eq_true_eq, Bool.or_eq_true] at h
  exact ⟨h.1, h.2.1, fun hq => by rcases h.2.2 with h | h; rw [hq] at h; cases h; exact h⟩
set_option maxHeartbeats 1000000 in
theorem port_new (q : Bool) (cap : Int) (w : World) : Calls Try.prog 14 #[.bool q, .int .i64 cap] w (NewP q cap w) := by
  have hS := size_any q cap w
  go_enter Try.func14, Try.ntmps14
  go_wp2_with fail
  refine hS.mono ?_
  clear hS
  rintro e w1 ⟨rfl, hB⟩
  have HB := Aside0.mk hB
  cases hk : sizeOk q cap with
  | false =>
    go_wp2
    go_ret2
    exact ⟨HB.out, .inr ⟨hk, rfl⟩⟩
  | true =>
    obtain ⟨hc0, hc1, hc2⟩ := sizeOk_iff hk
    have hk0 := Aside0.mk hk
    have hsz := hB.size
    clear hB hc2
    cases q with
    | true =>
      go_wp2
      go_ret2
      have hk2 : Below w.heap.size w ((w1.alloc (.cells #[.int .i64 cap, .slice none 0 0, .slice none 0 0, .int .i64 0] TQ)).alloc (.cells #[.iface 58 (.pointer (some ⟨w1.heap.size, 0, none⟩))] 56)) := (by repeat (first | (with_reducible exact HB.out) | (with_reducible refine Below.drew ?_) | (with_reducible refine below_drewN ?_ _) | (with_reducible refine below_al ?_ _) | (with_reducible refine Below.alloc ?_ (by first | exact Nat.le_refl _ | omega | (simp; done) | (simp; omega)) _) | (with_reducible refine Below.setCell ?_ (by first | (simp only []; omega) | (simp; done) | (simp; omega)) _)))
      refine ⟨hk2, .inl ⟨hk, w1.heap.size + 1, fun k => k = w1.heap.size ∨ k = w1.heap.size + 1, rfl, w1.heap.size, fun k hk => ?_, .inr rfl, .inl rfl, ?_, .inl ⟨rfl, .slice none 0 0, .slice none 0 0, ⟨blk_alloc (blk_new _ _), Kd.R_nil _ _ _ _ _, Kd.R_nil _ _ _ _ _⟩⟩, ⟨hc0, hc1, (by simp [newP]; omega), (by simp [newP]; omega), (fun x hx => by cases hx), (by simp [newP])⟩⟩⟩
      · simp; omega
      · exact blk_new1 _ _ _
    | false =>
      go_wp2
      go_ret2
      have hk2 : Below w.heap.size w ((w1.alloc (.cells #[.slice none 0 0, .slice none 0 0, .int .i64 0] TS)).alloc (.cells #[.iface 61 (.pointer (some ⟨w1.heap.size, 0, none⟩))] 56)) := (by repeat (first | (with_reducible exact HB.out) | (with_reducible refine Below.drew ?_) | (with_reducible refine below_drewN ?_ _) | (with_reducible refine below_al ?_ _) | (with_reducible refine Below.alloc ?_ (by first | exact Nat.le_refl _ | omega | (simp; done) | (simp; omega)) _) | (with_reducible refine Below.setCell ?_ (by first | (simp only []; omega) | (simp; done) | (simp; omega)) _)))
      refine ⟨hk2, .inl ⟨hk, w1.heap.size + 1, fun k => k = w1.heap.size ∨ k = w1.heap.size + 1, rfl, w1.heap.size, fun k hk => ?_, .inr rfl, .inl rfl, ?_, .inr ⟨rfl, 0, .slice none 0 0, .slice none 0 0, ⟨blk_alloc (blk_new _ _), Kd.R_nil _ _ _ _ _, Kd.R_nil _ _ _ _ _, .inl rfl, by simp [newP], (sizeOk_iff hk0.out).2.2 rfl, rfl, by omega⟩⟩, ⟨hc0, hc1, (by simp [newP]; omega), (by simp [newP]; omega), (fun x hx => by cases hx), (by simp [newP])⟩⟩⟩
      · simp; omega
      · exact blk_new1 _ _ _
theorem peq_some (b : Nat) (w : World) : (binOp .eql 26 (.pointer (some ⟨b, 0, none⟩)) (.pointer none)).run Try.prog w = .ok (.bool false) w := by kernel_rfl
theorem pne_some (b : Nat) (w : World) : (binOp .neq 26 (.pointer (some ⟨b, 0, none⟩)) (.pointer none)).run Try.prog w = .ok (.bool true) w := by kernel_rfl
theorem peq_none (w : World) : (binOp .eql 26 (.pointer none) (.pointer none)).run Try.prog w = .ok (.bool true) w := by kernel_rfl
theorem pne_none (w : World) : (binOp .neq 26 (.pointer none) (.pointer none)).run Try.prog w = .ok (.bool false) w := by kernel_rfl
theorem IsPort.lower {w : World} {base base' b : Nat} {ok : Nat → Prop} {s : Pt} (h : IsPort w base ok b s) (hb : base' ≤ base) : IsPort w base' ok b s := by
  obtain ⟨d, h⟩ := h
  refine ⟨d, fun k hk => ⟨Nat.le_trans hb (h.z k hk).1, (h.z k hk).2⟩, h.hb, h.hd, h.port, ?_, h.g⟩
  rcases h.in1 with ⟨hq, vO, vI, hQ⟩ | ⟨hq, age, vO, vI, hS⟩
  · exact .inl ⟨hq, vO, vI, hQ.blk, Kd.R_lower hQ.o hb, Kd.R_lower hQ.i hb⟩
  · exact .inr ⟨hq, age, vO, vI, hS.blk, Kd.R_lower hS.o hb, Kd.R_lower hS.i hb, hS.one, hS.ol, hS.cap, hS.lost, hS.age⟩
theorem below_ex {w w1 w2 : World} {ok : Nat → Prop} {s : Pt} {b : Nat} (hB : Below w.heap.size w w1) (h : IsPort w1 w.heap.size ok b s) (hk : Keep ok w1 w2) : Below w.heap.size w w2 := below_then_keep hB hB.size hk (fun i hi => (h.z i hi).1)
set_option maxHeartbeats 2000000 in
theorem lives_any (w : World) : Calls Try.prog 10 #[] w fun e w' => e = .returned (.bool true) ∧ Below w.heap.size w w' := by
  go_enter Try.func10, Try.ntmps10
  go_wp2_with fail
  refine (port_new true 2 w).mono ?_
  rintro e w1 ⟨hB1, ⟨-, b, ok, rfl, hP1⟩ | ⟨h0, -⟩⟩
  · have hq := peq_some b
    have HP1 := Aside0.mk hP1
    have HB1 := Aside0.mk hB1
    have hPut := port_put 6 hP1
    clear hP1 hB1
    go_wp2_with fail
    refine hPut.mono ?_
    clear hPut
    rintro e w2 ⟨rfl, hP2, hk2⟩
    rw [show putP (newP true 2) 6 = (⟨true, 2, [6], [], 0⟩, true) from rfl] at hP2 ⊢
    have HB2 := Aside0.mk (below_ex HB1.out HP1.out hk2)
    have HP2 := Aside0.mk hP2
    have hD := port_deliver hP2
    clear hP2 hk2
    go_wp2_with fail
    refine hD.mono ?_
    clear hD
    rintro e w3 ⟨rfl, hP3, hk3⟩
    rw [show delivP (⟨true, 2, [6], [], 0⟩, true).1 = ⟨true, 2, [], [⟨6, 0⟩], 0⟩ from rfl] at hP3
    have HB3 := Aside0.mk (below_ex HB2.out HP2.out hk3)
    have HP3 := Aside0.mk hP3
    have hG := port_get hP3
    rw [show getP ⟨true, 2, [], [⟨6, 0⟩], 0⟩ = (⟨true, 2, [], [], 0⟩, 6, 0) from rfl] at hG
    clear hP3 hk3
    go_wp2_with fail
    refine hG.mono ?_
    clear hG
    rintro e w4 ⟨rfl, hP4, hk4⟩
    have HB4 := Aside0.mk (below_ex HB3.out HP3.out hk4)
    clear hP4 hk4
    go_wp2
    go_ret
    exact ⟨rfl, HB4.out⟩
  · cases h0
/-- A capacity that may be. -/
def capOk (q : Bool) (cap : Int) : Int := if cap < 1 ∨ q = false then 1 else if 1024 < cap then 1024 else cap
end Go.Proofs.Ytdienpcifklinaa
