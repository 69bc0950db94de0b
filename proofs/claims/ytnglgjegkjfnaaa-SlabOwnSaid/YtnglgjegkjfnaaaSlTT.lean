import Derived.Test.YtnglgjegkjfnaaaSlEE
import Derived.Test.YtnglgjegkjfnaaaSlRd
import Derived.Deep.DrawnRows
set_option linter.unusedSimpArgs false
set_option linter.unusedVariables false
namespace Go.Proofs.Ytnglgjegkjfnaaa
open Go.RowKit Go.ChangeShapes Go.WideShapes Go.ChangeAt Go.Proofs.YtnglgjegkjfnaaaW.PrintWords Go.Proofs.YtnglgjegkjfnaaaW.PrintMore Go.Proofs.YtnglgjegkjfnaaaW.PrintLast
/-! The document's Same at two states that are the same; the statements' 'is'. -/
set_option maxHeartbeats 1000000 in
theorem live_rd {L : Int} {s : Sl} {vG vA vC vF : Value} {vs : List Value} (w : World) (h : SlR w s vG vA vC vF vs) (hb : s.alive.length ≤ 1000000) : Calls Try.prog 27 #[.agg #[.int .i64 L, vG, vA, vC, vF]] w fun e w' => e = .returned (.int .i64 (liveS s)) ∧ Below w.heap.size w w' := by
  obtain ⟨AG, cG, rfl, -⟩ := h.g.slice
  obtain ⟨AA, cA, rfl, hcA⟩ := h.a.slice
  obtain ⟨AC, cC, rfl, -⟩ := h.c.slice
  obtain ⟨AF, cF, rfl, -⟩ := h.f.slice
  rw [bools_len] at hcA
  have hW : Below w.heap.size w (w.alloc (.cells #[.int .i64 L, .slice AG (ints s.gens).length cG, .slice AA (bools s.alive).length cA, .slice AC vs.length cC, .slice AF (ints s.free).length cF] 30)) := below_al (Below.refl _ _) _
  have hX : (w.alloc (.cells #[.int .i64 L, .slice AG (ints s.gens).length cG, .slice AA (bools s.alive).length cA, .slice AC vs.length cC, .slice AF (ints s.free).length cF] 30)).heap[w.heap.size]? = some (.cells #[.int .i64 L, .slice AG (ints s.gens).length cG, .slice AA (bools s.alive).length cA, .slice AC vs.length cC, .slice AF (ints s.free).length cF] 30 (0, 0)) := blk_new _ _
  have HW := Aside0.mk hW
  have HX := Aside0.mk hX
  have HR := Aside0.mk (h.a.below hW)
  clear h hW hX
  go_enter Try.func27, Try.ntmps27
  go_wp2_with fail
  generalize (w.alloc (.cells #[.int .i64 L, .slice AG (ints s.gens).length cG, .slice AA (bools s.alive).length cA, .slice AC vs.length cC, .slice AF (ints s.free).length cF] 30)) = W at *
  have c2 := cell_blk HX.out 2
  simp [bools_len] at c2
  go_loopw [3, 4] (fun n i wr => ∃ k : Nat, k ≤ s.alive.length ∧ i = .int .i64 k ∧ n = .int .i64 ((s.alive.take k).countP id : Nat) ∧ Aside0 (wr = W)) (fun _ i _ => s.alive.length - (intOf i).toNat)
  case atStart => exact ⟨0, by omega, rfl, rfl, ⟨rfl⟩⟩
  case round =>
    obtain ⟨k, hk, rfl, rfl, HE⟩ := hrel
    obtain rfl := HE.out
    have hcn : (s.alive.take k).countP id ≤ 1000000 := Nat.le_trans List.countP_le_length (by rw [List.length_take]; omega)
    by_cases hlt2 : k < s.alive.length
    · obtain ⟨g, o, c', he, hg, -, hat⟩ := HR.out.form (by rw [bools_len]; omega)
      injection he with he1 he2 he3
      subst he1
      have hx : s.alive[k]? = some s.alive[k] := List.getElem?_eq_getElem hlt2
      have hcell := (hat k).1 _ (bools_get hx)
      have hT : Aside0 ((s.alive.take (k + 1)).countP id = (s.alive.take k).countP id + (if s.alive[k] then 1 else 0)) := ⟨by
        rw [List.take_succ_eq_append_getElem hlt2, List.countP_append]
        cases s.alive[k] <;> rfl⟩
      clear hat hx HE he2 he3
      generalize (s.alive.take k).countP id = m at *
      cases hy : s.alive[k] with
      | true =>
        rw [hy] at hcell hT
        clear hy
        go_wp2
        go_roundw
        case rel => exact ⟨k + 1, by omega, by go_num, by rw [hT.out]; go_num, ⟨by trivial⟩⟩
        case measure => simp [intOf]; omega
      | false =>
        rw [hy] at hcell hT
        clear hy
        go_wp2
        go_roundw
        case rel => exact ⟨k + 1, by omega, by go_num, by rw [hT.out]; rfl, ⟨by trivial⟩⟩
        case measure => simp [intOf]; omega
    · obtain rfl : k = s.alive.length := by omega
      rw [List.take_length] at *
      clear HE
      go_wp2
      go_ret
      exact ⟨rfl, HW.out⟩
set_option maxHeartbeats 1000000 in
theorem same_intsR {w : World} {v v' : Value} {xs : List Int} (h : Rdf w v (ints xs)) (h' : Rdf w v' (ints xs)) (hxb : xs.length ≤ 140737488355328) : Calls Try.prog 48 #[v, v'] w fun e w' => e = .returned (.bool true) ∧ Below w.heap.size w w' := by
  obtain ⟨X, c, hv, hc⟩ := h.slice
  obtain ⟨X', c', hv', hc'⟩ := h'.slice
  rw [ints_len] at hv hc hv' hc'
  subst hv hv'
  have HR := Aside0.mk h
  have HR' := Aside0.mk h'
  clear h h'
  have hB0 : Aside0 (Below w.heap.size w w) := ⟨Below.refl _ _⟩
  go_enter Try.func48, Try.ntmps48
  go_wp2_with fail
  go_loopw [5] (fun i wr => ∃ k : Nat, k ≤ xs.length ∧ i = .int .i64 k ∧ Aside0 (Below w.heap.size w wr)) (fun i _ => xs.length - (intOf i).toNat)
  case atStart => exact ⟨0, by omega, rfl, hB0⟩
  case round =>
    clear hB0
    obtain ⟨k, hk, rfl, HB⟩ := hrel
    by_cases hlt : k < xs.length
    · obtain ⟨g, o, c1, he, hg, -, hat⟩ := (HR.out.below HB.out).form (by rw [ints_len]; omega)
      obtain ⟨g', o', c1', he', hg', -, hat'⟩ := (HR'.out.below HB.out).form (by rw [ints_len]; omega)
      injection he with he1 he2 he3
      injection he' with he1' he2' he3'
      subst he1 he1'
      obtain ⟨x, hx⟩ : ∃ x, xs[k]? = some x := ⟨_, List.getElem?_eq_getElem hlt⟩
      have hcell := (hat k).1 _ (ints_get hx)
      have hcell' := (hat' k).1 _ (ints_get hx)
      clear hat hat' he2 he2' he3 he3' hx
      go_wp2_with fail
      go_region
      go_wp2
      go_roundw
      case rel => exact ⟨k + 1, by omega, by go_num, ⟨below_then HB.out (Below.refl _ _).drew⟩⟩
      case measure => simp [intOf]; omega
    · obtain rfl : k = xs.length := by omega
      go_wp2
      go_ret
      exact ⟨rfl, HB.out⟩
/-- Two states, in blocks. -/
structure SmR (w wr : World) (B C : Nat) (L : Int) (s : Sl) (vG vA vC vF uG uA uC uF : Value) (vs us : List Value) : Prop where
  below : Below w.heap.size w wr
  r : SlR wr s vG vA vC vF vs
  r' : SlR wr s uG uA uC uF us
  b : wr.heap[B]? = some (.cells #[.int .i64 L, vG, vA, vC, vF] 30 (0, 0))
  b' : wr.heap[C]? = some (.cells #[.int .i64 L, uG, uA, uC, uF] 30 (0, 0))
theorem SmR.then {w wr w' : World} {B C : Nat} {L : Int} {s : Sl} {vG vA vC vF uG uA uC uF : Value} {vs us : List Value} (h : SmR w wr B C L s vG vA vC vF uG uA uC uF vs us) (hB : Below wr.heap.size wr w') : SmR w w' B C L s vG vA vC vF uG uA uC uF vs us :=
  ⟨below_then h.below hB, h.r.below hB, h.r'.below hB, blk_below h.b hB, blk_below h.b' hB⟩
set_option maxHeartbeats 4000000 in
theorem same_rd {L : Int} {s : Sl} {vG vA vC vF uG uA uC uF : Value} {vs us : List Value} (w : World) (h : SlR w s vG vA vC vF vs) (h' : SlR w s uG uA uC uF us) (hBd : Bd s) : Calls Try.prog 30 #[.agg #[.int .i64 L, vG, vA, vC, vF], .agg #[.int .i64 L, uG, uA, uC, uF]] w fun e w' => e = .returned (.bool true) ∧ Below w.heap.size w w' := by
  obtain ⟨AG, cG, e1, -⟩ := h.g.slice
  obtain ⟨AA, cA, e2, -⟩ := h.a.slice
  obtain ⟨AC, cC, e3, -⟩ := h.c.slice
  obtain ⟨AF, cF, e4, -⟩ := h.f.slice
  obtain ⟨DG, dG, e5, -⟩ := h'.g.slice
  obtain ⟨DA, dA, e6, -⟩ := h'.a.slice
  obtain ⟨DC, dC, e7, -⟩ := h'.c.slice
  obtain ⟨DF, dF, e8, -⟩ := h'.f.slice
  rw [ints_len] at e1 e4 e5 e8
  rw [bools_len] at e2 e6
  rw [h.l] at e3
  rw [h'.l] at e7
  subst e1 e2 e3 e4 e5 e6 e7 e8
  have hW : Below w.heap.size w ((w.alloc (.cells #[.int .i64 L, .slice AG s.gens.length cG, .slice AA s.alive.length cA, .slice AC s.caches.length cC, .slice AF s.free.length cF] 30)).alloc (.cells #[.int .i64 L, .slice DG s.gens.length dG, .slice DA s.alive.length dA, .slice DC s.caches.length dC, .slice DF s.free.length dF] 30)) := (by repeat (first | (with_reducible exact Below.refl _ _) | (with_reducible refine Below.drew ?_) | (with_reducible refine below_drewN ?_ _) | (with_reducible refine below_al ?_ _) | (with_reducible refine Below.alloc ?_ (by first | exact Nat.le_refl _ | omega | (simp; done) | (simp; omega)) _) | (with_reducible refine Below.setCell ?_ (by first | (simp only []; omega) | (simp; done) | (simp; omega)) _)))
  have HM : Aside0 (SmR w ((w.alloc (.cells #[.int .i64 L, .slice AG s.gens.length cG, .slice AA s.alive.length cA, .slice AC s.caches.length cC, .slice AF s.free.length cF] 30)).alloc (.cells #[.int .i64 L, .slice DG s.gens.length dG, .slice DA s.alive.length dA, .slice DC s.caches.length dC, .slice DF s.free.length dF] 30)) w.heap.size (w.heap.size + 1) L s (.slice AG s.gens.length cG) (.slice AA s.alive.length cA) (.slice AC s.caches.length cC) (.slice AF s.free.length cF) (.slice DG s.gens.length dG) (.slice DA s.alive.length dA) (.slice DC s.caches.length dC) (.slice DF s.free.length dF) vs us) := ⟨⟨hW, h.below hW, h'.below hW, blk_alloc (blk_new _ _), blk_new1 _ _ _⟩⟩
  have HBD := Aside0.mk hBd
  have hab : s.alive.length ≤ 140737488355328 := by have := hBd.a; omega
  have hcb : s.caches.length ≤ 140737488355328 := by have := hBd.c; omega
  clear h h' hW hBd
  go_enter Try.func30, Try.ntmps30
  have x := cells5 HM.out.b
  have y := cells5 HM.out.b'
  obtain ⟨x0, x1, x2, x3, x4⟩ := x
  obtain ⟨y0, y1, y2, y3, y4⟩ := y
  go_wp2_with fail
  --MARK1
  generalize ((w.alloc (.cells #[.int .i64 L, .slice AG s.gens.length cG, .slice AA s.alive.length cA, .slice AC s.caches.length cC, .slice AF s.free.length cF] 30)).alloc (.cells #[.int .i64 L, .slice DG s.gens.length dG, .slice DA s.alive.length dA, .slice DC s.caches.length dC, .slice DF s.free.length dF] 30)) = W at *
  refine (same_intsR HM.out.r.g HM.out.r'.g (by have := HBD.out.g; omega)).mono ?_
  rintro e w1 ⟨rfl, hB1⟩
  have HM1 := Aside0.mk (HM.out.then hB1)
  clear x0 x1 x2 x3 x4 y0 y1 y2 y3 y4 HM hB1
  obtain ⟨x0, x1, x2, x3, x4⟩ := cells5 HM1.out.b
  obtain ⟨y0, y1, y2, y3, y4⟩ := cells5 HM1.out.b'
  go_wp2_with fail
  --MARK2
  refine (same_intsR HM1.out.r.f HM1.out.r'.f (by have := HBD.out.f; omega)).mono ?_
  rintro e w2 ⟨rfl, hB2⟩
  have HM := Aside0.mk (HM1.out.then hB2)
  clear x0 x1 x2 x3 x4 y0 y1 y2 y3 y4 HM1 hB2
  obtain ⟨x0, x1, x2, x3, x4⟩ := cells5 HM.out.b
  obtain ⟨y0, y1, y2, y3, y4⟩ := cells5 HM.out.b'
  go_wp2_with fail
  --MARK3
  go_loopw [5] (fun i wr => ∃ k : Nat, k ≤ s.alive.length ∧ i = .int .i64 k ∧ Aside0 (SmR w wr w.heap.size (w.heap.size + 1) L s (.slice AG s.gens.length cG) (.slice AA s.alive.length cA) (.slice AC s.caches.length cC) (.slice AF s.free.length cF) (.slice DG s.gens.length dG) (.slice DA s.alive.length dA) (.slice DC s.caches.length dC) (.slice DF s.free.length dF) vs us)) (fun i _ => s.alive.length - (intOf i).toNat)
  case atStart => exact ⟨0, by omega, rfl, HM⟩
  case round =>
    clear HM x0 x1 x2 x3 x4 y0 y1 y2 y3 y4
    obtain ⟨k, hk, rfl, HM⟩ := hrel
    obtain ⟨x0, x1, x2, x3, x4⟩ := cells5 HM.out.b
    obtain ⟨y0, y1, y2, y3, y4⟩ := cells5 HM.out.b'
    by_cases hlt : k < s.alive.length
    · obtain ⟨g, o, c1, he, hg, -, hat⟩ := HM.out.r.a.form (by rw [bools_len]; omega)
      obtain ⟨g', o', c1', he', hg', -, hat'⟩ := HM.out.r'.a.form (by rw [bools_len]; omega)
      injection he with he1 he2 he3
      injection he' with he1' he2' he3'
      subst he1 he1'
      obtain ⟨x, hx⟩ : ∃ x, s.alive[k]? = some x := ⟨_, List.getElem?_eq_getElem hlt⟩
      have hcell := (hat k).1 _ (bools_get hx)
      have hcell' := (hat' k).1 _ (bools_get hx)
      have hbq : (x != x) = false := by cases x <;> rfl
      clear hat hat' he2 he2' he3 he3' hx
      go_wp2_with fail
      --MARK4
      go_region
      go_wp2
      go_roundw
      case rel => exact ⟨k + 1, by omega, by go_num, ⟨HM.out.then (Below.refl _ _).drew⟩⟩
      case measure => simp [intOf]; omega
    · obtain rfl : k = s.alive.length := by omega
      go_wp2_with fail
      go_loopw [6] (fun i wr => ∃ k : Nat, k ≤ s.caches.length ∧ i = .int .i64 k ∧ Aside0 (SmR w wr w.heap.size (w.heap.size + 1) L s (.slice AG s.gens.length cG) (.slice AA s.alive.length cA) (.slice AC s.caches.length cC) (.slice AF s.free.length cF) (.slice DG s.gens.length dG) (.slice DA s.alive.length dA) (.slice DC s.caches.length dC) (.slice DF s.free.length dF) vs us)) (fun i _ => s.caches.length - (intOf i).toNat)
      case atStart => exact ⟨0, by omega, rfl, HM⟩
      case round =>
        clear HM x0 x1 x2 x3 x4 y0 y1 y2 y3 y4
        obtain ⟨k, hk, rfl, HM⟩ := hrel
        obtain ⟨x0, x1, x2, x3, x4⟩ := cells5 HM.out.b
        obtain ⟨y0, y1, y2, y3, y4⟩ := cells5 HM.out.b'
        by_cases hlt : k < s.caches.length
        · obtain ⟨g, o, c1, he, hg, -, hat⟩ := HM.out.r.c.form (by have := HM.out.r.l; omega)
          obtain ⟨g', o', c1', he', hg', -, hat'⟩ := HM.out.r'.c.form (by have := HM.out.r'.l; omega)
          injection he with he1 he2 he3
          injection he' with he1' he2' he3'
          subst he1 he1'
          obtain ⟨xk, hx⟩ : ∃ x, s.caches[k]? = some x := ⟨_, List.getElem?_eq_getElem hlt⟩
          obtain ⟨v, hv, hrow⟩ := HM.out.r.v k _ hx
          obtain ⟨v', hv', hrow'⟩ := HM.out.r'.v k _ hx
          have hcell := (hat k).1 _ hv
          have hcell' := (hat' k).1 _ hv'
          have hxkb : xk.length ≤ 140737488355328 := by have := HBD.out.e xk (List.mem_of_getElem? hx); omega
          have HROW := Aside0.mk hrow
          have HROW' := Aside0.mk hrow'
          have hk0 : (0 : Int) ≤ (k : Int) := by omega
          have hkl : (k : Int) < (s.caches.length : Int) := by omega
          clear hat hat' he2 he2' he3 he3' hx hv hv' hrow hrow'
          go_wp2_with fail
          --MARK5
          clear x0
          refine start_ (n := 12) (S := fun w' => w'.cell? ⟨w.heap.size, 3, none⟩ = some (.slice (some ⟨g, o, none⟩) s.caches.length cC) ∧ w'.cell? ⟨w.heap.size + 1, 3, none⟩ = some (.slice (some ⟨g', o', none⟩) s.caches.length dC) ∧ w'.cell? ⟨g, o + k, none⟩ = some v ∧ w'.cell? ⟨g', o' + k, none⟩ = some v') (ds := [10]) #[false, false, false, false, false, false, false, false, false, false, false, false] (by kernel_rfl) rfl rfl ⟨x3, y3, hcell, hcell'⟩ (fun hHeld => ?_)
          have hD : Below wr.heap.size wr wr.drew := (Below.refl _ _).drew
          generalize wr.drew = x0 at *
          refine pure_ (i := 0) (N := some 72) (v := ?_) (a' := ?_) #[true, false, false, false, false, false, false, false, false, false, false, false] rfl rfl (by kernel_rfl) (fun _ _ _ h => h) (Or.inl ⟨by rfl, ?_⟩) ?_ ?_
          rotate_left
          · intro w'
            go_simp
            with_reducible rfl
          rotate_left
          · simp only [Act.put, List.setIfInBounds_toArray, List.set_cons_zero, List.set_cons_succ, i64_w, i32_w]
            rfl
          refine pure_ (i := 2) (N := some 74) (v := ?_) (a' := ?_) #[true, false, true, false, false, false, false, false, false, false, false, false] rfl rfl (by kernel_rfl) (fun _ _ _ h => h) (Or.inl ⟨by rfl, ?_⟩) ?_ ?_
          rotate_left
          · intro w'
            go_simp
            with_reducible rfl
          rotate_left
          · simp only [Act.put, List.setIfInBounds_toArray, List.set_cons_zero, List.set_cons_succ, i64_w, i32_w]
            rfl
          refine pure_ (i := 5) (N := some 77) (v := ?_) (a' := ?_) #[true, false, true, false, false, true, false, false, false, false, false, false] rfl rfl (by kernel_rfl) (fun _ _ _ h => h) (Or.inl ⟨by rfl, ?_⟩) ?_ ?_
          rotate_left
          · intro w'
            go_simp
            with_reducible rfl
          rotate_left
          · simp only [Act.put, List.setIfInBounds_toArray, List.set_cons_zero, List.set_cons_succ, i64_w, i32_w]
            rfl
          refine pure_ (i := 7) (N := some 79) (v := ?_) (a' := ?_) #[true, false, true, false, false, true, false, true, false, false, false, false] rfl rfl (by kernel_rfl) (fun _ _ _ h => h) (Or.inl ⟨by rfl, ?_⟩) ?_ ?_
          rotate_left
          · intro w'
            go_simp
            with_reducible rfl
          rotate_left
          · simp only [Act.put, List.setIfInBounds_toArray, List.set_cons_zero, List.set_cons_succ, i64_w, i32_w]
            rfl
          refine take_ (i := 1) (N := some 73) (v := ?_) (a' := ?_) #[true, true, true, false, false, true, false, true, false, false, false, false] rfl rfl (by kernel_rfl) (fun _ _ _ h => h) (Or.inl ⟨by rfl, ?_⟩) hHeld ?_ ?_
          rotate_left
          · rintro w' ⟨s0, s1, s2, s3⟩
            go_simp
            with_reducible rfl
          rotate_left
          · simp only [Act.put, List.setIfInBounds_toArray, List.set_cons_zero, List.set_cons_succ, i64_w, i32_w]
            rfl
          refine pure_ (i := 3) (N := some 75) (v := ?_) (a' := ?_) #[true, true, true, true, false, true, false, true, false, false, false, false] rfl rfl (by kernel_rfl) (fun _ _ _ h => h) (Or.inl ⟨by rfl, ?_⟩) ?_ ?_
          rotate_left
          · intro w'
            go_simp
            with_reducible rfl
          rotate_left
          · simp only [Act.put, List.setIfInBounds_toArray, List.set_cons_zero, List.set_cons_succ, i64_w, i32_w]
            rfl
          refine take_ (i := 4) (N := some 76) (v := ?_) (a' := ?_) #[true, true, true, true, true, true, false, true, false, false, false, false] rfl rfl (by kernel_rfl) (fun _ _ _ h => h) (Or.inl ⟨by rfl, ?_⟩) hHeld ?_ ?_
          rotate_left
          · rintro w' ⟨s0, s1, s2, s3⟩
            go_simp
            with_reducible rfl
          rotate_left
          · simp only [Act.put, List.setIfInBounds_toArray, List.set_cons_zero, List.set_cons_succ, i64_w, i32_w]
            rfl
          refine take_ (i := 6) (N := some 78) (v := ?_) (a' := ?_) #[true, true, true, true, true, true, true, true, false, false, false, false] rfl rfl (by kernel_rfl) (fun _ _ _ h => h) (Or.inl ⟨by rfl, ?_⟩) hHeld ?_ ?_
          rotate_left
          · rintro w' ⟨s0, s1, s2, s3⟩
            go_simp
            with_reducible rfl
          rotate_left
          · simp only [Act.put, List.setIfInBounds_toArray, List.set_cons_zero, List.set_cons_succ, i64_w, i32_w]
            rfl
          refine pure_ (i := 8) (N := some 80) (v := ?_) (a' := ?_) #[true, true, true, true, true, true, true, true, true, false, false, false] rfl rfl (by kernel_rfl) (fun _ _ _ h => h) (Or.inl ⟨by rfl, ?_⟩) ?_ ?_
          rotate_left
          · intro w'
            go_simp
            with_reducible rfl
          rotate_left
          · simp only [Act.put, List.setIfInBounds_toArray, List.set_cons_zero, List.set_cons_succ, i64_w, i32_w]
            rfl
          refine take_ (i := 9) (N := some 81) (v := ?_) (a' := ?_) #[true, true, true, true, true, true, true, true, true, true, false, false] rfl rfl (by kernel_rfl) (fun _ _ _ h => h) (Or.inl ⟨by rfl, ?_⟩) hHeld ?_ ?_
          rotate_left
          · rintro w' ⟨s0, s1, s2, s3⟩
            go_simp
            with_reducible rfl
          rotate_left
          · simp only [Act.put, List.setIfInBounds_toArray, List.set_cons_zero, List.set_cons_succ, i64_w, i32_w]
            rfl
          refine last_ (i := 10) (N := some 82) #[true, true, true, true, true, true, true, true, true, true, true, false] rfl rfl (by kernel_rfl) (by decide) (fun K hK => ?_)
          refine goes_ Try.func48 (by kernel_rfl) rfl #[v, v'] (by rfl) rfl rfl (by simp only [List.map_toArray, List.map_cons, List.map_nil]; rfl) ?_
          with_reducible refine (same_intsR (HROW.out.below hD) (HROW'.out.below hD) hxkb).mono ?_
          rintro e w5 ⟨rfl, hB5⟩
          refine ⟨_, rfl, ?_⟩
          have HM5 := Aside0.mk ((HM.out.then hD).then hB5)
          refine hK.out _ _ ?_
          clear hK K
          refine norm_ (a' := ?_) ?_ ?_
          rotate_left
          · show Act.put _ (some 82) _ = _
            simp only [Act.put, List.setIfInBounds_toArray, List.set_cons_zero, List.set_cons_succ, i64_w, i32_w]
            rfl
          refine pure_ (i := 11) (N := some 7) (v := ?_) (a' := ?_) #[true, true, true, true, true, true, true, true, true, true, true, true] rfl rfl (by kernel_rfl) (fun _ _ _ h => h) (Or.inl ⟨by rfl, ?_⟩) ?_ ?_
          rotate_left
          · intro w'
            go_simp
            with_reducible rfl
          rotate_left
          · simp only [Act.put, List.setIfInBounds_toArray, List.set_cons_zero, List.set_cons_succ, i64_w, i32_w]
            rfl
          refine done_ (by kernel_rfl) ?_
          go_wp2
          go_roundw
          case rel => exact ⟨k + 1, by omega, by go_num, HM5⟩
          case measure => simp [intOf]; omega
        · obtain rfl : k = s.caches.length := by omega
          go_wp2
          go_ret
          exact ⟨rfl, HM.out.below⟩
set_option maxHeartbeats 4000000 in
theorem is_rd {b : Nat} {s : Sl} {base : Nat} {col : Nat → Nat} {uG uA uC uF : Value} {us : List Value} (w : World) (h : IsSlab TS w base b col s) (hl : 0 < s.limit) (hBd : Bd s) (ha : s.alive.length ≤ 1000000) (h' : SlR w s uG uA uC uF us) : Calls Try.prog 15 #[.pointer (some ⟨b, 0, none⟩), .agg #[.int .i64 s.limit, uG, uA, uC, uF]] w fun e w' => e = .returned (.bool true) ∧ Below w.heap.size w w' := by
  obtain ⟨DG, dG, rfl, -⟩ := h'.g.slice
  obtain ⟨DA, dA, rfl, -⟩ := h'.a.slice
  obtain ⟨DC, dC, rfl, -⟩ := h'.c.slice
  obtain ⟨DF, dF, rfl, -⟩ := h'.f.slice
  have hW : Below w.heap.size w (w.alloc (.cells #[.int .i64 s.limit, .slice DG (ints s.gens).length dG, .slice DA (bools s.alive).length dA, .slice DC us.length dC, .slice DF (ints s.free).length dF] 30)) := below_al (Below.refl _ _) _
  have HX := Aside0.mk (show (w.alloc (.cells #[.int .i64 s.limit, .slice DG (ints s.gens).length dG, .slice DA (bools s.alive).length dA, .slice DC us.length dC, .slice DF (ints s.free).length dF] 30)).heap[w.heap.size]? = some (.cells #[.int .i64 s.limit, .slice DG (ints s.gens).length dG, .slice DA (bools s.alive).length dA, .slice DC us.length dC, .slice DF (ints s.free).length dF] 30 (0, 0)) from blk_new _ _)
  have HS := Aside0.mk (h.below hW)
  have HV := Aside0.mk (h'.below hW)
  have HW := Aside0.mk hW
  clear h h' hW
  go_enter Try.func15, Try.ntmps15
  go_wp2_with fail
  --MARK6
  generalize (w.alloc (.cells #[.int .i64 s.limit, .slice DG (ints s.gens).length dG, .slice DA (bools s.alive).length dA, .slice DC us.length dC, .slice DF (ints s.free).length dF] 30)) = W at *
  have hD : Below W.heap.size W W.drew := (Below.refl _ _).drew
  have HX0 := Aside0.mk (blk_below HX.out hD)
  have HS0 := Aside0.mk (HS.out.below hD)
  have HV0 := Aside0.mk (HV.out.below hD)
  have HW0 := Aside0.mk (below_then HW.out hD)
  clear HX HS HV HW hD
  refine start_ (n := 12) (S := fun w' => w'.cell? ⟨w.heap.size, 0, none⟩ = some (.int .i64 s.limit) ∧ w'.cell? ⟨w.heap.size, 1, none⟩ = some (.slice DG (ints s.gens).length dG) ∧ w'.cell? ⟨w.heap.size, 2, none⟩ = some (.slice DA (bools s.alive).length dA) ∧ w'.cell? ⟨w.heap.size, 3, none⟩ = some (.slice DC us.length dC) ∧ w'.cell? ⟨w.heap.size, 4, none⟩ = some (.slice DF (ints s.free).length dF)) (ds := [8]) #[false, false, false, false, false, false, false, false, false, false, false, false] (by kernel_rfl) rfl rfl ⟨cell_blk HX0.out 0, cell_blk HX0.out 1, cell_blk HX0.out 2, cell_blk HX0.out 3, cell_blk HX0.out 4⟩ (fun hHeld => ?_)
  generalize W.drew = x0 at *
  refine pure_ (i := 0) (N := some 5) (v := ?_) (a' := ?_) #[true, false, false, false, false, false, false, false, false, false, false, false] rfl rfl (by kernel_rfl) (fun _ _ _ h => h) (Or.inl ⟨by rfl, ?_⟩) ?_ ?_
  rotate_left
  · intro w'
    go_simp
    with_reducible rfl
  rotate_left
  · simp only [Act.put, List.setIfInBounds_toArray, List.set_cons_zero, List.set_cons_succ, i64_w, i32_w]
    rfl
  refine take_ (i := 2) (N := some 7) (v := ?_) (a' := ?_) #[true, false, true, false, false, false, false, false, false, false, false, false] rfl rfl (by kernel_rfl) (fun _ _ _ h => h) (Or.inl ⟨by rfl, ?_⟩) hHeld ?_ ?_
  rotate_left
  · rintro w' ⟨s0, s1, s2, s3, s4⟩
    go_simp
    with_reducible rfl
  rotate_left
  · simp only [Act.put, List.setIfInBounds_toArray, List.set_cons_zero, List.set_cons_succ, i64_w, i32_w]
    rfl
  refine one_ (i := 1) (N := some 6) #[true, true, true, false, false, false, false, false, false, false, false, false] rfl rfl (by kernel_rfl) (by decide) (fun K hK => ?_)
  refine goes_ Try.func19 (by kernel_rfl) rfl #[.pointer (some ⟨b, 0, none⟩)] (by rfl) rfl rfl (by simp only [List.map_toArray, List.map_cons, List.map_nil]; rfl) ?_
  with_reducible refine (state_slab x0 HS0.out hl hBd).mono ?_
  rintro e w1 ⟨vG, vA, vC, vF, vs, colv, rfl, hVV, -, hS1⟩
  refine ⟨_, rfl, ?_⟩
  have HVV1 := Aside0.mk hVV
  have HX1 := Aside0.mk (blk_below HX0.out hS1)
  have HS1 := Aside0.mk (HS0.out.below hS1)
  have HV1 := Aside0.mk (HV0.out.below hS1)
  have HW1 := Aside0.mk (below_then HW0.out hS1)
  refine hK.out _ _ ⟨cell_blk HX1.out 0, cell_blk HX1.out 1, cell_blk HX1.out 2, cell_blk HX1.out 3, cell_blk HX1.out 4⟩ (fun hHeld => ?_)
  clear hK K
  refine norm_ (a' := ?_) ?_ ?_
  rotate_left
  · show Act.put _ (some 6) _ = _
    simp only [Act.put, List.setIfInBounds_toArray, List.set_cons_zero, List.set_cons_succ, i64_w, i32_w]
    rfl
  refine one_ (i := 3) (N := some 8) #[true, true, true, true, false, false, false, false, false, false, false, false] rfl rfl (by kernel_rfl) (by decide) (fun K hK => ?_)
  refine goes_ Try.func30 (by kernel_rfl) rfl #[.agg #[.int .i64 s.limit, vG, vA, vC, vF], .agg #[.int .i64 s.limit, .slice DG (ints s.gens).length dG, .slice DA (bools s.alive).length dA, .slice DC us.length dC, .slice DF (ints s.free).length dF]] (by rfl) rfl rfl (by simp only [List.map_toArray, List.map_cons, List.map_nil]; rfl) ?_
  with_reducible refine (same_rd w1 HVV1.out.rd HV1.out hBd).mono ?_
  rintro e w2 ⟨rfl, hS2⟩
  refine ⟨_, rfl, ?_⟩
  have HX2 := Aside0.mk (blk_below HX1.out hS2)
  have HS2 := Aside0.mk (HS1.out.below hS2)
  have HV2 := Aside0.mk (HV1.out.below hS2)
  have HW2 := Aside0.mk (below_then HW1.out hS2)
  refine hK.out _ _ ⟨cell_blk HX2.out 0, cell_blk HX2.out 1, cell_blk HX2.out 2, cell_blk HX2.out 3, cell_blk HX2.out 4⟩ (fun hHeld => ?_)
  clear hK K
  refine norm_ (a' := ?_) ?_ ?_
  rotate_left
  · show Act.put _ (some 8) _ = _
    simp only [Act.put, List.setIfInBounds_toArray, List.set_cons_zero, List.set_cons_succ, i64_w, i32_w]
    rfl
  refine pure_ (i := 4) (N := some 9) (v := ?_) (a' := ?_) #[true, true, true, true, true, false, false, false, false, false, false, false] rfl rfl (by kernel_rfl) (fun _ _ _ h => h) (Or.inl ⟨by rfl, ?_⟩) ?_ ?_
  rotate_left
  · intro w'
    go_simp
    with_reducible rfl
  rotate_left
  · simp only [Act.put, List.setIfInBounds_toArray, List.set_cons_zero, List.set_cons_succ, i64_w, i32_w]
    rfl
  refine pure_ (i := 5) (N := some 10) (v := ?_) (a' := ?_) #[true, true, true, true, true, true, false, false, false, false, false, false] rfl rfl (by kernel_rfl) (fun _ _ _ h => h) (Or.inl ⟨by rfl, ?_⟩) ?_ ?_
  rotate_left
  · intro w'
    go_simp
    with_reducible rfl
  rotate_left
  · simp only [Act.put, List.setIfInBounds_toArray, List.set_cons_zero, List.set_cons_succ, i64_w, i32_w]
    rfl
  refine take_ (i := 7) (N := some 12) (v := ?_) (a' := ?_) #[true, true, true, true, true, true, false, true, false, false, false, false] rfl rfl (by kernel_rfl) (fun _ _ _ h => h) (Or.inl ⟨by rfl, ?_⟩) hHeld ?_ ?_
  rotate_left
  · rintro w' ⟨s0, s1, s2, s3, s4⟩
    go_simp
    with_reducible rfl
  rotate_left
  · simp only [Act.put, List.setIfInBounds_toArray, List.set_cons_zero, List.set_cons_succ, i64_w, i32_w]
    rfl
  refine one_ (i := 6) (N := some 11) #[true, true, true, true, true, true, true, true, false, false, false, false] rfl rfl (by kernel_rfl) (by decide) (fun K hK => ?_)
  refine goes_ Try.func21 (by kernel_rfl) rfl #[.pointer (some ⟨b, 0, none⟩)] (by rfl) rfl rfl (by simp only [List.map_toArray, List.map_cons, List.map_nil]; rfl) ?_
  with_reducible refine (live_slab w2 HS2.out hl ha).mono ?_
  rintro e w3 ⟨rfl, hS3⟩
  refine ⟨_, rfl, ?_⟩
  have HX3 := Aside0.mk (blk_below HX2.out hS3)
  have HS3 := Aside0.mk (HS2.out.below hS3)
  have HV3 := Aside0.mk (HV2.out.below hS3)
  have HW3 := Aside0.mk (below_then HW2.out hS3)
  refine hK.out _ _ ⟨cell_blk HX3.out 0, cell_blk HX3.out 1, cell_blk HX3.out 2, cell_blk HX3.out 3, cell_blk HX3.out 4⟩ (fun hHeld => ?_)
  clear hK K
  refine norm_ (a' := ?_) ?_ ?_
  rotate_left
  · show Act.put _ (some 11) _ = _
    simp only [Act.put, List.setIfInBounds_toArray, List.set_cons_zero, List.set_cons_succ, i64_w, i32_w]
    rfl
  refine last_ (i := 8) (N := some 13) #[true, true, true, true, true, true, true, true, true, false, false, false] rfl rfl (by kernel_rfl) (by decide) (fun K hK => ?_)
  refine goes_ Try.func27 (by kernel_rfl) rfl #[.agg #[.int .i64 s.limit, .slice DG (ints s.gens).length dG, .slice DA (bools s.alive).length dA, .slice DC us.length dC, .slice DF (ints s.free).length dF]] (by rfl) rfl rfl (by simp only [List.map_toArray, List.map_cons, List.map_nil]; rfl) ?_
  with_reducible refine (live_rd w3 HV3.out ha).mono ?_
  rintro e w4 ⟨rfl, hS4⟩
  refine ⟨_, rfl, ?_⟩
  have HX4 := Aside0.mk (blk_below HX3.out hS4)
  have HS4 := Aside0.mk (HS3.out.below hS4)
  have HV4 := Aside0.mk (HV3.out.below hS4)
  have HW4 := Aside0.mk (below_then HW3.out hS4)
  refine hK.out _ _ ?_
  clear hK K
  refine norm_ (a' := ?_) ?_ ?_
  rotate_left
  · show Act.put _ (some 13) _ = _
    simp only [Act.put, List.setIfInBounds_toArray, List.set_cons_zero, List.set_cons_succ, i64_w, i32_w]
    rfl
  refine pure_ (i := 9) (N := some 14) (v := ?_) (a' := ?_) #[true, true, true, true, true, true, true, true, true, true, false, false] rfl rfl (by kernel_rfl) (fun _ _ _ h => h) (Or.inl ⟨by rfl, ?_⟩) ?_ ?_
  rotate_left
  · intro w'
    go_simp
    with_reducible rfl
  rotate_left
  · simp only [Act.put, List.setIfInBounds_toArray, List.set_cons_zero, List.set_cons_succ, i64_w, i32_w]
    rfl
  refine pure_ (i := 10) (N := some 15) (v := ?_) (a' := ?_) #[true, true, true, true, true, true, true, true, true, true, true, false] rfl rfl (by kernel_rfl) (fun _ _ _ h => h) (Or.inl ⟨by rfl, ?_⟩) ?_ ?_
  rotate_left
  · intro w'
    go_simp
    with_reducible rfl
  rotate_left
  · simp only [Act.put, List.setIfInBounds_toArray, List.set_cons_zero, List.set_cons_succ, i64_w, i32_w]
    rfl
  refine pure_ (i := 11) (N := some 4) (v := ?_) (a' := ?_) #[true, true, true, true, true, true, true, true, true, true, true, true] rfl rfl (by kernel_rfl) (fun _ _ _ h => h) (Or.inl ⟨by rfl, ?_⟩) ?_ ?_
  rotate_left
  · intro w'
    go_simp
    with_reducible rfl
  rotate_left
  · simp only [Act.put, List.setIfInBounds_toArray, List.set_cons_zero, List.set_cons_succ, i64_w, i32_w]
    rfl
  refine done_ (by kernel_rfl) ?_
  go_wp2
  go_ret
  exact ⟨by simp, HW4.out⟩
end Go.Proofs.Ytnglgjegkjfnaaa
