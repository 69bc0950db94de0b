/- FifoSorts: whatever was put, Take tells by rising turns, each one that was put, once. No condition. -/
import Derived.Test.YtikoonomhojlkaaFqO
import Derived.Test.YtikoonomhojlkaaOpen
set_option linter.unusedSimpArgs false
set_option linter.unusedVariables false
namespace Go.Proofs.Ytikoonomhojlkaa
open Go.RowKit Go.ChangeShapes Go.WideShapes Go.ChangeAt Go.Proofs.YtikoonomhojlkaaW.PrintWords Go.Proofs.YtikoonomhojlkaaW.PrintMore Go.Proofs.YtikoonomhojlkaaW.PrintLast
/-! FifoSorts -/
structure QS (w : World) (b La : Nat) (L : List Wt) (last : Wt) (ok : Nat → Prop) (v : Value) (wr : World) : Prop where
  q : Que w b L ok v wr
  blk : wr.heap[La]? = some (.cells #[.int .i64 last.f0.f0, .int .i64 last.f0.f1, .int .u64 last.f1] TW (0, 0))
  lo : w.heap.size ≤ La
  no : ¬ ok La
def QSE (w : World) (b La : Nat) (L : List Wt) (last : Wt) (wr : World) : Prop := ∃ ok v, QS w b La L last ok v wr
theorem QS.then {w wr w' : World} {b La : Nat} {L : List Wt} {last : Wt} {ok : Nat → Prop} {v : Value} (h : QS w b La L last ok v wr) (hB : Below wr.heap.size wr w') : QS w b La L last ok v w' := ⟨h.q.then hB, blk_below h.blk hB, h.lo, h.no⟩
set_option maxRecDepth 100000 in
set_option maxHeartbeats 8000000 in
theorem FifoSorts0.walk (w : World) (A : Option Addr) (c : Nat) (l : List Wt) (hC : kW.C w A l.length l) (hc : l.length ≤ c) (hl : l.length ≤ 140737488355328) :
    Calls Try.prog 3 #[.slice A l.length c] w fun e w' => e = .returned (.bool true) ∧ Below w.heap.size w w' := by
  have HC := Aside0.mk hC
  have hN := que_new w
  clear hC
  go_enter Try.func3, Try.ntmps3
  go_wp2_with fail
  refine hN.mono ?_
  clear hN
  rintro e w1 ⟨b, rfl, hQ1⟩
  have hqe := qeq_some b
  go_wp2_with fail
  refine (lives_any w1).mono ?_
  rintro e w2 ⟨rfl, hB2⟩
  have H2 := Aside0.mk (hQ1.then hB2)
  clear hQ1 hB2
  go_wp2_with fail
  go_loopw [4, 5] (fun pv i wr => ∃ (k : Nat) (L : List Wt), k ≤ l.length ∧ i = .int .i64 k ∧ pv = .int .i64 L.length ∧ Aside0 (QueE w b L wr) ∧ Aside0 (∀ z ∈ L, z ∈ l)) (fun _ i _ => l.length - (intOf i).toNat)
  case atStart => exact ⟨0, [], by omega, rfl, rfl, H2, ⟨fun z hz => by simp at hz⟩⟩
  case round =>
    clear H2
    obtain ⟨k, L, hk, rfl, rfl, HQ, HM⟩ := hrel
    have hLl := HQ.out.good.len
    by_cases hlt : k < l.length
    · obtain ⟨ab, off, rfl, hab⟩ := C_form HC.out (by omega) (by decide)
      obtain ⟨x, hx, e0, e1, e2⟩ := waits_at HC.out k hlt
      have HB := Aside0.mk HQ.out.below
      have e0 := (HB.out.cell (p := ⟨ab, off + k * 3, none⟩) hab).trans e0
      have e1 := (HB.out.cell (p := ⟨ab, off + k * 3 + 1, none⟩) hab).trans e1
      have e2 := (HB.out.cell (p := ⟨ab, off + k * 3 + 2, none⟩) hab).trans e2
      have hki : (0 : Int) ≤ (k : Int) := by omega
      have hkl : (k : Int) < (l.length : Int) := by omega
      obtain ⟨ok, v, hQ⟩ := HQ.out
      have hP := que_put x hQ
      have HX := Aside0.mk (List.mem_of_getElem? hx)
      clear hx hQ
      go_wp2_with fail
      refine hP.mono ?_
      clear hP e0 e1 e2
      rintro e w3 ⟨rfl, ⟨v3, hQ3⟩, -⟩
      have hpl := putL_len L x
      have hpm : ∀ z ∈ (putL L x).1, z ∈ l := fun z hz => (putL_mem hz).elim (fun e => by subst e; exact HX.out) (fun h => HM.out z h)
      have H3 := Aside0.mk (show QueE w b (putL L x).1 w3 from ⟨_, _, hQ3⟩)
      have HM3 := Aside0.mk hpm
      clear hQ3 hpm
      generalize putL L x = r at *
      obtain ⟨r1, r2⟩ := r
      simp only at hpl H3 HM3 ⊢
      rcases hpl with ⟨rfl, hrl⟩ | ⟨hr2, rfl⟩
      · have HRL := Aside0.mk hrl
        clear hrl
        go_wp2
        go_roundw
        case rel => exact ⟨k + 1, r1, by omega, by go_num, by rw [HRL.out]; go_num, H3, HM3⟩
        case measure => simp [intOf]; omega
      · have hrb : (r2 == 0) = false := by simpa using hr2
        go_wp2
        go_roundw
        case rel => exact ⟨k + 1, r1, by omega, by go_num, rfl, H3, HM3⟩
        case measure => simp [intOf]; omega
    · obtain rfl : k = l.length := by omega
      obtain ⟨ok, v, hQ⟩ := HQ.out
      have HS := Aside0.mk (show QSE w b wr.heap.size L zWt (wr.alloc (.cells #[.int .i64 0, .int .i64 0, .int .u64 0] TW)) from ⟨ok, v, ⟨hQ.then (below_al (Below.refl _ _) _), blk_new _ _, hQ.below.size, fun h => by have := (hQ.q.z _ h).2; omega⟩⟩)
      obtain ⟨n, hn⟩ : ∃ n, L.length = n := ⟨_, rfl⟩
      have HNL := Aside0.mk hn
      rw [hn] at hLl ⊢
      obtain ⟨La, hLa⟩ : ∃ d, wr.heap.size = d := ⟨_, rfl⟩
      clear hQ hn HQ
      go_wp2_with fail
      rw [hLa] at HS
      clear hLa
      go_loopw [7] (fun i wr => ∃ (i' : Nat) (L : List Wt) (last : Wt), i' ≤ n ∧ i = .int .i64 i' ∧ Aside0 (i' + L.length = n) ∧ Aside0 (QSE w b La L last wr) ∧ Aside0 (∀ z ∈ L, z ∈ l) ∧ Aside0 (0 < i' → ∀ z ∈ L, last.f1 < z.f1)) (fun i _ => n - (intOf i).toNat)
      case atStart => exact ⟨0, L, zWt, by omega, rfl, ⟨by rw [HNL.out, Nat.zero_add]⟩, HS, HM, ⟨fun h => by omega⟩⟩
      case round =>
        clear HS HM HNL
        obtain ⟨i, L, last, hi, rfl, HL, HS, HM, HT⟩ := hrel
        obtain ⟨ok, v, hS⟩ := HS.out
        by_cases hin : i < n
        · obtain ⟨y, r, rfl⟩ : ∃ y r, L = y :: r := by
            cases L with
            | nil => have := HL.out; simp at this; omega
            | cons y r => exact ⟨y, r, rfl⟩
          have hT := que_take hS.q
          have HS0 := Aside0.mk hS
          have hii : (i : Int) < (n : Int) := by omega
          simp only [takeL] at hT
          clear hS HS
          go_wp2_with fail
          refine hT.mono ?_
          clear hT
          rintro e w4 ⟨rfl, ⟨v4, hQ4⟩, hk4⟩
          have hLa4 := blk_keep HS0.out.blk hk4 HS0.out.no
          have hB5 : Below w4.heap.size w4 (w4.alloc (.cells #[.int .i64 y.f0.f0, .int .i64 y.f0.f1, .int .u64 y.f1] TW)) := below_al (Below.refl _ _) _
          have hLl := lt_blk HS0.out.blk
          have hS5 : QS w b La r last (Ex ok wr w4) v4 (w4.alloc (.cells #[.int .i64 y.f0.f0, .int .i64 y.f0.f1, .int .u64 y.f1] TW)) := ⟨hQ4.then hB5, blk_below hLa4 hB5, HS0.out.lo, fun h => h.elim HS0.out.no (fun h => by omega)⟩
          have HW5 : Aside0 ((w4.alloc (.cells #[.int .i64 y.f0.f0, .int .i64 y.f0.f1, .int .u64 y.f1] TW)).heap[w4.heap.size]? = some (.cells #[.int .i64 y.f0.f0, .int .i64 y.f0.f1, .int .u64 y.f1] TW (0, 0))) := ⟨blk_new _ _⟩
          have HNW : Aside0 (¬ Ex ok wr w4 w4.heap.size) := ⟨fun h => by have := (hQ4.q.z _ h).2; omega⟩
          have hH := has_any y.f0.f0 y.f0.f1 hS5.q.q hS5.q.g.len
          rw [head_gone HS0.out.q.g] at hH
          have HH := Aside0.mk hH
          have HS5 := Aside0.mk hS5
          obtain ⟨a0, a1, a2⟩ := cells3 hLa4
          have hal := lt_blk hLa4
          have HG5 := Aside0.mk HS0.out.q.g
          have HLE : Aside0 (wr.heap.size ≤ w4.heap.size) := ⟨hk4.size⟩
          have HY := Aside0.mk (HM.out y (List.mem_cons_self))
          have hlast : i = 0 ∨ (0 < i ∧ ¬ y.f1 ≤ last.f1) := by
            rcases Nat.eq_zero_or_pos i with h | h
            · exact .inl h
            · exact .inr ⟨h, by have := HT.out h y (List.mem_cons_self); omega⟩
          clear hQ4 hk4 hLa4 hB5 hS5 hH HS0
          rcases hlast with rfl | ⟨hip, hyl⟩
          · go_wp2_with fail
            refine HH.out.mono ?_
            clear HH a0 a1 a2 hal
            rintro e w6 ⟨rfl, hB6⟩
            have HS6 := Aside0.mk (HS5.out.then hB6)
            have HW6 := Aside0.mk (blk_below HW5.out hB6)
            have HN6 : Aside0 (¬ Ex ok wr w4 w4.heap.size) := HNW
            obtain ⟨Lw, hLw⟩ : ∃ d, w4.heap.size = d := ⟨_, rfl⟩
            rw [hLw] at HW6
            have HLw := Aside0.mk (show Lw ≠ La by have := hLl; have := HLE.out; omega)
            clear hB6 HS5 HW5 HNW
            generalize Ex ok wr w4 = ok6 at *
            go_wp2_with fail
            clear hLw HLE
            go_loopw [10, 11] (fun fv ii wr => ∃ k : Nat, k ≤ l.length ∧ ii = .int .i64 k ∧ fv = .bool ((l.take k).any (eqW y)) ∧ Aside0 (Below w6.heap.size w6 wr)) (fun _ ii _ => l.length - (intOf ii).toNat)
            case atStart => exact ⟨0, by omega, rfl, by simp, ⟨Below.refl _ _⟩⟩
            case round =>
              obtain ⟨k, hk, rfl, rfl, HB⟩ := hrel
              by_cases hlt : k < l.length
              · obtain ⟨ab, off, rfl, hab⟩ := C_form HC.out (by omega) (by decide)
                obtain ⟨z, hz, e0, e1, e2⟩ := waits_at HC.out k hlt
                have HBw := Aside0.mk (below_then HS6.out.q.below HB.out)
                have hB7 : Below wr.heap.size wr wr.drew := (Below.refl _ _).drew
                have HBx : Aside0 (Below w6.heap.size w6 wr.drew) := ⟨HB.out.drew⟩
                have HBd : Aside0 (Below w.heap.size w wr.drew) := ⟨HBw.out.drew⟩
                have HW1 : Aside0 (wr.drew.heap[Lw]? = some _) := ⟨blk_below (blk_below HW6.out HB.out) hB7⟩
                have hki : (0 : Int) ≤ (k : Int) := by omega
                have hkl : (k : Int) < (l.length : Int) := by omega
                have HZ := Aside0.mk (take_any_succ (eqW y) hz)
                clear hB7 hz
                cases hfd : (l.take k).any (eqW y)
                · rw [hfd] at HZ
                  clear hfd
                  go_wp2_with fail
                  have c0 := (HBd.out.cell (p := ⟨ab, off + k * 3, none⟩) hab).trans e0
                  have c1 := (HBd.out.cell (p := ⟨ab, off + k * 3 + 1, none⟩) hab).trans e1
                  have c2 := (HBd.out.cell (p := ⟨ab, off + k * 3 + 2, none⟩) hab).trans e2
                  clear e0 e1 e2
                  refine start_ (n := 10) (S := fun w' => w'.cell? ⟨ab, off + k * 3, none⟩ = some (.int .i64 z.f0.f0) ∧ w'.cell? ⟨ab, off + k * 3 + 1, none⟩ = some (.int .i64 z.f0.f1) ∧ w'.cell? ⟨ab, off + k * 3 + 2, none⟩ = some (.int .u64 z.f1) ∧ w'.cell? ⟨Lw, 0, none⟩ = some (.int .i64 y.f0.f0) ∧ w'.cell? ⟨Lw, 1, none⟩ = some (.int .i64 y.f0.f1) ∧ w'.cell? ⟨Lw, 2, none⟩ = some (.int .u64 y.f1)) (ds := []) #[false, false, false, false, false, false, false, false, false, false] (by kernel_rfl) rfl rfl ⟨c0, c1, c2, cell_blk HW1.out 0, cell_blk HW1.out 1, cell_blk HW1.out 2⟩ (fun hHeld => ?_)
                  generalize wr.drew = x0 at *
                  refine pure_ (i := 0) (N := some 72) (v := ?_) (a' := ?_) #[true, false, false, false, false, false, false, false, false, false] rfl rfl (by kernel_rfl) (fun _ _ _ h => h) (Or.inl ⟨by rfl, ?_⟩) ?_ ?_
                  rotate_left
                  · intro w'
                    go_simp
                    with_reducible rfl
                  rotate_left
                  · simp only [Act.put, List.setIfInBounds_toArray, List.set_cons_zero, List.set_cons_succ, i64_w, i32_w]
                    rfl
                  refine pure_ (i := 1) (N := some 73) (v := ?_) (a' := ?_) #[true, true, false, false, false, false, false, false, false, false] rfl rfl (by kernel_rfl) (fun _ _ _ h => h) (Or.inl ⟨by rfl, ?_⟩) ?_ ?_
                  rotate_left
                  · intro w'
                    go_simp
                    with_reducible rfl
                  rotate_left
                  · simp only [Act.put, List.setIfInBounds_toArray, List.set_cons_zero, List.set_cons_succ, i64_w, i32_w]
                    rfl
                  refine pure_ (i := 2) (N := some 74) (v := ?_) (a' := ?_) #[true, true, true, false, false, false, false, false, false, false] rfl rfl (by kernel_rfl) (fun _ _ _ h => h) (Or.inl ⟨by rfl, ?_⟩) ?_ ?_
                  rotate_left
                  · intro w'
                    go_simp
                    with_reducible rfl
                  rotate_left
                  · simp only [Act.put, List.setIfInBounds_toArray, List.set_cons_zero, List.set_cons_succ, i64_w, i32_w]
                    rfl
                  refine pure_ (i := 3) (N := some 75) (v := ?_) (a' := ?_) #[true, true, true, true, false, false, false, false, false, false] rfl rfl (by kernel_rfl) (fun _ _ _ h => h) (Or.inl ⟨by rfl, ?_⟩) ?_ ?_
                  rotate_left
                  · intro w'
                    go_simp
                    with_reducible rfl
                  rotate_left
                  · simp only [Act.put, List.setIfInBounds_toArray, List.set_cons_zero, List.set_cons_succ, i64_w, i32_w]
                    rfl
                  refine pure_ (i := 4) (N := some 76) (v := ?_) (a' := ?_) #[true, true, true, true, true, false, false, false, false, false] rfl rfl (by kernel_rfl) (fun _ _ _ h => h) (Or.inl ⟨by rfl, ?_⟩) ?_ ?_
                  rotate_left
                  · intro w'
                    go_simp
                    with_reducible rfl
                  rotate_left
                  · simp only [Act.put, List.setIfInBounds_toArray, List.set_cons_zero, List.set_cons_succ, i64_w, i32_w]
                    rfl
                  refine take_ (i := 5) (N := some 77) (v := ?_) (a' := ?_) #[true, true, true, true, true, true, false, false, false, false] rfl rfl (by kernel_rfl) (fun _ _ _ h => h) (Or.inl ⟨by rfl, ?_⟩) hHeld ?_ ?_
                  rotate_left
                  · rintro w' ⟨s0, s1, s2, s3, s4, s5⟩
                    go_simp
                    with_reducible rfl
                  rotate_left
                  · simp only [Act.put, List.setIfInBounds_toArray, List.set_cons_zero, List.set_cons_succ, i64_w, i32_w]
                    rfl
                  refine take_ (i := 6) (N := some 78) (v := ?_) (a' := ?_) #[true, true, true, true, true, true, true, false, false, false] rfl rfl (by kernel_rfl) (fun _ _ _ h => h) (Or.inl ⟨by rfl, ?_⟩) hHeld ?_ ?_
                  rotate_left
                  · rintro w' ⟨s0, s1, s2, s3, s4, s5⟩
                    go_simp
                    with_reducible rfl
                  rotate_left
                  · simp only [Act.put, List.setIfInBounds_toArray, List.set_cons_zero, List.set_cons_succ, i64_w, i32_w]
                    rfl
                  refine pure_ (i := 7) (N := some 79) (v := ?_) (a' := ?_) #[true, true, true, true, true, true, true, true, false, false] rfl rfl (by kernel_rfl) (fun _ _ _ h => h) (Or.inl ⟨by rfl, ?_⟩) ?_ ?_
                  rotate_left
                  · intro w'
                    go_simp
                    rw [ite_eqW]
                  rotate_left
                  · simp only [Act.put, List.setIfInBounds_toArray, List.set_cons_zero, List.set_cons_succ, i64_w, i32_w]
                    rfl
                  refine pure_ (i := 8) (N := some 80) (v := ?_) (a' := ?_) #[true, true, true, true, true, true, true, true, true, false] rfl rfl (by kernel_rfl) (fun _ _ _ h => h) (Or.inl ⟨by rfl, ?_⟩) ?_ ?_
                  rotate_left
                  · intro w'
                    go_simp
                    with_reducible rfl
                  rotate_left
                  · simp only [Act.put, List.setIfInBounds_toArray, List.set_cons_zero, List.set_cons_succ, i64_w, i32_w]
                    rfl
                  refine pure_ (i := 9) (N := some 10) (v := ?_) (a' := ?_) #[true, true, true, true, true, true, true, true, true, true] rfl rfl (by kernel_rfl) (fun _ _ _ h => h) (Or.inl ⟨by rfl, ?_⟩) ?_ ?_
                  rotate_left
                  · intro w'
                    go_simp
                    with_reducible rfl
                  rotate_left
                  · simp only [Act.put, List.setIfInBounds_toArray, List.set_cons_zero, List.set_cons_succ, i64_w, i32_w]
                    rfl
                  refine done_ (by kernel_rfl) ?_
                  clear hHeld c0 c1 c2
                  go_wp2
                  go_roundw
                  case rel => exact ⟨k + 1, by omega, by go_num, by rw [HZ.out]; rfl, ⟨HBx.out⟩⟩
                  case measure => simp [intOf]; omega
                · rw [hfd] at HZ
                  clear hfd
                  go_wp2_with fail
                  have c0 := (HBd.out.cell (p := ⟨ab, off + k * 3, none⟩) hab).trans e0
                  have c1 := (HBd.out.cell (p := ⟨ab, off + k * 3 + 1, none⟩) hab).trans e1
                  have c2 := (HBd.out.cell (p := ⟨ab, off + k * 3 + 2, none⟩) hab).trans e2
                  clear e0 e1 e2
                  refine start_ (n := 10) (S := fun w' => w'.cell? ⟨ab, off + k * 3, none⟩ = some (.int .i64 z.f0.f0) ∧ w'.cell? ⟨ab, off + k * 3 + 1, none⟩ = some (.int .i64 z.f0.f1) ∧ w'.cell? ⟨ab, off + k * 3 + 2, none⟩ = some (.int .u64 z.f1) ∧ w'.cell? ⟨Lw, 0, none⟩ = some (.int .i64 y.f0.f0) ∧ w'.cell? ⟨Lw, 1, none⟩ = some (.int .i64 y.f0.f1) ∧ w'.cell? ⟨Lw, 2, none⟩ = some (.int .u64 y.f1)) (ds := []) #[false, false, false, false, false, false, false, false, false, false] (by kernel_rfl) rfl rfl ⟨c0, c1, c2, cell_blk HW1.out 0, cell_blk HW1.out 1, cell_blk HW1.out 2⟩ (fun hHeld => ?_)
                  generalize wr.drew = x0 at *
                  refine pure_ (i := 0) (N := some 72) (v := ?_) (a' := ?_) #[true, false, false, false, false, false, false, false, false, false] rfl rfl (by kernel_rfl) (fun _ _ _ h => h) (Or.inl ⟨by rfl, ?_⟩) ?_ ?_
                  rotate_left
                  · intro w'
                    go_simp
                    with_reducible rfl
                  rotate_left
                  · simp only [Act.put, List.setIfInBounds_toArray, List.set_cons_zero, List.set_cons_succ, i64_w, i32_w]
                    rfl
                  refine pure_ (i := 1) (N := some 73) (v := ?_) (a' := ?_) #[true, true, false, false, false, false, false, false, false, false] rfl rfl (by kernel_rfl) (fun _ _ _ h => h) (Or.inl ⟨by rfl, ?_⟩) ?_ ?_
                  rotate_left
                  · intro w'
                    go_simp
                    with_reducible rfl
                  rotate_left
                  · simp only [Act.put, List.setIfInBounds_toArray, List.set_cons_zero, List.set_cons_succ, i64_w, i32_w]
                    rfl
                  refine pure_ (i := 2) (N := some 74) (v := undef) (a' := ?_) #[true, true, true, false, false, false, false, false, false, false] rfl rfl (by kernel_rfl) (fun _ _ _ h => h) (Or.inr ⟨by rfl, rfl⟩) ?_ ?_
                  rotate_left
                  · simp only [Act.put, List.setIfInBounds_toArray, List.set_cons_zero, List.set_cons_succ, i64_w, i32_w]
                    rfl
                  refine pure_ (i := 3) (N := some 75) (v := undef) (a' := ?_) #[true, true, true, true, false, false, false, false, false, false] rfl rfl (by kernel_rfl) (fun _ _ _ h => h) (Or.inr ⟨by rfl, rfl⟩) ?_ ?_
                  rotate_left
                  · simp only [Act.put, List.setIfInBounds_toArray, List.set_cons_zero, List.set_cons_succ, i64_w, i32_w]
                    rfl
                  refine pure_ (i := 4) (N := some 76) (v := undef) (a' := ?_) #[true, true, true, true, true, false, false, false, false, false] rfl rfl (by kernel_rfl) (fun _ _ _ h => h) (Or.inr ⟨by rfl, rfl⟩) ?_ ?_
                  rotate_left
                  · simp only [Act.put, List.setIfInBounds_toArray, List.set_cons_zero, List.set_cons_succ, i64_w, i32_w]
                    rfl
                  refine pure_ (i := 5) (N := some 77) (v := undef) (a' := ?_) #[true, true, true, true, true, true, false, false, false, false] rfl rfl (by kernel_rfl) (fun _ _ _ h => h) (Or.inr ⟨by rfl, rfl⟩) ?_ ?_
                  rotate_left
                  · simp only [Act.put, List.setIfInBounds_toArray, List.set_cons_zero, List.set_cons_succ, i64_w, i32_w]
                    rfl
                  refine pure_ (i := 6) (N := some 78) (v := undef) (a' := ?_) #[true, true, true, true, true, true, true, false, false, false] rfl rfl (by kernel_rfl) (fun _ _ _ h => h) (Or.inr ⟨by rfl, rfl⟩) ?_ ?_
                  rotate_left
                  · simp only [Act.put, List.setIfInBounds_toArray, List.set_cons_zero, List.set_cons_succ, i64_w, i32_w]
                    rfl
                  refine pure_ (i := 7) (N := some 79) (v := undef) (a' := ?_) #[true, true, true, true, true, true, true, true, false, false] rfl rfl (by kernel_rfl) (fun _ _ _ h => h) (Or.inr ⟨by rfl, rfl⟩) ?_ ?_
                  rotate_left
                  · simp only [Act.put, List.setIfInBounds_toArray, List.set_cons_zero, List.set_cons_succ, i64_w, i32_w]
                    rfl
                  refine pure_ (i := 8) (N := some 80) (v := ?_) (a' := ?_) #[true, true, true, true, true, true, true, true, true, false] rfl rfl (by kernel_rfl) (fun _ _ _ h => h) (Or.inl ⟨by rfl, ?_⟩) ?_ ?_
                  rotate_left
                  · intro w'
                    go_simp
                    with_reducible rfl
                  rotate_left
                  · simp only [Act.put, List.setIfInBounds_toArray, List.set_cons_zero, List.set_cons_succ, i64_w, i32_w]
                    rfl
                  refine pure_ (i := 9) (N := some 10) (v := ?_) (a' := ?_) #[true, true, true, true, true, true, true, true, true, true] rfl rfl (by kernel_rfl) (fun _ _ _ h => h) (Or.inl ⟨by rfl, ?_⟩) ?_ ?_
                  rotate_left
                  · intro w'
                    go_simp
                    with_reducible rfl
                  rotate_left
                  · simp only [Act.put, List.setIfInBounds_toArray, List.set_cons_zero, List.set_cons_succ, i64_w, i32_w]
                    rfl
                  refine done_ (by kernel_rfl) ?_
                  clear hHeld c0 c1 c2
                  skip
                  go_wp2
                  go_roundw
                  case rel => exact ⟨k + 1, by omega, by go_num, by rw [HZ.out]; rfl, ⟨HBx.out⟩⟩
                  case measure => simp [intOf]; omega
              · obtain rfl : k = l.length := by omega
                rw [List.take_length, eqW_any HY.out]
                have hS7 := HS6.out.then HB.out
                have hW7 := blk_below HW6.out HB.out
                obtain ⟨b0, b1, b2⟩ := cells3 hW7
                obtain ⟨a0, a1, a2⟩ := cells3 hS7.blk
                obtain ⟨f0, f1, f2⟩ := froz3 hS7.blk
                have hal := lt_blk hS7.blk
                have HS7 := Aside0.mk hS7
                clear hS7 hW7
                go_wp2_with fail
                have hk5 := set3_keep wr La (.int .i64 y.f0.f0) (.int .i64 y.f0.f1) (.int .u64 y.f1)
                have hS9 : QS w b La r y ok6 v4 (((wr.setCell ⟨La, 0, none⟩ (.int .i64 y.f0.f0)).setCell ⟨La, 1, none⟩ (.int .i64 y.f0.f1)).setCell ⟨La, 2, none⟩ (.int .u64 y.f1)) := ⟨⟨below_then_keep HS7.out.q.below HS7.out.q.below.size hk5 (fun i hi => by subst hi; exact HS7.out.lo), HS7.out.q.q.keep hk5 (fun k e => by subst e; exact HS7.out.no), HS7.out.q.g⟩, blk_set3 HS7.out.blk, HS7.out.lo, HS7.out.no⟩
                have HS9 := Aside0.mk (show QSE w b La r y _ from ⟨_, _, hS9⟩)
                clear hS9 hk5 a0 a1 a2 b0 b1 b2 f0 f1 f2
                go_roundw
                case rel => exact ⟨1, r, y, by omega, by go_num, ⟨by have := HL.out; rw [List.length_cons] at this; omega⟩, HS9, ⟨fun z hz => HM.out z (List.mem_cons_of_mem _ hz)⟩, ⟨fun _ z hz => head_least HG5.out hz⟩⟩
                case measure => simp [intOf]; omega
          · have hip2 : (0 : Int) < (i : Int) := by omega
            go_wp2_with fail
            refine HH.out.mono ?_
            clear HH a0 a1 a2 hal
            rintro e w6 ⟨rfl, hB6⟩
            have HS6 := Aside0.mk (HS5.out.then hB6)
            have HW6 := Aside0.mk (blk_below HW5.out hB6)
            have HN6 : Aside0 (¬ Ex ok wr w4 w4.heap.size) := HNW
            obtain ⟨Lw, hLw⟩ : ∃ d, w4.heap.size = d := ⟨_, rfl⟩
            rw [hLw] at HW6
            have HLw := Aside0.mk (show Lw ≠ La by have := hLl; have := HLE.out; omega)
            clear hB6 HS5 HW5 HNW
            generalize Ex ok wr w4 = ok6 at *
            go_wp2_with fail
            clear hLw HLE
            go_loopw [10, 11] (fun fv ii wr => ∃ k : Nat, k ≤ l.length ∧ ii = .int .i64 k ∧ fv = .bool ((l.take k).any (eqW y)) ∧ Aside0 (Below w6.heap.size w6 wr)) (fun _ ii _ => l.length - (intOf ii).toNat)
            case atStart => exact ⟨0, by omega, rfl, by simp, ⟨Below.refl _ _⟩⟩
            case round =>
              obtain ⟨k, hk, rfl, rfl, HB⟩ := hrel
              by_cases hlt : k < l.length
              · obtain ⟨ab, off, rfl, hab⟩ := C_form HC.out (by omega) (by decide)
                obtain ⟨z, hz, e0, e1, e2⟩ := waits_at HC.out k hlt
                have HBw := Aside0.mk (below_then HS6.out.q.below HB.out)
                have hB7 : Below wr.heap.size wr wr.drew := (Below.refl _ _).drew
                have HBx : Aside0 (Below w6.heap.size w6 wr.drew) := ⟨HB.out.drew⟩
                have HBd : Aside0 (Below w.heap.size w wr.drew) := ⟨HBw.out.drew⟩
                have HW1 : Aside0 (wr.drew.heap[Lw]? = some _) := ⟨blk_below (blk_below HW6.out HB.out) hB7⟩
                have hki : (0 : Int) ≤ (k : Int) := by omega
                have hkl : (k : Int) < (l.length : Int) := by omega
                have HZ := Aside0.mk (take_any_succ (eqW y) hz)
                clear hB7 hz
                cases hfd : (l.take k).any (eqW y)
                · rw [hfd] at HZ
                  clear hfd
                  go_wp2_with fail
                  have c0 := (HBd.out.cell (p := ⟨ab, off + k * 3, none⟩) hab).trans e0
                  have c1 := (HBd.out.cell (p := ⟨ab, off + k * 3 + 1, none⟩) hab).trans e1
                  have c2 := (HBd.out.cell (p := ⟨ab, off + k * 3 + 2, none⟩) hab).trans e2
                  clear e0 e1 e2
                  refine start_ (n := 10) (S := fun w' => w'.cell? ⟨ab, off + k * 3, none⟩ = some (.int .i64 z.f0.f0) ∧ w'.cell? ⟨ab, off + k * 3 + 1, none⟩ = some (.int .i64 z.f0.f1) ∧ w'.cell? ⟨ab, off + k * 3 + 2, none⟩ = some (.int .u64 z.f1) ∧ w'.cell? ⟨Lw, 0, none⟩ = some (.int .i64 y.f0.f0) ∧ w'.cell? ⟨Lw, 1, none⟩ = some (.int .i64 y.f0.f1) ∧ w'.cell? ⟨Lw, 2, none⟩ = some (.int .u64 y.f1)) (ds := []) #[false, false, false, false, false, false, false, false, false, false] (by kernel_rfl) rfl rfl ⟨c0, c1, c2, cell_blk HW1.out 0, cell_blk HW1.out 1, cell_blk HW1.out 2⟩ (fun hHeld => ?_)
                  generalize wr.drew = x0 at *
                  refine pure_ (i := 0) (N := some 72) (v := ?_) (a' := ?_) #[true, false, false, false, false, false, false, false, false, false] rfl rfl (by kernel_rfl) (fun _ _ _ h => h) (Or.inl ⟨by rfl, ?_⟩) ?_ ?_
                  rotate_left
                  · intro w'
                    go_simp
                    with_reducible rfl
                  rotate_left
                  · simp only [Act.put, List.setIfInBounds_toArray, List.set_cons_zero, List.set_cons_succ, i64_w, i32_w]
                    rfl
                  refine pure_ (i := 1) (N := some 73) (v := ?_) (a' := ?_) #[true, true, false, false, false, false, false, false, false, false] rfl rfl (by kernel_rfl) (fun _ _ _ h => h) (Or.inl ⟨by rfl, ?_⟩) ?_ ?_
                  rotate_left
                  · intro w'
                    go_simp
                    with_reducible rfl
                  rotate_left
                  · simp only [Act.put, List.setIfInBounds_toArray, List.set_cons_zero, List.set_cons_succ, i64_w, i32_w]
                    rfl
                  refine pure_ (i := 2) (N := some 74) (v := ?_) (a' := ?_) #[true, true, true, false, false, false, false, false, false, false] rfl rfl (by kernel_rfl) (fun _ _ _ h => h) (Or.inl ⟨by rfl, ?_⟩) ?_ ?_
                  rotate_left
                  · intro w'
                    go_simp
                    with_reducible rfl
                  rotate_left
                  · simp only [Act.put, List.setIfInBounds_toArray, List.set_cons_zero, List.set_cons_succ, i64_w, i32_w]
                    rfl
                  refine pure_ (i := 3) (N := some 75) (v := ?_) (a' := ?_) #[true, true, true, true, false, false, false, false, false, false] rfl rfl (by kernel_rfl) (fun _ _ _ h => h) (Or.inl ⟨by rfl, ?_⟩) ?_ ?_
                  rotate_left
                  · intro w'
                    go_simp
                    with_reducible rfl
                  rotate_left
                  · simp only [Act.put, List.setIfInBounds_toArray, List.set_cons_zero, List.set_cons_succ, i64_w, i32_w]
                    rfl
                  refine pure_ (i := 4) (N := some 76) (v := ?_) (a' := ?_) #[true, true, true, true, true, false, false, false, false, false] rfl rfl (by kernel_rfl) (fun _ _ _ h => h) (Or.inl ⟨by rfl, ?_⟩) ?_ ?_
                  rotate_left
                  · intro w'
                    go_simp
                    with_reducible rfl
                  rotate_left
                  · simp only [Act.put, List.setIfInBounds_toArray, List.set_cons_zero, List.set_cons_succ, i64_w, i32_w]
                    rfl
                  refine take_ (i := 5) (N := some 77) (v := ?_) (a' := ?_) #[true, true, true, true, true, true, false, false, false, false] rfl rfl (by kernel_rfl) (fun _ _ _ h => h) (Or.inl ⟨by rfl, ?_⟩) hHeld ?_ ?_
                  rotate_left
                  · rintro w' ⟨s0, s1, s2, s3, s4, s5⟩
                    go_simp
                    with_reducible rfl
                  rotate_left
                  · simp only [Act.put, List.setIfInBounds_toArray, List.set_cons_zero, List.set_cons_succ, i64_w, i32_w]
                    rfl
                  refine take_ (i := 6) (N := some 78) (v := ?_) (a' := ?_) #[true, true, true, true, true, true, true, false, false, false] rfl rfl (by kernel_rfl) (fun _ _ _ h => h) (Or.inl ⟨by rfl, ?_⟩) hHeld ?_ ?_
                  rotate_left
                  · rintro w' ⟨s0, s1, s2, s3, s4, s5⟩
                    go_simp
                    with_reducible rfl
                  rotate_left
                  · simp only [Act.put, List.setIfInBounds_toArray, List.set_cons_zero, List.set_cons_succ, i64_w, i32_w]
                    rfl
                  refine pure_ (i := 7) (N := some 79) (v := ?_) (a' := ?_) #[true, true, true, true, true, true, true, true, false, false] rfl rfl (by kernel_rfl) (fun _ _ _ h => h) (Or.inl ⟨by rfl, ?_⟩) ?_ ?_
                  rotate_left
                  · intro w'
                    go_simp
                    rw [ite_eqW]
                  rotate_left
                  · simp only [Act.put, List.setIfInBounds_toArray, List.set_cons_zero, List.set_cons_succ, i64_w, i32_w]
                    rfl
                  refine pure_ (i := 8) (N := some 80) (v := ?_) (a' := ?_) #[true, true, true, true, true, true, true, true, true, false] rfl rfl (by kernel_rfl) (fun _ _ _ h => h) (Or.inl ⟨by rfl, ?_⟩) ?_ ?_
                  rotate_left
                  · intro w'
                    go_simp
                    with_reducible rfl
                  rotate_left
                  · simp only [Act.put, List.setIfInBounds_toArray, List.set_cons_zero, List.set_cons_succ, i64_w, i32_w]
                    rfl
                  refine pure_ (i := 9) (N := some 10) (v := ?_) (a' := ?_) #[true, true, true, true, true, true, true, true, true, true] rfl rfl (by kernel_rfl) (fun _ _ _ h => h) (Or.inl ⟨by rfl, ?_⟩) ?_ ?_
                  rotate_left
                  · intro w'
                    go_simp
                    with_reducible rfl
                  rotate_left
                  · simp only [Act.put, List.setIfInBounds_toArray, List.set_cons_zero, List.set_cons_succ, i64_w, i32_w]
                    rfl
                  refine done_ (by kernel_rfl) ?_
                  clear hHeld c0 c1 c2
                  go_wp2
                  go_roundw
                  case rel => exact ⟨k + 1, by omega, by go_num, by rw [HZ.out]; rfl, ⟨HBx.out⟩⟩
                  case measure => simp [intOf]; omega
                · rw [hfd] at HZ
                  clear hfd
                  go_wp2_with fail
                  have c0 := (HBd.out.cell (p := ⟨ab, off + k * 3, none⟩) hab).trans e0
                  have c1 := (HBd.out.cell (p := ⟨ab, off + k * 3 + 1, none⟩) hab).trans e1
                  have c2 := (HBd.out.cell (p := ⟨ab, off + k * 3 + 2, none⟩) hab).trans e2
                  clear e0 e1 e2
                  refine start_ (n := 10) (S := fun w' => w'.cell? ⟨ab, off + k * 3, none⟩ = some (.int .i64 z.f0.f0) ∧ w'.cell? ⟨ab, off + k * 3 + 1, none⟩ = some (.int .i64 z.f0.f1) ∧ w'.cell? ⟨ab, off + k * 3 + 2, none⟩ = some (.int .u64 z.f1) ∧ w'.cell? ⟨Lw, 0, none⟩ = some (.int .i64 y.f0.f0) ∧ w'.cell? ⟨Lw, 1, none⟩ = some (.int .i64 y.f0.f1) ∧ w'.cell? ⟨Lw, 2, none⟩ = some (.int .u64 y.f1)) (ds := []) #[false, false, false, false, false, false, false, false, false, false] (by kernel_rfl) rfl rfl ⟨c0, c1, c2, cell_blk HW1.out 0, cell_blk HW1.out 1, cell_blk HW1.out 2⟩ (fun hHeld => ?_)
                  generalize wr.drew = x0 at *
                  refine pure_ (i := 0) (N := some 72) (v := ?_) (a' := ?_) #[true, false, false, false, false, false, false, false, false, false] rfl rfl (by kernel_rfl) (fun _ _ _ h => h) (Or.inl ⟨by rfl, ?_⟩) ?_ ?_
                  rotate_left
                  · intro w'
                    go_simp
                    with_reducible rfl
                  rotate_left
                  · simp only [Act.put, List.setIfInBounds_toArray, List.set_cons_zero, List.set_cons_succ, i64_w, i32_w]
                    rfl
                  refine pure_ (i := 1) (N := some 73) (v := ?_) (a' := ?_) #[true, true, false, false, false, false, false, false, false, false] rfl rfl (by kernel_rfl) (fun _ _ _ h => h) (Or.inl ⟨by rfl, ?_⟩) ?_ ?_
                  rotate_left
                  · intro w'
                    go_simp
                    with_reducible rfl
                  rotate_left
                  · simp only [Act.put, List.setIfInBounds_toArray, List.set_cons_zero, List.set_cons_succ, i64_w, i32_w]
                    rfl
                  refine pure_ (i := 2) (N := some 74) (v := undef) (a' := ?_) #[true, true, true, false, false, false, false, false, false, false] rfl rfl (by kernel_rfl) (fun _ _ _ h => h) (Or.inr ⟨by rfl, rfl⟩) ?_ ?_
                  rotate_left
                  · simp only [Act.put, List.setIfInBounds_toArray, List.set_cons_zero, List.set_cons_succ, i64_w, i32_w]
                    rfl
                  refine pure_ (i := 3) (N := some 75) (v := undef) (a' := ?_) #[true, true, true, true, false, false, false, false, false, false] rfl rfl (by kernel_rfl) (fun _ _ _ h => h) (Or.inr ⟨by rfl, rfl⟩) ?_ ?_
                  rotate_left
                  · simp only [Act.put, List.setIfInBounds_toArray, List.set_cons_zero, List.set_cons_succ, i64_w, i32_w]
                    rfl
                  refine pure_ (i := 4) (N := some 76) (v := undef) (a' := ?_) #[true, true, true, true, true, false, false, false, false, false] rfl rfl (by kernel_rfl) (fun _ _ _ h => h) (Or.inr ⟨by rfl, rfl⟩) ?_ ?_
                  rotate_left
                  · simp only [Act.put, List.setIfInBounds_toArray, List.set_cons_zero, List.set_cons_succ, i64_w, i32_w]
                    rfl
                  refine pure_ (i := 5) (N := some 77) (v := undef) (a' := ?_) #[true, true, true, true, true, true, false, false, false, false] rfl rfl (by kernel_rfl) (fun _ _ _ h => h) (Or.inr ⟨by rfl, rfl⟩) ?_ ?_
                  rotate_left
                  · simp only [Act.put, List.setIfInBounds_toArray, List.set_cons_zero, List.set_cons_succ, i64_w, i32_w]
                    rfl
                  refine pure_ (i := 6) (N := some 78) (v := undef) (a' := ?_) #[true, true, true, true, true, true, true, false, false, false] rfl rfl (by kernel_rfl) (fun _ _ _ h => h) (Or.inr ⟨by rfl, rfl⟩) ?_ ?_
                  rotate_left
                  · simp only [Act.put, List.setIfInBounds_toArray, List.set_cons_zero, List.set_cons_succ, i64_w, i32_w]
                    rfl
                  refine pure_ (i := 7) (N := some 79) (v := undef) (a' := ?_) #[true, true, true, true, true, true, true, true, false, false] rfl rfl (by kernel_rfl) (fun _ _ _ h => h) (Or.inr ⟨by rfl, rfl⟩) ?_ ?_
                  rotate_left
                  · simp only [Act.put, List.setIfInBounds_toArray, List.set_cons_zero, List.set_cons_succ, i64_w, i32_w]
                    rfl
                  refine pure_ (i := 8) (N := some 80) (v := ?_) (a' := ?_) #[true, true, true, true, true, true, true, true, true, false] rfl rfl (by kernel_rfl) (fun _ _ _ h => h) (Or.inl ⟨by rfl, ?_⟩) ?_ ?_
                  rotate_left
                  · intro w'
                    go_simp
                    with_reducible rfl
                  rotate_left
                  · simp only [Act.put, List.setIfInBounds_toArray, List.set_cons_zero, List.set_cons_succ, i64_w, i32_w]
                    rfl
                  refine pure_ (i := 9) (N := some 10) (v := ?_) (a' := ?_) #[true, true, true, true, true, true, true, true, true, true] rfl rfl (by kernel_rfl) (fun _ _ _ h => h) (Or.inl ⟨by rfl, ?_⟩) ?_ ?_
                  rotate_left
                  · intro w'
                    go_simp
                    with_reducible rfl
                  rotate_left
                  · simp only [Act.put, List.setIfInBounds_toArray, List.set_cons_zero, List.set_cons_succ, i64_w, i32_w]
                    rfl
                  refine done_ (by kernel_rfl) ?_
                  clear hHeld c0 c1 c2
                  skip
                  go_wp2
                  go_roundw
                  case rel => exact ⟨k + 1, by omega, by go_num, by rw [HZ.out]; rfl, ⟨HBx.out⟩⟩
                  case measure => simp [intOf]; omega
              · obtain rfl : k = l.length := by omega
                rw [List.take_length, eqW_any HY.out]
                have hS7 := HS6.out.then HB.out
                have hW7 := blk_below HW6.out HB.out
                obtain ⟨b0, b1, b2⟩ := cells3 hW7
                obtain ⟨a0, a1, a2⟩ := cells3 hS7.blk
                obtain ⟨f0, f1, f2⟩ := froz3 hS7.blk
                have hal := lt_blk hS7.blk
                have HS7 := Aside0.mk hS7
                clear hS7 hW7
                go_wp2_with fail
                have hk5 := set3_keep wr La (.int .i64 y.f0.f0) (.int .i64 y.f0.f1) (.int .u64 y.f1)
                have hS9 : QS w b La r y ok6 v4 (((wr.setCell ⟨La, 0, none⟩ (.int .i64 y.f0.f0)).setCell ⟨La, 1, none⟩ (.int .i64 y.f0.f1)).setCell ⟨La, 2, none⟩ (.int .u64 y.f1)) := ⟨⟨below_then_keep HS7.out.q.below HS7.out.q.below.size hk5 (fun i hi => by subst hi; exact HS7.out.lo), HS7.out.q.q.keep hk5 (fun k e => by subst e; exact HS7.out.no), HS7.out.q.g⟩, blk_set3 HS7.out.blk, HS7.out.lo, HS7.out.no⟩
                have HS9 := Aside0.mk (show QSE w b La r y _ from ⟨_, _, hS9⟩)
                clear hS9 hk5 a0 a1 a2 b0 b1 b2 f0 f1 f2
                go_roundw
                case rel => exact ⟨(i + 1), r, y, by omega, by go_num, ⟨by have := HL.out; rw [List.length_cons] at this; omega⟩, HS9, ⟨fun z hz => HM.out z (List.mem_cons_of_mem _ hz)⟩, ⟨fun _ z hz => head_least HG5.out hz⟩⟩
                case measure => simp [intOf]; omega
        · obtain rfl : i = n := by omega
          obtain rfl : L = [] := by
            have := HL.out
            cases L with
            | nil => rfl
            | cons y r => simp at this
          have hT := que_take hS.q
          simp only [takeL] at hT
          clear hS
          go_wp2_with fail
          refine hT.mono ?_
          clear hT
          rintro e w4 ⟨rfl, ⟨v4, hQ4⟩, -⟩
          have HB4 := Aside0.mk (hQ4.then (w' := w4.alloc (.cells #[.int .i64 0, .int .i64 0, .int .u64 0] TW)) (below_al (Below.refl _ _) _)).below
          clear hQ4
          unfold zWt
          go_wp2
          go_ret
          exact ⟨rfl, HB4.out⟩
theorem fifoSorts.walk (w : World) (A : Option Addr) (c : Nat) (l : List Wt) (hc : l.length ≤ c) (hC : kW.C w A l.length l) (hG : l.length * Try.prog.bytesOf 32 ≤ reachBytes ∧ l.length ≤ 9223372036854775807 ∧ ∀ x ∈ l, True) :
    Calls Try.prog 3 #[.slice A l.length c] w fun e w' => e = .returned (.bool true) ∧ Below w.heap.size w w' := by
  have h1 : Try.prog.bytesOf 32 = 24 := by kernel_rfl
  rw [h1] at hG
  have hg := hG.1
  unfold reachBytes at hg
  exact FifoSorts0.walk w A c l hC hc (by omega)
theorem fifoSorts.own : ownKnob Try.prog.godebug = none := by kernel_rfl
theorem fifoSorts.laidOut : laidOutB Try.prog = true := by kernel_rfl
set_option maxRecDepth 100000 in
set_option maxHeartbeats 1000000 in
theorem fifoSorts.lifted (os : Os) (started : os.Started) (H : Type) (enc : TypeId × Value → H)
    : ReturnsInHanded {} Try.checked os 3 .any (Rows.fifoSortsSpec.pre6 enc Try.prog Try.f3 Rows.fifoSortsRow.domain false) (Rows.fifoSortsSpec.post enc Try.prog Try.f3 false true false false) := by
  refine returnsInHanded_of_change_sized (C := Try.checked) fifoSorts.own started (by kernel_rfl) Try.func3
    (ChangeSpec.witness6 (enc := enc) (C := Try.checked) false ⟨#[], #[.slice none 0 0], []⟩ 8 (by kernel_rfl) (by kernel_rfl) (by kernel_rfl) (by kernel_rfl)) ?_
  intro W base args ds gs before hval0 hW hcnd hsz0 _
  have hsz : (DataW.weightsEach Try.prog (Try.f3.params.toList ++ Rows.fifoSortsSpec.plain.varTypes Try.prog) (ds ++ gs)).all (· ≤ reachBytes) = true := hsz0
  have hval : ∀ (j : Nat) t v, Try.f3.params[j]? = some t → args[j]? = some v → Value.okWide Try.prog W .any base t v := hval0
  have hW' := hW
  obtain ⟨p, q, hA0, hV, rfl, hfz, hnd⟩ := hW
  have hA : DataW.TrodAll enc Try.prog W 0 (fun _ => true) true Try.f3.params.toList args.toList ds p := hA0
  rw [Try.params3] at hA hval hsz
  obtain ⟨v0, vs0, d0, ds0, p0, q0, hargs, rfl, rfl, h0, r0⟩ := trodAll_cons hA
  obtain ⟨rfl, rfl, rfl⟩ := trodAll_nil r0
  obtain rfl : args = #[v0] := by cases args; simp_all
  obtain ⟨rfl, rfl⟩ := trodVars_none hV
  have k0 := h0
  have lt0 : ∀ x ∈ p0, x.block < W.heap.size := by obtain ⟨m, hm⟩ := k0; exact DataW.trod_lt m _ _ _ hm
  have W0 := Op.weights_of hsz (j := 0) (t := 22) (d := d0) rfl rfl
  obtain ⟨A0, len0, cap0, rfl⟩ := okWide_slice Try.underlying22 (hval 0 22 v0 rfl rfl)
  obtain ⟨f0, hf0⟩ := h0
  obtain ⟨a0, hK0, hG0, hM0⟩ := Op.opens_slice Try.underlying22 (by kernel_rfl) opensW H enc W _ true f0 _ (d0, p0) hf0 W0
  obtain ⟨A', c', he0, hc0, hC0⟩ := hK0
  obtain ⟨rfl, rfl, rfl⟩ : A0 = A' ∧ len0 = a0.length ∧ cap0 = c' := by simpa [Value.cells] using he0
  clear hA0 hval0 hsz0 hsz
  refine (fifoSorts.walk W A0 cap0 a0 hc0 hC0 hG0).mono fun e W' ⟨he, bel⟩ => ?_
  subst he
  exact ⟨_, rfl, _, _, _, [], _, [], hW', trodAll_mk1 (shut_bool Try.underlying4 _), (trodAll_cons_mk (Below.trod fifoSorts.laidOut (by kernel_rfl) (of_decide_eq_true (by kernel_rfl)) k0 bel lt0) trodAll_mk0), rfl, bel.frame _, fun h => by cases h⟩
theorem fifoSorts_holds : Rows.FifoSortsSaid :=
  OpenClaim.holds_of_wide 3 Try.f3 rfl rfl rfl rfl rfl rfl rfl ⟨rfl, rfl, rfl, rfl, rfl⟩ rfl rfl rfl rfl rfl (by kernel_rfl) Try.func3 (by kernel_rfl)
    (of_decide_eq_true (by kernel_rfl)) (by unfold Func.isWrapper; first | (rw [if_pos (by decide +kernel)]; kernel_rfl) | (rw [if_neg (by decide +kernel)]; exact ⟨rfl, rfl⟩))
    (fun os started H enc _ => fifoSorts.lifted os started H enc)
#print axioms fifoSorts_holds

end Go.Proofs.Ytikoonomhojlkaa
