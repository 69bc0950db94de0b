import Derived.Test.YtkjfojbnghbkdaaCellsF
import Derived.Deep.RegionHeld3
namespace Go.Proofs.Ytkjfojbnghbkdaa
open Go.RowKit Go.Proofs.YtkjfojbnghbkdaaW.PrintWords
open Go.Proofs.Ytkjfojbnghbkdaa.PCellsOwn (S28 k28)
theorem Try.info28 : (Try.prog.info? 28).map (fun i => (i.zero, i.size, i.bytes)) = some (some (.agg #[.int .i64 0, .int .i64 0, .int .i64 0, .int .i64 0, .bool false]), 5, 40) := by kernel_rfl

theorem calls_lit (w0 w : World) (b vb : Nat) (m : Value) (xs : List Int) (o : COp) (P : Nat → Prop) (hI : Inv w0 w b vb P m xs) (hP : ¬ P b ∧ ¬ P vb) :
    Calls Try.prog 25 #[.pointer (some ⟨b, 0, none⟩), m, .agg #[.int .i64 o.k, .int .i64 o.c, .int .i64 o.o, .int .i64 o.v]] w fun e w' => ∃ m', e = .returned (.tuple #[m', (ck xs o).2.1.val, .bool (ck xs o).2.2, .bool true]) ∧ Inv w0 w' b vb (fun k => P k ∨ w.heap.size ≤ k) m' (ck xs o).1 ∧ Keep (fun k => k = vb ∨ P k) w w' :=
  calls_any w0 w b vb m xs o P hI hP
def Acc.s (a : Acc) : S28 := ⟨a.c, a.k, a.b, a.a, a.w⟩
/-- The accesses of calls, and the values behind them. -/
def lg (xs : List Int) : List COp → List Acc → List Acc × List Int
  | [], l => (l, xs)
  | o :: os, l => lg (ck xs o).1 os (if (ck xs o).2.2 then l ++ [(ck xs o).2.1] else l)
theorem lg_step {ops : List COp} {k : Nat} {o : COp} (h : ops[k]? = some o) (ys : List Int) (l : List Acc) : lg ys (ops.drop k) l = lg (ck ys o).1 (ops.drop (k + 1)) (if (ck ys o).2.2 then l ++ [(ck ys o).2.1] else l) := by
  obtain ⟨hk, he⟩ := List.getElem?_eq_some_iff.1 h
  rw [List.drop_eq_getElem_cons hk, he]
  rfl
theorem lg_length (os : List COp) : ∀ (xs : List Int) (l : List Acc), (lg xs os l).2.length = xs.length := by
  induction os with
  | nil => intro xs l; rfl
  | cons o os ih => intro xs l; simp only [lg]; rw [ih, ck_length]

set_option maxRecDepth 100000 in
set_option maxHeartbeats 4000000 in
theorem log_any (w0 w : World) (b vb : Nat) (xs : List Int) (A : Option Addr) (c : Nat) (ops : List COp) (hI : IsCells w b vb xs) (hB : Below w0.heap.size w0 w) (hb : w0.heap.size ≤ b) (hvb : w0.heap.size ≤ vb)
    (hC : kOp.C w0 A ops.length ops) (hlen : ops.length * 40 ≤ 140737488355328) :
    Calls Try.prog 28 #[.pointer (some ⟨b, 0, none⟩), .slice A ops.length c] w fun e w' => ∃ v, e = .returned v ∧ Kd.R k28 28 w' w0.heap.size (fun k => k ≠ b ∧ k ≠ vb) v ((lg xs ops []).1.map Acc.s) ∧ IsCells w' b vb (lg xs ops []).2 ∧ Below w0.heap.size w0 w' := by
  have HC := Aside0.mk hC
  have hlt1 := lt_blk hI.blk
  have hlt2 := lt_blk hI.vals
  have HI := Aside0.mk hI
  have HB := Aside0.mk hB
  clear hC hI hB
  go_enter Try.func28, Try.ntmps28
  go_wp2
  go_loopw [5, 6] (fun v i wr => ∃ (k : Nat) (ys : List Int) (l : List Acc), k ≤ ops.length ∧ l.length ≤ k ∧ i = .int .i64 k ∧ Aside0 (lg ys (ops.drop k) l = lg xs ops []) ∧ Aside0 (IsCells wr b vb ys) ∧ Aside0 (Below w0.heap.size w0 wr) ∧ Aside0 (Kd.R k28 28 wr w0.heap.size (fun k => k ≠ b ∧ k ≠ vb) v (l.map Acc.s))) (fun _ i _ => ops.length - (intOf i).toNat)
  case atStart => exact ⟨0, xs, [], by omega, by simp, rfl, ⟨rfl⟩, HI, HB, ⟨Kd.R_nil _ _ _ _ _⟩⟩
  case round =>
    obtain ⟨k, ys, l, hk, hlk, rfl, HE, HI, HB, HR⟩ := hrel
    by_cases hlt : k < ops.length
    · obtain ⟨ab, off, rfl, hab⟩ := C_form HC.out (by omega) (by decide)
      obtain ⟨o, ho, h0, h1, h2, h3⟩ := ops_at HC.out k hlt
      have HO := Aside0.mk ho
      have g0 := (HB.out.cell (p := ⟨ab, off + k * 4, none⟩) hab).trans h0
      have g1 := (HB.out.cell (p := ⟨ab, off + k * 4 + 1, none⟩) hab).trans h1
      have g2 := (HB.out.cell (p := ⟨ab, off + k * 4 + 2, none⟩) hab).trans h2
      have g3 := (HB.out.cell (p := ⟨ab, off + k * 4 + 3, none⟩) hab).trans h3
      have HH := Aside0.mk (And.intro h0 (And.intro h1 (And.intro h2 h3)))
      clear ho h0 h1 h2 h3
      go_wp2
      obtain ⟨q, hck⟩ : ∃ q, q = ck ys o := ⟨_, rfl⟩
      have HCK := Aside0.mk hck.symm
      clear hck
      obtain ⟨zs, ⟨ac, ak, ab', aa, aw⟩, sm⟩ := q
      have habr : ab < wr.heap.size := Nat.lt_of_lt_of_le hab HB.out.size
      have hsz := HB.out.size
      have hbr := lt_blk HI.out.blk
      have hvr := lt_blk HI.out.vals
      go_region_held3 (fun w' => w'.cell? ⟨ab, off + k * 4, none⟩ = some (.int .i64 o.k) ∧ w'.cell? ⟨ab, off + k * 4 + 1, none⟩ = some (.int .i64 o.c) ∧ w'.cell? ⟨ab, off + k * 4 + 2, none⟩ = some (.int .i64 o.o) ∧ w'.cell? ⟨ab, off + k * 4 + 3, none⟩ = some (.int .i64 o.v)) (first | (with_reducible exact ⟨(hI4.below.cell (p := ⟨ab, off + k * 4, none⟩) hab).trans HH.out.1, (hI4.below.cell (p := ⟨ab, off + k * 4 + 1, none⟩) hab).trans HH.out.2.1, (hI4.below.cell (p := ⟨ab, off + k * 4 + 2, none⟩) hab).trans HH.out.2.2.1, (hI4.below.cell (p := ⟨ab, off + k * 4 + 3, none⟩) hab).trans HH.out.2.2.2⟩) | (with_reducible exact ⟨((hI4.below.alloc hI4.below.size _).cell (p := ⟨ab, off + k * 4, none⟩) hab).trans HH.out.1, ((hI4.below.alloc hI4.below.size _).cell (p := ⟨ab, off + k * 4 + 1, none⟩) hab).trans HH.out.2.1, ((hI4.below.alloc hI4.below.size _).cell (p := ⟨ab, off + k * 4 + 2, none⟩) hab).trans HH.out.2.2.1, ((hI4.below.alloc hI4.below.size _).cell (p := ⟨ab, off + k * 4 + 3, none⟩) hab).trans HH.out.2.2.2⟩) | (with_reducible exact ⟨(hB3.cell (p := ⟨ab, off + k * 4, none⟩) habr).trans g0, (hB3.cell (p := ⟨ab, off + k * 4 + 1, none⟩) habr).trans g1, (hB3.cell (p := ⟨ab, off + k * 4 + 2, none⟩) habr).trans g2, (hB3.cell (p := ⟨ab, off + k * 4 + 3, none⟩) habr).trans g3⟩) | (with_reducible exact ⟨((hB3.alloc hB3.size _).cell (p := ⟨ab, off + k * 4, none⟩) habr).trans g0, ((hB3.alloc hB3.size _).cell (p := ⟨ab, off + k * 4 + 1, none⟩) habr).trans g1, ((hB3.alloc hB3.size _).cell (p := ⟨ab, off + k * 4 + 2, none⟩) habr).trans g2, ((hB3.alloc hB3.size _).cell (p := ⟨ab, off + k * 4 + 3, none⟩) habr).trans g3⟩) | (with_reducible exact ⟨(((Below.refl wr.heap.size wr).alloc (Nat.le_refl _) _).drew.cell (p := ⟨ab, off + k * 4, none⟩) habr).trans g0, (((Below.refl wr.heap.size wr).alloc (Nat.le_refl _) _).drew.cell (p := ⟨ab, off + k * 4 + 1, none⟩) habr).trans g1, (((Below.refl wr.heap.size wr).alloc (Nat.le_refl _) _).drew.cell (p := ⟨ab, off + k * 4 + 2, none⟩) habr).trans g2, (((Below.refl wr.heap.size wr).alloc (Nat.le_refl _) _).drew.cell (p := ⟨ab, off + k * 4 + 3, none⟩) habr).trans g3⟩) | (with_reducible exact ⟨((((((hI4.below.setCell (p := ⟨w3.heap.size, 0, none⟩) (Nat.le_trans HB.out.size hB3.size) _).setCell (p := ⟨w3.heap.size, 1, none⟩) (Nat.le_trans HB.out.size hB3.size) _).setCell (p := ⟨w3.heap.size, 2, none⟩) (Nat.le_trans HB.out.size hB3.size) _).setCell (p := ⟨w3.heap.size, 3, none⟩) (Nat.le_trans HB.out.size hB3.size) _).setCell (p := ⟨w3.heap.size, 4, none⟩) (Nat.le_trans HB.out.size hB3.size) _).cell (p := ⟨ab, off + k * 4, none⟩) hab).trans HH.out.1, ((((((hI4.below.setCell (p := ⟨w3.heap.size, 0, none⟩) (Nat.le_trans HB.out.size hB3.size) _).setCell (p := ⟨w3.heap.size, 1, none⟩) (Nat.le_trans HB.out.size hB3.size) _).setCell (p := ⟨w3.heap.size, 2, none⟩) (Nat.le_trans HB.out.size hB3.size) _).setCell (p := ⟨w3.heap.size, 3, none⟩) (Nat.le_trans HB.out.size hB3.size) _).setCell (p := ⟨w3.heap.size, 4, none⟩) (Nat.le_trans HB.out.size hB3.size) _).cell (p := ⟨ab, off + k * 4 + 1, none⟩) hab).trans HH.out.2.1, ((((((hI4.below.setCell (p := ⟨w3.heap.size, 0, none⟩) (Nat.le_trans HB.out.size hB3.size) _).setCell (p := ⟨w3.heap.size, 1, none⟩) (Nat.le_trans HB.out.size hB3.size) _).setCell (p := ⟨w3.heap.size, 2, none⟩) (Nat.le_trans HB.out.size hB3.size) _).setCell (p := ⟨w3.heap.size, 3, none⟩) (Nat.le_trans HB.out.size hB3.size) _).setCell (p := ⟨w3.heap.size, 4, none⟩) (Nat.le_trans HB.out.size hB3.size) _).cell (p := ⟨ab, off + k * 4 + 2, none⟩) hab).trans HH.out.2.2.1, ((((((hI4.below.setCell (p := ⟨w3.heap.size, 0, none⟩) (Nat.le_trans HB.out.size hB3.size) _).setCell (p := ⟨w3.heap.size, 1, none⟩) (Nat.le_trans HB.out.size hB3.size) _).setCell (p := ⟨w3.heap.size, 2, none⟩) (Nat.le_trans HB.out.size hB3.size) _).setCell (p := ⟨w3.heap.size, 3, none⟩) (Nat.le_trans HB.out.size hB3.size) _).setCell (p := ⟨w3.heap.size, 4, none⟩) (Nat.le_trans HB.out.size hB3.size) _).cell (p := ⟨ab, off + k * 4 + 3, none⟩) hab).trans HH.out.2.2.2⟩) | (with_reducible exact ⟨((((((hI4.below.setCell (p := ⟨wr.heap.size, 0, none⟩) HB.out.size _).setCell (p := ⟨wr.heap.size, 1, none⟩) HB.out.size _).setCell (p := ⟨wr.heap.size, 2, none⟩) HB.out.size _).setCell (p := ⟨wr.heap.size, 3, none⟩) HB.out.size _).setCell (p := ⟨wr.heap.size, 4, none⟩) HB.out.size _).cell (p := ⟨ab, off + k * 4, none⟩) hab).trans HH.out.1, ((((((hI4.below.setCell (p := ⟨wr.heap.size, 0, none⟩) HB.out.size _).setCell (p := ⟨wr.heap.size, 1, none⟩) HB.out.size _).setCell (p := ⟨wr.heap.size, 2, none⟩) HB.out.size _).setCell (p := ⟨wr.heap.size, 3, none⟩) HB.out.size _).setCell (p := ⟨wr.heap.size, 4, none⟩) HB.out.size _).cell (p := ⟨ab, off + k * 4 + 1, none⟩) hab).trans HH.out.2.1, ((((((hI4.below.setCell (p := ⟨wr.heap.size, 0, none⟩) HB.out.size _).setCell (p := ⟨wr.heap.size, 1, none⟩) HB.out.size _).setCell (p := ⟨wr.heap.size, 2, none⟩) HB.out.size _).setCell (p := ⟨wr.heap.size, 3, none⟩) HB.out.size _).setCell (p := ⟨wr.heap.size, 4, none⟩) HB.out.size _).cell (p := ⟨ab, off + k * 4 + 2, none⟩) hab).trans HH.out.2.2.1, ((((((hI4.below.setCell (p := ⟨wr.heap.size, 0, none⟩) HB.out.size _).setCell (p := ⟨wr.heap.size, 1, none⟩) HB.out.size _).setCell (p := ⟨wr.heap.size, 2, none⟩) HB.out.size _).setCell (p := ⟨wr.heap.size, 3, none⟩) HB.out.size _).setCell (p := ⟨wr.heap.size, 4, none⟩) HB.out.size _).cell (p := ⟨ab, off + k * 4 + 3, none⟩) hab).trans HH.out.2.2.2⟩) | go_keep) (first | (go_at_call 21; (with_reducible refine (values_any b vb ys wr.drew (HI.out.new (Below.refl _ _).drew)).mono ?_); rintro e w3 ⟨v3, rfl, hv3, hB3x⟩; have hB3 : Below wr.heap.size wr w3 := below_then (Below.refl _ _).drew hB3x; have hv3' : Kd.R (Kd.int .i64) 2 w3 wr.heap.size (fun k => wr.heap.size ≤ k ∧ k < w3.heap.size) v3 ys := Kd.R_mono (Kd.R_bound hv3) (fun _ h => ⟨h.2.1, h.2.2.1⟩)) | (go_at_call 21; (with_reducible refine (values_any b vb ys ((wr.alloc (.cells #[.int .i64 0, .int .i64 0, .int .i64 0, .int .i64 0, .bool false] 28)).drew) (HI.out.new ((Below.refl _ _).alloc (Nat.le_refl _) _).drew)).mono ?_); rintro e w3 ⟨v3, rfl, hv3, hB3x⟩; have hB3 : Below wr.heap.size wr w3 := below_then ((Below.refl _ _).alloc (Nat.le_refl _) _).drew hB3x; have hz := blk_below (blk_drew (blk_new wr (.cells #[.int .i64 0, .int .i64 0, .int .i64 0, .int .i64 0, .bool false] 28))) hB3x; replace hz : w3.heap[wr.heap.size]? = some (.cells #[.int .i64 0, .int .i64 0, .int .i64 0, .int .i64 0, .bool false] 28) := hz; have hv3z : Kd.R (Kd.int .i64) 2 w3 wr.heap.size (fun k => wr.heap.size + 1 ≤ k ∧ k < w3.heap.size) v3 ys := Kd.R_lower (Kd.R_mono (Kd.R_bound hv3) (fun _ h => ⟨by have := h.2.1; simpa using this, h.2.2.1⟩)) (by simp); have y0 := cell_blk hz 0; have y1 := cell_blk hz 1; have y2 := cell_blk hz 2; have y3 := cell_blk hz 3; have y4 := cell_blk hz 4; have yf := frozen_blk hz; have yl := lt_blk hz; simp at y0 y1 y2 y3 y4) | (go_at_call 25; (with_reducible refine (calls_lit w0 (w3) b vb v3 ys o (fun k => wr.heap.size + 1 ≤ k ∧ k < w3.heap.size) ⟨HI.out.new (hB3), Kd.R_lower (hv3z) HB.out.size, HB.out.trans ((hB3 : Below wr.heap.size wr _).mono HB.out.size), hb, hvb⟩ (by omega)).mono ?_); rw [HCK.out]; dsimp only [Acc.val]; rintro e w4 ⟨m', rfl, hI4, hK4⟩; have hz4 := blk_keep hz hK4 (by omega); have z0 := cell_blk hz4 0; have z1 := cell_blk hz4 1; have z2 := cell_blk hz4 2; have z3 := cell_blk hz4 3; have z4 := cell_blk hz4 4; have zf := frozen_blk hz4; have zl := lt_blk hz4; simp at z0 z1 z2 z3 z4) | (go_at_call 25; (with_reducible refine (calls_lit w0 (w3.alloc (.cells #[.int .i64 0, .int .i64 0, .int .i64 0, .int .i64 0, .bool false] 28)) b vb v3 ys o (fun k => wr.heap.size ≤ k ∧ k < w3.heap.size) ⟨HI.out.new (hB3.alloc hB3.size _), Kd.R_lower (Kd.R_below hv3' (below_al (Below.refl _ _) _)) HB.out.size, HB.out.trans ((hB3.alloc hB3.size _ : Below wr.heap.size wr _).mono HB.out.size), hb, hvb⟩ (by omega)).mono ?_); rw [HCK.out]; dsimp only [Acc.val]; rintro e w4 ⟨m', rfl, hI4, hK4⟩; have hz4 := blk_keep (blk_new w3 (.cells #[.int .i64 0, .int .i64 0, .int .i64 0, .int .i64 0, .bool false] 28)) hK4 (by have := hB3.size; omega); have z0 := cell_blk hz4 0; have z1 := cell_blk hz4 1; have z2 := cell_blk hz4 2; have z3 := cell_blk hz4 3; have z4 := cell_blk hz4 4; have zf := frozen_blk hz4; have zl := lt_blk hz4; simp at z0 z1 z2 z3 z4) | (go_at_call 25; (with_reducible refine (calls_lit w0 (w3) b vb v3 ys o (fun k => wr.heap.size ≤ k ∧ k < w3.heap.size) ⟨HI.out.new (hB3), Kd.R_lower (hv3') HB.out.size, HB.out.trans ((hB3 : Below wr.heap.size wr _).mono HB.out.size), hb, hvb⟩ (by omega)).mono ?_); rw [HCK.out]; dsimp only [Acc.val]; rintro e w4 ⟨m', rfl, hI4, hK4⟩))
      · have hKW : Keep (fun k => k = vb ∨ wr.heap.size ≤ k) wr (w4.alloc (.cells #[.int .i64 ac, .int .i64 ak, .int .i64 ab', .int .i64 aa, .bool aw] 28)) := (((Keep.of_below hB3).trans' hK4 (fun i hi h => by omega)) : Keep (fun k => k = vb ∨ wr.heap.size ≤ k) wr w4).alloc _
        have hq : (w4.alloc (.cells #[.int .i64 ac, .int .i64 ak, .int .i64 ab', .int .i64 aa, .bool aw] 28)).heap[w4.heap.size]? = some (.cells #[.int .i64 ac, .int .i64 ak, .int .i64 ab', .int .i64 aa, .bool aw] 28 (0, 0)) := blk_new _ _
        have hBW : Below w0.heap.size w0 (w4.alloc (.cells #[.int .i64 ac, .int .i64 ak, .int .i64 ab', .int .i64 aa, .bool aw] 28)) := hI4.below.alloc hI4.below.size _
        have hIW : IsCells (w4.alloc (.cells #[.int .i64 ac, .int .i64 ak, .int .i64 ab', .int .i64 aa, .bool aw] 28)) b vb zs := hI4.cells.new (below_al (Below.refl _ _) _)
        have hRW : Kd.R k28 28 (w4.alloc (.cells #[.int .i64 ac, .int .i64 ak, .int .i64 ab', .int .i64 aa, .bool aw] 28)) w0.heap.size (fun k => k ≠ b ∧ k ≠ vb) u5 (l.map Acc.s) := Kd.R_step HR.out (fun k hk hlt => hKW.block k hlt (by have := hk.2; omega))
        have hbW := lt_blk hIW.blk
        have hvW := lt_blk hIW.vals
        have HRW := Aside0.mk hRW
        have HBW := Aside0.mk hBW
        have HIW := Aside0.mk hIW
        have hst := lg_step HO.out ys l
        rw [HCK.out, HE.out] at hst
        have HST := Aside0.mk hst.symm
        clear hKW hBW hIW hRW hst hv3 hB3x hB3 hI4 hK4 g0 g1 g2 g3 hv3'
        generalize (w4.alloc (.cells #[.int .i64 ac, .int .i64 ak, .int .i64 ab', .int .i64 aa, .bool aw] 28)) = W at *
        have q0 := cell_blk hq 0
        have q1 := cell_blk hq 1
        have q2 := cell_blk hq 2
        have q3 := cell_blk hq 3
        have q4 := cell_blk hq 4
        simp at q0 q1 q2 q3 q4
        clear hq
        cases sm with
        | true =>
          go_wp2_with (first | ((with_reducible refine gate_builtin (b := .append) (xs := #[.tmp 31, .tmp 33]) rfl ?_); at_builtin; refine Kd.R_append k28 (w0 := w0) w0.heap.size rfl (.tmp 31) (.tmp 33) 34 28 _ 40 rfl Try.underlying34 Try.info28 rfl (by decide) (by omega) u5 (l.map Acc.s) (⟨ac, ak, ab', aa, aw⟩ : S28) [.int .i64 ac, .int .i64 ak, .int .i64 ab', .int .i64 aa, .bool aw] (fun k => k ≠ b ∧ k ≠ vb) (fun _ => False) rfl rfl ?aM (fun _ h => h.elim) ?aF ?aO ?aB ?aS ?aL ?_; (case aM => exact PCellsOwn.k28_mkM _ _ _ _); (case aF => intro k hk; omega); (case aO => exact HRW.out); (case aB => exact HBW.out); (case aS => exact HBW.out.size); (case aL => simp; omega); intro v1 w5 ho hb1 hg hat))
          have HIN : IsCells w5 b vb zs := ⟨(hg.block b hbW (fun e => (HRW.out.1 b e.symm).1 rfl)).trans HIW.out.blk, (hg.block vb hvW (fun e => (HRW.out.1 vb e.symm).2 rfl)).trans HIW.out.vals, HIW.out.len, HIW.out.ne⟩
          have HO5 := Aside0.mk ho
          have HB5 := Aside0.mk hb1
          have HI5 := Aside0.mk HIN
          clear ho hb1 hg hat HIN
          go_wp2
          go_roundw
          case rel => exact ⟨k + 1, zs, l ++ [⟨ac, ak, ab', aa, aw⟩], by omega, by simp; omega, by go_num, HST, HI5, HB5, ⟨by rw [List.map_append]; exact HO5.out⟩⟩
          case measure => simp [intOf]; omega
        | false =>
          go_wp2
          go_roundw
          case rel => exact ⟨k + 1, zs, l, by omega, by omega, by go_num, HST, HIW, HBW, HRW⟩
          case measure => simp [intOf]; omega
      · have hKW : Keep (fun k => k = vb ∨ wr.heap.size ≤ k) wr (((((w4.setCell ⟨w3.heap.size, 0, none⟩ (.int .i64 ac)).setCell ⟨w3.heap.size, 1, none⟩ (.int .i64 ak)).setCell ⟨w3.heap.size, 2, none⟩ (.int .i64 ab')).setCell ⟨w3.heap.size, 3, none⟩ (.int .i64 aa)).setCell ⟨w3.heap.size, 4, none⟩ (.bool aw)) := by have hx := hB3.size; exact (by repeat (first | (with_reducible exact (((Keep.of_below (hB3.alloc hB3.size _)).trans' hK4 (fun i hi h => by omega)) : Keep (fun k => k = vb ∨ wr.heap.size ≤ k) wr w4)) | (with_reducible refine Keep.drewN ?_ _) | (with_reducible refine Keep.drew ?_) | (with_reducible refine Keep.setCell ?_ _ _ (by first | (right; with_reducible rfl) | (left; simp; done) | (left; simp; omega) | (right; simp; done) | (right; assumption))) | (with_reducible refine Keep.alloc ?_ _)))
        have hq : (((((w4.setCell ⟨w3.heap.size, 0, none⟩ (.int .i64 ac)).setCell ⟨w3.heap.size, 1, none⟩ (.int .i64 ak)).setCell ⟨w3.heap.size, 2, none⟩ (.int .i64 ab')).setCell ⟨w3.heap.size, 3, none⟩ (.int .i64 aa)).setCell ⟨w3.heap.size, 4, none⟩ (.bool aw)).heap[w3.heap.size]? = some (.cells #[.int .i64 ac, .int .i64 ak, .int .i64 ab', .int .i64 aa, .bool aw] 28 (0, 0)) := by exact (by repeat (first | (with_reducible exact hz4) | (with_reducible refine blk_set ?_) | (with_reducible refine blk_set_ne ?_ (by first | assumption | (with_reducible rfl) | (simp; done) | (simp; omega) | omega)) | (with_reducible refine blk_drewN ?_ _) | (with_reducible refine blk_drew ?_) | (with_reducible refine blk_alloc ?_)) : (((((w4.setCell ⟨w3.heap.size, 0, none⟩ (.int .i64 ac)).setCell ⟨w3.heap.size, 1, none⟩ (.int .i64 ak)).setCell ⟨w3.heap.size, 2, none⟩ (.int .i64 ab')).setCell ⟨w3.heap.size, 3, none⟩ (.int .i64 aa)).setCell ⟨w3.heap.size, 4, none⟩ (.bool aw)).heap[w3.heap.size]? = some (.cells (((((#[.int .i64 0, .int .i64 0, .int .i64 0, .int .i64 0, .bool false] : Array Value).setIfInBounds 0 (.int .i64 ac)).setIfInBounds 1 (.int .i64 ak)).setIfInBounds 2 (.int .i64 ab')).setIfInBounds 3 (.int .i64 aa) |>.setIfInBounds 4 (.bool aw)) 28 (0, 0)))
        have hBW : Below w0.heap.size w0 (((((w4.setCell ⟨w3.heap.size, 0, none⟩ (.int .i64 ac)).setCell ⟨w3.heap.size, 1, none⟩ (.int .i64 ak)).setCell ⟨w3.heap.size, 2, none⟩ (.int .i64 ab')).setCell ⟨w3.heap.size, 3, none⟩ (.int .i64 aa)).setCell ⟨w3.heap.size, 4, none⟩ (.bool aw)) := by have hx := hB3.size; exact (by repeat (first | (with_reducible exact hI4.below) | (with_reducible refine Below.drew ?_) | (with_reducible refine below_drewN ?_ _) | (with_reducible refine below_al ?_ _) | (with_reducible refine Below.alloc ?_ (by first | exact Nat.le_refl _ | omega | (simp; done) | (simp; omega)) _) | (with_reducible refine Below.setCell ?_ (by first | (simp only []; omega) | (simp; done) | (simp; omega)) _)))
        have hIW : IsCells (((((w4.setCell ⟨w3.heap.size, 0, none⟩ (.int .i64 ac)).setCell ⟨w3.heap.size, 1, none⟩ (.int .i64 ak)).setCell ⟨w3.heap.size, 2, none⟩ (.int .i64 ab')).setCell ⟨w3.heap.size, 3, none⟩ (.int .i64 aa)).setCell ⟨w3.heap.size, 4, none⟩ (.bool aw)) b vb zs := by have hx := hB3.size; exact ⟨(by repeat (first | (with_reducible exact hI4.cells.blk) | (with_reducible refine blk_set_ne ?_ (by first | assumption | (with_reducible rfl) | (simp; done) | (simp; omega) | omega)) | (with_reducible refine blk_drewN ?_ _) | (with_reducible refine blk_drew ?_) | (with_reducible refine blk_alloc ?_))), (by repeat (first | (with_reducible exact hI4.cells.vals) | (with_reducible refine blk_set_ne ?_ (by first | assumption | (with_reducible rfl) | (simp; done) | (simp; omega) | omega)) | (with_reducible refine blk_drewN ?_ _) | (with_reducible refine blk_drew ?_) | (with_reducible refine blk_alloc ?_))), hI4.cells.len, hI4.cells.ne⟩
        have hRW : Kd.R k28 28 (((((w4.setCell ⟨w3.heap.size, 0, none⟩ (.int .i64 ac)).setCell ⟨w3.heap.size, 1, none⟩ (.int .i64 ak)).setCell ⟨w3.heap.size, 2, none⟩ (.int .i64 ab')).setCell ⟨w3.heap.size, 3, none⟩ (.int .i64 aa)).setCell ⟨w3.heap.size, 4, none⟩ (.bool aw)) w0.heap.size (fun k => k ≠ b ∧ k ≠ vb) u5 (l.map Acc.s) := Kd.R_step HR.out (fun k hk hlt => hKW.block k hlt (by have := hk.2; omega))
        have hbW := lt_blk hIW.blk
        have hvW := lt_blk hIW.vals
        have HRW := Aside0.mk hRW
        have HBW := Aside0.mk hBW
        have HIW := Aside0.mk hIW
        have hst := lg_step HO.out ys l
        rw [HCK.out, HE.out] at hst
        have HST := Aside0.mk hst.symm
        clear hKW hBW hIW hRW hst hv3 hB3x hB3 hI4 hK4 g0 g1 g2 g3 z0 z1 z2 z3 z4 zf zl hz4 hv3'
        generalize (((((w4.setCell ⟨w3.heap.size, 0, none⟩ (.int .i64 ac)).setCell ⟨w3.heap.size, 1, none⟩ (.int .i64 ak)).setCell ⟨w3.heap.size, 2, none⟩ (.int .i64 ab')).setCell ⟨w3.heap.size, 3, none⟩ (.int .i64 aa)).setCell ⟨w3.heap.size, 4, none⟩ (.bool aw)) = W at *
        have q0 := cell_blk hq 0
        have q1 := cell_blk hq 1
        have q2 := cell_blk hq 2
        have q3 := cell_blk hq 3
        have q4 := cell_blk hq 4
        simp at q0 q1 q2 q3 q4
        clear hq
        cases sm with
        | true =>
          go_wp2_with (first | ((with_reducible refine gate_builtin (b := .append) (xs := #[.tmp 31, .tmp 33]) rfl ?_); at_builtin; refine Kd.R_append k28 (w0 := w0) w0.heap.size rfl (.tmp 31) (.tmp 33) 34 28 _ 40 rfl Try.underlying34 Try.info28 rfl (by decide) (by omega) u5 (l.map Acc.s) (⟨ac, ak, ab', aa, aw⟩ : S28) [.int .i64 ac, .int .i64 ak, .int .i64 ab', .int .i64 aa, .bool aw] (fun k => k ≠ b ∧ k ≠ vb) (fun _ => False) rfl rfl ?aM (fun _ h => h.elim) ?aF ?aO ?aB ?aS ?aL ?_; (case aM => exact PCellsOwn.k28_mkM _ _ _ _); (case aF => intro k hk; omega); (case aO => exact HRW.out); (case aB => exact HBW.out); (case aS => exact HBW.out.size); (case aL => simp; omega); intro v1 w5 ho hb1 hg hat))
          have HIN : IsCells w5 b vb zs := ⟨(hg.block b hbW (fun e => (HRW.out.1 b e.symm).1 rfl)).trans HIW.out.blk, (hg.block vb hvW (fun e => (HRW.out.1 vb e.symm).2 rfl)).trans HIW.out.vals, HIW.out.len, HIW.out.ne⟩
          have HO5 := Aside0.mk ho
          have HB5 := Aside0.mk hb1
          have HI5 := Aside0.mk HIN
          clear ho hb1 hg hat HIN
          go_wp2
          go_roundw
          case rel => exact ⟨k + 1, zs, l ++ [⟨ac, ak, ab', aa, aw⟩], by omega, by simp; omega, by go_num, HST, HI5, HB5, ⟨by rw [List.map_append]; exact HO5.out⟩⟩
          case measure => simp [intOf]; omega
        | false =>
          go_wp2
          go_roundw
          case rel => exact ⟨k + 1, zs, l, by omega, by omega, by go_num, HST, HIW, HBW, HRW⟩
          case measure => simp [intOf]; omega
      · have hKW : Keep (fun k => k = vb ∨ wr.heap.size ≤ k) wr (((((w4.setCell ⟨wr.heap.size, 0, none⟩ (.int .i64 ac)).setCell ⟨wr.heap.size, 1, none⟩ (.int .i64 ak)).setCell ⟨wr.heap.size, 2, none⟩ (.int .i64 ab')).setCell ⟨wr.heap.size, 3, none⟩ (.int .i64 aa)).setCell ⟨wr.heap.size, 4, none⟩ (.bool aw)) := by exact (by repeat (first | (with_reducible exact (((Keep.of_below hB3).trans' hK4 (fun i hi h => by omega)) : Keep (fun k => k = vb ∨ wr.heap.size ≤ k) wr w4)) | (with_reducible refine Keep.drewN ?_ _) | (with_reducible refine Keep.drew ?_) | (with_reducible refine Keep.setCell ?_ _ _ (by first | (right; with_reducible rfl) | (left; simp; done) | (left; simp; omega) | (right; simp; done) | (right; assumption))) | (with_reducible refine Keep.alloc ?_ _)))
        have hq : (((((w4.setCell ⟨wr.heap.size, 0, none⟩ (.int .i64 ac)).setCell ⟨wr.heap.size, 1, none⟩ (.int .i64 ak)).setCell ⟨wr.heap.size, 2, none⟩ (.int .i64 ab')).setCell ⟨wr.heap.size, 3, none⟩ (.int .i64 aa)).setCell ⟨wr.heap.size, 4, none⟩ (.bool aw)).heap[wr.heap.size]? = some (.cells #[.int .i64 ac, .int .i64 ak, .int .i64 ab', .int .i64 aa, .bool aw] 28 (0, 0)) := by exact (by repeat (first | (with_reducible exact hz4) | (with_reducible refine blk_set ?_) | (with_reducible refine blk_set_ne ?_ (by first | assumption | (with_reducible rfl) | (simp; done) | (simp; omega) | omega)) | (with_reducible refine blk_drewN ?_ _) | (with_reducible refine blk_drew ?_) | (with_reducible refine blk_alloc ?_)) : (((((w4.setCell ⟨wr.heap.size, 0, none⟩ (.int .i64 ac)).setCell ⟨wr.heap.size, 1, none⟩ (.int .i64 ak)).setCell ⟨wr.heap.size, 2, none⟩ (.int .i64 ab')).setCell ⟨wr.heap.size, 3, none⟩ (.int .i64 aa)).setCell ⟨wr.heap.size, 4, none⟩ (.bool aw)).heap[wr.heap.size]? = some (.cells (((((#[.int .i64 0, .int .i64 0, .int .i64 0, .int .i64 0, .bool false] : Array Value).setIfInBounds 0 (.int .i64 ac)).setIfInBounds 1 (.int .i64 ak)).setIfInBounds 2 (.int .i64 ab')).setIfInBounds 3 (.int .i64 aa) |>.setIfInBounds 4 (.bool aw)) 28 (0, 0)))
        have hBW : Below w0.heap.size w0 (((((w4.setCell ⟨wr.heap.size, 0, none⟩ (.int .i64 ac)).setCell ⟨wr.heap.size, 1, none⟩ (.int .i64 ak)).setCell ⟨wr.heap.size, 2, none⟩ (.int .i64 ab')).setCell ⟨wr.heap.size, 3, none⟩ (.int .i64 aa)).setCell ⟨wr.heap.size, 4, none⟩ (.bool aw)) := (by repeat (first | (with_reducible exact hI4.below) | (with_reducible refine Below.drew ?_) | (with_reducible refine below_drewN ?_ _) | (with_reducible refine below_al ?_ _) | (with_reducible refine Below.alloc ?_ (by first | exact Nat.le_refl _ | omega | (simp; done) | (simp; omega)) _) | (with_reducible refine Below.setCell ?_ (by first | (simp only []; omega) | (simp; done) | (simp; omega)) _)))
        have hIW : IsCells (((((w4.setCell ⟨wr.heap.size, 0, none⟩ (.int .i64 ac)).setCell ⟨wr.heap.size, 1, none⟩ (.int .i64 ak)).setCell ⟨wr.heap.size, 2, none⟩ (.int .i64 ab')).setCell ⟨wr.heap.size, 3, none⟩ (.int .i64 aa)).setCell ⟨wr.heap.size, 4, none⟩ (.bool aw)) b vb zs := ⟨(by repeat (first | (with_reducible exact hI4.cells.blk) | (with_reducible refine blk_set_ne ?_ (by first | assumption | (with_reducible rfl) | (simp; done) | (simp; omega) | omega)) | (with_reducible refine blk_drewN ?_ _) | (with_reducible refine blk_drew ?_) | (with_reducible refine blk_alloc ?_))), (by repeat (first | (with_reducible exact hI4.cells.vals) | (with_reducible refine blk_set_ne ?_ (by first | assumption | (with_reducible rfl) | (simp; done) | (simp; omega) | omega)) | (with_reducible refine blk_drewN ?_ _) | (with_reducible refine blk_drew ?_) | (with_reducible refine blk_alloc ?_))), hI4.cells.len, hI4.cells.ne⟩
        have hRW : Kd.R k28 28 (((((w4.setCell ⟨wr.heap.size, 0, none⟩ (.int .i64 ac)).setCell ⟨wr.heap.size, 1, none⟩ (.int .i64 ak)).setCell ⟨wr.heap.size, 2, none⟩ (.int .i64 ab')).setCell ⟨wr.heap.size, 3, none⟩ (.int .i64 aa)).setCell ⟨wr.heap.size, 4, none⟩ (.bool aw)) w0.heap.size (fun k => k ≠ b ∧ k ≠ vb) u5 (l.map Acc.s) := Kd.R_step HR.out (fun k hk hlt => hKW.block k hlt (by have := hk.2; omega))
        have hbW := lt_blk hIW.blk
        have hvW := lt_blk hIW.vals
        have HRW := Aside0.mk hRW
        have HBW := Aside0.mk hBW
        have HIW := Aside0.mk hIW
        have hst := lg_step HO.out ys l
        rw [HCK.out, HE.out] at hst
        have HST := Aside0.mk hst.symm
        clear hKW hBW hIW hRW hst hv3 hB3x hB3 hI4 hK4 g0 g1 g2 g3 z0 z1 z2 z3 z4 zf zl hz4 y0 y1 y2 y3 y4 yf yl hz hv3z
        generalize (((((w4.setCell ⟨wr.heap.size, 0, none⟩ (.int .i64 ac)).setCell ⟨wr.heap.size, 1, none⟩ (.int .i64 ak)).setCell ⟨wr.heap.size, 2, none⟩ (.int .i64 ab')).setCell ⟨wr.heap.size, 3, none⟩ (.int .i64 aa)).setCell ⟨wr.heap.size, 4, none⟩ (.bool aw)) = W at *
        have q0 := cell_blk hq 0
        have q1 := cell_blk hq 1
        have q2 := cell_blk hq 2
        have q3 := cell_blk hq 3
        have q4 := cell_blk hq 4
        simp at q0 q1 q2 q3 q4
        clear hq
        cases sm with
        | true =>
          go_wp2_with (first | ((with_reducible refine gate_builtin (b := .append) (xs := #[.tmp 31, .tmp 33]) rfl ?_); at_builtin; refine Kd.R_append k28 (w0 := w0) w0.heap.size rfl (.tmp 31) (.tmp 33) 34 28 _ 40 rfl Try.underlying34 Try.info28 rfl (by decide) (by omega) u5 (l.map Acc.s) (⟨ac, ak, ab', aa, aw⟩ : S28) [.int .i64 ac, .int .i64 ak, .int .i64 ab', .int .i64 aa, .bool aw] (fun k => k ≠ b ∧ k ≠ vb) (fun _ => False) rfl rfl ?aM (fun _ h => h.elim) ?aF ?aO ?aB ?aS ?aL ?_; (case aM => exact PCellsOwn.k28_mkM _ _ _ _); (case aF => intro k hk; omega); (case aO => exact HRW.out); (case aB => exact HBW.out); (case aS => exact HBW.out.size); (case aL => simp; omega); intro v1 w5 ho hb1 hg hat))
          have HIN : IsCells w5 b vb zs := ⟨(hg.block b hbW (fun e => (HRW.out.1 b e.symm).1 rfl)).trans HIW.out.blk, (hg.block vb hvW (fun e => (HRW.out.1 vb e.symm).2 rfl)).trans HIW.out.vals, HIW.out.len, HIW.out.ne⟩
          have HO5 := Aside0.mk ho
          have HB5 := Aside0.mk hb1
          have HI5 := Aside0.mk HIN
          clear ho hb1 hg hat HIN
          go_wp2
          go_roundw
          case rel => exact ⟨k + 1, zs, l ++ [⟨ac, ak, ab', aa, aw⟩], by omega, by simp; omega, by go_num, HST, HI5, HB5, ⟨by rw [List.map_append]; exact HO5.out⟩⟩
          case measure => simp [intOf]; omega
        | false =>
          go_wp2
          go_roundw
          case rel => exact ⟨k + 1, zs, l, by omega, by omega, by go_num, HST, HIW, HBW, HRW⟩
          case measure => simp [intOf]; omega
    · have hd : decide ((k : Int) < (ops.length : Int)) = false := by simp; omega
      have he := HE.out
      rw [List.drop_eq_nil_of_le (by omega)] at he
      have H := Aside0.mk he.symm
      clear he hd
      go_wp2
      go_ret
      rw [H.out]
      exact ⟨_, rfl, HR.out, HI.out, HB.out⟩
end Go.Proofs.Ytkjfojbnghbkdaa
