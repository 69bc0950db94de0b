import Derived.Test.YtkjfojbnghbkdaaCellsD
import Derived.Test.YtkjfojbnghbkdaaLib2
import Derived.Laws.StructEq
namespace Go.Proofs.Ytkjfojbnghbkdaa
open Go.RowKit Go.Proofs.YtkjfojbnghbkdaaW.PrintWords Go.Proofs.Ytkjfojbnghbkdaa.PCellsOwn

/-- A call: its kind, cell, numbers. -/
structure COp where
  k : Int
  c : Int
  o : Int
  v : Int
def COp.cells (x : COp) : Array Value := #[.int .i64 x.k, .int .i64 x.c, .int .i64 x.o, .int .i64 x.v]

/-- What a call does: the values behind it, its access, and whether it was taken. -/
def ck (xs : List Int) (o : COp) : List Int × Acc × Bool :=
  if o.k = 1 ∨ o.k = 2 ∨ o.k = 3 ∨ o.k = 4 then ((stp xs o.k o.c o.o o.v).1, (stp xs o.k o.c o.o o.v).2.1, (stp xs o.k o.c o.o o.v).2.2 == 0) else (xs, Acc.zero, false)
theorem stp_length (xs : List Int) (k i old v : Int) : (stp xs k i old v).1.length = xs.length := by
  unfold stp
  split
  · simp only []
    split
    · rfl
    · split
      · simp
      · split
        · split <;> simp
        · simp
  · rfl
theorem ck_length (xs : List Int) (o : COp) : (ck xs o).1.length = xs.length := by
  unfold ck; split
  · exact stp_length _ _ _ _ _
  · rfl

/-- The cells, and a list of the law's own that reads alike. -/
structure Inv (w0 w : World) (b vb : Nat) (P : Nat → Prop) (m : Value) (xs : List Int) : Prop where
  cells : IsCells w b vb xs
  own : Kd.R (Kd.int .i64) 2 w w0.heap.size P m xs
  below : Below w0.heap.size w0 w
  b0 : w0.heap.size ≤ b
  vb0 : w0.heap.size ≤ vb

theorem keep_of_kept {B : Nat} {S : Nat → Prop} {w0 w w1 : World} (h : Below B w0 w) (h1 : Below B w0 w1) (k : Kept w w1 S) : Keep S w w1 := ⟨h1.os.trans h.os.symm, h1.tape.trans h.tape.symm, h1.output.trans h.output.symm, k.1, k.2⟩
theorem Inv.mono {w0 w : World} {b vb : Nat} {P Q : Nat → Prop} {m : Value} {xs : List Int} (h : Inv w0 w b vb P m xs) (hq : ∀ k, P k → Q k) : Inv w0 w b vb Q m xs := ⟨h.cells, Kd.R_mono h.own hq, h.below, h.b0, h.vb0⟩
theorem ref_is (xs : List Int) (i : Int) : rotaref10_is.f xs i = some (decide (0 ≤ i ∧ i < xs.length)) := by
  unfold rotaref10_is.f
  by_cases h : i ≥ 0
  · rw [if_pos h]; congr 1; simp; omega
  · rw [if_neg h]; congr 1; simp; omega
theorem ref_put (xs : List Int) (i v : Int) (hl : xs.length ≤ 256) (h : 0 ≤ i ∧ i < xs.length) : rotaref10_put.f xs i v = some (xs.set i.toNat v) := by
  unfold rotaref10_put.f
  rw [if_pos (by simp; omega)]
  simp only [List.nil_append, Option.bind_some]
  rw [if_pos h.1, if_pos h.2]
theorem ref_load (xs : List Int) (i o v : Int) : rotaref10_Load.f xs i = some ((stp xs 1 i o v).2.1.c, (stp xs 1 i o v).2.1.k, (stp xs 1 i o v).2.1.b, (stp xs 1 i o v).2.1.a, (stp xs 1 i o v).2.1.w, (stp xs 1 i o v).2.2) := by
  unfold rotaref10_Load.f
  rw [ref_is]
  by_cases h : 0 ≤ i ∧ i < xs.length
  · simp [h, stp, rd]
  · rw [stp_out h]; simp [h, Acc.zero]
theorem ref_store (xs : List Int) (i o v : Int) (hl : xs.length ≤ 256) : rotaref10_Store.f xs i v = some ((stp xs 2 i o v).1, (stp xs 2 i o v).2.1.c, (stp xs 2 i o v).2.1.k, (stp xs 2 i o v).2.1.b, (stp xs 2 i o v).2.1.a, (stp xs 2 i o v).2.1.w, (stp xs 2 i o v).2.2) := by
  unfold rotaref10_Store.f
  rw [ref_is]
  by_cases h : 0 ≤ i ∧ i < xs.length
  · simp [h, stp, rd, ref_put xs i v hl h]
  · rw [stp_out h]; simp [h, Acc.zero]
theorem ref_swap (xs : List Int) (i o v : Int) (hl : xs.length ≤ 256) : rotaref10_Swap.f xs i o v = some ((stp xs 3 i o v).1, (stp xs 3 i o v).2.1.c, (stp xs 3 i o v).2.1.k, (stp xs 3 i o v).2.1.b, (stp xs 3 i o v).2.1.a, (stp xs 3 i o v).2.1.w, (stp xs 3 i o v).2.2) := by
  unfold rotaref10_Swap.f
  rw [ref_is]
  by_cases h : 0 ≤ i ∧ i < xs.length
  · simp [h, stp, rd, ref_put xs i v hl h]
    split <;> rfl
  · rw [stp_out h]; simp [h, Acc.zero]
theorem ref_add (xs : List Int) (i o v : Int) (hl : xs.length ≤ 256) : rotaref10_Add.f xs i v = some ((stp xs 4 i o v).1, (stp xs 4 i o v).2.1.c, (stp xs 4 i o v).2.1.k, (stp xs 4 i o v).2.1.b, (stp xs 4 i o v).2.1.a, (stp xs 4 i o v).2.1.w, (stp xs 4 i o v).2.2) := by
  unfold rotaref10_Add.f
  rw [ref_is]
  by_cases h : 0 ≤ i ∧ i < xs.length
  · simp [h, stp, rd, ref_put xs i _ hl h]
  · rw [stp_out h]; simp [h, Acc.zero]
/-- What the other numbers are does not matter to a load, a store, a sum. -/
theorem stp1 (xs : List Int) (i o v o' v' : Int) : stp xs 1 i o v = stp xs 1 i o' v' := by simp [stp]
theorem stp1_fst (xs : List Int) (i o v : Int) : (stp xs 1 i o v).1 = xs := by
  unfold stp; split <;> simp
theorem stp2 (xs : List Int) (i o v o' : Int) : stp xs 2 i o v = stp xs 2 i o' v := by simp [stp]
theorem stp4 (xs : List Int) (i o v o' : Int) : stp xs 4 i o v = stp xs 4 i o' v := by simp [stp]

set_option maxRecDepth 100000 in
set_option maxHeartbeats 4000000 in
theorem calls_load (w0 w : World) (b vb : Nat) (m : Value) (xs : List Int) (o : COp) (P : Nat → Prop) (hk : o.k = 1) (hI : Inv w0 w b vb P m xs) (hP : ¬ P b ∧ ¬ P vb) :
    Calls Try.prog 25 #[.pointer (some ⟨b, 0, none⟩), m, .agg o.cells] w fun e w' => ∃ m', e = .returned (.tuple #[m', (stp xs 1 o.c o.o o.v).2.1.val, .bool ((stp xs 1 o.c o.o o.v).2.2 == 0), .bool true]) ∧ Inv w0 w' b vb (fun k => P k ∨ w.heap.size ≤ k) m' (stp xs 1 o.c o.o o.v).1 ∧ Keep (fun k => k = vb ∨ P k) w w' := by
  obtain ⟨okk, oc, oo, ov⟩ := o
  simp only at hk
  subst hk
  have hlen := hI.cells.len
  have hbw := lt_blk hI.cells.blk
  have hvw := lt_blk hI.cells.vals
  have h0w := hI.below.size
  have hb0 := hI.b0
  have hvb0 := hI.vb0
  have HI := Aside0.mk hI
  have HP := Aside0.mk hP
  have HRw : Aside0 (Kd.R (Kd.int .i64) 2 w w0.heap.size (fun k => P k ∧ k < w.heap.size) m xs) := ⟨Kd.R_mono (Kd.R_bound hI.own) (fun k hk => ⟨hk.1, hk.2.2.1⟩)⟩
  clear hI hP
  unfold COp.cells
  generalize hst : stp xs 1 oc oo ov = st
  have Hst := Aside0.mk hst
  have hxl : st.1.length = xs.length := by rw [← hst]; exact stp_length _ _ _ _ _
  clear hst
  obtain ⟨xs', ⟨ac, ak, ab, aa, aw⟩, er⟩ := st
  have HXL := Aside0.mk hxl
  clear hxl HXL
  obtain rfl : xs = xs' := (stp1_fst xs oc oo ov).symm.trans (congrArg Prod.fst Hst.out)
  have HW : Below w.heap.size w ((((w.alloc (.cells #[.int .i64 1, .int .i64 oc, .int .i64 oo, .int .i64 ov] 45)).alloc (.cells zc 28)).alloc (.cells zc 28)).alloc (.cells zc 28)) := (by repeat (first | (with_reducible exact Below.refl _ _) | (with_reducible refine Below.drew ?_) | (with_reducible refine below_drewN ?_ _) | (with_reducible refine below_al ?_ _) | (with_reducible refine Below.alloc ?_ (by first | exact Nat.le_refl _ | omega | (simp; done) | (simp; omega)) _) | (with_reducible refine Below.setCell ?_ (by first | (simp only []; omega) | (simp; done) | (simp; omega)) _)))
  have L0 : ((((w.alloc (.cells #[.int .i64 1, .int .i64 oc, .int .i64 oo, .int .i64 ov] 45)).alloc (.cells zc 28)).alloc (.cells zc 28)).alloc (.cells zc 28)).heap[w.heap.size]? = some (.cells #[.int .i64 1, .int .i64 oc, .int .i64 oo, .int .i64 ov] 45 (0, 0)) := blk_alloc (blk_alloc (blk_alloc (blk_new _ _)))
  have L1 : ((((w.alloc (.cells #[.int .i64 1, .int .i64 oc, .int .i64 oo, .int .i64 ov] 45)).alloc (.cells zc 28)).alloc (.cells zc 28)).alloc (.cells zc 28)).heap[w.heap.size + 1]? = some (.cells zc 28 (0, 0)) := blk_alloc (blk_alloc (blk_new1 _ _ _))
  have L2 : ((((w.alloc (.cells #[.int .i64 1, .int .i64 oc, .int .i64 oo, .int .i64 ov] 45)).alloc (.cells zc 28)).alloc (.cells zc 28)).alloc (.cells zc 28)).heap[w.heap.size + 1 + 1]? = some (.cells zc 28 (0, 0)) := blk_alloc (blk_new2 _ _ _ _)
  have L3 : ((((w.alloc (.cells #[.int .i64 1, .int .i64 oc, .int .i64 oo, .int .i64 ov] 45)).alloc (.cells zc 28)).alloc (.cells zc 28)).alloc (.cells zc 28)).heap[w.heap.size + 1 + 1 + 1]? = some (.cells zc 28 (0, 0)) := by
    have := blk_new (((w.alloc (.cells #[.int .i64 1, .int .i64 oc, .int .i64 oo, .int .i64 ov] 45)).alloc (.cells zc 28)).alloc (.cells zc 28)) (.cells zc 28)
    simpa using this
  have HL := Aside0.mk (And.intro HW (And.intro L0 (And.intro L1 (And.intro L2 L3))))
  clear HW L0 L1 L2 L3
  go_enter Try.func25, Try.ntmps25
  go_wp2_with fail
  refine (load_any b vb xs oc ((((w.alloc (.cells #[.int .i64 1, .int .i64 oc, .int .i64 oo, .int .i64 ov] 45)).alloc (.cells zc 28)).alloc (.cells zc 28)).alloc (.cells zc 28)) (HI.out.cells.new HL.out.1)).mono ?_
  rw [stp1 xs oc 0 0 oo ov]
  rw [Hst.out]
  rintro e w1 ⟨rfl, hI1, hK1⟩
  have hK : Keep (fun k => k = vb) w w1 := (Keep.of_below HL.out.1).trans' hK1 (fun _ _ h => h)
  have K0 := blk_keep HL.out.2.1 hK1 (by omega)
  have K1 := blk_keep HL.out.2.2.1 hK1 (by omega)
  have K2 := blk_keep HL.out.2.2.2.1 hK1 (by omega)
  have K3 := blk_keep HL.out.2.2.2.2 hK1 (by omega)
  clear hK1
  have KS := Aside0.mk (And.intro K0 (And.intro K1 (And.intro K2 K3)))
  have HK := Aside0.mk hK
  have HI1 := Aside0.mk hI1
  have d1 := cell_blk K0 1
  have d2 := cell_blk K0 2
  have d3 := cell_blk K0 3
  have l0 := lt_blk K0
  have l1 := lt_blk K1
  have l2 := lt_blk K2
  have l3 := lt_blk K3
  have a0 := cell_blk K2 0
  have a1 := cell_blk K2 1
  have a2 := cell_blk K2 2
  have a3 := cell_blk K2 3
  have a4 := cell_blk K2 4
  have f2 := frozen_blk K2
  simp [zc] at d1 d2 d3 a0 a1 a2 a3 a4
  clear K0 K1 K2 K3 hK hI1
  unfold Acc.val
  go_wp2_with fail
  have hKA : Keep (fun k => k = vb) w (((((w1.setCell ⟨w.heap.size + 1 + 1, 0, none⟩ (.int .i64 ac)).setCell ⟨w.heap.size + 1 + 1, 1, none⟩ (.int .i64 ak)).setCell ⟨w.heap.size + 1 + 1, 2, none⟩ (.int .i64 ab)).setCell ⟨w.heap.size + 1 + 1, 3, none⟩ (.int .i64 aa)).setCell ⟨w.heap.size + 1 + 1, 4, none⟩ (.bool aw)) := (by repeat (first | (with_reducible exact HK.out) | (with_reducible refine Keep.drewN ?_ _) | (with_reducible refine Keep.drew ?_) | (with_reducible refine Keep.setCell ?_ _ _ (by first | (right; with_reducible rfl) | (left; simp; done) | (left; simp; omega) | (right; simp; done) | (right; assumption))) | (with_reducible refine Keep.alloc ?_ _)))
  have M0 : (((((w1.setCell ⟨w.heap.size + 1 + 1, 0, none⟩ (.int .i64 ac)).setCell ⟨w.heap.size + 1 + 1, 1, none⟩ (.int .i64 ak)).setCell ⟨w.heap.size + 1 + 1, 2, none⟩ (.int .i64 ab)).setCell ⟨w.heap.size + 1 + 1, 3, none⟩ (.int .i64 aa)).setCell ⟨w.heap.size + 1 + 1, 4, none⟩ (.bool aw)).heap[w.heap.size]? = some (.cells #[.int .i64 1, .int .i64 oc, .int .i64 oo, .int .i64 ov] 45 (0, 0)) := (by repeat (first | (with_reducible exact KS.out.1) | (with_reducible refine blk_set_ne ?_ (by first | assumption | (with_reducible rfl) | (simp; done) | (simp; omega) | omega)) | (with_reducible refine blk_drewN ?_ _) | (with_reducible refine blk_drew ?_) | (with_reducible refine blk_alloc ?_)))
  have M1 : (((((w1.setCell ⟨w.heap.size + 1 + 1, 0, none⟩ (.int .i64 ac)).setCell ⟨w.heap.size + 1 + 1, 1, none⟩ (.int .i64 ak)).setCell ⟨w.heap.size + 1 + 1, 2, none⟩ (.int .i64 ab)).setCell ⟨w.heap.size + 1 + 1, 3, none⟩ (.int .i64 aa)).setCell ⟨w.heap.size + 1 + 1, 4, none⟩ (.bool aw)).heap[w.heap.size + 1]? = some (.cells zc 28 (0, 0)) := (by repeat (first | (with_reducible exact KS.out.2.1) | (with_reducible refine blk_set_ne ?_ (by first | assumption | (with_reducible rfl) | (simp; done) | (simp; omega) | omega)) | (with_reducible refine blk_drewN ?_ _) | (with_reducible refine blk_drew ?_) | (with_reducible refine blk_alloc ?_)))
  have M2 : (((((w1.setCell ⟨w.heap.size + 1 + 1, 0, none⟩ (.int .i64 ac)).setCell ⟨w.heap.size + 1 + 1, 1, none⟩ (.int .i64 ak)).setCell ⟨w.heap.size + 1 + 1, 2, none⟩ (.int .i64 ab)).setCell ⟨w.heap.size + 1 + 1, 3, none⟩ (.int .i64 aa)).setCell ⟨w.heap.size + 1 + 1, 4, none⟩ (.bool aw)).heap[w.heap.size + 1 + 1]? = some (.cells #[.int .i64 ac, .int .i64 ak, .int .i64 ab, .int .i64 aa, .bool aw] 28 (0, 0)) := by
    exact (by repeat (first | (with_reducible exact KS.out.2.2.1) | (with_reducible refine blk_set ?_) | (with_reducible refine blk_set_ne ?_ (by first | assumption | (with_reducible rfl) | (simp; done) | (simp; omega) | omega)) | (with_reducible refine blk_drewN ?_ _) | (with_reducible refine blk_drew ?_) | (with_reducible refine blk_alloc ?_)) : (((((w1.setCell ⟨w.heap.size + 1 + 1, 0, none⟩ (.int .i64 ac)).setCell ⟨w.heap.size + 1 + 1, 1, none⟩ (.int .i64 ak)).setCell ⟨w.heap.size + 1 + 1, 2, none⟩ (.int .i64 ab)).setCell ⟨w.heap.size + 1 + 1, 3, none⟩ (.int .i64 aa)).setCell ⟨w.heap.size + 1 + 1, 4, none⟩ (.bool aw)).heap[w.heap.size + 1 + 1]? = some (.cells (((((zc.setIfInBounds 0 (.int .i64 ac)).setIfInBounds 1 (.int .i64 ak)).setIfInBounds 2 (.int .i64 ab)).setIfInBounds 3 (.int .i64 aa)).setIfInBounds 4 (.bool aw)) 28 (0, 0)))
  have M3 : (((((w1.setCell ⟨w.heap.size + 1 + 1, 0, none⟩ (.int .i64 ac)).setCell ⟨w.heap.size + 1 + 1, 1, none⟩ (.int .i64 ak)).setCell ⟨w.heap.size + 1 + 1, 2, none⟩ (.int .i64 ab)).setCell ⟨w.heap.size + 1 + 1, 3, none⟩ (.int .i64 aa)).setCell ⟨w.heap.size + 1 + 1, 4, none⟩ (.bool aw)).heap[w.heap.size + 1 + 1 + 1]? = some (.cells zc 28 (0, 0)) := (by repeat (first | (with_reducible exact KS.out.2.2.2) | (with_reducible refine blk_set_ne ?_ (by first | assumption | (with_reducible rfl) | (simp; done) | (simp; omega) | omega)) | (with_reducible refine blk_drewN ?_ _) | (with_reducible refine blk_drew ?_) | (with_reducible refine blk_alloc ?_)))
  have M4 : IsCells (((((w1.setCell ⟨w.heap.size + 1 + 1, 0, none⟩ (.int .i64 ac)).setCell ⟨w.heap.size + 1 + 1, 1, none⟩ (.int .i64 ak)).setCell ⟨w.heap.size + 1 + 1, 2, none⟩ (.int .i64 ab)).setCell ⟨w.heap.size + 1 + 1, 3, none⟩ (.int .i64 aa)).setCell ⟨w.heap.size + 1 + 1, 4, none⟩ (.bool aw)) b vb xs := ⟨(by repeat (first | (with_reducible exact HI1.out.blk) | (with_reducible refine blk_set_ne ?_ (by first | assumption | (with_reducible rfl) | (simp; done) | (simp; omega) | omega)) | (with_reducible refine blk_drewN ?_ _) | (with_reducible refine blk_drew ?_) | (with_reducible refine blk_alloc ?_))), (by repeat (first | (with_reducible exact HI1.out.vals) | (with_reducible refine blk_set_ne ?_ (by first | assumption | (with_reducible rfl) | (simp; done) | (simp; omega) | omega)) | (with_reducible refine blk_drewN ?_ _) | (with_reducible refine blk_drew ?_) | (with_reducible refine blk_alloc ?_))), HI1.out.len, HI1.out.ne⟩
  have HRA : Kd.R (Kd.int .i64) 2 (((((w1.setCell ⟨w.heap.size + 1 + 1, 0, none⟩ (.int .i64 ac)).setCell ⟨w.heap.size + 1 + 1, 1, none⟩ (.int .i64 ak)).setCell ⟨w.heap.size + 1 + 1, 2, none⟩ (.int .i64 ab)).setCell ⟨w.heap.size + 1 + 1, 3, none⟩ (.int .i64 aa)).setCell ⟨w.heap.size + 1 + 1, 4, none⟩ (.bool aw)) w0.heap.size (fun k => P k ∧ k < w.heap.size) m xs := Kd.R_step HRw.out (fun k hk hlt => hKA.block k hlt (fun e => HP.out.2 (e ▸ hk.1)))
  have HBA : Below w0.heap.size w0 (((((w1.setCell ⟨w.heap.size + 1 + 1, 0, none⟩ (.int .i64 ac)).setCell ⟨w.heap.size + 1 + 1, 1, none⟩ (.int .i64 ak)).setCell ⟨w.heap.size + 1 + 1, 2, none⟩ (.int .i64 ab)).setCell ⟨w.heap.size + 1 + 1, 3, none⟩ (.int .i64 aa)).setCell ⟨w.heap.size + 1 + 1, 4, none⟩ (.bool aw)) := below_then_keep HI.out.below h0w hKA (by intro i hi; omega)
  have L3' := Aside0.mk l3
  clear a0 a1 a2 a3 a4 f2 d1 d2 d3 l0 l1 l2 l3
  obtain ⟨A1, c1, rfl, hc1, hC1⟩ := Kd.R_reads HRA
  refine (PCellsOwn.rotaref10_Load.calls A1 c1 xs oc _ _ _ _ _ _ _ hC1 hc1 (ref_load xs oc oo ov)).mono ?_
  rw [Hst.out]
  rintro e w2 ⟨rfl, hB2⟩
  have N0 := blk_below M0 hB2
  have N1 := blk_below M1 hB2
  have N2 := blk_below M2 hB2
  have N3 := blk_below M3 hB2
  have N4 := M4.new hB2
  have hR2 := Kd.R_below HRA hB2
  have hKp := hB2
  have hKp0 := hB2
  replace hB2 := HBA.trans (hB2.mono HBA.size)
  have hK2 : Keep (fun k => k = vb ∨ P k) w w2 := (hKA.mono (fun _ _ h => .inl h)).trans' (Keep.of_below hKp0) (fun _ _ h => (h : False).elim)
  have HN := Aside0.mk (And.intro hR2 hB2)
  have HKK := Aside0.mk hK2
  clear hK2
  clear hR2 hB2 hKA HRA HBA M4 hKp M0 M1 M2 M3
  have K0 := N0
  have l0 := lt_blk N0
  have l1 := lt_blk N1
  have l2 := lt_blk N2
  have l3 := lt_blk N3
  have a0 := cell_blk N2 0
  have a1 := cell_blk N2 1
  have a2 := cell_blk N2 2
  have a3 := cell_blk N2 3
  have a4 := cell_blk N2 4
  have b0 := cell_blk N3 0
  have b1 := cell_blk N3 1
  have b2 := cell_blk N3 2
  have b3 := cell_blk N3 3
  have b4 := cell_blk N3 4
  have r0 := cell_blk N1 0
  have r1 := cell_blk N1 1
  have r2 := cell_blk N1 2
  have r3 := cell_blk N1 3
  have r4 := cell_blk N1 4
  have f3 := frozen_blk N3
  have f1 := frozen_blk N1
  simp [zc] at a0 a1 a2 a3 a4 b0 b1 b2 b3 b4 r0 r1 r2 r3 r4
  have HN4 := Aside0.mk N4
  clear N0 N1 N2 N3 N4 K0
  go_wp2
  go_region
  go_wp2
  refine bodyPost_ret (v := .tuple #[.slice A1 xs.length c1, .agg #[.int .i64 ac, .int .i64 ak, .int .i64 ab, .int .i64 aa, .bool aw], .bool (er == 0), .bool true]) (by simp [results, Try.results25, go_sem, r0, r1, r2, r3, r4]) rfl ⟨_, rfl, ⟨⟨(by repeat (first | (with_reducible exact HN4.out.blk) | (with_reducible refine blk_set_ne ?_ (by first | assumption | (with_reducible rfl) | (simp; done) | (simp; omega) | omega)) | (with_reducible refine blk_drewN ?_ _) | (with_reducible refine blk_drew ?_) | (with_reducible refine blk_alloc ?_))), (by repeat (first | (with_reducible exact HN4.out.vals) | (with_reducible refine blk_set_ne ?_ (by first | assumption | (with_reducible rfl) | (simp; done) | (simp; omega) | omega)) | (with_reducible refine blk_drewN ?_ _) | (with_reducible refine blk_drew ?_) | (with_reducible refine blk_alloc ?_))), HN4.out.len, HN4.out.ne⟩, ?_, (by repeat (first | (with_reducible exact HN.out.2) | (with_reducible refine Below.drew ?_) | (with_reducible refine below_drewN ?_ _) | (with_reducible refine below_al ?_ _) | (with_reducible refine Below.alloc ?_ (by first | exact Nat.le_refl _ | omega | (simp; done) | (simp; omega)) _) | (with_reducible refine Below.setCell ?_ (by first | (simp only []; omega) | (simp; done) | (simp; omega)) _))), hb0, hvb0⟩, (by repeat (first | (with_reducible exact HKK.out) | (with_reducible refine Keep.drewN ?_ _) | (with_reducible refine Keep.drew ?_) | (with_reducible refine Keep.setCell ?_ _ _ (by first | (right; with_reducible rfl) | (left; simp; done) | (left; simp; omega) | (right; simp; done) | (right; assumption))) | (with_reducible refine Keep.alloc ?_ _)))⟩
  refine Kd.R_mono (Kd.R_step HN.out.1 (fun k hk hlt => ?_)) ?_
  · try simp only [World.size_setCell] at hk
    have hL3 := L3'.out
    refine Keep.block (F := fun k => k = w.heap.size + 1 ∨ k = w.heap.size + 1 + 1 + 1) (by repeat (first | (with_reducible exact Keep.refl _ _) | (with_reducible refine Keep.drewN ?_ _) | (with_reducible refine Keep.drew ?_) | (with_reducible refine Keep.setCell ?_ _ _ (by first | (right; with_reducible rfl) | (left; simp; done) | (left; simp; omega) | (right; simp; done) | (right; assumption))) | (with_reducible refine Keep.alloc ?_ _))) k hlt ?_
    intro h
    have := hk.2
    omega
  · intro k hk
    try simp only [World.size_setCell] at hk
    have hL3 := L3'.out
    exact .inl hk.1

set_option maxRecDepth 100000 in
set_option maxHeartbeats 4000000 in
theorem calls_store (w0 w : World) (b vb : Nat) (m : Value) (xs : List Int) (o : COp) (P : Nat → Prop) (hk : o.k = 2) (hI : Inv w0 w b vb P m xs) (hP : ¬ P b ∧ ¬ P vb) :
    Calls Try.prog 25 #[.pointer (some ⟨b, 0, none⟩), m, .agg o.cells] w fun e w' => ∃ m', e = .returned (.tuple #[m', (stp xs 2 o.c o.o o.v).2.1.val, .bool ((stp xs 2 o.c o.o o.v).2.2 == 0), .bool true]) ∧ Inv w0 w' b vb (fun k => P k ∨ w.heap.size ≤ k) m' (stp xs 2 o.c o.o o.v).1 ∧ Keep (fun k => k = vb ∨ P k) w w' := by
  obtain ⟨okk, oc, oo, ov⟩ := o
  simp only at hk
  subst hk
  have hlen := hI.cells.len
  have hbw := lt_blk hI.cells.blk
  have hvw := lt_blk hI.cells.vals
  have h0w := hI.below.size
  have hb0 := hI.b0
  have hvb0 := hI.vb0
  have HI := Aside0.mk hI
  have HP := Aside0.mk hP
  have HRw : Aside0 (Kd.R (Kd.int .i64) 2 w w0.heap.size (fun k => P k ∧ k < w.heap.size) m xs) := ⟨Kd.R_mono (Kd.R_bound hI.own) (fun k hk => ⟨hk.1, hk.2.2.1⟩)⟩
  clear hI hP
  unfold COp.cells
  generalize hst : stp xs 2 oc oo ov = st
  have Hst := Aside0.mk hst
  have hxl : st.1.length = xs.length := by rw [← hst]; exact stp_length _ _ _ _ _
  clear hst
  obtain ⟨xs', ⟨ac, ak, ab, aa, aw⟩, er⟩ := st
  have HXL := Aside0.mk hxl
  clear hxl
  have HW : Below w.heap.size w ((((w.alloc (.cells #[.int .i64 2, .int .i64 oc, .int .i64 oo, .int .i64 ov] 45)).alloc (.cells zc 28)).alloc (.cells zc 28)).alloc (.cells zc 28)) := (by repeat (first | (with_reducible exact Below.refl _ _) | (with_reducible refine Below.drew ?_) | (with_reducible refine below_drewN ?_ _) | (with_reducible refine below_al ?_ _) | (with_reducible refine Below.alloc ?_ (by first | exact Nat.le_refl _ | omega | (simp; done) | (simp; omega)) _) | (with_reducible refine Below.setCell ?_ (by first | (simp only []; omega) | (simp; done) | (simp; omega)) _)))
  have L0 : ((((w.alloc (.cells #[.int .i64 2, .int .i64 oc, .int .i64 oo, .int .i64 ov] 45)).alloc (.cells zc 28)).alloc (.cells zc 28)).alloc (.cells zc 28)).heap[w.heap.size]? = some (.cells #[.int .i64 2, .int .i64 oc, .int .i64 oo, .int .i64 ov] 45 (0, 0)) := blk_alloc (blk_alloc (blk_alloc (blk_new _ _)))
  have L1 : ((((w.alloc (.cells #[.int .i64 2, .int .i64 oc, .int .i64 oo, .int .i64 ov] 45)).alloc (.cells zc 28)).alloc (.cells zc 28)).alloc (.cells zc 28)).heap[w.heap.size + 1]? = some (.cells zc 28 (0, 0)) := blk_alloc (blk_alloc (blk_new1 _ _ _))
  have L2 : ((((w.alloc (.cells #[.int .i64 2, .int .i64 oc, .int .i64 oo, .int .i64 ov] 45)).alloc (.cells zc 28)).alloc (.cells zc 28)).alloc (.cells zc 28)).heap[w.heap.size + 1 + 1]? = some (.cells zc 28 (0, 0)) := blk_alloc (blk_new2 _ _ _ _)
  have L3 : ((((w.alloc (.cells #[.int .i64 2, .int .i64 oc, .int .i64 oo, .int .i64 ov] 45)).alloc (.cells zc 28)).alloc (.cells zc 28)).alloc (.cells zc 28)).heap[w.heap.size + 1 + 1 + 1]? = some (.cells zc 28 (0, 0)) := by
    have := blk_new (((w.alloc (.cells #[.int .i64 2, .int .i64 oc, .int .i64 oo, .int .i64 ov] 45)).alloc (.cells zc 28)).alloc (.cells zc 28)) (.cells zc 28)
    simpa using this
  have HL := Aside0.mk (And.intro HW (And.intro L0 (And.intro L1 (And.intro L2 L3))))
  clear HW L0 L1 L2 L3
  go_enter Try.func25, Try.ntmps25
  go_wp2_with fail
  refine (store_any b vb xs oc ov ((((w.alloc (.cells #[.int .i64 2, .int .i64 oc, .int .i64 oo, .int .i64 ov] 45)).alloc (.cells zc 28)).alloc (.cells zc 28)).alloc (.cells zc 28)) (HI.out.cells.new HL.out.1)).mono ?_
  rw [stp2 xs oc 0 ov oo]
  rw [Hst.out]
  rintro e w1 ⟨rfl, hI1, hK1⟩
  have hK : Keep (fun k => k = vb) w w1 := (Keep.of_below HL.out.1).trans' hK1 (fun _ _ h => h)
  have K0 := blk_keep HL.out.2.1 hK1 (by omega)
  have K1 := blk_keep HL.out.2.2.1 hK1 (by omega)
  have K2 := blk_keep HL.out.2.2.2.1 hK1 (by omega)
  have K3 := blk_keep HL.out.2.2.2.2 hK1 (by omega)
  clear hK1
  have KS := Aside0.mk (And.intro K0 (And.intro K1 (And.intro K2 K3)))
  have HK := Aside0.mk hK
  have HI1 := Aside0.mk hI1
  have d1 := cell_blk K0 1
  have d2 := cell_blk K0 2
  have d3 := cell_blk K0 3
  have l0 := lt_blk K0
  have l1 := lt_blk K1
  have l2 := lt_blk K2
  have l3 := lt_blk K3
  have a0 := cell_blk K2 0
  have a1 := cell_blk K2 1
  have a2 := cell_blk K2 2
  have a3 := cell_blk K2 3
  have a4 := cell_blk K2 4
  have f2 := frozen_blk K2
  simp [zc] at d1 d2 d3 a0 a1 a2 a3 a4
  clear K0 K1 K2 K3 hK hI1
  unfold Acc.val
  go_wp2_with fail
  have hKA : Keep (fun k => k = vb) w (((((w1.setCell ⟨w.heap.size + 1 + 1, 0, none⟩ (.int .i64 ac)).setCell ⟨w.heap.size + 1 + 1, 1, none⟩ (.int .i64 ak)).setCell ⟨w.heap.size + 1 + 1, 2, none⟩ (.int .i64 ab)).setCell ⟨w.heap.size + 1 + 1, 3, none⟩ (.int .i64 aa)).setCell ⟨w.heap.size + 1 + 1, 4, none⟩ (.bool aw)) := (by repeat (first | (with_reducible exact HK.out) | (with_reducible refine Keep.drewN ?_ _) | (with_reducible refine Keep.drew ?_) | (with_reducible refine Keep.setCell ?_ _ _ (by first | (right; with_reducible rfl) | (left; simp; done) | (left; simp; omega) | (right; simp; done) | (right; assumption))) | (with_reducible refine Keep.alloc ?_ _)))
  have M0 : (((((w1.setCell ⟨w.heap.size + 1 + 1, 0, none⟩ (.int .i64 ac)).setCell ⟨w.heap.size + 1 + 1, 1, none⟩ (.int .i64 ak)).setCell ⟨w.heap.size + 1 + 1, 2, none⟩ (.int .i64 ab)).setCell ⟨w.heap.size + 1 + 1, 3, none⟩ (.int .i64 aa)).setCell ⟨w.heap.size + 1 + 1, 4, none⟩ (.bool aw)).heap[w.heap.size]? = some (.cells #[.int .i64 2, .int .i64 oc, .int .i64 oo, .int .i64 ov] 45 (0, 0)) := (by repeat (first | (with_reducible exact KS.out.1) | (with_reducible refine blk_set_ne ?_ (by first | assumption | (with_reducible rfl) | (simp; done) | (simp; omega) | omega)) | (with_reducible refine blk_drewN ?_ _) | (with_reducible refine blk_drew ?_) | (with_reducible refine blk_alloc ?_)))
  have M1 : (((((w1.setCell ⟨w.heap.size + 1 + 1, 0, none⟩ (.int .i64 ac)).setCell ⟨w.heap.size + 1 + 1, 1, none⟩ (.int .i64 ak)).setCell ⟨w.heap.size + 1 + 1, 2, none⟩ (.int .i64 ab)).setCell ⟨w.heap.size + 1 + 1, 3, none⟩ (.int .i64 aa)).setCell ⟨w.heap.size + 1 + 1, 4, none⟩ (.bool aw)).heap[w.heap.size + 1]? = some (.cells zc 28 (0, 0)) := (by repeat (first | (with_reducible exact KS.out.2.1) | (with_reducible refine blk_set_ne ?_ (by first | assumption | (with_reducible rfl) | (simp; done) | (simp; omega) | omega)) | (with_reducible refine blk_drewN ?_ _) | (with_reducible refine blk_drew ?_) | (with_reducible refine blk_alloc ?_)))
  have M2 : (((((w1.setCell ⟨w.heap.size + 1 + 1, 0, none⟩ (.int .i64 ac)).setCell ⟨w.heap.size + 1 + 1, 1, none⟩ (.int .i64 ak)).setCell ⟨w.heap.size + 1 + 1, 2, none⟩ (.int .i64 ab)).setCell ⟨w.heap.size + 1 + 1, 3, none⟩ (.int .i64 aa)).setCell ⟨w.heap.size + 1 + 1, 4, none⟩ (.bool aw)).heap[w.heap.size + 1 + 1]? = some (.cells #[.int .i64 ac, .int .i64 ak, .int .i64 ab, .int .i64 aa, .bool aw] 28 (0, 0)) := by
    exact (by repeat (first | (with_reducible exact KS.out.2.2.1) | (with_reducible refine blk_set ?_) | (with_reducible refine blk_set_ne ?_ (by first | assumption | (with_reducible rfl) | (simp; done) | (simp; omega) | omega)) | (with_reducible refine blk_drewN ?_ _) | (with_reducible refine blk_drew ?_) | (with_reducible refine blk_alloc ?_)) : (((((w1.setCell ⟨w.heap.size + 1 + 1, 0, none⟩ (.int .i64 ac)).setCell ⟨w.heap.size + 1 + 1, 1, none⟩ (.int .i64 ak)).setCell ⟨w.heap.size + 1 + 1, 2, none⟩ (.int .i64 ab)).setCell ⟨w.heap.size + 1 + 1, 3, none⟩ (.int .i64 aa)).setCell ⟨w.heap.size + 1 + 1, 4, none⟩ (.bool aw)).heap[w.heap.size + 1 + 1]? = some (.cells (((((zc.setIfInBounds 0 (.int .i64 ac)).setIfInBounds 1 (.int .i64 ak)).setIfInBounds 2 (.int .i64 ab)).setIfInBounds 3 (.int .i64 aa)).setIfInBounds 4 (.bool aw)) 28 (0, 0)))
  have M3 : (((((w1.setCell ⟨w.heap.size + 1 + 1, 0, none⟩ (.int .i64 ac)).setCell ⟨w.heap.size + 1 + 1, 1, none⟩ (.int .i64 ak)).setCell ⟨w.heap.size + 1 + 1, 2, none⟩ (.int .i64 ab)).setCell ⟨w.heap.size + 1 + 1, 3, none⟩ (.int .i64 aa)).setCell ⟨w.heap.size + 1 + 1, 4, none⟩ (.bool aw)).heap[w.heap.size + 1 + 1 + 1]? = some (.cells zc 28 (0, 0)) := (by repeat (first | (with_reducible exact KS.out.2.2.2) | (with_reducible refine blk_set_ne ?_ (by first | assumption | (with_reducible rfl) | (simp; done) | (simp; omega) | omega)) | (with_reducible refine blk_drewN ?_ _) | (with_reducible refine blk_drew ?_) | (with_reducible refine blk_alloc ?_)))
  have M4 : IsCells (((((w1.setCell ⟨w.heap.size + 1 + 1, 0, none⟩ (.int .i64 ac)).setCell ⟨w.heap.size + 1 + 1, 1, none⟩ (.int .i64 ak)).setCell ⟨w.heap.size + 1 + 1, 2, none⟩ (.int .i64 ab)).setCell ⟨w.heap.size + 1 + 1, 3, none⟩ (.int .i64 aa)).setCell ⟨w.heap.size + 1 + 1, 4, none⟩ (.bool aw)) b vb xs' := ⟨(by repeat (first | (with_reducible exact HI1.out.blk) | (with_reducible refine blk_set_ne ?_ (by first | assumption | (with_reducible rfl) | (simp; done) | (simp; omega) | omega)) | (with_reducible refine blk_drewN ?_ _) | (with_reducible refine blk_drew ?_) | (with_reducible refine blk_alloc ?_))), (by repeat (first | (with_reducible exact HI1.out.vals) | (with_reducible refine blk_set_ne ?_ (by first | assumption | (with_reducible rfl) | (simp; done) | (simp; omega) | omega)) | (with_reducible refine blk_drewN ?_ _) | (with_reducible refine blk_drew ?_) | (with_reducible refine blk_alloc ?_))), HI1.out.len, HI1.out.ne⟩
  have HRA : Kd.R (Kd.int .i64) 2 (((((w1.setCell ⟨w.heap.size + 1 + 1, 0, none⟩ (.int .i64 ac)).setCell ⟨w.heap.size + 1 + 1, 1, none⟩ (.int .i64 ak)).setCell ⟨w.heap.size + 1 + 1, 2, none⟩ (.int .i64 ab)).setCell ⟨w.heap.size + 1 + 1, 3, none⟩ (.int .i64 aa)).setCell ⟨w.heap.size + 1 + 1, 4, none⟩ (.bool aw)) w0.heap.size (fun k => P k ∧ k < w.heap.size) m xs := Kd.R_step HRw.out (fun k hk hlt => hKA.block k hlt (fun e => HP.out.2 (e ▸ hk.1)))
  have HBA : Below w0.heap.size w0 (((((w1.setCell ⟨w.heap.size + 1 + 1, 0, none⟩ (.int .i64 ac)).setCell ⟨w.heap.size + 1 + 1, 1, none⟩ (.int .i64 ak)).setCell ⟨w.heap.size + 1 + 1, 2, none⟩ (.int .i64 ab)).setCell ⟨w.heap.size + 1 + 1, 3, none⟩ (.int .i64 aa)).setCell ⟨w.heap.size + 1 + 1, 4, none⟩ (.bool aw)) := below_then_keep HI.out.below h0w hKA (by intro i hi; omega)
  have L3' := Aside0.mk l3
  clear a0 a1 a2 a3 a4 f2 d1 d2 d3 l0 l1 l2 l3
  refine (PCellsOwn.rotaref10_Store.calls (fun k => P k ∧ k < w.heap.size) m xs oc ov _ _ _ _ _ _ _ w0 _ HBA HRA (ref_store xs oc oo ov hlen)).mono ?_
  rw [Hst.out]
  rintro e w2 ⟨m', rfl, hR2, hB2, hKp⟩
  have N0 := (hKp.2 _ (lt_blk M0) (by rintro ⟨_, h⟩; omega)).trans M0
  have N1 := (hKp.2 _ (lt_blk M1) (by rintro ⟨_, h⟩; omega)).trans M1
  have N2 := (hKp.2 _ (lt_blk M2) (by rintro ⟨_, h⟩; omega)).trans M2
  have N3 := (hKp.2 _ (lt_blk M3) (by rintro ⟨_, h⟩; omega)).trans M3
  have N4 : IsCells w2 b vb xs' := ⟨(hKp.2 _ (lt_blk M4.blk) (fun h => HP.out.1 h.1)).trans M4.blk, (hKp.2 _ (lt_blk M4.vals) (fun h => HP.out.2 h.1)).trans M4.vals, M4.len, M4.ne⟩
  have hK2 : Keep (fun k => k = vb ∨ P k) w w2 := (hKA.mono (fun _ _ h => .inl h)).trans' (keep_of_kept HBA hB2 hKp) (fun _ _ h => .inr h.1)
  have HN := Aside0.mk (And.intro hR2 hB2)
  have HKK := Aside0.mk hK2
  clear hK2
  clear hR2 hB2 hKA HRA HBA M4 hKp M0 M1 M2 M3
  have K0 := N0
  have l0 := lt_blk N0
  have l1 := lt_blk N1
  have l2 := lt_blk N2
  have l3 := lt_blk N3
  have a0 := cell_blk N2 0
  have a1 := cell_blk N2 1
  have a2 := cell_blk N2 2
  have a3 := cell_blk N2 3
  have a4 := cell_blk N2 4
  have b0 := cell_blk N3 0
  have b1 := cell_blk N3 1
  have b2 := cell_blk N3 2
  have b3 := cell_blk N3 3
  have b4 := cell_blk N3 4
  have r0 := cell_blk N1 0
  have r1 := cell_blk N1 1
  have r2 := cell_blk N1 2
  have r3 := cell_blk N1 3
  have r4 := cell_blk N1 4
  have f3 := frozen_blk N3
  have f1 := frozen_blk N1
  simp [zc] at a0 a1 a2 a3 a4 b0 b1 b2 b3 b4 r0 r1 r2 r3 r4
  have HN4 := Aside0.mk N4
  clear N0 N1 N2 N3 N4 K0
  go_wp2
  go_region
  go_wp2
  refine bodyPost_ret (v := .tuple #[m', .agg #[.int .i64 ac, .int .i64 ak, .int .i64 ab, .int .i64 aa, .bool aw], .bool (er == 0), .bool true]) (by simp [results, Try.results25, go_sem, r0, r1, r2, r3, r4]) rfl ⟨m', rfl, ⟨⟨(by repeat (first | (with_reducible exact HN4.out.blk) | (with_reducible refine blk_set_ne ?_ (by first | assumption | (with_reducible rfl) | (simp; done) | (simp; omega) | omega)) | (with_reducible refine blk_drewN ?_ _) | (with_reducible refine blk_drew ?_) | (with_reducible refine blk_alloc ?_))), (by repeat (first | (with_reducible exact HN4.out.vals) | (with_reducible refine blk_set_ne ?_ (by first | assumption | (with_reducible rfl) | (simp; done) | (simp; omega) | omega)) | (with_reducible refine blk_drewN ?_ _) | (with_reducible refine blk_drew ?_) | (with_reducible refine blk_alloc ?_))), HN4.out.len, HN4.out.ne⟩, ?_, (by repeat (first | (with_reducible exact HN.out.2) | (with_reducible refine Below.drew ?_) | (with_reducible refine below_drewN ?_ _) | (with_reducible refine below_al ?_ _) | (with_reducible refine Below.alloc ?_ (by first | exact Nat.le_refl _ | omega | (simp; done) | (simp; omega)) _) | (with_reducible refine Below.setCell ?_ (by first | (simp only []; omega) | (simp; done) | (simp; omega)) _))), hb0, hvb0⟩, (by repeat (first | (with_reducible exact HKK.out) | (with_reducible refine Keep.drewN ?_ _) | (with_reducible refine Keep.drew ?_) | (with_reducible refine Keep.setCell ?_ _ _ (by first | (right; with_reducible rfl) | (left; simp; done) | (left; simp; omega) | (right; simp; done) | (right; assumption))) | (with_reducible refine Keep.alloc ?_ _)))⟩
  refine Kd.R_mono (Kd.R_step HN.out.1 (fun k hk hlt => ?_)) ?_
  · try simp only [World.size_setCell] at hk
    have hL3 := L3'.out
    refine Keep.block (F := fun k => k = w.heap.size + 1 ∨ k = w.heap.size + 1 + 1 + 1) (by repeat (first | (with_reducible exact Keep.refl _ _) | (with_reducible refine Keep.drewN ?_ _) | (with_reducible refine Keep.drew ?_) | (with_reducible refine Keep.setCell ?_ _ _ (by first | (right; with_reducible rfl) | (left; simp; done) | (left; simp; omega) | (right; simp; done) | (right; assumption))) | (with_reducible refine Keep.alloc ?_ _))) k hlt ?_
    intro h
    rcases hk with ⟨_, hk⟩ | hk <;> omega
  · intro k hk
    try simp only [World.size_setCell] at hk
    have hL3 := L3'.out
    rcases hk with ⟨hk, _⟩ | hk
    · exact .inl hk
    · exact .inr (by omega)

set_option maxRecDepth 100000 in
set_option maxHeartbeats 4000000 in
theorem calls_swap (w0 w : World) (b vb : Nat) (m : Value) (xs : List Int) (o : COp) (P : Nat → Prop) (hk : o.k = 3) (hI : Inv w0 w b vb P m xs) (hP : ¬ P b ∧ ¬ P vb) :
    Calls Try.prog 25 #[.pointer (some ⟨b, 0, none⟩), m, .agg o.cells] w fun e w' => ∃ m', e = .returned (.tuple #[m', (stp xs 3 o.c o.o o.v).2.1.val, .bool ((stp xs 3 o.c o.o o.v).2.2 == 0), .bool true]) ∧ Inv w0 w' b vb (fun k => P k ∨ w.heap.size ≤ k) m' (stp xs 3 o.c o.o o.v).1 ∧ Keep (fun k => k = vb ∨ P k) w w' := by
  obtain ⟨okk, oc, oo, ov⟩ := o
  simp only at hk
  subst hk
  have hlen := hI.cells.len
  have hbw := lt_blk hI.cells.blk
  have hvw := lt_blk hI.cells.vals
  have h0w := hI.below.size
  have hb0 := hI.b0
  have hvb0 := hI.vb0
  have HI := Aside0.mk hI
  have HP := Aside0.mk hP
  have HRw : Aside0 (Kd.R (Kd.int .i64) 2 w w0.heap.size (fun k => P k ∧ k < w.heap.size) m xs) := ⟨Kd.R_mono (Kd.R_bound hI.own) (fun k hk => ⟨hk.1, hk.2.2.1⟩)⟩
  clear hI hP
  unfold COp.cells
  generalize hst : stp xs 3 oc oo ov = st
  have Hst := Aside0.mk hst
  have hxl : st.1.length = xs.length := by rw [← hst]; exact stp_length _ _ _ _ _
  clear hst
  obtain ⟨xs', ⟨ac, ak, ab, aa, aw⟩, er⟩ := st
  have HXL := Aside0.mk hxl
  clear hxl
  have HW : Below w.heap.size w ((((w.alloc (.cells #[.int .i64 3, .int .i64 oc, .int .i64 oo, .int .i64 ov] 45)).alloc (.cells zc 28)).alloc (.cells zc 28)).alloc (.cells zc 28)) := (by repeat (first | (with_reducible exact Below.refl _ _) | (with_reducible refine Below.drew ?_) | (with_reducible refine below_drewN ?_ _) | (with_reducible refine below_al ?_ _) | (with_reducible refine Below.alloc ?_ (by first | exact Nat.le_refl _ | omega | (simp; done) | (simp; omega)) _) | (with_reducible refine Below.setCell ?_ (by first | (simp only []; omega) | (simp; done) | (simp; omega)) _)))
  have L0 : ((((w.alloc (.cells #[.int .i64 3, .int .i64 oc, .int .i64 oo, .int .i64 ov] 45)).alloc (.cells zc 28)).alloc (.cells zc 28)).alloc (.cells zc 28)).heap[w.heap.size]? = some (.cells #[.int .i64 3, .int .i64 oc, .int .i64 oo, .int .i64 ov] 45 (0, 0)) := blk_alloc (blk_alloc (blk_alloc (blk_new _ _)))
  have L1 : ((((w.alloc (.cells #[.int .i64 3, .int .i64 oc, .int .i64 oo, .int .i64 ov] 45)).alloc (.cells zc 28)).alloc (.cells zc 28)).alloc (.cells zc 28)).heap[w.heap.size + 1]? = some (.cells zc 28 (0, 0)) := blk_alloc (blk_alloc (blk_new1 _ _ _))
  have L2 : ((((w.alloc (.cells #[.int .i64 3, .int .i64 oc, .int .i64 oo, .int .i64 ov] 45)).alloc (.cells zc 28)).alloc (.cells zc 28)).alloc (.cells zc 28)).heap[w.heap.size + 1 + 1]? = some (.cells zc 28 (0, 0)) := blk_alloc (blk_new2 _ _ _ _)
  have L3 : ((((w.alloc (.cells #[.int .i64 3, .int .i64 oc, .int .i64 oo, .int .i64 ov] 45)).alloc (.cells zc 28)).alloc (.cells zc 28)).alloc (.cells zc 28)).heap[w.heap.size + 1 + 1 + 1]? = some (.cells zc 28 (0, 0)) := by
    have := blk_new (((w.alloc (.cells #[.int .i64 3, .int .i64 oc, .int .i64 oo, .int .i64 ov] 45)).alloc (.cells zc 28)).alloc (.cells zc 28)) (.cells zc 28)
    simpa using this
  have HL := Aside0.mk (And.intro HW (And.intro L0 (And.intro L1 (And.intro L2 L3))))
  clear HW L0 L1 L2 L3
  go_enter Try.func25, Try.ntmps25
  go_wp2_with fail
  refine (swap_any b vb xs oc oo ov ((((w.alloc (.cells #[.int .i64 3, .int .i64 oc, .int .i64 oo, .int .i64 ov] 45)).alloc (.cells zc 28)).alloc (.cells zc 28)).alloc (.cells zc 28)) (HI.out.cells.new HL.out.1)).mono ?_
  rw [Hst.out]
  rintro e w1 ⟨rfl, hI1, hK1⟩
  have hK : Keep (fun k => k = vb) w w1 := (Keep.of_below HL.out.1).trans' hK1 (fun _ _ h => h)
  have K0 := blk_keep HL.out.2.1 hK1 (by omega)
  have K1 := blk_keep HL.out.2.2.1 hK1 (by omega)
  have K2 := blk_keep HL.out.2.2.2.1 hK1 (by omega)
  have K3 := blk_keep HL.out.2.2.2.2 hK1 (by omega)
  clear hK1
  have KS := Aside0.mk (And.intro K0 (And.intro K1 (And.intro K2 K3)))
  have HK := Aside0.mk hK
  have HI1 := Aside0.mk hI1
  have d1 := cell_blk K0 1
  have d2 := cell_blk K0 2
  have d3 := cell_blk K0 3
  have l0 := lt_blk K0
  have l1 := lt_blk K1
  have l2 := lt_blk K2
  have l3 := lt_blk K3
  have a0 := cell_blk K2 0
  have a1 := cell_blk K2 1
  have a2 := cell_blk K2 2
  have a3 := cell_blk K2 3
  have a4 := cell_blk K2 4
  have f2 := frozen_blk K2
  simp [zc] at d1 d2 d3 a0 a1 a2 a3 a4
  clear K0 K1 K2 K3 hK hI1
  unfold Acc.val
  go_wp2_with fail
  have hKA : Keep (fun k => k = vb) w (((((w1.setCell ⟨w.heap.size + 1 + 1, 0, none⟩ (.int .i64 ac)).setCell ⟨w.heap.size + 1 + 1, 1, none⟩ (.int .i64 ak)).setCell ⟨w.heap.size + 1 + 1, 2, none⟩ (.int .i64 ab)).setCell ⟨w.heap.size + 1 + 1, 3, none⟩ (.int .i64 aa)).setCell ⟨w.heap.size + 1 + 1, 4, none⟩ (.bool aw)) := (by repeat (first | (with_reducible exact HK.out) | (with_reducible refine Keep.drewN ?_ _) | (with_reducible refine Keep.drew ?_) | (with_reducible refine Keep.setCell ?_ _ _ (by first | (right; with_reducible rfl) | (left; simp; done) | (left; simp; omega) | (right; simp; done) | (right; assumption))) | (with_reducible refine Keep.alloc ?_ _)))
  have M0 : (((((w1.setCell ⟨w.heap.size + 1 + 1, 0, none⟩ (.int .i64 ac)).setCell ⟨w.heap.size + 1 + 1, 1, none⟩ (.int .i64 ak)).setCell ⟨w.heap.size + 1 + 1, 2, none⟩ (.int .i64 ab)).setCell ⟨w.heap.size + 1 + 1, 3, none⟩ (.int .i64 aa)).setCell ⟨w.heap.size + 1 + 1, 4, none⟩ (.bool aw)).heap[w.heap.size]? = some (.cells #[.int .i64 3, .int .i64 oc, .int .i64 oo, .int .i64 ov] 45 (0, 0)) := (by repeat (first | (with_reducible exact KS.out.1) | (with_reducible refine blk_set_ne ?_ (by first | assumption | (with_reducible rfl) | (simp; done) | (simp; omega) | omega)) | (with_reducible refine blk_drewN ?_ _) | (with_reducible refine blk_drew ?_) | (with_reducible refine blk_alloc ?_)))
  have M1 : (((((w1.setCell ⟨w.heap.size + 1 + 1, 0, none⟩ (.int .i64 ac)).setCell ⟨w.heap.size + 1 + 1, 1, none⟩ (.int .i64 ak)).setCell ⟨w.heap.size + 1 + 1, 2, none⟩ (.int .i64 ab)).setCell ⟨w.heap.size + 1 + 1, 3, none⟩ (.int .i64 aa)).setCell ⟨w.heap.size + 1 + 1, 4, none⟩ (.bool aw)).heap[w.heap.size + 1]? = some (.cells zc 28 (0, 0)) := (by repeat (first | (with_reducible exact KS.out.2.1) | (with_reducible refine blk_set_ne ?_ (by first | assumption | (with_reducible rfl) | (simp; done) | (simp; omega) | omega)) | (with_reducible refine blk_drewN ?_ _) | (with_reducible refine blk_drew ?_) | (with_reducible refine blk_alloc ?_)))
  have M2 : (((((w1.setCell ⟨w.heap.size + 1 + 1, 0, none⟩ (.int .i64 ac)).setCell ⟨w.heap.size + 1 + 1, 1, none⟩ (.int .i64 ak)).setCell ⟨w.heap.size + 1 + 1, 2, none⟩ (.int .i64 ab)).setCell ⟨w.heap.size + 1 + 1, 3, none⟩ (.int .i64 aa)).setCell ⟨w.heap.size + 1 + 1, 4, none⟩ (.bool aw)).heap[w.heap.size + 1 + 1]? = some (.cells #[.int .i64 ac, .int .i64 ak, .int .i64 ab, .int .i64 aa, .bool aw] 28 (0, 0)) := by
    exact (by repeat (first | (with_reducible exact KS.out.2.2.1) | (with_reducible refine blk_set ?_) | (with_reducible refine blk_set_ne ?_ (by first | assumption | (with_reducible rfl) | (simp; done) | (simp; omega) | omega)) | (with_reducible refine blk_drewN ?_ _) | (with_reducible refine blk_drew ?_) | (with_reducible refine blk_alloc ?_)) : (((((w1.setCell ⟨w.heap.size + 1 + 1, 0, none⟩ (.int .i64 ac)).setCell ⟨w.heap.size + 1 + 1, 1, none⟩ (.int .i64 ak)).setCell ⟨w.heap.size + 1 + 1, 2, none⟩ (.int .i64 ab)).setCell ⟨w.heap.size + 1 + 1, 3, none⟩ (.int .i64 aa)).setCell ⟨w.heap.size + 1 + 1, 4, none⟩ (.bool aw)).heap[w.heap.size + 1 + 1]? = some (.cells (((((zc.setIfInBounds 0 (.int .i64 ac)).setIfInBounds 1 (.int .i64 ak)).setIfInBounds 2 (.int .i64 ab)).setIfInBounds 3 (.int .i64 aa)).setIfInBounds 4 (.bool aw)) 28 (0, 0)))
  have M3 : (((((w1.setCell ⟨w.heap.size + 1 + 1, 0, none⟩ (.int .i64 ac)).setCell ⟨w.heap.size + 1 + 1, 1, none⟩ (.int .i64 ak)).setCell ⟨w.heap.size + 1 + 1, 2, none⟩ (.int .i64 ab)).setCell ⟨w.heap.size + 1 + 1, 3, none⟩ (.int .i64 aa)).setCell ⟨w.heap.size + 1 + 1, 4, none⟩ (.bool aw)).heap[w.heap.size + 1 + 1 + 1]? = some (.cells zc 28 (0, 0)) := (by repeat (first | (with_reducible exact KS.out.2.2.2) | (with_reducible refine blk_set_ne ?_ (by first | assumption | (with_reducible rfl) | (simp; done) | (simp; omega) | omega)) | (with_reducible refine blk_drewN ?_ _) | (with_reducible refine blk_drew ?_) | (with_reducible refine blk_alloc ?_)))
  have M4 : IsCells (((((w1.setCell ⟨w.heap.size + 1 + 1, 0, none⟩ (.int .i64 ac)).setCell ⟨w.heap.size + 1 + 1, 1, none⟩ (.int .i64 ak)).setCell ⟨w.heap.size + 1 + 1, 2, none⟩ (.int .i64 ab)).setCell ⟨w.heap.size + 1 + 1, 3, none⟩ (.int .i64 aa)).setCell ⟨w.heap.size + 1 + 1, 4, none⟩ (.bool aw)) b vb xs' := ⟨(by repeat (first | (with_reducible exact HI1.out.blk) | (with_reducible refine blk_set_ne ?_ (by first | assumption | (with_reducible rfl) | (simp; done) | (simp; omega) | omega)) | (with_reducible refine blk_drewN ?_ _) | (with_reducible refine blk_drew ?_) | (with_reducible refine blk_alloc ?_))), (by repeat (first | (with_reducible exact HI1.out.vals) | (with_reducible refine blk_set_ne ?_ (by first | assumption | (with_reducible rfl) | (simp; done) | (simp; omega) | omega)) | (with_reducible refine blk_drewN ?_ _) | (with_reducible refine blk_drew ?_) | (with_reducible refine blk_alloc ?_))), HI1.out.len, HI1.out.ne⟩
  have HRA : Kd.R (Kd.int .i64) 2 (((((w1.setCell ⟨w.heap.size + 1 + 1, 0, none⟩ (.int .i64 ac)).setCell ⟨w.heap.size + 1 + 1, 1, none⟩ (.int .i64 ak)).setCell ⟨w.heap.size + 1 + 1, 2, none⟩ (.int .i64 ab)).setCell ⟨w.heap.size + 1 + 1, 3, none⟩ (.int .i64 aa)).setCell ⟨w.heap.size + 1 + 1, 4, none⟩ (.bool aw)) w0.heap.size (fun k => P k ∧ k < w.heap.size) m xs := Kd.R_step HRw.out (fun k hk hlt => hKA.block k hlt (fun e => HP.out.2 (e ▸ hk.1)))
  have HBA : Below w0.heap.size w0 (((((w1.setCell ⟨w.heap.size + 1 + 1, 0, none⟩ (.int .i64 ac)).setCell ⟨w.heap.size + 1 + 1, 1, none⟩ (.int .i64 ak)).setCell ⟨w.heap.size + 1 + 1, 2, none⟩ (.int .i64 ab)).setCell ⟨w.heap.size + 1 + 1, 3, none⟩ (.int .i64 aa)).setCell ⟨w.heap.size + 1 + 1, 4, none⟩ (.bool aw)) := below_then_keep HI.out.below h0w hKA (by intro i hi; omega)
  have L3' := Aside0.mk l3
  clear a0 a1 a2 a3 a4 f2 d1 d2 d3 l0 l1 l2 l3
  refine (PCellsOwn.rotaref10_Swap.calls (fun k => P k ∧ k < w.heap.size) m xs oc oo ov _ _ _ _ _ _ _ w0 _ HBA HRA (ref_swap xs oc oo ov hlen)).mono ?_
  rw [Hst.out]
  rintro e w2 ⟨m', rfl, hR2, hB2, hKp⟩
  have N0 := (hKp.2 _ (lt_blk M0) (by rintro ⟨_, h⟩; omega)).trans M0
  have N1 := (hKp.2 _ (lt_blk M1) (by rintro ⟨_, h⟩; omega)).trans M1
  have N2 := (hKp.2 _ (lt_blk M2) (by rintro ⟨_, h⟩; omega)).trans M2
  have N3 := (hKp.2 _ (lt_blk M3) (by rintro ⟨_, h⟩; omega)).trans M3
  have N4 : IsCells w2 b vb xs' := ⟨(hKp.2 _ (lt_blk M4.blk) (fun h => HP.out.1 h.1)).trans M4.blk, (hKp.2 _ (lt_blk M4.vals) (fun h => HP.out.2 h.1)).trans M4.vals, M4.len, M4.ne⟩
  have hK2 : Keep (fun k => k = vb ∨ P k) w w2 := (hKA.mono (fun _ _ h => .inl h)).trans' (keep_of_kept HBA hB2 hKp) (fun _ _ h => .inr h.1)
  have HN := Aside0.mk (And.intro hR2 hB2)
  have HKK := Aside0.mk hK2
  clear hK2
  clear hR2 hB2 hKA HRA HBA M4 hKp M0 M1 M2 M3
  have K0 := N0
  have l0 := lt_blk N0
  have l1 := lt_blk N1
  have l2 := lt_blk N2
  have l3 := lt_blk N3
  have a0 := cell_blk N2 0
  have a1 := cell_blk N2 1
  have a2 := cell_blk N2 2
  have a3 := cell_blk N2 3
  have a4 := cell_blk N2 4
  have b0 := cell_blk N3 0
  have b1 := cell_blk N3 1
  have b2 := cell_blk N3 2
  have b3 := cell_blk N3 3
  have b4 := cell_blk N3 4
  have r0 := cell_blk N1 0
  have r1 := cell_blk N1 1
  have r2 := cell_blk N1 2
  have r3 := cell_blk N1 3
  have r4 := cell_blk N1 4
  have f3 := frozen_blk N3
  have f1 := frozen_blk N1
  simp [zc] at a0 a1 a2 a3 a4 b0 b1 b2 b3 b4 r0 r1 r2 r3 r4
  have HN4 := Aside0.mk N4
  clear N0 N1 N2 N3 N4 K0
  go_wp2
  go_region
  go_wp2
  refine bodyPost_ret (v := .tuple #[m', .agg #[.int .i64 ac, .int .i64 ak, .int .i64 ab, .int .i64 aa, .bool aw], .bool (er == 0), .bool true]) (by simp [results, Try.results25, go_sem, r0, r1, r2, r3, r4]) rfl ⟨m', rfl, ⟨⟨(by repeat (first | (with_reducible exact HN4.out.blk) | (with_reducible refine blk_set_ne ?_ (by first | assumption | (with_reducible rfl) | (simp; done) | (simp; omega) | omega)) | (with_reducible refine blk_drewN ?_ _) | (with_reducible refine blk_drew ?_) | (with_reducible refine blk_alloc ?_))), (by repeat (first | (with_reducible exact HN4.out.vals) | (with_reducible refine blk_set_ne ?_ (by first | assumption | (with_reducible rfl) | (simp; done) | (simp; omega) | omega)) | (with_reducible refine blk_drewN ?_ _) | (with_reducible refine blk_drew ?_) | (with_reducible refine blk_alloc ?_))), HN4.out.len, HN4.out.ne⟩, ?_, (by repeat (first | (with_reducible exact HN.out.2) | (with_reducible refine Below.drew ?_) | (with_reducible refine below_drewN ?_ _) | (with_reducible refine below_al ?_ _) | (with_reducible refine Below.alloc ?_ (by first | exact Nat.le_refl _ | omega | (simp; done) | (simp; omega)) _) | (with_reducible refine Below.setCell ?_ (by first | (simp only []; omega) | (simp; done) | (simp; omega)) _))), hb0, hvb0⟩, (by repeat (first | (with_reducible exact HKK.out) | (with_reducible refine Keep.drewN ?_ _) | (with_reducible refine Keep.drew ?_) | (with_reducible refine Keep.setCell ?_ _ _ (by first | (right; with_reducible rfl) | (left; simp; done) | (left; simp; omega) | (right; simp; done) | (right; assumption))) | (with_reducible refine Keep.alloc ?_ _)))⟩
  refine Kd.R_mono (Kd.R_step HN.out.1 (fun k hk hlt => ?_)) ?_
  · try simp only [World.size_setCell] at hk
    have hL3 := L3'.out
    refine Keep.block (F := fun k => k = w.heap.size + 1 ∨ k = w.heap.size + 1 + 1 + 1) (by repeat (first | (with_reducible exact Keep.refl _ _) | (with_reducible refine Keep.drewN ?_ _) | (with_reducible refine Keep.drew ?_) | (with_reducible refine Keep.setCell ?_ _ _ (by first | (right; with_reducible rfl) | (left; simp; done) | (left; simp; omega) | (right; simp; done) | (right; assumption))) | (with_reducible refine Keep.alloc ?_ _))) k hlt ?_
    intro h
    rcases hk with ⟨_, hk⟩ | hk <;> omega
  · intro k hk
    try simp only [World.size_setCell] at hk
    have hL3 := L3'.out
    rcases hk with ⟨hk, _⟩ | hk
    · exact .inl hk
    · exact .inr (by omega)

set_option maxRecDepth 100000 in
set_option maxHeartbeats 4000000 in
theorem calls_add (w0 w : World) (b vb : Nat) (m : Value) (xs : List Int) (o : COp) (P : Nat → Prop) (hk : o.k = 4) (hI : Inv w0 w b vb P m xs) (hP : ¬ P b ∧ ¬ P vb) :
    Calls Try.prog 25 #[.pointer (some ⟨b, 0, none⟩), m, .agg o.cells] w fun e w' => ∃ m', e = .returned (.tuple #[m', (stp xs 4 o.c o.o o.v).2.1.val, .bool ((stp xs 4 o.c o.o o.v).2.2 == 0), .bool true]) ∧ Inv w0 w' b vb (fun k => P k ∨ w.heap.size ≤ k) m' (stp xs 4 o.c o.o o.v).1 ∧ Keep (fun k => k = vb ∨ P k) w w' := by
  obtain ⟨okk, oc, oo, ov⟩ := o
  simp only at hk
  subst hk
  have hlen := hI.cells.len
  have hbw := lt_blk hI.cells.blk
  have hvw := lt_blk hI.cells.vals
  have h0w := hI.below.size
  have hb0 := hI.b0
  have hvb0 := hI.vb0
  have HI := Aside0.mk hI
  have HP := Aside0.mk hP
  have HRw : Aside0 (Kd.R (Kd.int .i64) 2 w w0.heap.size (fun k => P k ∧ k < w.heap.size) m xs) := ⟨Kd.R_mono (Kd.R_bound hI.own) (fun k hk => ⟨hk.1, hk.2.2.1⟩)⟩
  clear hI hP
  unfold COp.cells
  generalize hst : stp xs 4 oc oo ov = st
  have Hst := Aside0.mk hst
  have hxl : st.1.length = xs.length := by rw [← hst]; exact stp_length _ _ _ _ _
  clear hst
  obtain ⟨xs', ⟨ac, ak, ab, aa, aw⟩, er⟩ := st
  have HXL := Aside0.mk hxl
  clear hxl
  have HW : Below w.heap.size w ((((w.alloc (.cells #[.int .i64 4, .int .i64 oc, .int .i64 oo, .int .i64 ov] 45)).alloc (.cells zc 28)).alloc (.cells zc 28)).alloc (.cells zc 28)) := (by repeat (first | (with_reducible exact Below.refl _ _) | (with_reducible refine Below.drew ?_) | (with_reducible refine below_drewN ?_ _) | (with_reducible refine below_al ?_ _) | (with_reducible refine Below.alloc ?_ (by first | exact Nat.le_refl _ | omega | (simp; done) | (simp; omega)) _) | (with_reducible refine Below.setCell ?_ (by first | (simp only []; omega) | (simp; done) | (simp; omega)) _)))
  have L0 : ((((w.alloc (.cells #[.int .i64 4, .int .i64 oc, .int .i64 oo, .int .i64 ov] 45)).alloc (.cells zc 28)).alloc (.cells zc 28)).alloc (.cells zc 28)).heap[w.heap.size]? = some (.cells #[.int .i64 4, .int .i64 oc, .int .i64 oo, .int .i64 ov] 45 (0, 0)) := blk_alloc (blk_alloc (blk_alloc (blk_new _ _)))
  have L1 : ((((w.alloc (.cells #[.int .i64 4, .int .i64 oc, .int .i64 oo, .int .i64 ov] 45)).alloc (.cells zc 28)).alloc (.cells zc 28)).alloc (.cells zc 28)).heap[w.heap.size + 1]? = some (.cells zc 28 (0, 0)) := blk_alloc (blk_alloc (blk_new1 _ _ _))
  have L2 : ((((w.alloc (.cells #[.int .i64 4, .int .i64 oc, .int .i64 oo, .int .i64 ov] 45)).alloc (.cells zc 28)).alloc (.cells zc 28)).alloc (.cells zc 28)).heap[w.heap.size + 1 + 1]? = some (.cells zc 28 (0, 0)) := blk_alloc (blk_new2 _ _ _ _)
  have L3 : ((((w.alloc (.cells #[.int .i64 4, .int .i64 oc, .int .i64 oo, .int .i64 ov] 45)).alloc (.cells zc 28)).alloc (.cells zc 28)).alloc (.cells zc 28)).heap[w.heap.size + 1 + 1 + 1]? = some (.cells zc 28 (0, 0)) := by
    have := blk_new (((w.alloc (.cells #[.int .i64 4, .int .i64 oc, .int .i64 oo, .int .i64 ov] 45)).alloc (.cells zc 28)).alloc (.cells zc 28)) (.cells zc 28)
    simpa using this
  have HL := Aside0.mk (And.intro HW (And.intro L0 (And.intro L1 (And.intro L2 L3))))
  clear HW L0 L1 L2 L3
  go_enter Try.func25, Try.ntmps25
  go_wp2_with fail
  refine (add_any b vb xs oc ov ((((w.alloc (.cells #[.int .i64 4, .int .i64 oc, .int .i64 oo, .int .i64 ov] 45)).alloc (.cells zc 28)).alloc (.cells zc 28)).alloc (.cells zc 28)) (HI.out.cells.new HL.out.1)).mono ?_
  rw [stp4 xs oc 0 ov oo]
  rw [Hst.out]
  rintro e w1 ⟨rfl, hI1, hK1⟩
  have hK : Keep (fun k => k = vb) w w1 := (Keep.of_below HL.out.1).trans' hK1 (fun _ _ h => h)
  have K0 := blk_keep HL.out.2.1 hK1 (by omega)
  have K1 := blk_keep HL.out.2.2.1 hK1 (by omega)
  have K2 := blk_keep HL.out.2.2.2.1 hK1 (by omega)
  have K3 := blk_keep HL.out.2.2.2.2 hK1 (by omega)
  clear hK1
  have KS := Aside0.mk (And.intro K0 (And.intro K1 (And.intro K2 K3)))
  have HK := Aside0.mk hK
  have HI1 := Aside0.mk hI1
  have d1 := cell_blk K0 1
  have d2 := cell_blk K0 2
  have d3 := cell_blk K0 3
  have l0 := lt_blk K0
  have l1 := lt_blk K1
  have l2 := lt_blk K2
  have l3 := lt_blk K3
  have a0 := cell_blk K2 0
  have a1 := cell_blk K2 1
  have a2 := cell_blk K2 2
  have a3 := cell_blk K2 3
  have a4 := cell_blk K2 4
  have f2 := frozen_blk K2
  simp [zc] at d1 d2 d3 a0 a1 a2 a3 a4
  clear K0 K1 K2 K3 hK hI1
  unfold Acc.val
  go_wp2_with fail
  have hKA : Keep (fun k => k = vb) w (((((w1.setCell ⟨w.heap.size + 1 + 1, 0, none⟩ (.int .i64 ac)).setCell ⟨w.heap.size + 1 + 1, 1, none⟩ (.int .i64 ak)).setCell ⟨w.heap.size + 1 + 1, 2, none⟩ (.int .i64 ab)).setCell ⟨w.heap.size + 1 + 1, 3, none⟩ (.int .i64 aa)).setCell ⟨w.heap.size + 1 + 1, 4, none⟩ (.bool aw)) := (by repeat (first | (with_reducible exact HK.out) | (with_reducible refine Keep.drewN ?_ _) | (with_reducible refine Keep.drew ?_) | (with_reducible refine Keep.setCell ?_ _ _ (by first | (right; with_reducible rfl) | (left; simp; done) | (left; simp; omega) | (right; simp; done) | (right; assumption))) | (with_reducible refine Keep.alloc ?_ _)))
  have M0 : (((((w1.setCell ⟨w.heap.size + 1 + 1, 0, none⟩ (.int .i64 ac)).setCell ⟨w.heap.size + 1 + 1, 1, none⟩ (.int .i64 ak)).setCell ⟨w.heap.size + 1 + 1, 2, none⟩ (.int .i64 ab)).setCell ⟨w.heap.size + 1 + 1, 3, none⟩ (.int .i64 aa)).setCell ⟨w.heap.size + 1 + 1, 4, none⟩ (.bool aw)).heap[w.heap.size]? = some (.cells #[.int .i64 4, .int .i64 oc, .int .i64 oo, .int .i64 ov] 45 (0, 0)) := (by repeat (first | (with_reducible exact KS.out.1) | (with_reducible refine blk_set_ne ?_ (by first | assumption | (with_reducible rfl) | (simp; done) | (simp; omega) | omega)) | (with_reducible refine blk_drewN ?_ _) | (with_reducible refine blk_drew ?_) | (with_reducible refine blk_alloc ?_)))
  have M1 : (((((w1.setCell ⟨w.heap.size + 1 + 1, 0, none⟩ (.int .i64 ac)).setCell ⟨w.heap.size + 1 + 1, 1, none⟩ (.int .i64 ak)).setCell ⟨w.heap.size + 1 + 1, 2, none⟩ (.int .i64 ab)).setCell ⟨w.heap.size + 1 + 1, 3, none⟩ (.int .i64 aa)).setCell ⟨w.heap.size + 1 + 1, 4, none⟩ (.bool aw)).heap[w.heap.size + 1]? = some (.cells zc 28 (0, 0)) := (by repeat (first | (with_reducible exact KS.out.2.1) | (with_reducible refine blk_set_ne ?_ (by first | assumption | (with_reducible rfl) | (simp; done) | (simp; omega) | omega)) | (with_reducible refine blk_drewN ?_ _) | (with_reducible refine blk_drew ?_) | (with_reducible refine blk_alloc ?_)))
  have M2 : (((((w1.setCell ⟨w.heap.size + 1 + 1, 0, none⟩ (.int .i64 ac)).setCell ⟨w.heap.size + 1 + 1, 1, none⟩ (.int .i64 ak)).setCell ⟨w.heap.size + 1 + 1, 2, none⟩ (.int .i64 ab)).setCell ⟨w.heap.size + 1 + 1, 3, none⟩ (.int .i64 aa)).setCell ⟨w.heap.size + 1 + 1, 4, none⟩ (.bool aw)).heap[w.heap.size + 1 + 1]? = some (.cells #[.int .i64 ac, .int .i64 ak, .int .i64 ab, .int .i64 aa, .bool aw] 28 (0, 0)) := by
    exact (by repeat (first | (with_reducible exact KS.out.2.2.1) | (with_reducible refine blk_set ?_) | (with_reducible refine blk_set_ne ?_ (by first | assumption | (with_reducible rfl) | (simp; done) | (simp; omega) | omega)) | (with_reducible refine blk_drewN ?_ _) | (with_reducible refine blk_drew ?_) | (with_reducible refine blk_alloc ?_)) : (((((w1.setCell ⟨w.heap.size + 1 + 1, 0, none⟩ (.int .i64 ac)).setCell ⟨w.heap.size + 1 + 1, 1, none⟩ (.int .i64 ak)).setCell ⟨w.heap.size + 1 + 1, 2, none⟩ (.int .i64 ab)).setCell ⟨w.heap.size + 1 + 1, 3, none⟩ (.int .i64 aa)).setCell ⟨w.heap.size + 1 + 1, 4, none⟩ (.bool aw)).heap[w.heap.size + 1 + 1]? = some (.cells (((((zc.setIfInBounds 0 (.int .i64 ac)).setIfInBounds 1 (.int .i64 ak)).setIfInBounds 2 (.int .i64 ab)).setIfInBounds 3 (.int .i64 aa)).setIfInBounds 4 (.bool aw)) 28 (0, 0)))
  have M3 : (((((w1.setCell ⟨w.heap.size + 1 + 1, 0, none⟩ (.int .i64 ac)).setCell ⟨w.heap.size + 1 + 1, 1, none⟩ (.int .i64 ak)).setCell ⟨w.heap.size + 1 + 1, 2, none⟩ (.int .i64 ab)).setCell ⟨w.heap.size + 1 + 1, 3, none⟩ (.int .i64 aa)).setCell ⟨w.heap.size + 1 + 1, 4, none⟩ (.bool aw)).heap[w.heap.size + 1 + 1 + 1]? = some (.cells zc 28 (0, 0)) := (by repeat (first | (with_reducible exact KS.out.2.2.2) | (with_reducible refine blk_set_ne ?_ (by first | assumption | (with_reducible rfl) | (simp; done) | (simp; omega) | omega)) | (with_reducible refine blk_drewN ?_ _) | (with_reducible refine blk_drew ?_) | (with_reducible refine blk_alloc ?_)))
  have M4 : IsCells (((((w1.setCell ⟨w.heap.size + 1 + 1, 0, none⟩ (.int .i64 ac)).setCell ⟨w.heap.size + 1 + 1, 1, none⟩ (.int .i64 ak)).setCell ⟨w.heap.size + 1 + 1, 2, none⟩ (.int .i64 ab)).setCell ⟨w.heap.size + 1 + 1, 3, none⟩ (.int .i64 aa)).setCell ⟨w.heap.size + 1 + 1, 4, none⟩ (.bool aw)) b vb xs' := ⟨(by repeat (first | (with_reducible exact HI1.out.blk) | (with_reducible refine blk_set_ne ?_ (by first | assumption | (with_reducible rfl) | (simp; done) | (simp; omega) | omega)) | (with_reducible refine blk_drewN ?_ _) | (with_reducible refine blk_drew ?_) | (with_reducible refine blk_alloc ?_))), (by repeat (first | (with_reducible exact HI1.out.vals) | (with_reducible refine blk_set_ne ?_ (by first | assumption | (with_reducible rfl) | (simp; done) | (simp; omega) | omega)) | (with_reducible refine blk_drewN ?_ _) | (with_reducible refine blk_drew ?_) | (with_reducible refine blk_alloc ?_))), HI1.out.len, HI1.out.ne⟩
  have HRA : Kd.R (Kd.int .i64) 2 (((((w1.setCell ⟨w.heap.size + 1 + 1, 0, none⟩ (.int .i64 ac)).setCell ⟨w.heap.size + 1 + 1, 1, none⟩ (.int .i64 ak)).setCell ⟨w.heap.size + 1 + 1, 2, none⟩ (.int .i64 ab)).setCell ⟨w.heap.size + 1 + 1, 3, none⟩ (.int .i64 aa)).setCell ⟨w.heap.size + 1 + 1, 4, none⟩ (.bool aw)) w0.heap.size (fun k => P k ∧ k < w.heap.size) m xs := Kd.R_step HRw.out (fun k hk hlt => hKA.block k hlt (fun e => HP.out.2 (e ▸ hk.1)))
  have HBA : Below w0.heap.size w0 (((((w1.setCell ⟨w.heap.size + 1 + 1, 0, none⟩ (.int .i64 ac)).setCell ⟨w.heap.size + 1 + 1, 1, none⟩ (.int .i64 ak)).setCell ⟨w.heap.size + 1 + 1, 2, none⟩ (.int .i64 ab)).setCell ⟨w.heap.size + 1 + 1, 3, none⟩ (.int .i64 aa)).setCell ⟨w.heap.size + 1 + 1, 4, none⟩ (.bool aw)) := below_then_keep HI.out.below h0w hKA (by intro i hi; omega)
  have L3' := Aside0.mk l3
  clear a0 a1 a2 a3 a4 f2 d1 d2 d3 l0 l1 l2 l3
  refine (PCellsOwn.rotaref10_Add.calls (fun k => P k ∧ k < w.heap.size) m xs oc ov _ _ _ _ _ _ _ w0 _ HBA HRA (ref_add xs oc oo ov hlen)).mono ?_
  rw [Hst.out]
  rintro e w2 ⟨m', rfl, hR2, hB2, hKp⟩
  have N0 := (hKp.2 _ (lt_blk M0) (by rintro ⟨_, h⟩; omega)).trans M0
  have N1 := (hKp.2 _ (lt_blk M1) (by rintro ⟨_, h⟩; omega)).trans M1
  have N2 := (hKp.2 _ (lt_blk M2) (by rintro ⟨_, h⟩; omega)).trans M2
  have N3 := (hKp.2 _ (lt_blk M3) (by rintro ⟨_, h⟩; omega)).trans M3
  have N4 : IsCells w2 b vb xs' := ⟨(hKp.2 _ (lt_blk M4.blk) (fun h => HP.out.1 h.1)).trans M4.blk, (hKp.2 _ (lt_blk M4.vals) (fun h => HP.out.2 h.1)).trans M4.vals, M4.len, M4.ne⟩
  have hK2 : Keep (fun k => k = vb ∨ P k) w w2 := (hKA.mono (fun _ _ h => .inl h)).trans' (keep_of_kept HBA hB2 hKp) (fun _ _ h => .inr h.1)
  have HN := Aside0.mk (And.intro hR2 hB2)
  have HKK := Aside0.mk hK2
  clear hK2
  clear hR2 hB2 hKA HRA HBA M4 hKp M0 M1 M2 M3
  have K0 := N0
  have l0 := lt_blk N0
  have l1 := lt_blk N1
  have l2 := lt_blk N2
  have l3 := lt_blk N3
  have a0 := cell_blk N2 0
  have a1 := cell_blk N2 1
  have a2 := cell_blk N2 2
  have a3 := cell_blk N2 3
  have a4 := cell_blk N2 4
  have b0 := cell_blk N3 0
  have b1 := cell_blk N3 1
  have b2 := cell_blk N3 2
  have b3 := cell_blk N3 3
  have b4 := cell_blk N3 4
  have r0 := cell_blk N1 0
  have r1 := cell_blk N1 1
  have r2 := cell_blk N1 2
  have r3 := cell_blk N1 3
  have r4 := cell_blk N1 4
  have f3 := frozen_blk N3
  have f1 := frozen_blk N1
  simp [zc] at a0 a1 a2 a3 a4 b0 b1 b2 b3 b4 r0 r1 r2 r3 r4
  have HN4 := Aside0.mk N4
  clear N0 N1 N2 N3 N4 K0
  go_wp2
  go_region
  go_wp2
  refine bodyPost_ret (v := .tuple #[m', .agg #[.int .i64 ac, .int .i64 ak, .int .i64 ab, .int .i64 aa, .bool aw], .bool (er == 0), .bool true]) (by simp [results, Try.results25, go_sem, r0, r1, r2, r3, r4]) rfl ⟨m', rfl, ⟨⟨(by repeat (first | (with_reducible exact HN4.out.blk) | (with_reducible refine blk_set_ne ?_ (by first | assumption | (with_reducible rfl) | (simp; done) | (simp; omega) | omega)) | (with_reducible refine blk_drewN ?_ _) | (with_reducible refine blk_drew ?_) | (with_reducible refine blk_alloc ?_))), (by repeat (first | (with_reducible exact HN4.out.vals) | (with_reducible refine blk_set_ne ?_ (by first | assumption | (with_reducible rfl) | (simp; done) | (simp; omega) | omega)) | (with_reducible refine blk_drewN ?_ _) | (with_reducible refine blk_drew ?_) | (with_reducible refine blk_alloc ?_))), HN4.out.len, HN4.out.ne⟩, ?_, (by repeat (first | (with_reducible exact HN.out.2) | (with_reducible refine Below.drew ?_) | (with_reducible refine below_drewN ?_ _) | (with_reducible refine below_al ?_ _) | (with_reducible refine Below.alloc ?_ (by first | exact Nat.le_refl _ | omega | (simp; done) | (simp; omega)) _) | (with_reducible refine Below.setCell ?_ (by first | (simp only []; omega) | (simp; done) | (simp; omega)) _))), hb0, hvb0⟩, (by repeat (first | (with_reducible exact HKK.out) | (with_reducible refine Keep.drewN ?_ _) | (with_reducible refine Keep.drew ?_) | (with_reducible refine Keep.setCell ?_ _ _ (by first | (right; with_reducible rfl) | (left; simp; done) | (left; simp; omega) | (right; simp; done) | (right; assumption))) | (with_reducible refine Keep.alloc ?_ _)))⟩
  refine Kd.R_mono (Kd.R_step HN.out.1 (fun k hk hlt => ?_)) ?_
  · try simp only [World.size_setCell] at hk
    have hL3 := L3'.out
    refine Keep.block (F := fun k => k = w.heap.size + 1 ∨ k = w.heap.size + 1 + 1 + 1) (by repeat (first | (with_reducible exact Keep.refl _ _) | (with_reducible refine Keep.drewN ?_ _) | (with_reducible refine Keep.drew ?_) | (with_reducible refine Keep.setCell ?_ _ _ (by first | (right; with_reducible rfl) | (left; simp; done) | (left; simp; omega) | (right; simp; done) | (right; assumption))) | (with_reducible refine Keep.alloc ?_ _))) k hlt ?_
    intro h
    rcases hk with ⟨_, hk⟩ | hk <;> omega
  · intro k hk
    try simp only [World.size_setCell] at hk
    have hL3 := L3'.out
    rcases hk with ⟨hk, _⟩ | hk
    · exact .inl hk
    · exact .inr (by omega)

set_option maxRecDepth 100000 in
set_option maxHeartbeats 4000000 in
theorem calls_other (w0 w : World) (b vb : Nat) (m : Value) (xs : List Int) (o : COp) (P : Nat → Prop) (hk1 : o.k ≠ 1) (hk2 : o.k ≠ 2) (hk3 : o.k ≠ 3) (hk4 : o.k ≠ 4) (hI : Inv w0 w b vb P m xs) :
    Calls Try.prog 25 #[.pointer (some ⟨b, 0, none⟩), m, .agg o.cells] w fun e w' => ∃ m', e = .returned (.tuple #[m', Acc.zero.val, .bool false, .bool true]) ∧ Inv w0 w' b vb (fun k => P k ∨ w.heap.size ≤ k) m' xs ∧ Keep (fun k => k = vb ∨ P k) w w' := by
  obtain ⟨okk, oc, oo, ov⟩ := o
  simp only at hk1 hk2 hk3 hk4
  have h1 : (okk == 1) = false := by simpa using hk1
  have h2 : (okk == 2) = false := by simpa using hk2
  have h3 : (okk == 3) = false := by simpa using hk3
  have h4 : (okk == 4) = false := by simpa using hk4
  clear hk1 hk2 hk3 hk4
  have hbw := lt_blk hI.cells.blk
  have hvw := lt_blk hI.cells.vals
  have h0w := hI.below.size
  have hb0 := hI.b0
  have hvb0 := hI.vb0
  have HI := Aside0.mk hI
  clear hI
  unfold COp.cells
  go_enter Try.func25, Try.ntmps25
  go_wp2
  go_region
  go_wp2
  refine bodyPost_ret (v := .tuple #[m, .agg #[.int .i64 0, .int .i64 0, .int .i64 0, .int .i64 0, .bool false], .bool false, .bool true]) (by simp [results, Try.results25, go_sem]) rfl ⟨m, rfl, ⟨HI.out.cells.new (by repeat (first | (with_reducible exact Below.refl _ _) | (with_reducible refine Below.drew ?_) | (with_reducible refine below_drewN ?_ _) | (with_reducible refine below_al ?_ _) | (with_reducible refine Below.alloc ?_ (by first | exact Nat.le_refl _ | omega | (simp; done) | (simp; omega)) _) | (with_reducible refine Below.setCell ?_ (by first | (simp only []; omega) | (simp; done) | (simp; omega)) _))), ?_, (by repeat (first | (with_reducible exact HI.out.below) | (with_reducible refine Below.drew ?_) | (with_reducible refine below_drewN ?_ _) | (with_reducible refine below_al ?_ _) | (with_reducible refine Below.alloc ?_ (by first | exact Nat.le_refl _ | omega | (simp; done) | (simp; omega)) _) | (with_reducible refine Below.setCell ?_ (by first | (simp only []; omega) | (simp; done) | (simp; omega)) _))), hb0, hvb0⟩, (by repeat (first | (with_reducible exact Keep.refl _ _) | (with_reducible refine Keep.drewN ?_ _) | (with_reducible refine Keep.drew ?_) | (with_reducible refine Keep.setCell ?_ _ _ (by first | (right; with_reducible rfl) | (left; simp; done) | (left; simp; omega) | (right; simp; done) | (right; assumption))) | (with_reducible refine Keep.alloc ?_ _)))⟩
  exact Kd.R_mono (Kd.R_below HI.out.own (by repeat (first | (with_reducible exact Below.refl _ _) | (with_reducible refine Below.drew ?_) | (with_reducible refine below_drewN ?_ _) | (with_reducible refine below_al ?_ _) | (with_reducible refine Below.alloc ?_ (by first | exact Nat.le_refl _ | omega | (simp; done) | (simp; omega)) _) | (with_reducible refine Below.setCell ?_ (by first | (simp only []; omega) | (simp; done) | (simp; omega)) _)))) (fun _ h => .inl h)
theorem calls_any (w0 w : World) (b vb : Nat) (m : Value) (xs : List Int) (o : COp) (P : Nat → Prop) (hI : Inv w0 w b vb P m xs) (hP : ¬ P b ∧ ¬ P vb) :
    Calls Try.prog 25 #[.pointer (some ⟨b, 0, none⟩), m, .agg o.cells] w fun e w' => ∃ m', e = .returned (.tuple #[m', (ck xs o).2.1.val, .bool (ck xs o).2.2, .bool true]) ∧ Inv w0 w' b vb (fun k => P k ∨ w.heap.size ≤ k) m' (ck xs o).1 ∧ Keep (fun k => k = vb ∨ P k) w w' := by
  by_cases h1 : o.k = 1
  · have e : ck xs o = ((stp xs 1 o.c o.o o.v).1, (stp xs 1 o.c o.o o.v).2.1, (stp xs 1 o.c o.o o.v).2.2 == 0) := by simp [ck, h1]
    rw [e]; exact calls_load w0 w b vb m xs o P h1 hI hP
  by_cases h2 : o.k = 2
  · have e : ck xs o = ((stp xs 2 o.c o.o o.v).1, (stp xs 2 o.c o.o o.v).2.1, (stp xs 2 o.c o.o o.v).2.2 == 0) := by simp [ck, h2]
    rw [e]; exact calls_store w0 w b vb m xs o P h2 hI hP
  by_cases h3 : o.k = 3
  · have e : ck xs o = ((stp xs 3 o.c o.o o.v).1, (stp xs 3 o.c o.o o.v).2.1, (stp xs 3 o.c o.o o.v).2.2 == 0) := by simp [ck, h3]
    rw [e]; exact calls_swap w0 w b vb m xs o P h3 hI hP
  by_cases h4 : o.k = 4
  · have e : ck xs o = ((stp xs 4 o.c o.o o.v).1, (stp xs 4 o.c o.o o.v).2.1, (stp xs 4 o.c o.o o.v).2.2 == 0) := by simp [ck, h4]
    rw [e]; exact calls_add w0 w b vb m xs o P h4 hI hP
  · have e : ck xs o = (xs, Acc.zero, false) := by simp [ck, h1, h2, h3, h4]
    rw [e]; exact calls_other w0 w b vb m xs o P h1 h2 h3 h4 hI
end Go.Proofs.Ytkjfojbnghbkdaa
