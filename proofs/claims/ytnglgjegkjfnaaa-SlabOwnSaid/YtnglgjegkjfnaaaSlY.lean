import Derived.Test.YtnglgjegkjfnaaaSlX
import Derived.Test.YtnglgjegkjfnaaaSlQ
import Derived.Test.YtnglgjegkjfnaaaWEqStruct
import Derived.Test.YtnglgjegkjfnaaaOpen
import Derived.Deep.RegionLaw
set_option linter.unusedSimpArgs false
set_option linter.unusedVariables false
namespace Go.Proofs.Ytnglgjegkjfnaaa
open Go.RowKit Go.ChangeShapes Go.WideShapes Go.ChangeAt Go.Proofs.YtnglgjegkjfnaaaW.PrintWords Go.Proofs.YtnglgjegkjfnaaaW.PrintMore Go.Proofs.YtnglgjegkjfnaaaW.PrintLast
/-! Names; name, fit. -/
theorem eqG (d : Nat) (w : World) (x0 y0 x1 y1 : Int) : (Op.equalIn (d + 2) 48 (.agg #[.int .i64 x0, .int .i64 x1]) (.agg #[.int .i64 y0, .int .i64 y1])).run Try.prog w = .ok (x0 == y0 && (x1 == y1)) w := by
  refine eqA_of Try.underlying48 (by kernel_rfl) ?_
  refine eqf_cons (by rfl) (by go_simp; rfl) (by go_simp; rfl) (by go_simp) ?_
  exact eqf_last (by rfl) (by go_simp; rfl) (by go_simp; rfl) (by go_simp)
def kG : Kd (Int × Int) := Kd.pair (Kd.int .i64) (Kd.int .i64)
theorem kG_open {w : World} {x : Int × Int} {cs : List Value} (h : kG.K w x cs) : cs = [.int .i64 x.1, .int .i64 x.2] := by
  obtain ⟨_, _, rfl, rfl, rfl⟩ := h
  rfl
theorem kG_mkM (w : World) (base : Nat) (ok : Nat → Prop) (x : Int × Int) : kG.M w base ok x [.int .i64 x.1, .int .i64 x.2] := ⟨[.int .i64 x.1], [.int .i64 x.2], rfl, rfl, rfl⟩
theorem infoG : (Try.prog.info? 48).map (fun i => (i.zero, i.size, i.bytes)) = some (some (.agg #[.int .i64 0, .int .i64 0]), 2, 16) := by kernel_rfl
theorem gid_at {w : World} {b off n : Nat} {xs : List (Int × Int)} (h : kG.C w (some ⟨b, off, none⟩) n xs) (i : Nat) (hi : i < n) : ∃ e, xs[i]? = some e ∧ w.cell? ⟨b, off + i * 2, none⟩ = some (.int .i64 e.1) ∧ w.cell? ⟨b, off + i * 2 + 1, none⟩ = some (.int .i64 e.2) := by
  obtain ⟨ad, e, hc⟩ := h.2.2 (by omega)
  injection e with e
  subst e
  have hl : i < xs.length := by have := h.1; omega
  obtain ⟨cs, hcl, hK, hat⟩ := hc i _ (List.getElem?_eq_getElem hl)
  obtain rfl := kG_open hK
  refine ⟨_, List.getElem?_eq_getElem hl, ?_, ?_⟩
  · have := hat 0 _ rfl; rw [adds] at this; exact this
  · have := hat 1 _ rfl; rw [adds, ← Nat.add_assoc] at this; exact this
def nameS (pick : Int) (g : Int × Int) (had : List (Int × Int)) : Int × Int := if 0 ≤ pick ∧ pick < had.length then had.getD pick.toNat g else g
/-- A call of a script: Do, P, Pick, G. -/
structure SOp where
  d : Int
  p : Int
  k : Int
  g : Int × Int
abbrev SOp.cells (o : SOp) : Array Value := #[.int .i64 o.d, .int .i64 o.p, .int .i64 o.k, .int .i64 o.g.1, .int .i64 o.g.2]
set_option maxHeartbeats 2000000 in
theorem name_any (o : SOp) (A : Option Addr) (c : Nat) (had : List (Int × Int)) (w : World) (hC : kG.C w A had.length had) (hc : had.length ≤ c) :
    Calls Try.prog 32 #[.agg o.cells, .slice A had.length c] w fun e w' => e = .returned (.agg #[.int .i64 (nameS o.k o.g had).1, .int .i64 (nameS o.k o.g had).2]) ∧ Below w.heap.size w w' := by
  obtain ⟨d, p, k, g⟩ := o
  have hB : Below w.heap.size w ((w.alloc (.cells #[.int .i64 d, .int .i64 p, .int .i64 k, .int .i64 g.1, .int .i64 g.2] 55)).alloc (.cells #[.int .i64 0, .int .i64 0] 48)) := (by repeat (first | (with_reducible exact Below.refl _ _) | (with_reducible refine Below.drew ?_) | (with_reducible refine below_drewN ?_ _) | (with_reducible refine below_al ?_ _) | (with_reducible refine Below.alloc ?_ (by first | exact Nat.le_refl _ | omega | (simp; done) | (simp; omega)) _) | (with_reducible refine Below.setCell ?_ (by first | (simp only []; omega) | (simp; done) | (simp; omega)) _)))
  have hR : ((w.alloc (.cells #[.int .i64 d, .int .i64 p, .int .i64 k, .int .i64 g.1, .int .i64 g.2] 55)).alloc (.cells #[.int .i64 0, .int .i64 0] 48)).heap[w.heap.size + 1]? = some (.cells #[.int .i64 0, .int .i64 0] 48 (0, 0)) := blk_new1 _ _ _
  have hX : ((w.alloc (.cells #[.int .i64 d, .int .i64 p, .int .i64 k, .int .i64 g.1, .int .i64 g.2] 55)).alloc (.cells #[.int .i64 0, .int .i64 0] 48)).heap[w.heap.size]? = some (.cells #[.int .i64 d, .int .i64 p, .int .i64 k, .int .i64 g.1, .int .i64 g.2] 55 (0, 0)) := blk_alloc (blk_new _ _)
  have hlr := lt_blk hR
  have hlx := lt_blk hX
  simp only at *
  by_cases hk : 0 ≤ k ∧ k < had.length
  · obtain ⟨i, rfl⟩ := Int.eq_ofNat_of_zero_le hk.1
    have hi : i < had.length := by omega
    obtain ⟨ab, off, rfl, hab⟩ := C_form hC (by omega) (by decide)
    obtain ⟨e, he, c0, c1⟩ := gid_at hC i hi
    have hN : nameS i g had = e := by rw [nameS, if_pos hk, Int.toNat_natCast, List.getD_eq_getElem?_getD, he]; rfl
    rw [hN]
    have d0 := hB.cell (p := ⟨ab, off + i * 2, none⟩) hab |>.trans c0
    have d1 := hB.cell (p := ⟨ab, off + i * 2 + 1, none⟩) hab |>.trans c1
    have hkk := hk.2
    have hd : decide ((i : Int) ≥ 0) = true := by simp
    have hd2 : decide ((i : Int) < (had.length : Int)) = true := by simpa using hkk
    clear he hN hk
    go_enter Try.func32, Try.ntmps32
    go_wp2
    refine bodyPost_ret (v := .agg #[.int .i64 e.1, .int .i64 e.2]) (by simp [results, Try.results32, go_sem]) rfl ⟨rfl, (by repeat (first | (with_reducible exact Below.refl _ _) | (with_reducible refine Below.drew ?_) | (with_reducible refine below_drewN ?_ _) | (with_reducible refine below_al ?_ _) | (with_reducible refine Below.alloc ?_ (by first | exact Nat.le_refl _ | omega | (simp; done) | (simp; omega)) _) | (with_reducible refine Below.setCell ?_ (by first | (simp only []; omega) | (simp; done) | (simp; omega)) _)))⟩
  · have hN : nameS k g had = g := by rw [nameS, if_neg hk]
    rw [hN]
    by_cases h0 : 0 ≤ k
    · have h1 : ¬ k < had.length := fun h => hk ⟨h0, h⟩
      have hd : decide (k ≥ 0) = true := by simpa using h0
      have hd2 : decide (k < (had.length : Int)) = false := by simpa using h1
      clear hN hk h1
      go_enter Try.func32, Try.ntmps32
      go_wp2
      refine bodyPost_ret (v := .agg #[.int .i64 g.1, .int .i64 g.2]) (by simp [results, Try.results32, go_sem]) rfl ⟨rfl, (by repeat (first | (with_reducible exact Below.refl _ _) | (with_reducible refine Below.drew ?_) | (with_reducible refine below_drewN ?_ _) | (with_reducible refine below_al ?_ _) | (with_reducible refine Below.alloc ?_ (by first | exact Nat.le_refl _ | omega | (simp; done) | (simp; omega)) _) | (with_reducible refine Below.setCell ?_ (by first | (simp only []; omega) | (simp; done) | (simp; omega)) _)))⟩
    · have hd : decide (k ≥ 0) = false := by simpa using h0
      clear hN hk h0
      go_enter Try.func32, Try.ntmps32
      go_wp2
      refine bodyPost_ret (v := .agg #[.int .i64 g.1, .int .i64 g.2]) (by simp [results, Try.results32, go_sem]) rfl ⟨rfl, (by repeat (first | (with_reducible exact Below.refl _ _) | (with_reducible refine Below.drew ?_) | (with_reducible refine below_drewN ?_ _) | (with_reducible refine below_al ?_ _) | (with_reducible refine Below.alloc ?_ (by first | exact Nat.le_refl _ | omega | (simp; done) | (simp; omega)) _) | (with_reducible refine Below.setCell ?_ (by first | (simp only []; omega) | (simp; done) | (simp; omega)) _)))⟩
end Go.Proofs.Ytnglgjegkjfnaaa
