import Derived.Test.YtjjdojnnomokaaaRPlayed
set_option linter.unusedSimpArgs false
set_option linter.unusedVariables false
namespace Go.Proofs.Ytjjdojnnomokaaa
open Go.RowKit Go.ChangeShapes Go.WideShapes Go.ChangeAt Go.Proofs.YtjjdojnnomokaaaW.PrintWords Go.Proofs.YtjjdojnnomokaaaW.PrintMore Go.Proofs.YtjjdojnnomokaaaW.PrintLast
/-! What 'played' keeps from round to round. -/
def kOp : Kd (Int × Wt) := Kd.pair (Kd.int .i64) kW
theorem kOp_open {w : World} {x : Int × Wt} {cs : List Value} (h : kOp.K w x cs) : cs = [.int .i64 x.1, .int .i64 x.2.s, .int .i64 x.2.g, .int .u64 x.2.t] := by
  obtain ⟨_, _, rfl, rfl, h2⟩ := h
  obtain rfl := kW_open h2
  rfl
theorem opensOp : Op.Opens Try.prog kOp 65 (fun _ => True) (fun _ => 1) :=
  Op.opens_mono (Op.opens_struct Try.underlying65 (by kernel_rfl) (Op.opensF_cons rfl (by kernel_rfl) (by decide) (Op.opens_int Try.underlying3) (Op.opensF_last rfl (by kernel_rfl) opensW))) (fun _ _ => trivial) (fun _ => by simp)
theorem op_at {w : World} {b off : Nat} {n : Nat} {xs : List (Int × Wt)} (h : kOp.C w (some ⟨b, off, none⟩) n xs) (i : Nat) (hi : i < n) : ∃ (d : Int) (x : Wt), xs[i]? = some (d, x) ∧ w.cell? ⟨b, off + i * 4, none⟩ = some (.int .i64 d) ∧ w.cell? ⟨b, off + i * 4 + 1, none⟩ = some (.int .i64 x.s) ∧ w.cell? ⟨b, off + i * 4 + 2, none⟩ = some (.int .i64 x.g) ∧ w.cell? ⟨b, off + i * 4 + 3, none⟩ = some (.int .u64 x.t) := by
  obtain ⟨ad, e, hc⟩ := h.2.2 (by omega)
  injection e with e
  subst e
  have hl : i < xs.length := by have := h.1; omega
  obtain ⟨cs, hcl, hK, hat⟩ := hc i _ (List.getElem?_eq_getElem hl)
  obtain rfl := kOp_open hK
  refine ⟨xs[i].1, xs[i].2, List.getElem?_eq_getElem hl, ?_, ?_, ?_, ?_⟩
  · have := hat 0 _ rfl; rw [adds] at this; exact this
  · have := hat 1 _ rfl; rw [adds, ← Nat.add_assoc] at this; exact this
  · have := hat 2 _ rfl; rw [adds, ← Nat.add_assoc] at this; exact this
  · have := hat 3 _ rfl; rw [adds, ← Nat.add_assoc] at this; exact this
/-- w: where 'played' began; G: the pair's block; bm, bo: the ring that is meant, the other one; v7, v8: what went in, what came out. -/
structure Pl (Z : Array Value) (w wr : World) (G bm bo : Nat) (pc : Array Value) (rm ro : Rg) (v7 v8 : Value) (I O : List Wt) (N : Nat) : Prop where
  below : Below w.heap.size w wr
  blk : wr.heap[G]? = some (.cells pc 55 (0, 0))
  res : wr.heap[w.heap.size]? = some (.cells Z 55 (0, 0))
  m : IsRing wr bm rm
  o : IsRing wr bo ro
  rin : kW.R 27 wr w.heap.size (fun k => k < N) v7 I
  rout : kW.R 27 wr w.heap.size (fun k => k < N) v8 O
  ne : NeRow v7 v8
  mo : bm ≠ bo
  wG : w.heap.size < G
  wm : w.heap.size < bm
  wo : w.heap.size < bo
  mG : bm ≠ G
  oG : bo ≠ G
  NG : G < N
section
variable {Z : Array Value} {w wr w2 : World} {G bm bo N : Nat} {pc : Array Value} {rm ro rm' ro' : Rg} {v7 v8 : Value} {I O : List Wt}
theorem Pl.then (h : Pl Z w wr G bm bo pc rm ro v7 v8 I O N) (hB : Below wr.heap.size wr w2) : Pl Z w w2 G bm bo pc rm ro v7 v8 I O N :=
  ⟨below_then h.below hB, blk_below h.blk hB, blk_below h.res hB, h.m.below hB, h.o.below hB, Kd.R_below h.rin hB, Kd.R_below h.rout hB, h.ne, h.mo, h.wG, h.wm, h.wo, h.mG, h.oG, h.NG⟩
theorem Pl.bound (h : Pl Z w wr G bm bo pc rm ro v7 v8 I O N) : Pl Z w wr G bm bo pc rm ro v7 v8 I O wr.heap.size :=
  ⟨h.below, h.blk, h.res, h.m, h.o, Kd.R_mono (Kd.R_bound h.rin) (fun _ k => k.2.2.1), Kd.R_mono (Kd.R_bound h.rout) (fun _ k => k.2.2.1), h.ne, h.mo, h.wG, h.wm, h.wo, h.mG, h.oG, lt_blk h.blk⟩
theorem Pl.swap (h : Pl Z w wr G bm bo pc rm ro v7 v8 I O N) : Pl Z w wr G bo bm pc ro rm v7 v8 I O N :=
  ⟨h.below, h.blk, h.res, h.o, h.m, h.rin, h.rout, h.ne, fun e => h.mo e.symm, h.wG, h.wo, h.wm, h.oG, h.mG, h.NG⟩
theorem Pl.ring (h : Pl Z w wr G bm bo pc rm ro v7 v8 I O N) (k : Keep (fun i => i = bm) wr w2) (hI : IsRing w2 bm rm') : Pl Z w w2 G bm bo pc rm' ro v7 v8 I O N :=
  ⟨below_then_keep h.below h.below.size k (fun i hi => by subst hi; have := h.wm; omega), blk_keep h.blk k (fun e => h.mG e.symm), blk_keep h.res k (show ¬ w.heap.size = bm by have := h.wm; omega), hI, h.o.keep k (fun e => h.mo e.symm),
    R_keepR h.rin h.m k, R_keepR h.rout h.m k, h.ne, h.mo, h.wG, h.wm, h.wo, h.mG, h.oG, h.NG⟩
theorem Pl.rings (h : Pl Z w wr G bm bo pc rm ro v7 v8 I O N) (k : Keep (fun i => i = bo ∨ i = bm) wr w2) (hI : IsRing w2 bm rm') (hJ : IsRing w2 bo ro') : Pl Z w w2 G bm bo pc rm' ro' v7 v8 I O N :=
  ⟨below_then_keep h.below h.below.size k (fun i hi => by have := h.wm; have := h.wo; omega), blk_keep h.blk k (show ¬ (G = bo ∨ G = bm) by have := h.mG; have := h.oG; omega), blk_keep h.res k (show ¬ (w.heap.size = bo ∨ w.heap.size = bm) by have := h.wm; have := h.wo; omega), hI, hJ,
    R_keepR2 h.rin h.o h.m k, R_keepR2 h.rout h.o h.m k, h.ne, h.mo, h.wG, h.wm, h.wo, h.mG, h.oG, h.NG⟩
/-- Stores into a block that is newer than the lists. -/
theorem Pl.fresh (h : Pl Z w wr G bm bo pc rm ro v7 v8 I O N) {g : Nat} (hg : N ≤ g) (hm : bm ≠ g) (ho : bo ≠ g) (k : Keep (fun i => i = g) wr w2) : Pl Z w w2 G bm bo pc rm ro v7 v8 I O N :=
  ⟨below_then_keep h.below h.below.size k (fun i hi => by subst hi; have := h.NG; have := h.wG; omega), blk_keep h.blk k (show ¬ G = g by have := h.NG; omega), blk_keep h.res k (show ¬ w.heap.size = g by have := h.NG; have := h.wG; omega), h.m.keep k hm, h.o.keep k ho,
    Kd.R_mono (Kd.R_step h.rin (fun i hi hlt => k.block i hlt (show ¬ i = g by have : i < N := hi; omega))) (fun _ k => k), Kd.R_mono (Kd.R_step h.rout (fun i hi hlt => k.block i hlt (show ¬ i = g by have : i < N := hi; omega))) (fun _ k => k), h.ne, h.mo, h.wG, h.wm, h.wo, h.mG, h.oG, h.NG⟩
/-- A store into the pair's block. -/
theorem Pl.pairs (h : Pl Z w wr G bm bo pc rm ro v7 v8 I O N) (i : Nat) (u : Value) : Pl Z w (wr.setCell ⟨G, i, none⟩ u) G bm bo (pc.setIfInBounds i u) rm ro v7 v8 I O N := by
  have k : Keep (fun j => j = G) wr (wr.setCell ⟨G, i, none⟩ u) := (Keep.refl _ _).setCell _ _ (.inr rfl)
  exact ⟨below_then_keep h.below h.below.size k (fun i hi => by subst hi; have := h.wG; omega), blk_set h.blk, blk_keep h.res k (show ¬ w.heap.size = G by have := h.wG; omega), h.m.keep k h.mG, h.o.keep k h.oG,
    R_keepT h.rin h.blk (by decide) k, R_keepT h.rout h.blk (by decide) k, h.ne, h.mo, h.wG, h.wm, h.wo, h.mG, h.oG, h.NG⟩
theorem Pl.grown {v7' v8' : Value} {I' O' : List Wt} (h : Pl Z w wr G bm bo pc rm ro v7 v8 I O N) {v : Value} {xs : List Wt} {ok : Nat → Prop} (ho : kW.R 27 wr w.heap.size ok v xs) (hg : wr.grownBy w2 v.ownBlock) (hB : Below w.heap.size wr w2)
    (h7 : kW.R 27 w2 w.heap.size (fun _ => True) v7' I') (h8 : kW.R 27 w2 w.heap.size (fun _ => True) v8' O') (hne : NeRow v7' v8') : Pl Z w w2 G bm bo pc rm ro v7' v8' I' O' w2.heap.size := by
  have hres : w2.heap[w.heap.size]? = some (.cells Z 55 (0, 0)) := blk_grown h.res hg (Kd.R_ne ho h.res (by decide))
  have hblk := blk_grown h.blk hg (Kd.R_ne ho h.blk (by decide))
  have hm : IsRing w2 bm rm := by
    obtain ⟨f, cs, hm⟩ := h.m
    exact ⟨f, cs, ⟨blk_grown hm.blk hg (Kd.R_ne ho hm.blk (by decide)), hm.cs⟩⟩
  have ho' : IsRing w2 bo ro := by
    obtain ⟨f, cs, hm⟩ := h.o
    exact ⟨f, cs, ⟨blk_grown hm.blk hg (Kd.R_ne ho hm.blk (by decide)), hm.cs⟩⟩
  exact ⟨h.below.trans hB, hblk, hres, hm, ho', Kd.R_mono (Kd.R_bound h7) (fun _ k => k.2.2.1), Kd.R_mono (Kd.R_bound h8) (fun _ k => k.2.2.1), hne, h.mo, h.wG, h.wm, h.wo, h.mG, h.oG, lt_blk hblk⟩
end
/-- What is known of what went in and came out. -/
structure Inv (k : Nat) (rm ro : Rg) (I O : List Wt) : Prop where
  len : I.length ≤ k
  perm : (O ++ (drainOut rm ++ drainOut ro)).Perm I
  rm : Rise (drainOut rm)
  ro : Rise (drainOut ro)
theorem Inv.out {k : Nat} {rm ro : Rg} {I O : List Wt} (h : Inv k rm ro I O) : O.length ≤ k := by
  have := h.perm.length_eq
  have := h.len
  simp at *
  omega
theorem Inv.swap {k : Nat} {rm ro : Rg} {I O : List Wt} (h : Inv k rm ro I O) : Inv (k + 1) ro rm I O :=
  ⟨by have := h.len; omega, (List.Perm.append_left O List.perm_append_comm).trans h.perm, h.ro, h.rm⟩
theorem Inv.same {k : Nat} {rm ro : Rg} {I O : List Wt} (h : Inv k rm ro I O) : Inv (k + 1) rm ro I O := ⟨by have := h.len; omega, h.perm, h.rm, h.ro⟩
theorem Inv.come {k : Nat} {rm ro rm' : Rg} {I O L : List Wt} {x : Wt} (h : Inv k rm ro I O) (hp : (L ++ drainOut rm').Perm (drainOut rm ++ [x])) (hr : Rise (drainOut rm')) : Inv (k + 1) rm' ro (I ++ [x]) (O ++ L) :=
  ⟨by have := h.len; simp; omega, by
    rw [List.append_assoc, ← List.append_assoc L]
    refine (List.Perm.append_left O (List.Perm.append_right _ hp)).trans ?_
    rw [List.append_assoc]
    refine (List.Perm.append_left O (List.Perm.append_left _ (List.perm_append_comm (l₁ := [x]) (l₂ := drainOut ro)))).trans ?_
    rw [← List.append_assoc, ← List.append_assoc]
    exact List.Perm.append_right [x] (by rw [List.append_assoc]; exact h.perm), hr, h.ro⟩
end Go.Proofs.Ytjjdojnnomokaaa
