import Derived.Test.YtjjdojnnomokaaaRRefD
import Derived.Test.YtjjdojnnomokaaaRPl
set_option linter.unusedSimpArgs false
set_option linter.unusedVariables false
namespace Go.Proofs.Ytjjdojnnomokaaa
open Go.RowKit Go.ChangeShapes Go.WideShapes Go.ChangeAt Go.Proofs.YtjjdojnnomokaaaW.PrintWords Go.Proofs.YtjjdojnnomokaaaW.PrintMore Go.Proofs.YtjjdojnnomokaaaW.PrintLast
/-! Two rings and the document's two: what a call keeps. -/
def Zr (r : Rg) : Prop := r.has = false → r.nx = Wt.zero
/-- m: the one that is meant, o: the other; r: the rings, s: the document's. -/
structure PQ (w : World) (base bm bo : Nat) (Am : Option Addr) (cm : Nat) (Ao : Option Addr) (co : Nat) (rm ro sm so : Rg) : Prop where
  im : IsRing w bm rm
  io : IsRing w bo ro
  qm : kW.R 27 w base (fun _ => True) (.slice Am sm.l.length cm) sm.l
  qo : kW.R 27 w base (fun _ => True) (.slice Ao so.l.length co) so.l
  ne : bm ≠ bo
  hb : base ≤ w.heap.size
  zm : Zr sm
  zo : Zr so
namespace PQ
variable {w w' : World} {base bm bo cm co c' : Nat} {Am Ao A' : Option Addr} {rm ro sm so r' r2 s' : Rg}
theorem below (h : PQ w base bm bo Am cm Ao co rm ro sm so) (hB : Below w.heap.size w w') : PQ w' base bm bo Am cm Ao co rm ro sm so :=
  ⟨h.im.below hB, h.io.below hB, Kd.R_below h.qm hB, Kd.R_below h.qo hB, h.ne, Nat.le_trans h.hb hB.size, h.zm, h.zo⟩
theorem store (h : PQ w base bm bo Am cm Ao co rm ro sm so) {g t : Nat} {cs : Array Value} (hg : w.heap[g]? = some (.cells cs t (0, 0))) (ht : 27 ≠ t) (hm : bm ≠ g) (ho : bo ≠ g) (k : Keep (fun i => i = g) w w') : PQ w' base bm bo Am cm Ao co rm ro sm so :=
  ⟨h.im.keep k hm, h.io.keep k ho, R_keepT h.qm hg ht k, R_keepT h.qo hg ht k, h.ne, Nat.le_trans h.hb k.size, h.zm, h.zo⟩
theorem ringm (h : PQ w base bm bo Am cm Ao co rm ro sm so) (k : Keep (fun i => i = bm) w w') (hI : IsRing w' bm r') : PQ w' base bm bo Am cm Ao co r' ro sm so :=
  ⟨hI, h.io.keep k (fun e => h.ne e.symm), R_keepR h.qm h.im k, R_keepR h.qo h.im k, h.ne, Nat.le_trans h.hb k.size, h.zm, h.zo⟩
theorem rings (h : PQ w base bm bo Am cm Ao co rm ro sm so) (k : Keep (fun i => i = bo ∨ i = bm) w w') (hI : IsRing w' bm r') (hJ : IsRing w' bo r2) : PQ w' base bm bo Am cm Ao co r' r2 sm so :=
  ⟨hI, hJ, R_keepR2 h.qm h.io h.im k, R_keepR2 h.qo h.io h.im k, h.ne, Nat.le_trans h.hb k.size, h.zm, h.zo⟩
theorem listm (h : PQ w base bm bo Am cm Ao co rm ro sm so) (hq : kW.R 27 w base (fun _ => True) (.slice A' s'.l.length c') s'.l) (hz : Zr s') : PQ w base bm bo A' c' Ao co rm ro s' so :=
  ⟨h.im, h.io, hq, h.qo, h.ne, h.hb, hz, h.zo⟩
theorem swap (h : PQ w base bm bo Am cm Ao co rm ro sm so) : PQ w base bo bm Ao co Am cm ro rm so sm :=
  ⟨h.io, h.im, h.qo, h.qm, fun e => h.ne e.symm, h.hb, h.zo, h.zm⟩
end PQ
theorem zr_put {r : Rg} {x : Wt} (h : Zr r) : Zr (putR r x) := by
  unfold putR
  split
  · exact h
  · exact h
theorem zr_kick {r : Rg} (h : Zr r) : Zr (kickR r) := by
  unfold kickR
  split
  · exact fun _ => rfl
  · exact h
theorem zr_rdy {r : Rg} {x : Wt} (h : Zr r) : Zr (rdyR r x) := by
  unfold rdyR
  split
  · exact h
  · intro hh; cases hh
theorem zr_take {r : Rg} (h : Zr r) : Zr (takeR r) := by
  unfold takeR
  split
  · exact fun _ => rfl
  · exact h
theorem zr_stealF {rf rt : Rg} (h : Zr rf) : Zr (stealF rf rt) := by
  unfold stealF
  split
  · split
    · exact fun _ => rfl
    · exact h
  · exact h
theorem zr_stealT {rf rt : Rg} (h : Zr rt) : Zr (stealT rf rt) := by
  unfold stealT
  split
  · split
    · exact h
    · exact h
  · exact h
theorem drain_new {r : Rg} (h : Zr r) : drainR r = Rg.new := by
  obtain ⟨l, has, nx⟩ := r
  cases has with
  | true => rfl
  | false =>
    have : nx = Wt.zero := h rfl
    subst this
    rfl
theorem zr_new : Zr Rg.new := fun _ => rfl
theorem sameList_eq {A1 A2 : Option Addr} {c1 c2 : Nat} {l : List Wt} {w : World} (h1 : kW.C w A1 l.length l) (hc1 : l.length ≤ c1) (h2 : kW.C w A2 l.length l) (hc2 : l.length ≤ c2) (hl : l.length ≤ 1000) :
    Calls Try.prog 23 #[.slice A1 l.length c1, .slice A2 l.length c2] w fun e w' => e = .returned (.bool true) ∧ Below w.heap.size w w' := sameList_ok A1 A2 c1 c2 l w h1 hc1 h2 hc2 (by omega)
theorem pushOut_le {l : List Wt} {x : Wt} : (pushOut l x).length ≤ 1000 := by
  unfold pushOut
  split
  · simp
  · simp; omega
theorem putOut_le {r : Rg} {x : Wt} : (putOut r x).length ≤ 1000 := by
  unfold putOut
  split
  · simp
  · exact pushOut_le
theorem kickOut_le {r : Rg} : (kickOut r).length ≤ 1000 := by
  unfold kickOut
  split
  · exact pushOut_le
  · simp
theorem rdyOut_le {r : Rg} {x : Wt} : (rdyOut r x).length ≤ 1000 := by
  unfold rdyOut
  split
  · simp
  · exact kickOut_le
theorem drainOut_le {r : Rg} (h : r.l.length ≤ 64) : (drainOut r).length ≤ 1000 := by
  unfold drainOut
  split
  · simp; omega
  · omega
end Go.Proofs.Ytjjdojnnomokaaa
