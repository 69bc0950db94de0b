import Derived.Test.YtikoonomhojlkaaFqL
import Derived.Test.YtikoonomhojlkaaFqP
import Derived.Test.YtikoonomhojlkaaPFifoLoadsx3
import Derived.Test.YtikoonomhojlkaaPFifoLoadsx4
import Derived.Test.YtikoonomhojlkaaPFifoLoadsx5
set_option linter.unusedSimpArgs false
set_option linter.unusedVariables false
namespace Go.Proofs.Ytikoonomhojlkaa
open Go.RowKit Go.Proofs.YtikoonomhojlkaaW.PrintWords Go.Proofs.YtikoonomhojlkaaW.PrintMore Go.Proofs.YtikoonomhojlkaaW.PrintLast PFifoLoads
/-! The document's functions (the print's plain words) are the plain words of the queue. -/
theorem wr1 {i : Nat} (h : i < 8796093022208000) : wrap64 ((i : Int) + 1) = ((i + 1 : Nat) : Int) := by unfold wrap64; omega
theorem rdW_at {l : List Wt} {i : Nat} {x : Wt} (h : l[i]? = some x) : rd_T32 l (i : Int) = x := by
  show l.getD _ _ = x
  rw [Int.toNat_natCast, List.getD_eq_getElem?_getD, h]
  rfl
theorem at_ {α : Type} {l : List α} {i : Nat} (h : i < l.length) : ∃ x, l[i]? = some x := ⟨_, List.getElem?_eq_getElem h⟩
theorem drop_cons {l : List Wt} {i : Nat} {x : Wt} (h : l[i]? = some x) : l.drop i = x :: l.drop (i + 1) := by
  obtain ⟨hi, rfl⟩ := List.getElem?_eq_some_iff.1 h
  exact List.drop_eq_getElem_cons hi
theorem take_snoc {α : Type} {l : List α} {k : Nat} {x : α} (h : l[k]? = some x) : l.take (k + 1) = l.take k ++ [x] := by
  rw [List.take_add_one, h]; rfl
theorem isB_eq (g0 g1 : Int) (x : Wt) : (x.f0.f0 == g0 && (x.f0.f1 == g1)) = isB g0 g1 x := by
  unfold isB
  rfl
def ixI (o : Option Nat) (i : Nat) : Int := match o with
  | some j => ((i + j : Nat) : Int)
  | none => -1
theorem at_l0 (l : List Wt) (g0 g1 : Int) (hl : l.length ≤ 8796093022208) (d : Nat) : ∀ (k i : Nat), i ≤ l.length → l.length - i = d → d < k → rotaref03_at.l0 k l i g0 g1 = some (ixI ((l.drop i).findIdx? (isB g0 g1)) i) := by
  induction d with
  | zero =>
    intro k i h1 h2 hk
    obtain ⟨k, rfl⟩ : ∃ m, k = m + 1 := ⟨k - 1, by omega⟩
    obtain rfl : i = l.length := by omega
    simp only [rotaref03_at.l0]
    rw [if_neg (by omega), List.drop_length]
    rfl
  | succ d ih =>
    intro k i h1 h2 hk
    obtain ⟨k, rfl⟩ : ∃ m, k = m + 1 := ⟨k - 1, by omega⟩
    obtain ⟨x, hx⟩ := at_ (l := l) (i := i) (by omega)
    simp only [rotaref03_at.l0]
    rw [if_pos (by omega), if_pos (by omega), rdW_at hx, isB_eq, drop_cons hx, List.findIdx?_cons]
    by_cases hb : isB g0 g1 x = true
    · rw [if_pos hb, if_pos hb]
      rfl
    · rw [if_neg hb, if_neg hb, wr1 (by omega), ih k (i + 1) (by omega) (by omega) (by omega)]
      cases h : (l.drop (i + 1)).findIdx? (isB g0 g1) with
      | none => rfl
      | some j => simp [ixI]; omega
theorem at_ok (l : List Wt) (g0 g1 : Int) (hl : l.length ≤ 8796093022208) (k : Nat) (hk : l.length < k) : rotaref03_at.f k l g0 g1 = some (ixI (l.findIdx? (isB g0 g1)) 0) := by
  have := at_l0 l g0 g1 hl l.length k 0 (by omega) (by omega) hk
  rw [List.drop_zero] at this
  exact this
theorem find_any_iff (l : List Wt) (g0 g1 : Int) : l.any (isB g0 g1) = (l.findIdx? (isB g0 g1)).isSome := by
  induction l with
  | nil => rfl
  | cons x l ih =>
    rw [List.any_cons, List.findIdx?_cons]
    by_cases hb : isB g0 g1 x = true
    · rw [if_pos hb, hb]; rfl
    · rw [if_neg hb]
      have hb : isB g0 g1 x = false := by simpa using hb
      rw [hb, Bool.false_or, ih]
      cases l.findIdx? (isB g0 g1) <;> rfl
theorem has_ok (l : List Wt) (g0 g1 : Int) (hl : l.length ≤ 8796093022208) (k : Nat) (hk : l.length < k) : rotaref03_Has.f k l g0 g1 = some (l.any (isB g0 g1)) := by
  unfold rotaref03_Has.f
  rw [at_ok l g0 g1 hl k hk, find_any_iff]
  cases h : l.findIdx? (isB g0 g1) with
  | none => rfl
  | some j => simp [ixI]
theorem without_l0 (l : List Wt) (m : Int) (hl : l.length ≤ 5864062014804) (d : Nat) : ∀ (k i : Nat) (acc : List Wt), i ≤ l.length → l.length - i = d → d < k → acc.length ≤ i → rotaref03_without.l0 k l m acc i = some (acc ++ (if (i : Int) ≤ m then (l.drop i).take (m.toNat - i) ++ l.drop (m.toNat + 1) else l.drop i)) := by
  induction d with
  | zero =>
    intro k i acc h1 h2 hk ha
    obtain ⟨k, rfl⟩ : ∃ m, k = m + 1 := ⟨k - 1, by omega⟩
    obtain rfl : i = l.length := by omega
    simp only [rotaref03_without.l0]
    rw [if_neg (by omega)]
    split
    · rw [List.drop_length, List.take_nil, List.drop_of_length_le (by omega)]; simp
    · rw [List.drop_length, List.append_nil]
  | succ d ih =>
    intro k i acc h1 h2 hk ha
    obtain ⟨k, rfl⟩ : ∃ m, k = m + 1 := ⟨k - 1, by omega⟩
    obtain ⟨x, hx⟩ := at_ (l := l) (i := i) (by omega)
    simp only [rotaref03_without.l0]
    rw [if_pos (by omega)]
    by_cases hm : (i : Int) = m
    · rw [if_pos hm, wr1 (by omega), ih k (i + 1) acc (by omega) (by omega) (by omega) (by omega), if_neg (by omega), if_pos (by omega)]
      have : m.toNat = i := by omega
      rw [this]
      simp
    · rw [if_neg hm, if_pos (by omega), if_pos (by omega), wr1 (by omega), rdW_at hx, show (⟨⟨x.f0.f0, x.f0.f1⟩, x.f1⟩ : Wt) = x from rfl, ih k (i + 1) (acc ++ [x]) (by omega) (by omega) (by omega) (by simp; omega)]
      by_cases h : (i : Int) ≤ m
      · rw [if_pos (by omega), if_pos h, drop_cons hx, show m.toNat - i = (m.toNat - (i + 1)) + 1 by omega, List.take_succ_cons]
        simp
      · rw [if_neg (by omega), if_neg h, drop_cons hx]
        simp
theorem without_ok (l : List Wt) (m : Nat) (hl : l.length ≤ 5864062014804) (k : Nat) (hk : l.length < k) : rotaref03_without.f k l m = some (l.take m ++ l.drop (m + 1)) := by
  have := without_l0 l m hl l.length k 0 [] (by omega) (by omega) hk (by simp)
  unfold rotaref03_without.f
  rw [show ((0 : Nat) : Int) = 0 from rfl] at this
  rw [this, if_pos (by omega)]
  simp
end Go.Proofs.Ytikoonomhojlkaa
set_option linter.unusedSimpArgs false
set_option linter.unusedVariables false
namespace Go.Proofs.Ytikoonomhojlkaa
open Go.RowKit Go.Proofs.YtikoonomhojlkaaW.PrintWords Go.Proofs.YtikoonomhojlkaaW.PrintMore Go.Proofs.YtikoonomhojlkaaW.PrintLast PFifoLoads
/-! Put, Load, same in plain words. -/
theorem put_l1d (l : List Wt) (x : Wt) (hl : l.length ≤ 4096) (d : Nat) : ∀ (k i : Nat) (acc : List Wt), i ≤ l.length → l.length - i = d → d < k → acc.length ≤ i + 1 → rotaref03_Put.l1 k l acc true i x.f0.f0 x.f0.f1 x.f1 = some (acc ++ l.drop i, 0) := by
  induction d with
  | zero =>
    intro k i acc h1 h2 hk ha
    obtain ⟨k, rfl⟩ : ∃ m, k = m + 1 := ⟨k - 1, by omega⟩
    obtain rfl : i = l.length := by omega
    simp only [rotaref03_Put.l1]
    rw [if_neg (by omega), if_pos trivial, List.drop_length, List.append_nil]
  | succ d ih =>
    intro k i acc h1 h2 hk ha
    obtain ⟨k, rfl⟩ : ∃ m, k = m + 1 := ⟨k - 1, by omega⟩
    obtain ⟨y, hy⟩ := at_ (l := l) (i := i) (by omega)
    simp only [rotaref03_Put.l1]
    rw [if_pos (by omega), if_pos trivial, if_pos (by omega), if_pos (by omega), wr1 (by omega), rdW_at hy, show (⟨⟨y.f0.f0, y.f0.f1⟩, y.f1⟩ : Wt) = y from rfl, ih k (i + 1) (acc ++ [y]) (by omega) (by omega) (by omega) (by simp; omega), drop_cons hy]
    simp
theorem put_l1 (l : List Wt) (x : Wt) (hl : l.length ≤ 4096) (hn : l.any (eqT x.f1) = false) (d : Nat) : ∀ (k i : Nat) (acc : List Wt), i ≤ l.length → l.length - i = d → d < k → acc.length ≤ i → rotaref03_Put.l1 k l acc false i x.f0.f0 x.f0.f1 x.f1 = some (acc ++ insL (l.drop i) x, 0) := by
  induction d with
  | zero =>
    intro k i acc h1 h2 hk ha
    obtain ⟨k, rfl⟩ : ∃ m, k = m + 1 := ⟨k - 1, by omega⟩
    obtain rfl : i = l.length := by omega
    simp only [rotaref03_Put.l1]
    rw [if_neg (by omega), if_neg (by decide), if_pos (by omega), List.drop_length]
    rfl
  | succ d ih =>
    intro k i acc h1 h2 hk ha
    obtain ⟨k, rfl⟩ : ∃ m, k = m + 1 := ⟨k - 1, by omega⟩
    obtain ⟨y, hy⟩ := at_ (l := l) (i := i) (by omega)
    have hne : y.f1 ≠ x.f1 := fun e => by
      have := List.any_eq_false.1 hn y (List.mem_of_getElem? hy)
      exact this (by simp [eqT, e])
    simp only [rotaref03_Put.l1]
    rw [if_pos (by omega), if_neg (by decide), if_pos (by omega), rdW_at hy, drop_cons hy]
    by_cases hg : y.f1 > x.f1
    · rw [if_pos hg, if_pos (by omega)]
      simp only [Option.bind_some]
      rw [if_pos (by simp; omega), wr1 (by omega), show (⟨⟨y.f0.f0, y.f0.f1⟩, y.f1⟩ : Wt) = y from rfl, put_l1d l x hl d k (i + 1) _ (by omega) (by omega) (by omega) (by simp; omega)]
      have hlt : ltT x.f1 y = false := by simp [ltT]; omega
      rw [insL, List.takeWhile_cons, List.dropWhile_cons, hlt]
      simp
    · rw [if_neg hg, if_pos (by omega), wr1 (by omega), show (⟨⟨y.f0.f0, y.f0.f1⟩, y.f1⟩ : Wt) = y from rfl, ih k (i + 1) _ (by omega) (by omega) (by omega) (by simp; omega)]
      have hlt : ltT x.f1 y = true := by simp [ltT]; omega
      rw [insL, insL, List.takeWhile_cons, List.dropWhile_cons, hlt]
      simp
theorem put_l0 (l : List Wt) (x : Wt) (hl : l.length ≤ 4096) (ha : l.any (isB x.f0.f0 x.f0.f1) = false) (d : Nat) : ∀ (k i : Nat), i ≤ l.length → l.length - i = d → d + l.length + 1 < k → (l.take i).any (eqT x.f1) = false → rotaref03_Put.l0 k l i x.f0.f0 x.f0.f1 x.f1 = some (putL l x) := by
  induction d with
  | zero =>
    intro k i h1 h2 hk hn
    obtain ⟨k, rfl⟩ : ∃ m, k = m + 1 := ⟨k - 1, by omega⟩
    obtain rfl : i = l.length := by omega
    rw [List.take_length] at hn
    have hP : putL l x = if 4096 ≤ l.length then (l, 2) else (insL l x, 0) := by rw [putL, ha, hn, Bool.or_false, if_neg (by decide)]
    simp only [rotaref03_Put.l0]
    rw [if_neg (by omega), hP]
    by_cases hf : 4096 ≤ l.length
    · rw [if_pos (by omega), if_pos hf]
    · rw [if_neg (by omega), if_neg hf]
      have := put_l1 l x hl hn l.length k 0 [] (by omega) (by omega) (by omega) (by simp)
      rw [show ((0 : Nat) : Int) = 0 from rfl] at this
      rw [this]
      simp
  | succ d ih =>
    intro k i h1 h2 hk hn
    obtain ⟨k, rfl⟩ : ∃ m, k = m + 1 := ⟨k - 1, by omega⟩
    obtain ⟨y, hy⟩ := at_ (l := l) (i := i) (by omega)
    simp only [rotaref03_Put.l0]
    rw [if_pos (by omega), if_pos (by omega), rdW_at hy]
    by_cases he : y.f1 = x.f1
    · have : l.any (eqT x.f1) = true := any_iff.2 ⟨i, y, hy, by simp [eqT, he]⟩
      rw [if_pos he, putL, this, Bool.or_true, if_pos rfl]
    · rw [if_neg he, wr1 (by omega)]
      refine ih k (i + 1) (by omega) (by omega) (by omega) ?_
      rw [take_snoc hy, List.any_append, hn]
      simp [eqT, he]
theorem put_ok (l : List Wt) (x : Wt) (hl : l.length ≤ 4096) (k : Nat) (hk : l.length + l.length + 1 < k) : rotaref03_Put.f k l x.f0.f0 x.f0.f1 x.f1 = some (putL l x) := by
  unfold rotaref03_Put.f
  rw [has_ok l _ _ (by omega) k (by omega)]
  simp only [Option.bind_some]
  by_cases ha : l.any (isB x.f0.f0 x.f0.f1) = true
  · rw [if_pos ha, putL, ha, Bool.true_or, if_pos rfl]
  · rw [if_neg ha]
    have ha : l.any (isB x.f0.f0 x.f0.f1) = false := by simpa using ha
    have := put_l0 l x hl ha l.length k 0 (by omega) (by omega) hk (by simp)
    rw [show ((0 : Nat) : Int) = 0 from rfl] at this
    exact this
theorem same_l0 (l : List Wt) (hl : l.length ≤ 8796093022208) (d : Nat) : ∀ (k i : Nat), i ≤ l.length → l.length - i = d → d < k → rotalaw03_same.l0 k l l i = some true := by
  induction d with
  | zero =>
    intro k i h1 h2 hk
    obtain ⟨k, rfl⟩ : ∃ m, k = m + 1 := ⟨k - 1, by omega⟩
    obtain rfl : i = l.length := by omega
    simp only [rotalaw03_same.l0]
    rw [if_neg (by omega)]
  | succ d ih =>
    intro k i h1 h2 hk
    obtain ⟨k, rfl⟩ : ∃ m, k = m + 1 := ⟨k - 1, by omega⟩
    simp only [rotalaw03_same.l0]
    rw [if_pos (by omega), if_pos (by omega), if_pos (by omega), if_neg (by simp), wr1 (by omega)]
    exact ih k (i + 1) (by omega) (by omega) (by omega)
theorem same_ok (l : List Wt) (hl : l.length ≤ 8796093022208) : rotalaw03_same.f (l.length + 1) l l = some true := by
  unfold rotalaw03_same.f
  rw [if_pos rfl]
  have := same_l0 l hl l.length (l.length + 1) 0 (by omega) (by omega) (by omega)
  rw [show ((0 : Nat) : Int) = 0 from rfl] at this
  exact this
/-- Load: one Put behind the other. -/
def loadF : List Wt → List Wt → List Wt × Int
  | [], q => (q, 0)
  | x :: r, q => if (putL q x).2 = 0 then loadF r (putL q x).1 else ([], (putL q x).2)
theorem load_l0 (l : List Wt) (hl : l.length ≤ 8796093022208) (d : Nat) : ∀ (k i : Nat) (q : List Wt), i ≤ l.length → l.length - i = d → d + 9000 < k → q.length ≤ 4096 → rotaref03_Load.l0 k l q i = some (loadF (l.drop i) q) := by
  induction d with
  | zero =>
    intro k i q h1 h2 hk hq
    obtain ⟨k, rfl⟩ : ∃ m, k = m + 1 := ⟨k - 1, by omega⟩
    obtain rfl : i = l.length := by omega
    simp only [rotaref03_Load.l0]
    rw [if_neg (by omega), List.drop_length]
    rfl
  | succ d ih =>
    intro k i q h1 h2 hk hq
    obtain ⟨k, rfl⟩ : ∃ m, k = m + 1 := ⟨k - 1, by omega⟩
    obtain ⟨y, hy⟩ := at_ (l := l) (i := i) (by omega)
    simp only [rotaref03_Load.l0]
    rw [if_pos (by omega), if_pos (by omega), rdW_at hy, put_ok q y hq k (by omega), drop_cons hy]
    simp only [Option.bind_some, loadF]
    by_cases he : (putL q y).2 = 0
    · rw [if_pos he, if_pos he, wr1 (by omega)]
      refine ih k (i + 1) _ (by omega) (by omega) (by omega) ?_
      rw [putL]
      split
      · exact hq
      · split
        · exact hq
        · rw [(ins_perm q y).length_eq, List.length_cons]; omega
    · rw [if_neg he, if_neg he]
theorem load_ok (l : List Wt) (hl : l.length ≤ 8796093022208) : rotaref03_Load.f (l.length + 9001) l = some (loadF l []) := by
  have := load_l0 l hl l.length (l.length + 9001) 0 [] (by omega) (by omega) (by omega) (by simp)
  unfold rotaref03_Load.f
  rw [show ((0 : Nat) : Int) = 0 from rfl] at this
  simpa using this
end Go.Proofs.Ytikoonomhojlkaa
set_option linter.unusedSimpArgs false
set_option linter.unusedVariables false
namespace Go.Proofs.Ytikoonomhojlkaa
open Go.RowKit Go.Proofs.YtikoonomhojlkaaW.PrintWords Go.Proofs.YtikoonomhojlkaaW.PrintMore Go.Proofs.YtikoonomhojlkaaW.PrintLast PFifoLoads
/-! The document's Batch: walked. -/
/-- Behind k: what is left, what came out. -/
structure BI (w : World) (base : Nat) (ok : Nat → Prop) (l : List Wt) (k : Nat) (vq vo : Value) (wr : World) : Prop where
  below : Below w.heap.size w wr
  q : Kd.R kW TW wr base (fun j => ok j ∨ w.heap.size ≤ j) vq (l.drop k)
  o : Kd.R kW TW wr w.heap.size (fun _ => True) vo (l.take k)
  ne : ∀ j, vq.ownBlock = some j → vo.ownBlock = some j → False
def RbP (w : World) (base : Nat) (ok : Nat → Prop) (r : List Wt × List Wt × Int) (e : Ending) (w' : World) : Prop := ∃ v1 u, e = .returned (.tuple #[v1, u, .int .i64 r.2.2]) ∧ Kd.R kW TW w' base (fun j => ok j ∨ w.heap.size ≤ j) v1 r.1 ∧ Kd.R kW TW w' w.heap.size (fun _ => True) u r.2.1 ∧ Below w.heap.size w w'
theorem grown_keep {w w1 : World} {v : Value} (hg : w.grownBy w1 v.ownBlock) : Keep (fun k => v.ownBlock = some k) w w1 :=
  ⟨hg.os, hg.tape, hg.output, hg.size, fun k hk hn => hg.block k hk (fun e => hn e.symm)⟩
theorem R_away {base : Nat} {ok F : Nat → Prop} {w w1 : World} {v : Value} {xs : List Wt} (h : Kd.R kW TW w base ok v xs) (hk : Keep F w w1) (hF : ∀ k, F k → v.ownBlock = some k → False) : Kd.R kW TW w1 base ok v xs := by
  obtain ⟨hok, ho⟩ := (flat_R flatW).1 h
  refine (flat_R flatW).2 ⟨hok, own_move ho (fun k e => hk.block k (by obtain ⟨cs, hc⟩ := R_typed' h k e; exact lt_blk hc) (fun f => hF k f e))⟩
theorem batch_m {n : Nat} {procs room : Int} (hn : n ≤ 4096) (hp : 1 ≤ procs) (hr : 0 ≤ room) : ∃ m : Nat, m ≤ n ∧ (batchN n procs room).toNat = m ∧ (wrap64 (wrap64 ((n : Int) / procs) + 1) ≤ n → room < wrap64 (wrap64 ((n : Int) / procs) + 1) → room = m) ∧ (wrap64 (wrap64 ((n : Int) / procs) + 1) ≤ n → ¬ room < wrap64 (wrap64 ((n : Int) / procs) + 1) → wrap64 (wrap64 ((n : Int) / procs) + 1) = m) ∧ (¬ wrap64 (wrap64 ((n : Int) / procs) + 1) ≤ n → room < n → room = m) ∧ (¬ wrap64 (wrap64 ((n : Int) / procs) + 1) ≤ n → ¬ room < n → (n : Int) = m) := by
  have h1 : 0 ≤ (n : Int) / procs := Int.ediv_nonneg (by omega) (by omega)
  have h2 : (n : Int) / procs ≤ n := Int.ediv_le_self _ (by omega)
  unfold batchN
  generalize (n : Int) / procs = q at *
  have hw : wrap64 (wrap64 q + 1) = q + 1 := by unfold wrap64; omega
  rw [hw]
  exact ⟨(min (min (n : Int) room) (q + 1)).toNat, by omega, rfl, by omega, by omega, by omega, by omega⟩
set_option maxHeartbeats 4000000 in
set_option maxRecDepth 100000 in
theorem rbatch_any {w : World} {base : Nat} {ok : Nat → Prop} {v : Value} {l : List Wt} (procs room : Int) (h : Kd.R kW TW w base ok v l) (hbw : base ≤ w.heap.size) (hz : ∀ k, v.ownBlock = some k → k < w.heap.size) (hl : l.length ≤ 4096) : Calls Try.prog 19 #[v, .int .i64 procs, .int .i64 room] w (RbP w base ok (batchL l procs room)) := by
  obtain ⟨A, c, rfl, hc, hC⟩ := Kd.R_reads h
  have H := Aside0.mk h
  clear h hC
  unfold RbP
  by_cases hp : procs < 1
  · have HP : Aside0 (batchL l procs room = (l, [], 1)) := ⟨by rw [batchL, if_pos (.inl hp)]⟩
    go_enter Try.func19, Try.ntmps19
    go_wp2
    go_ret3
    rw [HP.out]
    exact ⟨_, _, rfl, Kd.R_mono H.out (fun _ h => .inl h), Kd.R_nil _ _ _ _ _, Below.refl _ _⟩
  · by_cases hr : room < 0
    · have HP : Aside0 (batchL l procs room = (l, [], 1)) := ⟨by rw [batchL, if_pos (.inr hr)]⟩
      go_enter Try.func19, Try.ntmps19
      go_wp2
      go_ret3
      rw [HP.out]
      exact ⟨_, _, rfl, Kd.R_mono H.out (fun _ h => .inl h), Kd.R_nil _ _ _ _ _, Below.refl _ _⟩
    · have HP : Aside0 (batchL l procs room = (l.drop (batchN l.length procs room).toNat, l.take (batchN l.length procs room).toNat, 0)) := ⟨by rw [batchL, if_neg (by omega)]⟩
      have hp0 : ¬ procs = 0 := by omega
      have hp1 : (procs == 0) = false := by simpa using hp0
      obtain ⟨m, hm, hmN, hm1, hm2, hm3, hm4⟩ := batch_m (procs := procs) (room := room) hl (by omega) (by omega)
      rw [hmN] at HP
      by_cases hq1 : wrap64 (wrap64 ((l.length : Int) / procs) + 1) ≤ l.length
      · by_cases hq2 : room < wrap64 (wrap64 ((l.length : Int) / procs) + 1)
        · obtain rfl := hm1 hq1 hq2
          clear hm1 hm2 hm3 hm4 hmN
          go_enter Try.func19, Try.ntmps19
          go_wp2_with fail
          go_loopw [0, 10, 11] (fun s0 s10 s11 wr => ∃ k : Nat, k ≤ m ∧ s11 = .int .i64 k ∧ Aside0 (BI w base ok l k s0 s10 wr)) (fun _ _ s11 _ => m - (intOf s11).toNat)
          case atStart =>
            refine ⟨0, by omega, rfl, ⟨⟨below_al (Below.refl _ _) _, by rw [List.drop_zero]; exact Kd.R_mono (Kd.R_below H.out (below_al (Below.refl _ _) _)) (fun _ h => .inl h), by rw [List.take_zero]; exact R_empty _ _ _ _ (Nat.le_refl _) _ (fun _ _ => trivial), fun j h1 h2 => by
              have h3 := hz j h1
              have h4 : w.heap.size = j := by simpa [Value.ownBlock] using h2
              omega⟩⟩⟩
          case round =>
            obtain ⟨k, hk, rfl, HI⟩ := hrel
            obtain ⟨A1, c1, he1, hc1, hC1⟩ := Kd.R_reads HI.out.q
            obtain ⟨AO, cO, he2, hcO, -⟩ := Kd.R_reads HI.out.o
            subst he1
            subst he2
            by_cases hkm : k < m
            · have hkl : k < l.length := by omega
              obtain ⟨x, hx⟩ := at_ hkl
              have hd := drop_cons hx
              have hts := take_snoc hx
              obtain ⟨ab, off, rfl, hab⟩ := C_form hC1 (by rw [hd, List.length_cons]; omega) (by decide)
              obtain ⟨x', hx', e0, e1, e2⟩ := waits_at hC1 0 (by rw [hd, List.length_cons]; omega)
              obtain rfl : x = x' := by rw [hd] at hx'; simpa using hx'
              simp only [Nat.zero_mul, Nat.add_zero] at e0 e1 e2
              have hll : (0 : Int) < ((l.drop k).length : Int) := by rw [hd, List.length_cons]; omega
              have hki : (k : Int) < (m : Int) := by omega
              have hdl : (l.drop k).length ≤ 4096 := by rw [List.length_drop]; omega
              have HD := Aside0.mk hd
              have HTS := Aside0.mk hts
              have HTl : Aside0 ((l.take k).length ≤ 4096) := ⟨by rw [List.length_take]; omega⟩
              have HI2 : Aside0 (Below w.heap.size w wr ∧ Kd.R kW TW wr base (fun j => ok j ∨ w.heap.size ≤ j) (.slice (some ⟨ab, off, none⟩) (l.drop k).length c1) (l.drop k) ∧ Kd.R kW TW wr w.heap.size (fun _ => True) (.slice AO (l.take k).length cO) (l.take k) ∧ (∀ j, (Value.slice (some ⟨ab, off, none⟩) (l.drop k).length c1).ownBlock = some j → (Value.slice AO (l.take k).length cO).ownBlock = some j → False)) := ⟨⟨HI.out.below, HI.out.q, HI.out.o, HI.out.ne⟩⟩
              have hws := HI.out.below.size
              clear hx hx' hd hts hC1 HI
              generalize l.take k = T at *
              generalize hDD : l.drop k = D at *
              have HDD := Aside0.mk hDD
              clear hDD
              go_wp2_with ((with_reducible refine gate_builtin (b := .append) (xs := #[.tmp 40, .tmp 44]) rfl ?_); at_builtin; refine Kd.R_append kW (w0 := wr) w.heap.size rfl (.tmp 40) (.tmp 44) 22 TW (.agg #[.int .i64 0, .int .i64 0, .int .u64 0]) 24 rfl Try.underlying22 infoW rfl (by decide) (by omega) (.slice AO T.length cO) T x [.int .i64 x.f0.f0, .int .i64 x.f0.f1, .int .u64 x.f1] (fun j => True ∨ wr.heap.size ≤ j) (fun _ => False) rfl ?aX ?aM (fun _ h => h.elim) ?aF ?aO ?aB ?aS ?aL ?_; (case aX => first | rfl | exact congrArg (fun n => Value.slice (some ⟨n, 0, none⟩) 1 1) (by simp)); (case aM => exact kW_mkM _ _ _ _); (case aF => exact fun _ h => .inr h); (case aO => exact (Kd.R_mono HI2.out.2.2.1 (fun _ _ => .inl trivial))); (case aB => exact Below.refl _ _); (case aS => first | omega | (simp; omega)); (case aL => (have := HTl.out; omega)); intro v9 w9 ho hb hg hat; skip)
              have hk9 := grown_keep hg
              have hq9 := R_away HI2.out.2.1 hk9 (fun j h1 h2 => HI2.out.2.2.2 j h2 h1)
              have HB9 := Aside0.mk (below_then_keep HI2.out.1 HI2.out.1.size hk9 (fun j h => ((Kd.R_bound HI2.out.2.2.1).1 j h).2.1))
              have HO9 := Aside0.mk ho
              have HQ9 := Aside0.mk hq9
              have HWo := Aside0.mk (rotaref03_without.calls _ (some ⟨ab, off, none⟩) c1 D 0 _ w9 (by obtain ⟨A', c', he', -, hC'⟩ := Kd.R_reads hq9; injection he' with h1 h2 h3; rw [h1]; exact hC') hc1 (without_ok D 0 (by omega) (D.length + 1) (by omega)))
              clear ho hb hat hk9 hq9 hg e0 e1 e2
              go_wp2_with fail
              refine HWo.out.mono ?_
              clear HWo
              rintro e w5 ⟨v5, rfl, hR5, hB5⟩
              have hR5 : Kd.R kW TW w5 w9.heap.size (fun _ => True) v5 (l.drop (k + 1)) := by rw [HD.out] at hR5; simpa using hR5
              have HI5 : Aside0 (BI w base ok l (k + 1) v5 v9 w5) := ⟨⟨below_then HB9.out hB5, Kd.R_mono (Kd.R_lower (Kd.R_mono (Kd.R_bound hR5) (fun j h => (.inr (Nat.le_trans HB9.out.size h.2.1) : ok j ∨ w.heap.size ≤ j))) (Nat.le_trans hbw HB9.out.size)) (fun _ h => h), by rw [HTS.out]; exact Kd.R_mono (Kd.R_below HO9.out hB5) (fun _ _ => trivial), fun j h1 h2 => by
                have h3 := ((Kd.R_bound hR5).1 j h1).2.1
                have h4 := ((Kd.R_bound HO9.out).1 j h2).2.2.1
                omega⟩⟩
              clear hR5 hB5 HB9 HO9 HQ9
              go_wp2
              go_roundw
              case rel => first | exact ⟨k + 1, by omega, by go_num, HI5⟩ | exact ⟨_, _, _, _, _, _, _, _, _, _, _, _, _, _, _, _, ⟨k + 1, by omega, by go_num, HI5⟩, rfl⟩
              case measure => simp [intOf]; omega
            · obtain rfl : k = m := by omega
              clear hC1
              go_wp2
              go_ret3
              rw [HP.out]
              exact ⟨_, _, rfl, HI.out.q, HI.out.o, HI.out.below⟩
        · have HM := Aside0.mk (hm2 hq1 hq2)
          have hq3 := Int.not_lt.1 hq2
          clear hm1 hm2 hm3 hm4 hmN
          go_enter Try.func19, Try.ntmps19
          go_wp2_with fail
          rw [HM.out]
          rw [show decide ((l.length : Int) < (m : Int)) = false from by simp; omega]
          go_loopw [0, 10, 11] (fun s0 s10 s11 wr => ∃ k : Nat, k ≤ m ∧ s11 = .int .i64 k ∧ Aside0 (BI w base ok l k s0 s10 wr)) (fun _ _ s11 _ => m - (intOf s11).toNat)
          case atStart =>
            refine ⟨0, by omega, rfl, ⟨⟨below_al (Below.refl _ _) _, by rw [List.drop_zero]; exact Kd.R_mono (Kd.R_below H.out (below_al (Below.refl _ _) _)) (fun _ h => .inl h), by rw [List.take_zero]; exact R_empty _ _ _ _ (Nat.le_refl _) _ (fun _ _ => trivial), fun j h1 h2 => by
              have h3 := hz j h1
              have h4 : w.heap.size = j := by simpa [Value.ownBlock] using h2
              omega⟩⟩⟩
          case round =>
            obtain ⟨k, hk, rfl, HI⟩ := hrel
            obtain ⟨A1, c1, he1, hc1, hC1⟩ := Kd.R_reads HI.out.q
            obtain ⟨AO, cO, he2, hcO, -⟩ := Kd.R_reads HI.out.o
            subst he1
            subst he2
            by_cases hkm : k < m
            · have hkl : k < l.length := by omega
              obtain ⟨x, hx⟩ := at_ hkl
              have hd := drop_cons hx
              have hts := take_snoc hx
              obtain ⟨ab, off, rfl, hab⟩ := C_form hC1 (by rw [hd, List.length_cons]; omega) (by decide)
              obtain ⟨x', hx', e0, e1, e2⟩ := waits_at hC1 0 (by rw [hd, List.length_cons]; omega)
              obtain rfl : x = x' := by rw [hd] at hx'; simpa using hx'
              simp only [Nat.zero_mul, Nat.add_zero] at e0 e1 e2
              have hll : (0 : Int) < ((l.drop k).length : Int) := by rw [hd, List.length_cons]; omega
              have hki : (k : Int) < (m : Int) := by omega
              have hdl : (l.drop k).length ≤ 4096 := by rw [List.length_drop]; omega
              have HD := Aside0.mk hd
              have HTS := Aside0.mk hts
              have HTl : Aside0 ((l.take k).length ≤ 4096) := ⟨by rw [List.length_take]; omega⟩
              have HI2 : Aside0 (Below w.heap.size w wr ∧ Kd.R kW TW wr base (fun j => ok j ∨ w.heap.size ≤ j) (.slice (some ⟨ab, off, none⟩) (l.drop k).length c1) (l.drop k) ∧ Kd.R kW TW wr w.heap.size (fun _ => True) (.slice AO (l.take k).length cO) (l.take k) ∧ (∀ j, (Value.slice (some ⟨ab, off, none⟩) (l.drop k).length c1).ownBlock = some j → (Value.slice AO (l.take k).length cO).ownBlock = some j → False)) := ⟨⟨HI.out.below, HI.out.q, HI.out.o, HI.out.ne⟩⟩
              have hws := HI.out.below.size
              clear hx hx' hd hts hC1 HI
              generalize l.take k = T at *
              generalize hDD : l.drop k = D at *
              have HDD := Aside0.mk hDD
              clear hDD
              go_wp2_with ((with_reducible refine gate_builtin (b := .append) (xs := #[.tmp 40, .tmp 44]) rfl ?_); at_builtin; refine Kd.R_append kW (w0 := wr) w.heap.size rfl (.tmp 40) (.tmp 44) 22 TW (.agg #[.int .i64 0, .int .i64 0, .int .u64 0]) 24 rfl Try.underlying22 infoW rfl (by decide) (by omega) (.slice AO T.length cO) T x [.int .i64 x.f0.f0, .int .i64 x.f0.f1, .int .u64 x.f1] (fun j => True ∨ wr.heap.size ≤ j) (fun _ => False) rfl ?aX ?aM (fun _ h => h.elim) ?aF ?aO ?aB ?aS ?aL ?_; (case aX => first | rfl | exact congrArg (fun n => Value.slice (some ⟨n, 0, none⟩) 1 1) (by simp)); (case aM => exact kW_mkM _ _ _ _); (case aF => exact fun _ h => .inr h); (case aO => exact (Kd.R_mono HI2.out.2.2.1 (fun _ _ => .inl trivial))); (case aB => exact Below.refl _ _); (case aS => first | omega | (simp; omega)); (case aL => (have := HTl.out; omega)); intro v9 w9 ho hb hg hat; skip)
              have hk9 := grown_keep hg
              have hq9 := R_away HI2.out.2.1 hk9 (fun j h1 h2 => HI2.out.2.2.2 j h2 h1)
              have HB9 := Aside0.mk (below_then_keep HI2.out.1 HI2.out.1.size hk9 (fun j h => ((Kd.R_bound HI2.out.2.2.1).1 j h).2.1))
              have HO9 := Aside0.mk ho
              have HQ9 := Aside0.mk hq9
              have HWo := Aside0.mk (rotaref03_without.calls _ (some ⟨ab, off, none⟩) c1 D 0 _ w9 (by obtain ⟨A', c', he', -, hC'⟩ := Kd.R_reads hq9; injection he' with h1 h2 h3; rw [h1]; exact hC') hc1 (without_ok D 0 (by omega) (D.length + 1) (by omega)))
              clear ho hb hat hk9 hq9 hg e0 e1 e2
              go_wp2_with fail
              refine HWo.out.mono ?_
              clear HWo
              rintro e w5 ⟨v5, rfl, hR5, hB5⟩
              have hR5 : Kd.R kW TW w5 w9.heap.size (fun _ => True) v5 (l.drop (k + 1)) := by rw [HD.out] at hR5; simpa using hR5
              have HI5 : Aside0 (BI w base ok l (k + 1) v5 v9 w5) := ⟨⟨below_then HB9.out hB5, Kd.R_mono (Kd.R_lower (Kd.R_mono (Kd.R_bound hR5) (fun j h => (.inr (Nat.le_trans HB9.out.size h.2.1) : ok j ∨ w.heap.size ≤ j))) (Nat.le_trans hbw HB9.out.size)) (fun _ h => h), by rw [HTS.out]; exact Kd.R_mono (Kd.R_below HO9.out hB5) (fun _ _ => trivial), fun j h1 h2 => by
                have h3 := ((Kd.R_bound hR5).1 j h1).2.1
                have h4 := ((Kd.R_bound HO9.out).1 j h2).2.2.1
                omega⟩⟩
              clear hR5 hB5 HB9 HO9 HQ9
              go_wp2
              go_roundw
              case rel => first | exact ⟨k + 1, by omega, by go_num, HI5⟩ | exact ⟨_, _, _, _, _, _, _, _, _, _, _, _, _, _, _, _, ⟨k + 1, by omega, by go_num, HI5⟩, rfl⟩
              case measure => simp [intOf]; omega
            · obtain rfl : k = m := by omega
              clear hC1
              go_wp2
              go_ret3
              rw [HP.out]
              exact ⟨_, _, rfl, HI.out.q, HI.out.o, HI.out.below⟩
      · by_cases hq2 : room < l.length
        · obtain rfl := hm3 hq1 hq2
          have hq3 := Int.not_le.1 hq1
          clear hm1 hm2 hm3 hm4 hmN
          go_enter Try.func19, Try.ntmps19
          go_wp2_with fail
          go_loopw [0, 10, 11] (fun s0 s10 s11 wr => ∃ k : Nat, k ≤ m ∧ s11 = .int .i64 k ∧ Aside0 (BI w base ok l k s0 s10 wr)) (fun _ _ s11 _ => m - (intOf s11).toNat)
          case atStart =>
            refine ⟨0, by omega, rfl, ⟨⟨below_al (Below.refl _ _) _, by rw [List.drop_zero]; exact Kd.R_mono (Kd.R_below H.out (below_al (Below.refl _ _) _)) (fun _ h => .inl h), by rw [List.take_zero]; exact R_empty _ _ _ _ (Nat.le_refl _) _ (fun _ _ => trivial), fun j h1 h2 => by
              have h3 := hz j h1
              have h4 : w.heap.size = j := by simpa [Value.ownBlock] using h2
              omega⟩⟩⟩
          case round =>
            obtain ⟨k, hk, rfl, HI⟩ := hrel
            obtain ⟨A1, c1, he1, hc1, hC1⟩ := Kd.R_reads HI.out.q
            obtain ⟨AO, cO, he2, hcO, -⟩ := Kd.R_reads HI.out.o
            subst he1
            subst he2
            by_cases hkm : k < m
            · have hkl : k < l.length := by omega
              obtain ⟨x, hx⟩ := at_ hkl
              have hd := drop_cons hx
              have hts := take_snoc hx
              obtain ⟨ab, off, rfl, hab⟩ := C_form hC1 (by rw [hd, List.length_cons]; omega) (by decide)
              obtain ⟨x', hx', e0, e1, e2⟩ := waits_at hC1 0 (by rw [hd, List.length_cons]; omega)
              obtain rfl : x = x' := by rw [hd] at hx'; simpa using hx'
              simp only [Nat.zero_mul, Nat.add_zero] at e0 e1 e2
              have hll : (0 : Int) < ((l.drop k).length : Int) := by rw [hd, List.length_cons]; omega
              have hki : (k : Int) < (m : Int) := by omega
              have hdl : (l.drop k).length ≤ 4096 := by rw [List.length_drop]; omega
              have HD := Aside0.mk hd
              have HTS := Aside0.mk hts
              have HTl : Aside0 ((l.take k).length ≤ 4096) := ⟨by rw [List.length_take]; omega⟩
              have HI2 : Aside0 (Below w.heap.size w wr ∧ Kd.R kW TW wr base (fun j => ok j ∨ w.heap.size ≤ j) (.slice (some ⟨ab, off, none⟩) (l.drop k).length c1) (l.drop k) ∧ Kd.R kW TW wr w.heap.size (fun _ => True) (.slice AO (l.take k).length cO) (l.take k) ∧ (∀ j, (Value.slice (some ⟨ab, off, none⟩) (l.drop k).length c1).ownBlock = some j → (Value.slice AO (l.take k).length cO).ownBlock = some j → False)) := ⟨⟨HI.out.below, HI.out.q, HI.out.o, HI.out.ne⟩⟩
              have hws := HI.out.below.size
              clear hx hx' hd hts hC1 HI
              generalize l.take k = T at *
              generalize hDD : l.drop k = D at *
              have HDD := Aside0.mk hDD
              clear hDD
              go_wp2_with ((with_reducible refine gate_builtin (b := .append) (xs := #[.tmp 40, .tmp 44]) rfl ?_); at_builtin; refine Kd.R_append kW (w0 := wr) w.heap.size rfl (.tmp 40) (.tmp 44) 22 TW (.agg #[.int .i64 0, .int .i64 0, .int .u64 0]) 24 rfl Try.underlying22 infoW rfl (by decide) (by omega) (.slice AO T.length cO) T x [.int .i64 x.f0.f0, .int .i64 x.f0.f1, .int .u64 x.f1] (fun j => True ∨ wr.heap.size ≤ j) (fun _ => False) rfl ?aX ?aM (fun _ h => h.elim) ?aF ?aO ?aB ?aS ?aL ?_; (case aX => first | rfl | exact congrArg (fun n => Value.slice (some ⟨n, 0, none⟩) 1 1) (by simp)); (case aM => exact kW_mkM _ _ _ _); (case aF => exact fun _ h => .inr h); (case aO => exact (Kd.R_mono HI2.out.2.2.1 (fun _ _ => .inl trivial))); (case aB => exact Below.refl _ _); (case aS => first | omega | (simp; omega)); (case aL => (have := HTl.out; omega)); intro v9 w9 ho hb hg hat; skip)
              have hk9 := grown_keep hg
              have hq9 := R_away HI2.out.2.1 hk9 (fun j h1 h2 => HI2.out.2.2.2 j h2 h1)
              have HB9 := Aside0.mk (below_then_keep HI2.out.1 HI2.out.1.size hk9 (fun j h => ((Kd.R_bound HI2.out.2.2.1).1 j h).2.1))
              have HO9 := Aside0.mk ho
              have HQ9 := Aside0.mk hq9
              have HWo := Aside0.mk (rotaref03_without.calls _ (some ⟨ab, off, none⟩) c1 D 0 _ w9 (by obtain ⟨A', c', he', -, hC'⟩ := Kd.R_reads hq9; injection he' with h1 h2 h3; rw [h1]; exact hC') hc1 (without_ok D 0 (by omega) (D.length + 1) (by omega)))
              clear ho hb hat hk9 hq9 hg e0 e1 e2
              go_wp2_with fail
              refine HWo.out.mono ?_
              clear HWo
              rintro e w5 ⟨v5, rfl, hR5, hB5⟩
              have hR5 : Kd.R kW TW w5 w9.heap.size (fun _ => True) v5 (l.drop (k + 1)) := by rw [HD.out] at hR5; simpa using hR5
              have HI5 : Aside0 (BI w base ok l (k + 1) v5 v9 w5) := ⟨⟨below_then HB9.out hB5, Kd.R_mono (Kd.R_lower (Kd.R_mono (Kd.R_bound hR5) (fun j h => (.inr (Nat.le_trans HB9.out.size h.2.1) : ok j ∨ w.heap.size ≤ j))) (Nat.le_trans hbw HB9.out.size)) (fun _ h => h), by rw [HTS.out]; exact Kd.R_mono (Kd.R_below HO9.out hB5) (fun _ _ => trivial), fun j h1 h2 => by
                have h3 := ((Kd.R_bound hR5).1 j h1).2.1
                have h4 := ((Kd.R_bound HO9.out).1 j h2).2.2.1
                omega⟩⟩
              clear hR5 hB5 HB9 HO9 HQ9
              go_wp2
              go_roundw
              case rel => first | exact ⟨k + 1, by omega, by go_num, HI5⟩ | exact ⟨_, _, _, _, _, _, _, _, _, _, _, _, _, _, _, _, ⟨k + 1, by omega, by go_num, HI5⟩, rfl⟩
              case measure => simp [intOf]; omega
            · obtain rfl : k = m := by omega
              clear hC1
              go_wp2
              go_ret3
              rw [HP.out]
              exact ⟨_, _, rfl, HI.out.q, HI.out.o, HI.out.below⟩
        · have hme : m = l.length := by have := hm4 hq1 hq2; omega
          rw [hme] at HP
          have hq3 := Int.not_le.1 hq1
          have hq4 := Int.not_lt.1 hq2
          clear hm1 hm2 hm3 hm4 hmN hme hm
          clear m
          go_enter Try.func19, Try.ntmps19
          go_wp2_with fail
          go_loopw [0, 10, 11] (fun s0 s10 s11 wr => ∃ k : Nat, k ≤ l.length ∧ s11 = .int .i64 k ∧ Aside0 (BI w base ok l k s0 s10 wr)) (fun _ _ s11 _ => l.length - (intOf s11).toNat)
          case atStart =>
            refine ⟨0, by omega, rfl, ⟨⟨below_al (Below.refl _ _) _, by rw [List.drop_zero]; exact Kd.R_mono (Kd.R_below H.out (below_al (Below.refl _ _) _)) (fun _ h => .inl h), by rw [List.take_zero]; exact R_empty _ _ _ _ (Nat.le_refl _) _ (fun _ _ => trivial), fun j h1 h2 => by
              have h3 := hz j h1
              have h4 : w.heap.size = j := by simpa [Value.ownBlock] using h2
              omega⟩⟩⟩
          case round =>
            obtain ⟨k, hk, rfl, HI⟩ := hrel
            obtain ⟨A1, c1, he1, hc1, hC1⟩ := Kd.R_reads HI.out.q
            obtain ⟨AO, cO, he2, hcO, -⟩ := Kd.R_reads HI.out.o
            subst he1
            subst he2
            by_cases hkm : k < l.length
            · have hkl : k < l.length := by omega
              obtain ⟨x, hx⟩ := at_ hkl
              have hd := drop_cons hx
              have hts := take_snoc hx
              obtain ⟨ab, off, rfl, hab⟩ := C_form hC1 (by rw [hd, List.length_cons]; omega) (by decide)
              obtain ⟨x', hx', e0, e1, e2⟩ := waits_at hC1 0 (by rw [hd, List.length_cons]; omega)
              obtain rfl : x = x' := by rw [hd] at hx'; simpa using hx'
              simp only [Nat.zero_mul, Nat.add_zero] at e0 e1 e2
              have hll : (0 : Int) < ((l.drop k).length : Int) := by rw [hd, List.length_cons]; omega
              have hki : (k : Int) < (l.length : Int) := by omega
              have hdl : (l.drop k).length ≤ 4096 := by rw [List.length_drop]; omega
              have HD := Aside0.mk hd
              have HTS := Aside0.mk hts
              have HTl : Aside0 ((l.take k).length ≤ 4096) := ⟨by rw [List.length_take]; omega⟩
              have HI2 : Aside0 (Below w.heap.size w wr ∧ Kd.R kW TW wr base (fun j => ok j ∨ w.heap.size ≤ j) (.slice (some ⟨ab, off, none⟩) (l.drop k).length c1) (l.drop k) ∧ Kd.R kW TW wr w.heap.size (fun _ => True) (.slice AO (l.take k).length cO) (l.take k) ∧ (∀ j, (Value.slice (some ⟨ab, off, none⟩) (l.drop k).length c1).ownBlock = some j → (Value.slice AO (l.take k).length cO).ownBlock = some j → False)) := ⟨⟨HI.out.below, HI.out.q, HI.out.o, HI.out.ne⟩⟩
              have hws := HI.out.below.size
              clear hx hx' hd hts hC1 HI
              generalize l.take k = T at *
              generalize hDD : l.drop k = D at *
              have HDD := Aside0.mk hDD
              clear hDD
              go_wp2_with ((with_reducible refine gate_builtin (b := .append) (xs := #[.tmp 40, .tmp 44]) rfl ?_); at_builtin; refine Kd.R_append kW (w0 := wr) w.heap.size rfl (.tmp 40) (.tmp 44) 22 TW (.agg #[.int .i64 0, .int .i64 0, .int .u64 0]) 24 rfl Try.underlying22 infoW rfl (by decide) (by omega) (.slice AO T.length cO) T x [.int .i64 x.f0.f0, .int .i64 x.f0.f1, .int .u64 x.f1] (fun j => True ∨ wr.heap.size ≤ j) (fun _ => False) rfl ?aX ?aM (fun _ h => h.elim) ?aF ?aO ?aB ?aS ?aL ?_; (case aX => first | rfl | exact congrArg (fun n => Value.slice (some ⟨n, 0, none⟩) 1 1) (by simp)); (case aM => exact kW_mkM _ _ _ _); (case aF => exact fun _ h => .inr h); (case aO => exact (Kd.R_mono HI2.out.2.2.1 (fun _ _ => .inl trivial))); (case aB => exact Below.refl _ _); (case aS => first | omega | (simp; omega)); (case aL => (have := HTl.out; omega)); intro v9 w9 ho hb hg hat; skip)
              have hk9 := grown_keep hg
              have hq9 := R_away HI2.out.2.1 hk9 (fun j h1 h2 => HI2.out.2.2.2 j h2 h1)
              have HB9 := Aside0.mk (below_then_keep HI2.out.1 HI2.out.1.size hk9 (fun j h => ((Kd.R_bound HI2.out.2.2.1).1 j h).2.1))
              have HO9 := Aside0.mk ho
              have HQ9 := Aside0.mk hq9
              have HWo := Aside0.mk (rotaref03_without.calls _ (some ⟨ab, off, none⟩) c1 D 0 _ w9 (by obtain ⟨A', c', he', -, hC'⟩ := Kd.R_reads hq9; injection he' with h1 h2 h3; rw [h1]; exact hC') hc1 (without_ok D 0 (by omega) (D.length + 1) (by omega)))
              clear ho hb hat hk9 hq9 hg e0 e1 e2
              go_wp2_with fail
              refine HWo.out.mono ?_
              clear HWo
              rintro e w5 ⟨v5, rfl, hR5, hB5⟩
              have hR5 : Kd.R kW TW w5 w9.heap.size (fun _ => True) v5 (l.drop (k + 1)) := by rw [HD.out] at hR5; simpa using hR5
              have HI5 : Aside0 (BI w base ok l (k + 1) v5 v9 w5) := ⟨⟨below_then HB9.out hB5, Kd.R_mono (Kd.R_lower (Kd.R_mono (Kd.R_bound hR5) (fun j h => (.inr (Nat.le_trans HB9.out.size h.2.1) : ok j ∨ w.heap.size ≤ j))) (Nat.le_trans hbw HB9.out.size)) (fun _ h => h), by rw [HTS.out]; exact Kd.R_mono (Kd.R_below HO9.out hB5) (fun _ _ => trivial), fun j h1 h2 => by
                have h3 := ((Kd.R_bound hR5).1 j h1).2.1
                have h4 := ((Kd.R_bound HO9.out).1 j h2).2.2.1
                omega⟩⟩
              clear hR5 hB5 HB9 HO9 HQ9
              go_wp2
              go_roundw
              case rel => first | exact ⟨k + 1, by omega, by go_num, HI5⟩ | exact ⟨_, _, _, _, _, _, _, _, _, _, _, _, _, _, _, _, ⟨k + 1, by omega, by go_num, HI5⟩, rfl⟩
              case measure => simp [intOf]; omega
            · obtain rfl : k = l.length := by omega
              clear hC1
              go_wp2
              go_ret3
              rw [HP.out]
              exact ⟨_, _, rfl, HI.out.q, HI.out.o, HI.out.below⟩
end Go.Proofs.Ytikoonomhojlkaa
set_option linter.unusedSimpArgs false
set_option linter.unusedVariables false
namespace Go.Proofs.Ytikoonomhojlkaa
open Go.RowKit Go.Proofs.YtikoonomhojlkaaW.PrintWords Go.Proofs.YtikoonomhojlkaaW.PrintMore Go.Proofs.YtikoonomhojlkaaW.PrintLast PFifoLoads
/-! The document's calls on a row of its own; told. -/
section
variable {w0 w : World} {P : Nat → Prop} {v : Value} {l : List Wt}
theorem R_new {w' : World} {xs : List Wt} {v' : Value} (h : Kd.R kW TW w' w0.heap.size (fun k => P k ∨ w.heap.size ≤ k) v' xs) : Kd.R kW TW w' w0.heap.size (Ex P w w') v' xs :=
  Kd.R_mono (Kd.R_bound h) (fun k hk => hk.1.imp id (fun h => ⟨h, hk.2.2.1⟩))
theorem same_any {base base' : Nat} {P' : Nat → Prop} {v' : Value} (h : Kd.R kW TW w base P v l) (h' : Kd.R kW TW w base' P' v' l) (hl : l.length ≤ 8796093022208) : Calls Try.prog 16 #[v, v'] w fun e w' => e = .returned (.bool true) ∧ Below w.heap.size w w' := by
  obtain ⟨A, c, rfl, hc, hC⟩ := Kd.R_reads h
  obtain ⟨A', c', rfl, hc', hC'⟩ := Kd.R_reads h'
  exact (rotalaw03_same.calls (l.length + 1) A c l A' c' l _ w hC hc hC' hc' (same_ok l hl)).mono fun e w' ⟨he, hd⟩ => ⟨he, hd.below⟩
end
/-- The queue, and the document's list. -/
structure DQ (w0 : World) (b : Nat) (lq l : List Wt) (v vl : Value) (ok P : Nat → Prop) (wr : World) : Prop where
  q : Que w0 b lq ok v wr
  r : Kd.R kW TW wr w0.heap.size P vl l
  zp : ∀ k, P k → w0.heap.size ≤ k ∧ k < wr.heap.size ∧ ¬ ok k
section
variable {w0 wr w' : World} {b : Nat} {lq l l' : List Wt} {v vl v' vl' : Value} {ok P F : Nat → Prop}
theorem DQ.then (h : DQ w0 b lq l v vl ok P wr) (hB : Below wr.heap.size wr w') : DQ w0 b lq l v vl ok P w' :=
  ⟨h.q.then hB, Kd.R_below h.r hB, fun k hk => by obtain ⟨a, c, d⟩ := h.zp k hk; exact ⟨a, Nat.lt_of_lt_of_le c hB.size, d⟩⟩
theorem DQ.far (h : DQ w0 b lq l v vl ok P wr) (hk : Keep F wr w') (hF : ∀ k, F k → w0.heap.size ≤ k ∧ ¬ ok k ∧ ¬ P k) : DQ w0 b lq l v vl ok P w' :=
  ⟨⟨below_then_keep h.q.below h.q.below.size hk (fun i hi => (hF i hi).1), h.q.q.keep hk (fun k f => (hF k f).2.1), h.q.g⟩, Kd.R_step h.r (fun k hp hl => hk.block k hl (fun f => (hF k f).2.2 hp)), fun k hk' => by obtain ⟨a, c, d⟩ := h.zp k hk'; exact ⟨a, Nat.lt_of_lt_of_le c hk.size, d⟩⟩
end
end Go.Proofs.Ytikoonomhojlkaa
