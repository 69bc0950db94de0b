import Derived.Test.YtdienpcifklinaaPtF
import Derived.Test.YtdienpcifklinaaPPortOwnx3
import Derived.Test.YtdienpcifklinaaPPortOwnx4
import Derived.Test.YtdienpcifklinaaPPortOwnx6
import Derived.Test.YtdienpcifklinaaPPortOwnx7
import Derived.Test.YtdienpcifklinaaPPortOwnx8
import Derived.Test.YtdienpcifklinaaPPortOwnx9
import Derived.Test.YtdienpcifklinaaPPortOwnx10
set_option linter.unusedSimpArgs false
set_option linter.unusedVariables false
namespace Go.Proofs.Ytdienpcifklinaa
open Go.RowKit Go.Proofs.YtdienpcifklinaaW.PrintWords Go.Proofs.YtdienpcifklinaaW.PrintMore Go.Proofs.YtdienpcifklinaaW.PrintLast PPortOwn
/-! The document's functions, in plain words. -/
theorem wr1 {i : Nat} (h : i < 8796093022208000) : wrap64 ((i : Int) + 1) = ((i + 1 : Nat) : Int) := by unfold wrap64; omega
theorem rdA_at {l : List Ag} {i : Nat} {x : Ag} (h : l[i]? = some x) : rd_T68 l (i : Int) = x := by
  show l.getD _ _ = x
  rw [Int.toNat_natCast, List.getD_eq_getElem?_getD, h]
  rfl
theorem rd_at {l : List Int} {i : Nat} {x : Int} (h : l[i]? = some x) : rd l (i : Int) = x := by
  show l.getD _ _ = x
  rw [Int.toNat_natCast, List.getD_eq_getElem?_getD, h]
  rfl
theorem take_snoc {α : Type} {l : List α} {k : Nat} {x : α} (h : l[k]? = some x) : l.take (k + 1) = l.take k ++ [x] := by
  rw [List.take_add_one, h]; rfl
theorem at_ {α : Type} {l : List α} {i : Nat} (h : i < l.length) : ∃ x, l[i]? = some x := ⟨_, List.getElem?_eq_getElem h⟩
section
variable (q : Bool) (cap : Int) (out : List Int) (inn : List Ag) (lost : Int)
theorem copy_l1 (hi : inn.length ≤ 8796093022208) (q' : Bool) (cap' : Int) (out' : List Int) (lost' : Int) (d : Nat) : ∀ (k i : Nat), i ≤ inn.length → inn.length - i = d → d < k → rotaref15_Copy.l1 k i q cap out inn lost q' cap' out' (inn.take i) lost' = some (q', cap', out', inn, lost') := by
  induction d with
  | zero =>
    intro k i h1 h2 hk
    obtain ⟨k, rfl⟩ : ∃ m, k = m + 1 := ⟨k - 1, by omega⟩
    obtain rfl : i = inn.length := by omega
    simp only [rotaref15_Copy.l1]
    rw [if_neg (by omega), List.take_length]
  | succ d ih =>
    intro k i h1 h2 hk
    obtain ⟨k, rfl⟩ : ∃ m, k = m + 1 := ⟨k - 1, by omega⟩
    obtain ⟨x, hx⟩ := at_ (l := inn) (i := i) (by omega)
    simp only [rotaref15_Copy.l1]
    rw [if_pos (by omega), if_pos (by omega), if_pos (by rw [List.length_take]; omega), wr1 (by omega), rdA_at hx, show (⟨x.f0, x.f1⟩ : Ag) = x from rfl, ← take_snoc hx]
    exact ih k (i + 1) (by omega) (by omega) (by omega)
theorem copy_l0 (ho : out.length ≤ 17592186044416) (hi : inn.length ≤ 8796093022208) (q' : Bool) (cap' : Int) (lost' : Int) (d : Nat) : ∀ (k i : Nat), i ≤ out.length → out.length - i = d → d + inn.length + 1 < k → rotaref15_Copy.l0 k i q cap out inn lost q' cap' (out.take i) lost' = some (q', cap', out, inn, lost') := by
  induction d with
  | zero =>
    intro k i h1 h2 hk
    obtain ⟨k, rfl⟩ : ∃ m, k = m + 1 := ⟨k - 1, by omega⟩
    obtain rfl : i = out.length := by omega
    simp only [rotaref15_Copy.l0]
    rw [if_neg (by omega), List.take_length]
    have := copy_l1 q cap out inn lost hi q' cap' out lost' inn.length k 0 (by omega) (by omega) (by omega)
    simpa using this
  | succ d ih =>
    intro k i h1 h2 hk
    obtain ⟨k, rfl⟩ : ∃ m, k = m + 1 := ⟨k - 1, by omega⟩
    obtain ⟨x, hx⟩ := at_ (l := out) (i := i) (by omega)
    simp only [rotaref15_Copy.l0]
    rw [if_pos (by omega), if_pos (by omega), if_pos (by rw [List.length_take]; omega), wr1 (by omega), rd_at hx, ← take_snoc hx]
    exact ih k (i + 1) (by omega) (by omega) (by omega)
theorem copy_ok (ho : out.length ≤ 17592186044416) (hi : inn.length ≤ 8796093022208) (k : Nat) (hk : out.length + inn.length + 1 < k) : rotaref15_Copy.f k q cap out inn lost = some (q, cap, out, inn, lost) := by
  have := copy_l0 q cap out inn lost ho hi q cap lost out.length k 0 (by omega) (by omega) (by omega)
  simpa [rotaref15_Copy.f] using this
theorem get_l0 (hi : inn.length ≤ 8796093022208) (v a : Int) (q' : Bool) (cap' : Int) (out' : List Int) (lost' : Int) (d : Nat) : ∀ (k i : Nat), 1 ≤ i → i ≤ inn.length → inn.length - i = d → d < k → rotaref15_Get.l0 k i q cap out inn lost v a q' cap' out' ((inn.drop 1).take (i - 1)) lost' = some (q', cap', out', inn.drop 1, lost', v, a) := by
  induction d with
  | zero =>
    intro k i h0 h1 h2 hk
    obtain ⟨k, rfl⟩ : ∃ m, k = m + 1 := ⟨k - 1, by omega⟩
    obtain rfl : i = inn.length := by omega
    simp only [rotaref15_Get.l0]
    rw [if_neg (by omega), List.take_of_length_le (by simp)]
  | succ d ih =>
    intro k i h0 h1 h2 hk
    obtain ⟨k, rfl⟩ : ∃ m, k = m + 1 := ⟨k - 1, by omega⟩
    obtain ⟨x, hx⟩ := at_ (l := inn) (i := i) (by omega)
    have hx' : (inn.drop 1)[i - 1]? = some x := by rw [List.getElem?_drop, show 1 + (i - 1) = i by omega]; exact hx
    simp only [rotaref15_Get.l0]
    rw [if_pos (by omega), if_pos (by omega), if_pos (by rw [List.length_take, List.length_drop]; omega), wr1 (by omega), rdA_at hx, show (⟨x.f0, x.f1⟩ : Ag) = x from rfl, ← take_snoc hx', show i - 1 + 1 = i + 1 - 1 by omega]
    exact ih k (i + 1) (by omega) (by omega) (by omega) (by omega)
theorem same_l1 (hi : inn.length ≤ 8796093022208) (d : Nat) : ∀ (k i : Nat), i ≤ inn.length → inn.length - i = d → d < k → rotaref15_Same.l1 k i q cap out inn lost q cap out inn lost = some true := by
  induction d with
  | zero =>
    intro k i h1 h2 hk
    obtain ⟨k, rfl⟩ : ∃ m, k = m + 1 := ⟨k - 1, by omega⟩
    simp only [rotaref15_Same.l1]
    rw [if_neg (by omega)]
  | succ d ih =>
    intro k i h1 h2 hk
    obtain ⟨k, rfl⟩ : ∃ m, k = m + 1 := ⟨k - 1, by omega⟩
    simp only [rotaref15_Same.l1]
    rw [if_pos (by omega), if_pos (by omega), if_pos (by omega), if_neg (by simp), wr1 (by omega)]
    exact ih k (i + 1) (by omega) (by omega) (by omega)
theorem same_l0 (ho : out.length ≤ 17592186044416) (hi : inn.length ≤ 8796093022208) (d : Nat) : ∀ (k i : Nat), i ≤ out.length → out.length - i = d → d + inn.length + 1 < k → rotaref15_Same.l0 k i q cap out inn lost q cap out inn lost = some true := by
  induction d with
  | zero =>
    intro k i h1 h2 hk
    obtain ⟨k, rfl⟩ : ∃ m, k = m + 1 := ⟨k - 1, by omega⟩
    simp only [rotaref15_Same.l0]
    rw [if_neg (by omega)]
    exact same_l1 q cap out inn lost hi inn.length k 0 (by omega) (by omega) (by omega)
  | succ d ih =>
    intro k i h1 h2 hk
    obtain ⟨k, rfl⟩ : ∃ m, k = m + 1 := ⟨k - 1, by omega⟩
    simp only [rotaref15_Same.l0]
    rw [if_pos (by omega), if_pos (by omega), if_pos (by omega), if_pos trivial, wr1 (by omega)]
    exact ih k (i + 1) (by omega) (by omega) (by omega)
theorem same_ok (ho : out.length ≤ 17592186044416) (hi : inn.length ≤ 8796093022208) : rotaref15_Same.f (out.length + inn.length + 3) q cap out inn lost q cap out inn lost = some true := by
  unfold rotaref15_Same.f
  rw [if_neg (by simp), if_pos rfl, if_pos rfl, if_pos rfl]
  simp only [rotaref15_Same.j0]
  rw [if_neg (by simp)]
  exact same_l0 q cap out inn lost ho hi out.length (out.length + inn.length + 2) 0 (by omega) (by omega) (by omega)
theorem deliv_l1 (hi : cap ≤ 1024) (q' : Bool) (cap' : Int) (d : Nat) : ∀ (k i : Nat) (r : List Ag × Int), i ≤ out.length → out.length ≤ 8796093022208 → out.length - i = d → d < k → 0 ≤ r.2 → rotaref15_Deliver.l1 k i q cap out inn lost q' cap' r.1 r.2 = some (q', cap', [], ((out.drop i).foldl (comes cap) r).1, ((out.drop i).foldl (comes cap) r).2) := by
  induction d with
  | zero =>
    intro k i r h1 h2 h3 hk hr
    obtain ⟨k, rfl⟩ : ∃ m, k = m + 1 := ⟨k - 1, by omega⟩
    simp only [rotaref15_Deliver.l1]
    rw [if_neg (by omega), List.drop_of_length_le (by omega)]
    rfl
  | succ d ih =>
    intro k i r h1 h2 h3 hk hr
    obtain ⟨k, rfl⟩ : ∃ m, k = m + 1 := ⟨k - 1, by omega⟩
    obtain ⟨x, hx⟩ := at_ (l := out) (i := i) (by omega)
    have hd : out.drop i = x :: out.drop (i + 1) := by
      obtain ⟨h, rfl⟩ := List.getElem?_eq_some_iff.1 hx
      exact List.drop_eq_getElem_cons h
    rw [hd, List.foldl_cons]
    simp only [rotaref15_Deliver.l1]
    rw [if_pos (by omega)]
    by_cases hc : (r.1.length : Int) < cap
    · have e : comes cap r x = (r.1 ++ [⟨x, 0⟩], r.2) := if_pos hc
      rw [if_pos hc, if_pos (by omega), if_pos (by omega), wr1 (by omega), rd_at hx, e]
      exact ih k (i + 1) (r.1 ++ [⟨x, 0⟩], r.2) (by omega) h2 (by omega) (by omega) hr
    · have e : comes cap r x = (r.1, olderI r.2) := if_neg hc
      rw [if_neg hc, wr1 (by omega), e]
      by_cases hl : r.2 < 2147483647
      · have e2 : olderI r.2 = r.2 + 1 := if_pos hl
        rw [if_pos hl, show wrap64 (r.2 + 1) = r.2 + 1 by unfold wrap64; omega, e2]
        exact ih k (i + 1) (r.1, r.2 + 1) (by omega) h2 (by omega) (by omega) (by simp only; omega)
      · have e2 : olderI r.2 = r.2 := if_neg hl
        rw [if_neg hl, e2]
        exact ih k (i + 1) (r.1, r.2) (by omega) h2 (by omega) (by omega) hr
theorem deliv_l0 (hc : cap ≤ 1024) (hi : inn.length ≤ 8796093022208) (ho : out.length ≤ 8796093022208) (hl : 0 ≤ lost) (ha : ∀ x ∈ inn, 0 ≤ x.f1) (d : Nat) : ∀ (k i : Nat), i ≤ inn.length → inn.length - i = d → d + out.length + 1 < k →
    rotaref15_Deliver.l0 k i q cap out inn lost q cap (agedTo inn i) lost = some (let s := delivP ⟨q, cap, out, inn, lost⟩; (q, cap, [], s.inn, s.lost)) := by
  induction d with
  | zero =>
    intro k i h1 h2 hk
    obtain ⟨k, rfl⟩ : ∃ m, k = m + 1 := ⟨k - 1, by omega⟩
    obtain rfl : i = inn.length := by omega
    simp only [rotaref15_Deliver.l0, agedTo_len]
    rw [if_neg (by omega), agedTo_all]
    cases q with
    | true =>
      rw [if_pos rfl]
      have := deliv_l1 true cap out inn lost hc true cap out.length k 0 (inn.map oldA, lost) (by omega) ho (by omega) (by omega) hl
      simpa [delivP] using this
    | false =>
      rw [if_neg (by simp)]
      cases out with
      | nil => simp [delivP]
      | cons v r =>
        rw [if_pos (by simp), if_pos (by simp)]
        simp [delivP, rd]
  | succ d ih =>
    intro k i h1 h2 hk
    obtain ⟨k, rfl⟩ : ∃ m, k = m + 1 := ⟨k - 1, by omega⟩
    obtain ⟨x, hx⟩ := at_ (l := inn) (i := i) (by omega)
    have hx' : (agedTo inn i)[i]? = some x := (agedTo_get (by omega)).trans hx
    have h0 := ha x (List.mem_of_getElem? hx)
    simp only [rotaref15_Deliver.l0, agedTo_len]
    rw [if_pos (by omega), if_pos (by omega), rdA_at hx', wr1 (by omega), Int.toNat_natCast]
    by_cases hlt : x.f1 < 2147483647
    · have e : oldA x = ⟨x.f0, x.f1 + 1⟩ := by unfold oldA olderI; rw [if_pos hlt]
      rw [if_pos hlt, show wrap64 (x.f1 + 1) = x.f1 + 1 by unfold wrap64; omega, ← e, ← agedTo_step hx]
      exact ih k (i + 1) (by omega) (by omega) (by omega)
    · have e : oldA x = x := by unfold oldA olderI; rw [if_neg hlt]
      have e2 : agedTo inn (i + 1) = agedTo inn i := by
        rw [agedTo_step hx, e]
        obtain ⟨h, hh⟩ := List.getElem?_eq_some_iff.1 hx'
        rw [← hh, List.set_getElem_self]
      rw [if_neg hlt, ← e2]
      exact ih k (i + 1) (by omega) (by omega) (by omega)
end
theorem deliv_ok (s : Pt) (h : Good s) : rotaref15_Deliver.f (s.out.length + s.inn.length + 2) s.q s.cap s.out s.inn s.lost = some ((delivP s).q, (delivP s).cap, (delivP s).out, (delivP s).inn, (delivP s).lost) := by
  obtain ⟨q, cap, out, inn, lost⟩ := s
  have h1 := h.c1
  have h2 := h.o
  have h3 := h.i
  simp only at h1 h2 h3 ⊢
  unfold rotaref15_Deliver.f
  rw [copy_ok q cap out inn lost (by omega) (by omega) _ (by omega)]
  simp only [Option.bind_some]
  have := deliv_l0 q cap out inn lost h1 (by omega) (by omega) h.l.1 (fun x hx => (h.a x hx).1) inn.length (out.length + inn.length + 2) 0 (by omega) (by omega) (by omega)
  have e0 : agedTo inn 0 = inn := by simp [agedTo]
  rw [e0] at this
  rw [(deliv_out _).1, (deliv_out _).2.1, (deliv_out _).2.2]
  exact this
theorem get_ok (s : Pt) (h : Good s) : rotaref15_Get.f (s.out.length + s.inn.length + 2) s.q s.cap s.out s.inn s.lost = some ((getP s).1.q, (getP s).1.cap, (getP s).1.out, (getP s).1.inn, (getP s).1.lost, (getP s).2.1, (getP s).2.2) := by
  obtain ⟨q, cap, out, inn, lost⟩ := s
  have h1 := h.c1
  have h2 := h.o
  have h3 := h.i
  simp only at h1 h2 h3 ⊢
  unfold rotaref15_Get.f getP
  cases inn with
  | nil => simp
  | cons x r =>
    rw [if_neg (by simp; omega), if_pos (by simp)]
    have hx : rd_T68 (x :: r) ((0 : Nat) : Int) = x := rdA_at rfl
    cases q with
    | true =>
      rw [if_pos rfl, copy_ok true cap out (x :: r) lost (by omega) (by omega) _ (by omega)]
      simp only [Option.bind_some]
      have := get_l0 true cap out (x :: r) lost (by omega) x.f0 x.f1 true cap out lost ((x :: r).length - 1) (out.length + (x :: r).length + 2) 1 (by omega) (by simp) (by omega) (by simp; omega)
      rw [show ((0 : Int)) = ((0 : Nat) : Int) from rfl, hx]
      simpa using this
    | false =>
      rw [if_neg (by simp), show ((0 : Int)) = ((0 : Nat) : Int) from rfl, hx]
      rfl
theorem newr_ok (q : Bool) (cap : Int) : rotaref15_New.f q cap = some (if sizeOk q cap then (q, cap, [], [], 0, 0) else (false, 0, [], [], 0, 1)) := by
  unfold rotaref15_New.f
  by_cases h1 : cap < 1
  · have : sizeOk q cap = false := by simp [sizeOk]; omega
    rw [if_pos h1, this]; rfl
  · rw [if_neg h1]
    by_cases h2 : cap > 1024
    · have : sizeOk q cap = false := by simp [sizeOk]; omega
      rw [if_pos h2, this]; rfl
    · rw [if_neg h2]
      cases q with
      | true =>
        have : sizeOk true cap = true := by simp [sizeOk]; omega
        rw [if_pos rfl, this]; rfl
      | false =>
        rw [if_neg (by simp)]
        by_cases h3 : cap > 1
        · have : sizeOk false cap = false := by simp [sizeOk]; omega
          rw [if_pos h3, this]; rfl
        · have : sizeOk false cap = true := by simp [sizeOk]; omega
          rw [if_neg h3, this]; rfl
/-- The ages of a state that may be. -/
def AgesTo (l : List Ag) (n : Nat) : Prop := ∀ i x, i < n → l[i]? = some x → 0 ≤ x.f1 ∧ x.f1 ≤ 2147483647 ∧ ∀ y, 0 < i → l[i - 1]? = some y → x.f1 ≤ y.f1
def Ages (l : List Ag) : Prop := AgesTo l l.length
theorem AgesTo.succ {l : List Ag} {n : Nat} {x : Ag} (hx : l[n]? = some x) : AgesTo l (n + 1) ↔ AgesTo l n ∧ (0 ≤ x.f1 ∧ x.f1 ≤ 2147483647 ∧ ∀ y, 0 < n → l[n - 1]? = some y → x.f1 ≤ y.f1) := by
  constructor
  · intro h
    exact ⟨fun i y hi hy => h i y (by omega) hy, h n x (by omega) hx⟩
  · rintro ⟨h, h2⟩ i y hi hy
    by_cases e : i = n
    · subst e
      obtain rfl : x = y := by rw [hx] at hy; injection hy
      exact h2
    · exact h i y (by omega) hy
theorem AgesTo.le {l : List Ag} {n m : Nat} (h : AgesTo l m) (hn : n ≤ m) : AgesTo l n := fun i x hi hx => h i x (by omega) hx
theorem may_l0 (q : Bool) (cap : Int) (out : List Int) (inn : List Ag) (lost : Int) (hi : inn.length ≤ 8796093022208) (d : Nat) : ∀ (k i : Nat), i ≤ inn.length → inn.length - i = d → d < k → AgesTo inn i → (Ages inn → port_may.l0 k inn (inn.length : Int) i q cap out inn lost = some true) ∧ (¬ Ages inn → port_may.l0 k inn (inn.length : Int) i q cap out inn lost = some false) := by
  induction d with
  | zero =>
    intro k i h1 h2 hk hA
    obtain ⟨k, rfl⟩ : ∃ m, k = m + 1 := ⟨k - 1, by omega⟩
    obtain rfl : i = inn.length := by omega
    refine ⟨fun _ => ?_, fun hn => absurd hA hn⟩
    simp only [port_may.l0]
    rw [if_neg (by omega)]
  | succ d ih =>
    intro k i h1 h2 hk hA
    obtain ⟨k, rfl⟩ : ∃ m, k = m + 1 := ⟨k - 1, by omega⟩
    obtain ⟨x, hx⟩ := at_ (l := inn) (i := i) (by omega)
    have hS := AgesTo.succ (n := i) hx
    have hbad : ¬ AgesTo inn (i + 1) → ¬ Ages inn := fun h hA => h (AgesTo.le hA (by omega))
    simp only [port_may.l0]
    rw [if_pos (by omega), if_pos (by omega), if_pos (by omega), rdA_at hx]
    by_cases a0 : x.f1 < 0
    · have hb := hbad (fun h => by have := (hS.1 h).2.1; omega)
      rw [if_pos a0]
      exact ⟨fun h => absurd h hb, fun _ => rfl⟩
    · rw [if_neg a0]
      by_cases a1 : x.f1 > 2147483647
      · have hb := hbad (fun h => by have := (hS.1 h).2.2.1; omega)
        rw [if_pos a1]
        exact ⟨fun h => absurd h hb, fun _ => rfl⟩
      · rw [if_neg a1]
        by_cases a2 : (i : Int) > 0
        · obtain ⟨y, hy⟩ := at_ (l := inn) (i := i - 1) (by omega)
          have e : wrap64 ((i : Int) - 1) = ((i - 1 : Nat) : Int) := by unfold wrap64; omega
          rw [if_pos a2, e, if_pos (by omega), if_pos (by omega), rdA_at hy]
          by_cases a3 : x.f1 > y.f1
          · have hb := hbad (fun h => by have := (hS.1 h).2.2.2 y (by omega) hy; omega)
            rw [if_pos a3]
            exact ⟨fun h => absurd h hb, fun _ => rfl⟩
          · rw [if_neg a3, wr1 (by omega)]
            exact ih k (i + 1) (by omega) (by omega) (by omega) (hS.2 ⟨hA, by omega, by omega, fun z _ hz => by rw [hy] at hz; injection hz with hz; subst hz; omega⟩)
        · rw [if_neg a2, wr1 (by omega)]
          exact ih k (i + 1) (by omega) (by omega) (by omega) (hS.2 ⟨hA, by omega, by omega, fun z hz _ => by omega⟩)
theorem load_l0 (q : Bool) (cap : Int) (out : List Int) (inn : List Ag) (lost : Int) (ho : out.length ≤ 17592186044416) (hi : inn.length ≤ 8796093022208) (d : Nat) : ∀ (k i : Nat), i ≤ inn.length → inn.length - i = d → d + out.length + inn.length + 2 < k → AgesTo inn i → (Ages inn → rotaref15_Load.l0 k i q cap out inn lost = some (q, cap, out, inn, lost, 0)) ∧ (¬ Ages inn → rotaref15_Load.l0 k i q cap out inn lost = some (false, 0, [], [], 0, 150)) := by
  induction d with
  | zero =>
    intro k i h1 h2 hk hA
    obtain ⟨k, rfl⟩ : ∃ m, k = m + 1 := ⟨k - 1, by omega⟩
    obtain rfl : i = inn.length := by omega
    refine ⟨fun _ => ?_, fun hn => absurd hA hn⟩
    simp only [rotaref15_Load.l0]
    rw [if_neg (by omega), copy_ok q cap out inn lost ho hi _ (by omega)]; rfl
  | succ d ih =>
    intro k i h1 h2 hk hA
    obtain ⟨k, rfl⟩ : ∃ m, k = m + 1 := ⟨k - 1, by omega⟩
    obtain ⟨x, hx⟩ := at_ (l := inn) (i := i) (by omega)
    have hS := AgesTo.succ (n := i) hx
    have hbad : ¬ AgesTo inn (i + 1) → ¬ Ages inn := fun h hA => h (AgesTo.le hA (by omega))
    simp only [rotaref15_Load.l0]
    rw [if_pos (by omega), if_pos (by omega), rdA_at hx]
    by_cases a0 : x.f1 < 0
    · have hb := hbad (fun h => by have := (hS.1 h).2.1; omega)
      rw [if_pos a0]
      exact ⟨fun h => absurd h hb, fun _ => rfl⟩
    · rw [if_neg a0]
      by_cases a1 : x.f1 > 2147483647
      · have hb := hbad (fun h => by have := (hS.1 h).2.2.1; omega)
        rw [if_pos a1]
        exact ⟨fun h => absurd h hb, fun _ => rfl⟩
      · rw [if_neg a1]
        by_cases a2 : (i : Int) > 0
        · obtain ⟨y, hy⟩ := at_ (l := inn) (i := i - 1) (by omega)
          have e : wrap64 ((i : Int) - 1) = ((i - 1 : Nat) : Int) := by unfold wrap64; omega
          rw [if_pos a2, e, if_pos (by omega), if_pos (by omega), rdA_at hy]
          by_cases a3 : x.f1 > y.f1
          · have hb := hbad (fun h => by have := (hS.1 h).2.2.2 y (by omega) hy; omega)
            rw [if_pos a3]
            exact ⟨fun h => absurd h hb, fun _ => rfl⟩
          · rw [if_neg a3, wr1 (by omega)]
            exact ih k (i + 1) (by omega) (by omega) (by omega) (hS.2 ⟨hA, by omega, by omega, fun z _ hz => by rw [hy] at hz; injection hz with hz; subst hz; omega⟩)
        · rw [if_neg a2, wr1 (by omega)]
          exact ih k (i + 1) (by omega) (by omega) (by omega) (hS.2 ⟨hA, by omega, by omega, fun z hz _ => by omega⟩)
/-- What a state must be. -/
structure MayS (s : Pt) : Prop where
  z : sizeOk s.q s.cap = true
  o : (s.out.length : Int) ≤ s.cap
  i : (s.inn.length : Int) ≤ s.cap
  l0 : 0 ≤ s.lost
  l1 : s.lost ≤ 2147483647
  u : s.q = false → s.lost = 0
  a : Ages s.inn
theorem MayS.good {s : Pt} (h : MayS s) : Good s := by
  obtain ⟨h1, h2, -⟩ := sizeOk_iff h.z
  exact ⟨h1, h2, h.o, h.i, fun x hx => by
    obtain ⟨i, hi, rfl⟩ := List.getElem_of_mem hx
    have h3 := h.a i _ hi (List.getElem?_eq_getElem hi)
    exact ⟨h3.1, h3.2.1⟩, h.l0, h.l1⟩
theorem size_f (q : Bool) (cap : Int) : port_size.f q cap = some (sizeOk q cap) := by
  unfold port_size.f sizeOk
  by_cases h1 : 1 ≤ cap
  · by_cases h2 : cap ≤ 1024
    · cases q with
      | true => simp [h1, h2]
      | false => simp [h1, h2]; by_cases h3 : cap = 1 <;> simp [h3]
    · simp [h1, h2]
  · simp [h1]
theorem may_ok (s : Pt) (hi : s.inn.length ≤ 8796093022208) (ho : s.out.length ≤ 17592186044416) : (MayS s → port_may.f (s.out.length + s.inn.length + s.inn.length + 9) s.q s.cap s.out s.inn s.lost = some true) ∧ (¬ MayS s → port_may.f (s.out.length + s.inn.length + s.inn.length + 9) s.q s.cap s.out s.inn s.lost = some false) := by
  obtain ⟨q, cap, out, inn, lost⟩ := s
  simp only at hi ho ⊢
  unfold port_may.f
  rw [size_f]
  simp only [Option.bind_some]
  have hbad : ¬ MayS ⟨q, cap, out, inn, lost⟩ → port_may.j0 (out.length + inn.length + inn.length + 9) true q cap out inn lost = some false := fun _ => by simp only [port_may.j0]; rw [if_pos trivial]
  have hgo := may_l0 q cap out inn lost hi inn.length (out.length + inn.length + inn.length + 8) 0 (by omega) (by omega) (by omega) (fun i x h => by omega)
  by_cases b0 : sizeOk q cap = true
  · rw [b0]
    rw [if_pos rfl]
    by_cases b1 : (out.length : Int) > cap
    · have hn : ¬ MayS ⟨q, cap, out, inn, lost⟩ := fun h => by have := h.o; (try simp only at this); omega
      rw [if_pos b1]
      exact ⟨fun h => absurd h hn, hbad⟩
    · rw [if_neg b1]
      by_cases b2 : (inn.length : Int) > cap
      · have hn : ¬ MayS ⟨q, cap, out, inn, lost⟩ := fun h => by have := h.i; (try simp only at this); omega
        rw [if_pos b2]
        exact ⟨fun h => absurd h hn, hbad⟩
      · rw [if_neg b2]
        by_cases b3 : lost < 0
        · have hn : ¬ MayS ⟨q, cap, out, inn, lost⟩ := fun h => by have := h.l0; (try simp only at this); omega
          rw [if_pos b3]
          exact ⟨fun h => absurd h hn, hbad⟩
        · rw [if_neg b3]
          by_cases b4 : lost > 2147483647
          · have hn : ¬ MayS ⟨q, cap, out, inn, lost⟩ := fun h => by have := h.l1; (try simp only at this); omega
            rw [if_pos b4]
            exact ⟨fun h => absurd h hn, hbad⟩
          · rw [if_neg b4]
            have hyes : (q = false → lost = 0) → (MayS ⟨q, cap, out, inn, lost⟩ → port_may.j0 (out.length + inn.length + inn.length + 9) false q cap out inn lost = some true) ∧ (¬ MayS ⟨q, cap, out, inn, lost⟩ → port_may.j0 (out.length + inn.length + inn.length + 9) false q cap out inn lost = some false) := fun hq0 => by
              have hAg : Ages inn ↔ MayS ⟨q, cap, out, inn, lost⟩ := ⟨fun h => ⟨b0, (by simp only; omega), (by simp only; omega), (by simp only; omega), (by simp only; omega), hq0, h⟩, fun h => h.a⟩
              rw [← hAg]
              simp only [port_may.j0]
              rw [if_neg (by simp)]
              exact hgo
            cases q with
            | true => rw [if_pos rfl]; exact hyes (fun h => by cases h)
            | false =>
              rw [if_neg (by simp)]
              by_cases b5 : lost > 0
              · have hn : ¬ MayS ⟨false, cap, out, inn, lost⟩ := fun h => by have := h.u rfl; (try simp only at this); omega
                rw [decide_eq_true b5]
                exact ⟨fun h => absurd h hn, hbad⟩
              · rw [decide_eq_false b5]
                exact hyes (fun _ => by omega)
  · have hn : ¬ MayS ⟨q, cap, out, inn, lost⟩ := fun h => b0 h.z
    rw [Bool.not_eq_true] at b0
    rw [b0]
    exact ⟨fun h => absurd h hn, hbad⟩
theorem load_ok (s : Pt) (hi : s.inn.length ≤ 8796093022208) (ho : s.out.length ≤ 17592186044416) : (MayS s → rotaref15_Load.f (s.out.length + s.inn.length + s.inn.length + 9) s.q s.cap s.out s.inn s.lost = some (s.q, s.cap, s.out, s.inn, s.lost, 0)) ∧ (¬ MayS s → rotaref15_Load.f (s.out.length + s.inn.length + s.inn.length + 9) s.q s.cap s.out s.inn s.lost = some (false, 0, [], [], 0, 150)) := by
  obtain ⟨q, cap, out, inn, lost⟩ := s
  simp only at hi ho ⊢
  unfold rotaref15_Load.f
  rw [newr_ok]
  simp only [Option.bind_some]
  have hbad : ¬ MayS ⟨q, cap, out, inn, lost⟩ → rotaref15_Load.j0 (out.length + inn.length + inn.length + 9) true q cap out inn lost = some (false, 0, [], [], 0, 150) := fun _ => by simp only [rotaref15_Load.j0]; rw [if_pos trivial]
  have hgo := load_l0 q cap out inn lost ho hi inn.length (out.length + inn.length + inn.length + 8) 0 (by omega) (by omega) (by omega) (fun i x h => by omega)
  by_cases b0 : sizeOk q cap = true
  · rw [b0]
    rw [if_pos rfl, if_pos rfl]
    by_cases b1 : (out.length : Int) > cap
    · have hn : ¬ MayS ⟨q, cap, out, inn, lost⟩ := fun h => by have := h.o; (try simp only at this); omega
      rw [if_pos b1]
      exact ⟨fun h => absurd h hn, hbad⟩
    · rw [if_neg b1]
      by_cases b2 : (inn.length : Int) > cap
      · have hn : ¬ MayS ⟨q, cap, out, inn, lost⟩ := fun h => by have := h.i; (try simp only at this); omega
        rw [if_pos b2]
        exact ⟨fun h => absurd h hn, hbad⟩
      · rw [if_neg b2]
        by_cases b3 : lost < 0
        · have hn : ¬ MayS ⟨q, cap, out, inn, lost⟩ := fun h => by have := h.l0; (try simp only at this); omega
          rw [if_pos b3]
          exact ⟨fun h => absurd h hn, hbad⟩
        · rw [if_neg b3]
          by_cases b4 : lost > 2147483647
          · have hn : ¬ MayS ⟨q, cap, out, inn, lost⟩ := fun h => by have := h.l1; (try simp only at this); omega
            rw [if_pos b4]
            exact ⟨fun h => absurd h hn, hbad⟩
          · rw [if_neg b4]
            have hyes : (q = false → lost = 0) → (MayS ⟨q, cap, out, inn, lost⟩ → rotaref15_Load.j0 (out.length + inn.length + inn.length + 9) false q cap out inn lost = some (q, cap, out, inn, lost, 0)) ∧ (¬ MayS ⟨q, cap, out, inn, lost⟩ → rotaref15_Load.j0 (out.length + inn.length + inn.length + 9) false q cap out inn lost = some (false, 0, [], [], 0, 150)) := fun hq0 => by
              have hAg : Ages inn ↔ MayS ⟨q, cap, out, inn, lost⟩ := ⟨fun h => ⟨b0, (by simp only; omega), (by simp only; omega), (by simp only; omega), (by simp only; omega), hq0, h⟩, fun h => h.a⟩
              rw [← hAg]
              simp only [rotaref15_Load.j0]
              rw [if_neg (by simp)]
              exact hgo
            cases q with
            | true => rw [if_pos rfl]; exact hyes (fun h => by cases h)
            | false =>
              rw [if_neg (by simp)]
              by_cases b5 : lost > 0
              · have hn : ¬ MayS ⟨false, cap, out, inn, lost⟩ := fun h => by have := h.u rfl; (try simp only at this); omega
                rw [decide_eq_true b5]
                exact ⟨fun h => absurd h hn, hbad⟩
              · rw [decide_eq_false b5]
                exact hyes (fun _ => by omega)
  · have hn : ¬ MayS ⟨q, cap, out, inn, lost⟩ := fun h => b0 h.z
    rw [Bool.not_eq_true] at b0
    rw [b0]
    exact ⟨fun h => absurd h hn, hbad⟩
theorem spoil_l2 (q : Bool) (cap lost : Int) (d : Nat) : ∀ (k i : Nat) (a : List Int) (b : List Ag), i ≤ 8 → 8 - i = d → d < k → a.length + d < 17592186044416 → b.length + d < 8796093022208 → rotalaw15_spoil.l2 k i q cap a b lost = some () := by
  induction d with
  | zero =>
    intro k i a b h1 h2 hk ha hb
    obtain ⟨k, rfl⟩ : ∃ m, k = m + 1 := ⟨k - 1, by omega⟩
    simp only [rotalaw15_spoil.l2]
    rw [if_neg (by omega)]
  | succ d ih =>
    intro k i a b h1 h2 hk ha hb
    obtain ⟨k, rfl⟩ : ∃ m, k = m + 1 := ⟨k - 1, by omega⟩
    simp only [rotalaw15_spoil.l2]
    rw [if_pos (by omega), if_pos (by omega), if_pos (by omega), wr1 (by omega)]
    exact ih k (i + 1) _ _ (by omega) (by omega) (by omega) (by simp; omega) (by simp; omega)
theorem spoil_l1 (q : Bool) (cap lost : Int) (d : Nat) : ∀ (k i : Nat) (a : List Int) (b : List Ag), i ≤ b.length → b.length - i = d → d + 9 < k → a.length < 1000000 → b.length < 1000000 → rotalaw15_spoil.l1 k i q cap a b lost = some () := by
  induction d with
  | zero =>
    intro k i a b h1 h2 hk ha hb
    obtain ⟨k, rfl⟩ : ∃ m, k = m + 1 := ⟨k - 1, by omega⟩
    simp only [rotalaw15_spoil.l1]
    rw [if_neg (by omega)]
    exact spoil_l2 q cap lost 8 k 0 a b (by omega) (by omega) (by omega) (by omega) (by omega)
  | succ d ih =>
    intro k i a b h1 h2 hk ha hb
    obtain ⟨k, rfl⟩ : ∃ m, k = m + 1 := ⟨k - 1, by omega⟩
    simp only [rotalaw15_spoil.l1]
    rw [if_pos (by omega), if_pos (by omega), wr1 (by omega)]
    exact ih k (i + 1) _ _ (by simp; omega) (by simp; omega) (by omega) ha (by simpa using hb)
theorem spoil_l0 (q : Bool) (cap lost : Int) (b : List Ag) (hb : b.length < 1000000) (d : Nat) : ∀ (k i : Nat) (a : List Int), i ≤ a.length → a.length - i = d → d + b.length + 10 < k → a.length < 1000000 → rotalaw15_spoil.l0 k i q cap a b lost = some () := by
  induction d with
  | zero =>
    intro k i a h1 h2 hk ha
    obtain ⟨k, rfl⟩ : ∃ m, k = m + 1 := ⟨k - 1, by omega⟩
    simp only [rotalaw15_spoil.l0]
    rw [if_neg (by omega)]
    exact spoil_l1 q cap lost b.length k 0 a b (by omega) (by omega) (by omega) ha hb
  | succ d ih =>
    intro k i a h1 h2 hk ha
    obtain ⟨k, rfl⟩ : ∃ m, k = m + 1 := ⟨k - 1, by omega⟩
    simp only [rotalaw15_spoil.l0]
    rw [if_pos (by omega), if_pos (by omega), wr1 (by omega)]
    exact ih k (i + 1) _ (by simp; omega) (by simp; omega) (by omega) (by simpa using ha)
theorem spoil_ok (s : Pt) (h : Good s) : rotalaw15_spoil.f (s.out.length + s.inn.length + 11) s.q s.cap s.out s.inn s.lost = some () := by
  have h1 := h.c1
  have h2 := h.o
  have h3 := h.i
  exact spoil_l0 s.q s.cap s.lost s.inn (by omega) s.out.length _ 0 s.out (by omega) (by omega) (by omega) (by omega)
end Go.Proofs.Ytdienpcifklinaa
