import Derived.Test.YtefkdicejhjfoaaGraphC
import Derived.Test.YtefkdicejhjfoaaLib
import Derived.Test.YtefkdicejhjfoaaLib2
namespace Go.Proofs.Ytefkdicejhjfoaa
open Go.RowKit Go.Proofs.YtefkdicejhjfoaaW.PrintWords Go.Proofs.YtefkdicejhjfoaaW.PrintLast Go.Proofs.YtefkdicejhjfoaaW.PrintMore Go.Proofs.Ytefkdicejhjfoaa.PPolicyPaths
/-! The program's functions that ask ahead ('looked', with its closure), step by step. -/
def outB (D d : Int) : Bool := decide (d < 0) || decide (D ≤ d)
set_option maxHeartbeats 1000000 in
theorem cl_out (D d : Int) (w : World) (b : Nat) (h : w.cell? ⟨b, 0, none⟩ = some (.int .i64 D)) : Calls Try.prog 31 #[.int .i64 d, .pointer (some ⟨b, 0, none⟩)] w fun e w' => e = .returned (.bool (outB D d)) ∧ Below w.heap.size w w' := by
  unfold outB
  by_cases h0 : d < 0
  · have hd : decide (d < 0) = true := by simpa using h0
    rw [hd, Bool.true_or]
    go_enter Try.func31, Try.ntmps31
    go_wp2
    go_ret
    exact ⟨rfl, by first | exact Below.refl _ _ | exact below_drewN (Below.refl _ _) _⟩
  · have hd : decide (d < 0) = false := by simpa using h0
    rw [hd, Bool.false_or]
    by_cases h1 : D ≤ d
    · have he : decide (D ≤ d) = true := by simpa using h1
      have he' : decide (d ≥ D) = true := by simpa using h1
      rw [he]
      go_enter Try.func31, Try.ntmps31
      go_wp2
      go_ret
      exact ⟨rfl, by first | exact Below.refl _ _ | exact below_drewN (Below.refl _ _) _⟩
    · have he : decide (D ≤ d) = false := by simpa using h1
      have he' : decide (d ≥ D) = false := by simpa using h1
      rw [he]
      go_enter Try.func31, Try.ntmps31
      go_wp2
      go_ret
      exact ⟨rfl, by first | exact Below.refl _ _ | exact below_drewN (Below.refl _ _) _⟩
theorem isEnter31 : ∀ args w, (callFunc 31 args).run Try.prog w = .ok (.enter 31 args) w := fun _ _ => by kernel_rfl
theorem any_drop {p : Int → Bool} {xs : List Int} {k : Nat} (hk : k < xs.length) : (xs.drop k).any p = (p (rd xs k) || (xs.drop (k + 1)).any p) := by
  have he : xs[k]? = some xs[k] := List.getElem?_eq_getElem hk
  rw [drop_at he, List.any_cons]
  congr 2
  simp [rd, List.getD_eq_getElem?_getD, he]
set_option maxHeartbeats 2000000 in
theorem index_any (D : Int) (b : Nat) (A : Option Addr) (c : Nat) (xs : List Int) (w : World) (h : w.cell? ⟨b, 0, none⟩ = some (.int .i64 D)) (hb : b < w.heap.size) (hC : Kd.C (Kd.int .i64) w A xs.length xs) (hlen : xs.length ≤ 9223372036854775807) :
    Calls Try.prog 33 #[.slice A xs.length c, .func (.func 31) #[] #[.pointer (some ⟨b, 0, none⟩)]] w fun e w' => ∃ n : Int, e = .returned (.int .i64 n) ∧ decide (n ≥ 0) = xs.any (outB D) ∧ Below w.heap.size w w' := by
  have HC := Aside0.mk hC
  have H := Aside0.mk h
  clear hC h
  have hf := isEnter31
  go_enter Try.func33, Try.ntmps33
  go_wp2
  go_loopw [8] (fun i wr => ∃ (k : Nat), k ≤ xs.length ∧ i = .int .i64 k ∧ Aside0 ((xs.drop k).any (outB D) = xs.any (outB D)) ∧ Aside0 (Below w.heap.size w wr)) (fun i _ => xs.length - (intOf i).toNat)
  case atStart => exact ⟨0, by omega, rfl, ⟨rfl⟩, ⟨Below.refl _ _⟩⟩
  case round =>
    obtain ⟨k, hk, rfl, HA, HB⟩ := hrel
    by_cases hlt : k < xs.length
    · obtain ⟨ab, off, rfl, hab⟩ := C_form HC.out (by omega) (by decide)
      have hcell := (HB.out.cell (p := ⟨ab, off + k, none⟩) hab).trans (ints_at HC.out k hlt)
      have hany := any_drop (p := outB D) hlt
      rw [HA.out] at hany
      generalize rd xs k = x at *
      have HAN := Aside0.mk hany
      clear hany HA
      go_wp2_with fail
      refine (cl_out D x _ b ((HB.out.cell (p := ⟨b, 0, none⟩) hb).trans H.out)).mono ?_
      rintro e w1 ⟨rfl, hB1⟩
      cases ho : outB D x with
      | true =>
        have hr := HAN.out
        rw [ho, Bool.true_or] at hr
        have HR := Aside0.mk hr
        clear hr
        go_wp2
        go_ret
        exact ⟨_, rfl, by rw [HR.out]; simp, below_then HB.out hB1⟩
      | false =>
        have hr := HAN.out
        rw [ho, Bool.false_or] at hr
        have HR := Aside0.mk hr.symm
        have HB2 := Aside0.mk (below_then HB.out hB1)
        clear hr
        go_wp2
        go_roundw
        case rel => exact ⟨k + 1, by omega, by go_num, HR, HB2⟩
        case measure => simp [intOf]; omega
    · have hd : decide ((k : Int) < (xs.length : Int)) = false := by simp; omega
      have hr := HA.out
      rw [List.drop_eq_nil_of_le (by omega)] at hr
      have HR := Aside0.mk hr.symm
      clear hr
      go_wp2
      go_ret
      exact ⟨_, rfl, by rw [HR.out]; rfl, HB.out⟩
set_option maxHeartbeats 1000000 in
theorem contains_any (D : Int) (b : Nat) (A : Option Addr) (c : Nat) (xs : List Int) (w : World) (h : w.cell? ⟨b, 0, none⟩ = some (.int .i64 D)) (hb : b < w.heap.size) (hC : Kd.C (Kd.int .i64) w A xs.length xs) (hlen : xs.length ≤ 9223372036854775807) :
    Calls Try.prog 30 #[.slice A xs.length c, .func (.func 31) #[] #[.pointer (some ⟨b, 0, none⟩)]] w fun e w' => e = .returned (.bool (xs.any (outB D))) ∧ Below w.heap.size w w' := by
  go_enter Try.func30, Try.ntmps30
  go_wp2_with fail
  refine (index_any D b A c xs w h hb hC hlen).mono ?_
  rintro e w1 ⟨n, rfl, hn, hB⟩
  go_wp2
  go_ret
  rw [← hn]
  exact ⟨rfl, hB⟩
/-- What is wrong ahead of all else. -/
def lookedP (D : Int) (es : List S35) (of : List Int) : Int := if (chk D es).2 = 0 then (if of.any (outB D) = true then 1 else 0) else (chk D es).2
set_option maxHeartbeats 1000000 in
theorem looked_any (D : Int) (B : Option Addr) (d : Nat) (es : List S35) (A : Option Addr) (c : Nat) (xs : List Int) (w : World) (hE : Kd.C k35 w B es.length es) (hd : es.length ≤ d) (hC : Kd.C (Kd.int .i64) w A xs.length xs) (hl : es.length < 17592186044416) (hlen : xs.length ≤ 9223372036854775807) :
    Calls Try.prog 24 #[.int .i64 D, .slice B es.length d, .slice A xs.length c] w fun e w' => e = .returned (.int .i64 (lookedP D es xs)) ∧ Below w.heap.size w w' := by
  have HC := Aside0.mk hC
  have HE := Aside0.mk hE
  clear hC hE
  obtain ⟨r, hr⟩ : ∃ r, r = lookedP D es xs := ⟨_, rfl⟩
  rw [← hr]
  have HR := Aside0.mk hr
  clear hr
  go_enter Try.func24, Try.ntmps24
  go_wp2_with fail
  have hB0 : Below w.heap.size w (w.alloc (.cells #[.int .i64 D] 3)) := below_al (Below.refl _ _) _
  have hcell : (w.alloc (.cells #[.int .i64 D] 3)).cell? ⟨w.heap.size, 0, none⟩ = some (.int .i64 D) := cell_blk (blk_new _ _) 0
  have hlt : w.heap.size < (w.alloc (.cells #[.int .i64 D] 3)).heap.size := lt_blk (blk_new _ _)
  generalize w.alloc (.cells #[.int .i64 D] 3) = W at *
  have hck : policy_Check.f (es.length + 2) D es = some ((chk D es).1, (chk D es).2) := check_f hl (Nat.le_refl _)
  obtain ⟨q1, hq1⟩ : ∃ q1, q1 = (chk D es).1 := ⟨_, rfl⟩
  obtain ⟨q2, hq2⟩ : ∃ q2, q2 = (chk D es).2 := ⟨_, rfl⟩
  rw [← hq1, ← hq2] at hck
  have HQ := Aside0.mk hq2
  clear hq1 hq2
  refine (policy_Check.calls (es.length + 2) D B d es q1 q2 W (Kd.C_below HE.out hB0) hd hck).mono ?_
  clear hck
  rintro e w1 ⟨rfl, hB1x⟩
  have hB1 : Below W.heap.size W w1 := by first | exact hB1x | exact hB1x.below
  by_cases h0 : q2 = 0
  · subst h0
    have hc1 := (hB1.cell (p := ⟨w.heap.size, 0, none⟩) hlt).trans hcell
    go_wp2_with fail
    refine (contains_any D _ A c xs w1 hc1 (Nat.lt_of_lt_of_le hlt hB1.size) (Kd.C_below HC.out (below_then hB0 hB1)) hlen).mono ?_
    rintro e w2 ⟨rfl, hB2⟩
    cases ha : xs.any (outB D) with
    | true =>
      have hr : r = 1 := by rw [HR.out, lookedP, ← HQ.out, if_pos rfl, if_pos ha]
      subst hr
      clear ha
      go_wp2
      go_ret
      exact ⟨rfl, below_then (below_then hB0 hB1) hB2⟩
    | false =>
      have hr : r = 0 := by rw [HR.out, lookedP, ← HQ.out, if_pos rfl, if_neg (by rw [ha]; decide)]
      subst hr
      clear ha
      go_wp2
      go_ret
      exact ⟨rfl, below_then (below_then hB0 hB1) hB2⟩
  · have hn : (q2 != 0) = true := by simpa using h0
    have hr : r = q2 := by rw [HR.out, lookedP, ← HQ.out, if_neg h0]
    subst hr
    clear h0
    go_wp2
    go_ret
    exact ⟨rfl, below_then hB0 hB1⟩
end Go.Proofs.Ytefkdicejhjfoaa
