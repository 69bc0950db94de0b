import Derived.Test.YtkjfojbnghbkdaaCellsF
import Derived.Deep.RegionHeld3
import Derived.Test.YtkjfojbnghbkdaaReg
namespace Go.Proofs.Ytkjfojbnghbkdaa
open Go.RowKit Go.Proofs.YtkjfojbnghbkdaaW.PrintWords

def kAcc : Kd Acc := Kd.iso (Kd.pair (Kd.int .i64) (Kd.pair (Kd.int .i64) (Kd.pair (Kd.int .i64) (Kd.pair (Kd.int .i64) Kd.bool)))) (fun x : Acc => (x.c, x.k, x.b, x.a, x.w))
theorem kAcc_open {w : World} {x : Acc} {cs : List Value} (h : kAcc.K w x cs) : cs = [.int .i64 x.c, .int .i64 x.k, .int .i64 x.b, .int .i64 x.a, .bool x.w] := by
  obtain ⟨_, _, rfl, rfl, ⟨_, _, rfl, rfl, ⟨_, _, rfl, rfl, ⟨_, _, rfl, rfl, rfl⟩⟩⟩⟩ := h
  rfl
theorem kAcc_sz : kAcc.sz = 5 := rfl
/-- A row read as one kind is read as another one of the same cells. -/
theorem C_conv {α β : Type} {d : Kd α} {d' : Kd β} {w : World} {A : Option Addr} {n : Nat} {xs : List α} (g : α → β) (hs : d.sz = d'.sz) (hK : ∀ x cs, d.K w x cs → d'.K w (g x) cs) (h : d.C w A n xs) : d'.C w A n (xs.map g) := by
  refine ⟨by rw [List.length_map]; exact h.1, h.2.1, fun hn => ?_⟩
  obtain ⟨ad, e, hc⟩ := h.2.2 hn
  refine ⟨ad, e, fun j p hp => ?_⟩
  rw [List.getElem?_map] at hp
  obtain ⟨x, hx, rfl⟩ := Option.map_eq_some_iff.1 hp
  obtain ⟨c, hl, hk, hat⟩ := hc j x hx
  exact ⟨c, by rw [hl, hs], hK x c hk, by rw [← hs]; exact hat⟩
theorem accs_at {w : World} {b off : Nat} {n : Nat} {xs : List Acc} (h : kAcc.C w (some ⟨b, off, none⟩) n xs) (i : Nat) (hi : i < n) : ∃ a, xs[i]? = some a ∧
    w.cell? ⟨b, off + i * 5, none⟩ = some (.int .i64 a.c) ∧ w.cell? ⟨b, off + i * 5 + 1, none⟩ = some (.int .i64 a.k) ∧ w.cell? ⟨b, off + i * 5 + 2, none⟩ = some (.int .i64 a.b) ∧ w.cell? ⟨b, off + i * 5 + 3, none⟩ = some (.int .i64 a.a) ∧ w.cell? ⟨b, off + i * 5 + 4, none⟩ = some (.bool a.w) := by
  obtain ⟨ad, e, hc⟩ := h.2.2 (by omega)
  injection e with e
  subst e
  have hl : i < xs.length := by have := h.1; omega
  obtain ⟨cs, hcl, hK, hat⟩ := hc i _ (List.getElem?_eq_getElem hl)
  obtain rfl := kAcc_open hK
  refine ⟨_, List.getElem?_eq_getElem hl, ?_, ?_, ?_, ?_, ?_⟩
  · have := hat 0 _ rfl; rw [adds, kAcc_sz] at this; exact this
  · have := hat 1 _ rfl; rw [adds, kAcc_sz, ← Nat.add_assoc] at this; exact this
  · have := hat 2 _ rfl; rw [adds, kAcc_sz, ← Nat.add_assoc] at this; exact this
  · have := hat 3 _ rfl; rw [adds, kAcc_sz, ← Nat.add_assoc] at this; exact this
  · have := hat 4 _ rfl; rw [adds, kAcc_sz, ← Nat.add_assoc] at this; exact this

/-- Is an access one that could be, by itself? -/
def canB (a : Acc) : Bool := if a.k = 1 then !a.w else if a.k = 2 then a.w else if a.k = 4 then a.w else a.k == 3
theorem can_ok (a : Acc) (w : World) : Calls Try.prog 39 #[.agg #[.int .i64 a.c, .int .i64 a.k, .int .i64 a.b, .int .i64 a.a, .bool a.w]] w fun e w' => e = .returned (.bool (canB a)) ∧ Below w.heap.size w w' := by
  refine PCellsOwn.cells_can.calls a.c a.k a.b a.a a.w (canB a) w ?_
  unfold PCellsOwn.cells_can.f canB
  split
  · rfl
  · split
    · rfl
    · split <;> rfl
/-- Going over accesses: what is in the cells at the end; or the place of the first that can't be, and why. -/
def rpl (ys : List Int) (i : Nat) : List Acc → List Int × Int × Int
  | [] => (ys, 0, 0)
  | a :: rest =>
    if a.c < 0 ∨ (ys.length : Int) ≤ a.c then ([], i, 100)
    else if canB a = false ∨ a.b ≠ rd ys a.c ∨ (a.w = false ∧ a.a ≠ a.b) then ([], i, 101)
    else rpl (ys.set a.c.toNat a.a) (i + 1) rest
theorem rpl_at {l : List Acc} {k : Nat} {a : Acc} (h : l[k]? = some a) (ys : List Int) : rpl ys k (l.drop k) = (if a.c < 0 ∨ (ys.length : Int) ≤ a.c then ([], (k : Int), 100) else if canB a = false ∨ a.b ≠ rd ys a.c ∨ (a.w = false ∧ a.a ≠ a.b) then ([], (k : Int), 101) else rpl (ys.set a.c.toNat a.a) (k + 1) (l.drop (k + 1))) := by
  obtain ⟨hk, he⟩ := List.getElem?_eq_some_iff.1 h
  rw [List.drop_eq_getElem_cons hk, he]
  rfl

set_option maxRecDepth 100000 in
set_option maxHeartbeats 8000000 in
theorem replay_any (w : World) (A0 : Option Addr) (c0 : Nat) (xs : List Int) (A : Option Addr) (c : Nat) (l : List Acc) (hx : Kd.C (Kd.int .i64) w A0 xs.length xs) (hC : kAcc.C w A l.length l) (hlen : xs.length * 8 ≤ 140737488355328) (hll : l.length ≤ 4611686018427387904) :
    Calls Try.prog 26 #[.slice A0 xs.length c0, .slice A l.length c] w fun e w' => ∃ v, e = .returned (.tuple #[v, .int .i64 (rpl xs 0 l).2.1, .int .i64 (rpl xs 0 l).2.2]) ∧ Kd.R (Kd.int .i64) 2 w' w.heap.size (fun _ => True) v (rpl xs 0 l).1 ∧ Below w.heap.size w w' := by
  have HC := Aside0.mk hC
  have HX := Aside0.mk hx
  clear hC hx
  go_enter Try.func26, Try.ntmps26
  go_wp2_with fail
  refine (clone_any A0 c0 xs w HX.out hlen).mono ?_
  rintro e w1 ⟨v, rfl, hv, hB⟩
  have HV := Aside0.mk hv
  have HB := Aside0.mk hB
  clear hv hB
  go_wp2
  go_loopw [14] (fun i wr => ∃ (k : Nat) (ys : List Int), k ≤ l.length ∧ i = .int .i64 k ∧ Aside0 (ys.length = xs.length) ∧ Aside0 (rpl ys k (l.drop k) = rpl xs 0 l) ∧ Aside0 (Below w.heap.size w wr) ∧ Aside0 (Kd.R (Kd.int .i64) 2 wr w.heap.size (fun _ => True) v ys)) (fun i _ => l.length - (intOf i).toNat)
  case atStart => exact ⟨0, xs, by omega, rfl, ⟨rfl⟩, ⟨rfl⟩, HB, HV⟩
  case round =>
    obtain ⟨k, ys, hk, rfl, HL, HE, HB, HR⟩ := hrel
    by_cases hlt : k < l.length
    · obtain ⟨ab, off, rfl, hab⟩ := C_form HC.out (by omega) (by decide)
      obtain ⟨a, ho, h0, h1, h2, h3, h4⟩ := accs_at HC.out k hlt
      have HO := Aside0.mk ho
      replace h0 := (HB.out.cell (p := ⟨ab, off + k * 5, none⟩) hab).trans h0
      replace h1 := (HB.out.cell (p := ⟨ab, off + k * 5 + 1, none⟩) hab).trans h1
      replace h2 := (HB.out.cell (p := ⟨ab, off + k * 5 + 2, none⟩) hab).trans h2
      replace h3 := (HB.out.cell (p := ⟨ab, off + k * 5 + 3, none⟩) hab).trans h3
      replace h4 := (HB.out.cell (p := ⟨ab, off + k * 5 + 4, none⟩) hab).trans h4
      have hst := rpl_at ho ys
      rw [HE.out] at hst
      have HST := Aside0.mk hst
      have hszr := HB.out.size
      clear ho hst
      obtain ⟨A1, c1, rfl, hc1, hC1⟩ := Kd.R_reads HR.out
      have HC1 := Aside0.mk hC1
      clear hC1
      obtain ⟨ac, ak, ab', aa, aw⟩ := a
      simp only at h0 h1 h2 h3 h4
      by_cases hr : ac < 0 ∨ (ys.length : Int) ≤ ac
      · have hres : rpl xs 0 l = ([], (k : Int), 100) := by rw [HST.out, if_pos hr]
        have HRES := Aside0.mk hres
        clear hres
        rcases hr with hr | hr
        · have hd : decide (ac < 0) = true := by simpa using hr
          clear hr
          go_wp2
          go_ret3
          rw [HRES.out]
          exact ⟨_, rfl, Kd.R_nil _ _ _ _ _, (by repeat (first | (with_reducible exact HB.out) | (with_reducible refine Below.drew ?_) | (with_reducible refine below_drewN ?_ _) | (with_reducible refine below_al ?_ _) | (with_reducible refine Below.alloc ?_ (by first | exact Nat.le_refl _ | omega | (simp; done) | (simp; omega)) _) | (with_reducible refine Below.setCell ?_ (by first | (simp only []; omega) | (simp; done) | (simp; omega)) _)))⟩
        · have hd : decide (ac < 0) = false := by simp; omega
          go_wp2
          go_ret3
          rw [HRES.out]
          exact ⟨_, rfl, Kd.R_nil _ _ _ _ _, (by repeat (first | (with_reducible exact HB.out) | (with_reducible refine Below.drew ?_) | (with_reducible refine below_drewN ?_ _) | (with_reducible refine below_al ?_ _) | (with_reducible refine Below.alloc ?_ (by first | exact Nat.le_refl _ | omega | (simp; done) | (simp; omega)) _) | (with_reducible refine Below.setCell ?_ (by first | (simp only []; omega) | (simp; done) | (simp; omega)) _)))⟩
      · have h00 : 0 ≤ ac := by omega
        have h01 : ac < (ys.length : Int) := by omega
        have HNR := Aside0.mk hr
        obtain ⟨n, rfl⟩ := Int.eq_ofNat_of_zero_le h00
        clear hr h00
        obtain ⟨g, cap, hge, hg0, hgl, _⟩ := Kd.R_form HR.out (by omega)
        injection hge with e1 _ e3
        subst e1 e3
        obtain ⟨hcy, hfy⟩ := Kd.R_celln 0 HR.out (n : Int) (by omega) h01
        rw [Int.toNat_natCast] at hcy hfy
        obtain ⟨y, hy⟩ : ∃ y, y = rd ys n := ⟨_, rfl⟩
        replace hcy : wr.cell? ⟨g, n, none⟩ = some (.int .i64 y) := by rw [hy]; exact hcy
        have HY := Aside0.mk hy
        clear hy
        have hn : n < ys.length := by omega
        by_cases hcan : canB ⟨(n : Int), ak, ab', aa, aw⟩ = false
        · have HRES : Aside0 (rpl xs 0 l = ([], (k : Int), 101)) := ⟨by rw [HST.out, if_neg HNR.out, if_pos (.inl hcan)]⟩


          go_wp2
          have hbox : (wr.alloc (.cells #[.int .i64 n, .int .i64 ak, .int .i64 ab', .int .i64 aa, .bool aw] 28)).heap[wr.heap.size]? = some (.cells #[.int .i64 n, .int .i64 ak, .int .i64 ab', .int .i64 aa, .bool aw] 28 (0, 0)) := blk_new _ _
          have hWr : Below wr.heap.size wr (wr.alloc (.cells #[.int .i64 n, .int .i64 ak, .int .i64 ab', .int .i64 aa, .bool aw] 28)) := below_al (Below.refl _ _) _
          have hgw := (hWr.cell (p := ⟨g, n, none⟩) hgl).trans hcy
          have hfw := (hWr.frozen (p := ⟨g, n, none⟩) hgl).trans hfy
          generalize hWW : wr.alloc (.cells #[.int .i64 n, .int .i64 ak, .int .i64 ab', .int .i64 aa, .bool aw] 28) = W at *
          clear hWW
          have x0 := cell_blk hbox 0
          have x1 := cell_blk hbox 1
          have x2 := cell_blk hbox 2
          have x3 := cell_blk hbox 3
          have x4 := cell_blk hbox 4
          have hbl := lt_blk hbox
          have hgl' := Nat.lt_of_lt_of_le hgl hWr.size
          simp at x0 x1 x2 x3 x4
          refine wp_region_head 4 (by kernel_rfl) (by kernel_rfl) ?_
          simp only [List.take_succ_cons, List.take_zero, List.drop_succ_cons, List.drop_zero]
          go_wp2_with fail
          refine (can_ok ⟨n, ak, ab', aa, aw⟩ _).mono ?_
          rw [hcan]
          rintro e w3 ⟨rfl, hB3x⟩
          have hB3 : Below W.heap.size W w3 := below_then (Below.refl _ _).drew hB3x
          have hgw3 := (hB3.cell (p := ⟨g, n, none⟩) hgl').trans hgw
          have hfw3 := (hB3.frozen (p := ⟨g, n, none⟩) hgl').trans hfw
          have v0 := (hB3.cell (p := ⟨wr.heap.size, 0, none⟩) hbl).trans x0
          have v1 := (hB3.cell (p := ⟨wr.heap.size, 1, none⟩) hbl).trans x1
          have v2 := (hB3.cell (p := ⟨wr.heap.size, 2, none⟩) hbl).trans x2
          have v3 := (hB3.cell (p := ⟨wr.heap.size, 3, none⟩) hbl).trans x3
          have v4 := (hB3.cell (p := ⟨wr.heap.size, 4, none⟩) hbl).trans x4
          have hgw3x := hgw
          have hfw3x := hfw
          clear x0 x1 x2 x3 x4 hgw hfw h0 h1 h2 h3 h4 hcy hfy
          go_wp2
          go_rest_quiet
          have hB4 := below_drewN hB3 nq
          have hgw4 := (hB4.cell (p := ⟨g, n, none⟩) hgl').trans (hgw3x)
          have hfw4 := (hB4.frozen (p := ⟨g, n, none⟩) hgl').trans (hfw3x)
          go_wp2
          go_ret3
          rw [HRES.out]
          exact ⟨_, rfl, Kd.R_nil _ _ _ _ _, below_then (below_then HB.out hWr) hB4⟩
        · replace hcan : canB ⟨(n : Int), ak, ab', aa, aw⟩ = true := by simpa using hcan
          by_cases hby : ab' = y
          · subst hby
            cases aw with
            | true =>
              have HRES : Aside0 (rpl (ys.set n aa) (k + 1) (l.drop (k + 1)) = rpl xs 0 l) := ⟨by rw [HST.out, if_neg HNR.out, if_neg (by rw [hcan, ← HY.out]; simp), Int.toNat_natCast]⟩


              go_wp2
              have hbox : (wr.alloc (.cells #[.int .i64 n, .int .i64 ak, .int .i64 ab', .int .i64 aa, .bool true] 28)).heap[wr.heap.size]? = some (.cells #[.int .i64 n, .int .i64 ak, .int .i64 ab', .int .i64 aa, .bool true] 28 (0, 0)) := blk_new _ _
              have hWr : Below wr.heap.size wr (wr.alloc (.cells #[.int .i64 n, .int .i64 ak, .int .i64 ab', .int .i64 aa, .bool true] 28)) := below_al (Below.refl _ _) _
              have hgw := (hWr.cell (p := ⟨g, n, none⟩) hgl).trans hcy
              have hfw := (hWr.frozen (p := ⟨g, n, none⟩) hgl).trans hfy
              generalize hWW : wr.alloc (.cells #[.int .i64 n, .int .i64 ak, .int .i64 ab', .int .i64 aa, .bool true] 28) = W at *
              clear hWW
              have x0 := cell_blk hbox 0
              have x1 := cell_blk hbox 1
              have x2 := cell_blk hbox 2
              have x3 := cell_blk hbox 3
              have x4 := cell_blk hbox 4
              have hbl := lt_blk hbox
              have hgl' := Nat.lt_of_lt_of_le hgl hWr.size
              simp at x0 x1 x2 x3 x4
              refine wp_region_head 4 (by kernel_rfl) (by kernel_rfl) ?_
              simp only [List.take_succ_cons, List.take_zero, List.drop_succ_cons, List.drop_zero]
              go_wp2_with fail
              refine (can_ok ⟨n, ak, ab', aa, true⟩ _).mono ?_
              rw [hcan]
              rintro e w3 ⟨rfl, hB3x⟩
              have hB3 : Below W.heap.size W w3 := below_then (Below.refl _ _).drew hB3x
              have hgw3 := (hB3.cell (p := ⟨g, n, none⟩) hgl').trans hgw
              have hfw3 := (hB3.frozen (p := ⟨g, n, none⟩) hgl').trans hfw
              have v0 := (hB3.cell (p := ⟨wr.heap.size, 0, none⟩) hbl).trans x0
              have v1 := (hB3.cell (p := ⟨wr.heap.size, 1, none⟩) hbl).trans x1
              have v2 := (hB3.cell (p := ⟨wr.heap.size, 2, none⟩) hbl).trans x2
              have v3 := (hB3.cell (p := ⟨wr.heap.size, 3, none⟩) hbl).trans x3
              have v4 := (hB3.cell (p := ⟨wr.heap.size, 4, none⟩) hbl).trans x4
              have hgw3x := hgw
              have hfw3x := hfw
              clear x0 x1 x2 x3 x4 hgw hfw h0 h1 h2 h3 h4 hcy hfy
              go_wp2
              go_rest_quiet
              have hB4 := below_drewN hB3 nq
              have hgw4 := (hB4.cell (p := ⟨g, n, none⟩) hgl').trans (hgw3x)
              have hfw4 := (hB4.frozen (p := ⟨g, n, none⟩) hgl').trans (hfw3x)
              go_wp2
              go_roundw
              case rel =>
                have hR3 := Kd.R_below HR.out (below_then hWr hB4)
                have hp := Kd.R_putg hR3 (n : Int) aa
                rw [Int.toNat_natCast] at hp
                exact ⟨k + 1, ys.set n aa, by omega, by go_num, ⟨by rw [List.length_set]; exact HL.out⟩, HRES, ⟨(below_then (below_then HB.out hWr) hB4).setCell hg0 _⟩, ⟨hp.1⟩⟩
              case measure => simp [intOf]; omega
            | false =>
              by_cases hab2 : aa = ab'
              · subst hab2
                have HRES : Aside0 (rpl (ys.set n aa) (k + 1) (l.drop (k + 1)) = rpl xs 0 l) := ⟨by rw [HST.out, if_neg HNR.out, if_neg (by rw [hcan, ← HY.out]; simp), Int.toNat_natCast]⟩


                go_wp2
                have hbox : (wr.alloc (.cells #[.int .i64 n, .int .i64 ak, .int .i64 aa, .int .i64 aa, .bool false] 28)).heap[wr.heap.size]? = some (.cells #[.int .i64 n, .int .i64 ak, .int .i64 aa, .int .i64 aa, .bool false] 28 (0, 0)) := blk_new _ _
                have hWr : Below wr.heap.size wr (wr.alloc (.cells #[.int .i64 n, .int .i64 ak, .int .i64 aa, .int .i64 aa, .bool false] 28)) := below_al (Below.refl _ _) _
                have hgw := (hWr.cell (p := ⟨g, n, none⟩) hgl).trans hcy
                have hfw := (hWr.frozen (p := ⟨g, n, none⟩) hgl).trans hfy
                generalize hWW : wr.alloc (.cells #[.int .i64 n, .int .i64 ak, .int .i64 aa, .int .i64 aa, .bool false] 28) = W at *
                clear hWW
                have x0 := cell_blk hbox 0
                have x1 := cell_blk hbox 1
                have x2 := cell_blk hbox 2
                have x3 := cell_blk hbox 3
                have x4 := cell_blk hbox 4
                have hbl := lt_blk hbox
                have hgl' := Nat.lt_of_lt_of_le hgl hWr.size
                simp at x0 x1 x2 x3 x4
                refine wp_region_head 4 (by kernel_rfl) (by kernel_rfl) ?_
                simp only [List.take_succ_cons, List.take_zero, List.drop_succ_cons, List.drop_zero]
                go_wp2_with fail
                refine (can_ok ⟨n, ak, aa, aa, false⟩ _).mono ?_
                rw [hcan]
                rintro e w3 ⟨rfl, hB3x⟩
                have hB3 : Below W.heap.size W w3 := below_then (Below.refl _ _).drew hB3x
                have hgw3 := (hB3.cell (p := ⟨g, n, none⟩) hgl').trans hgw
                have hfw3 := (hB3.frozen (p := ⟨g, n, none⟩) hgl').trans hfw
                have v0 := (hB3.cell (p := ⟨wr.heap.size, 0, none⟩) hbl).trans x0
                have v1 := (hB3.cell (p := ⟨wr.heap.size, 1, none⟩) hbl).trans x1
                have v2 := (hB3.cell (p := ⟨wr.heap.size, 2, none⟩) hbl).trans x2
                have v3 := (hB3.cell (p := ⟨wr.heap.size, 3, none⟩) hbl).trans x3
                have v4 := (hB3.cell (p := ⟨wr.heap.size, 4, none⟩) hbl).trans x4
                have hgw3x := hgw
                have hfw3x := hfw
                clear x0 x1 x2 x3 x4 hgw hfw h0 h1 h2 h3 h4 hcy hfy
                go_wp2
                go_rest_quiet
                have hB4 := below_drewN hB3 nq
                have hgw4 := (hB4.cell (p := ⟨g, n, none⟩) hgl').trans (hgw3x)
                have hfw4 := (hB4.frozen (p := ⟨g, n, none⟩) hgl').trans (hfw3x)
                go_wp2
                go_roundw
                case rel =>
                  have hR3 := Kd.R_below HR.out (below_then hWr hB4)
                  have hp := Kd.R_putg hR3 (n : Int) aa
                  rw [Int.toNat_natCast] at hp
                  exact ⟨k + 1, ys.set n aa, by omega, by go_num, ⟨by rw [List.length_set]; exact HL.out⟩, HRES, ⟨(below_then (below_then HB.out hWr) hB4).setCell hg0 _⟩, ⟨hp.1⟩⟩
                case measure => simp [intOf]; omega
              · have hne : (aa != ab') = true := by simpa using hab2
                have HRES : Aside0 (rpl xs 0 l = ([], (k : Int), 101)) := ⟨by rw [HST.out, if_neg HNR.out, if_pos (.inr (.inr ⟨rfl, hab2⟩))]⟩
                clear hab2


                go_wp2
                have hbox : (wr.alloc (.cells #[.int .i64 n, .int .i64 ak, .int .i64 ab', .int .i64 aa, .bool false] 28)).heap[wr.heap.size]? = some (.cells #[.int .i64 n, .int .i64 ak, .int .i64 ab', .int .i64 aa, .bool false] 28 (0, 0)) := blk_new _ _
                have hWr : Below wr.heap.size wr (wr.alloc (.cells #[.int .i64 n, .int .i64 ak, .int .i64 ab', .int .i64 aa, .bool false] 28)) := below_al (Below.refl _ _) _
                have hgw := (hWr.cell (p := ⟨g, n, none⟩) hgl).trans hcy
                have hfw := (hWr.frozen (p := ⟨g, n, none⟩) hgl).trans hfy
                generalize hWW : wr.alloc (.cells #[.int .i64 n, .int .i64 ak, .int .i64 ab', .int .i64 aa, .bool false] 28) = W at *
                clear hWW
                have x0 := cell_blk hbox 0
                have x1 := cell_blk hbox 1
                have x2 := cell_blk hbox 2
                have x3 := cell_blk hbox 3
                have x4 := cell_blk hbox 4
                have hbl := lt_blk hbox
                have hgl' := Nat.lt_of_lt_of_le hgl hWr.size
                simp at x0 x1 x2 x3 x4
                refine wp_region_head 4 (by kernel_rfl) (by kernel_rfl) ?_
                simp only [List.take_succ_cons, List.take_zero, List.drop_succ_cons, List.drop_zero]
                go_wp2_with fail
                refine (can_ok ⟨n, ak, ab', aa, false⟩ _).mono ?_
                rw [hcan]
                rintro e w3 ⟨rfl, hB3x⟩
                have hB3 : Below W.heap.size W w3 := below_then (Below.refl _ _).drew hB3x
                have hgw3 := (hB3.cell (p := ⟨g, n, none⟩) hgl').trans hgw
                have hfw3 := (hB3.frozen (p := ⟨g, n, none⟩) hgl').trans hfw
                have v0 := (hB3.cell (p := ⟨wr.heap.size, 0, none⟩) hbl).trans x0
                have v1 := (hB3.cell (p := ⟨wr.heap.size, 1, none⟩) hbl).trans x1
                have v2 := (hB3.cell (p := ⟨wr.heap.size, 2, none⟩) hbl).trans x2
                have v3 := (hB3.cell (p := ⟨wr.heap.size, 3, none⟩) hbl).trans x3
                have v4 := (hB3.cell (p := ⟨wr.heap.size, 4, none⟩) hbl).trans x4
                have hgw3x := hgw
                have hfw3x := hfw
                clear x0 x1 x2 x3 x4 hgw hfw h0 h1 h2 h3 h4 hcy hfy
                go_wp2
                go_rest_quiet
                have hB4 := below_drewN hB3 nq
                have hgw4 := (hB4.cell (p := ⟨g, n, none⟩) hgl').trans (hgw3x)
                have hfw4 := (hB4.frozen (p := ⟨g, n, none⟩) hgl').trans (hfw3x)
                go_wp2
                go_ret3
                rw [HRES.out]
                exact ⟨_, rfl, Kd.R_nil _ _ _ _ _, below_then (below_then HB.out hWr) hB4⟩
          · have hne : (ab' != y) = true := by simpa using hby
            have HRES : Aside0 (rpl xs 0 l = ([], (k : Int), 101)) := ⟨by rw [HST.out, if_neg HNR.out, if_pos (.inr (.inl (by rw [← HY.out]; exact hby)))]⟩
            clear hby


            go_wp2
            have hbox : (wr.alloc (.cells #[.int .i64 n, .int .i64 ak, .int .i64 ab', .int .i64 aa, .bool aw] 28)).heap[wr.heap.size]? = some (.cells #[.int .i64 n, .int .i64 ak, .int .i64 ab', .int .i64 aa, .bool aw] 28 (0, 0)) := blk_new _ _
            have hWr : Below wr.heap.size wr (wr.alloc (.cells #[.int .i64 n, .int .i64 ak, .int .i64 ab', .int .i64 aa, .bool aw] 28)) := below_al (Below.refl _ _) _
            have hgw := (hWr.cell (p := ⟨g, n, none⟩) hgl).trans hcy
            have hfw := (hWr.frozen (p := ⟨g, n, none⟩) hgl).trans hfy
            generalize hWW : wr.alloc (.cells #[.int .i64 n, .int .i64 ak, .int .i64 ab', .int .i64 aa, .bool aw] 28) = W at *
            clear hWW
            have x0 := cell_blk hbox 0
            have x1 := cell_blk hbox 1
            have x2 := cell_blk hbox 2
            have x3 := cell_blk hbox 3
            have x4 := cell_blk hbox 4
            have hbl := lt_blk hbox
            have hgl' := Nat.lt_of_lt_of_le hgl hWr.size
            simp at x0 x1 x2 x3 x4
            refine wp_region_head 4 (by kernel_rfl) (by kernel_rfl) ?_
            simp only [List.take_succ_cons, List.take_zero, List.drop_succ_cons, List.drop_zero]
            go_wp2_with fail
            refine (can_ok ⟨n, ak, ab', aa, aw⟩ _).mono ?_
            rw [hcan]
            rintro e w3 ⟨rfl, hB3x⟩
            have hB3 : Below W.heap.size W w3 := below_then (Below.refl _ _).drew hB3x
            have hgw3 := (hB3.cell (p := ⟨g, n, none⟩) hgl').trans hgw
            have hfw3 := (hB3.frozen (p := ⟨g, n, none⟩) hgl').trans hfw
            have v0 := (hB3.cell (p := ⟨wr.heap.size, 0, none⟩) hbl).trans x0
            have v1 := (hB3.cell (p := ⟨wr.heap.size, 1, none⟩) hbl).trans x1
            have v2 := (hB3.cell (p := ⟨wr.heap.size, 2, none⟩) hbl).trans x2
            have v3 := (hB3.cell (p := ⟨wr.heap.size, 3, none⟩) hbl).trans x3
            have v4 := (hB3.cell (p := ⟨wr.heap.size, 4, none⟩) hbl).trans x4
            have hgw3x := hgw
            have hfw3x := hfw
            clear x0 x1 x2 x3 x4 hgw hfw h0 h1 h2 h3 h4 hcy hfy
            go_wp2
            go_rest_quiet
            have hB4 := below_drewN hB3 nq
            have hgw4 := (hB4.cell (p := ⟨g, n, none⟩) hgl').trans (hgw3x)
            have hfw4 := (hB4.frozen (p := ⟨g, n, none⟩) hgl').trans (hfw3x)
            go_wp2
            go_ret3
            rw [HRES.out]
            exact ⟨_, rfl, Kd.R_nil _ _ _ _ _, below_then (below_then HB.out hWr) hB4⟩
    · have hd : decide ((k : Int) < (l.length : Int)) = false := by simp; omega
      have he := HE.out
      rw [List.drop_eq_nil_of_le (by omega)] at he
      have H := Aside0.mk he.symm
      clear he hd
      go_wp2
      go_ret3
      rw [H.out]
      exact ⟨_, rfl, HR.out, HB.out⟩
end Go.Proofs.Ytkjfojbnghbkdaa
