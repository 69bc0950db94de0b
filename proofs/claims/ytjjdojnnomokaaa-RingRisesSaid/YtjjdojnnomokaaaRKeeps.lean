/- RingKeeps: what went in is what came out and what is still in, each as often. No condition. -/
import Derived.Test.YtjjdojnnomokaaaRPlayF
import Derived.Test.YtjjdojnnomokaaaRCount
import Derived.Deep.RegionHeld3
namespace Go.Proofs.Ytjjdojnnomokaaa
open Go.RowKit Go.ChangeShapes Go.WideShapes Go.ChangeAt Go.Proofs.YtjjdojnnomokaaaW.PrintWords Go.Proofs.YtjjdojnnomokaaaW.PrintMore Go.Proofs.YtjjdojnnomokaaaW.PrintLast
theorem eql_nil (b : Nat) (w : World) : (binOp .eql 33 (.pointer (some ⟨b, 0, none⟩)) (.pointer none)).run Try.prog w = .ok (.bool false) w := by kernel_rfl
/-- What is kept, with the law's own pair at g. -/
structure Kp (Z : Array Value) (w wr : World) (G g b0 b1 : Nat) (pc : Array Value) (a b : Rg) (v7 v8 : Value) (I O : List Wt) : Prop where
  pl : Pl Z w wr G b0 b1 pc a b v7 v8 I O wr.heap.size
  own : wr.heap[g]? = some (.cells pc 55 (0, 0))
  gm : b0 ≠ g
  go : b1 ≠ g
section
variable {Z : Array Value} {w wr w2 : World} {G g b0 b1 N : Nat} {pc : Array Value} {a b a' b' : Rg} {v7 v8 v1 : Value} {I O O' : List Wt}
theorem Kp.then (h : Kp Z w wr G g b0 b1 pc a b v7 v8 I O) (hB : Below wr.heap.size wr w2) : Kp Z w w2 G g b0 b1 pc a b v7 v8 I O :=
  ⟨(h.pl.then hB).bound, blk_below h.own hB, h.gm, h.go⟩
theorem Kp.ring0 (h : Kp Z w wr G g b0 b1 pc a b v7 v8 I O) (k : Keep (fun i => i = b0) wr w2) (hI : IsRing w2 b0 a') : Kp Z w w2 G g b0 b1 pc a' b v7 v8 I O :=
  ⟨(h.pl.ring k hI).bound, blk_keep h.own k (fun e => h.gm e.symm), h.gm, h.go⟩
theorem Kp.ring1 (h : Kp Z w wr G g b0 b1 pc a b v7 v8 I O) (k : Keep (fun i => i = b1) wr w2) (hI : IsRing w2 b1 b') : Kp Z w w2 G g b0 b1 pc a b' v7 v8 I O :=
  ⟨(h.pl.swap.ring k hI).swap.bound, blk_keep h.own k (fun e => h.go e.symm), h.gm, h.go⟩
theorem Kp.appOut (h : Kp Z w wr G g b0 b1 pc a b v7 v8 I O) (hg : wr.grownBy w2 v8.ownBlock) (hB : Below w.heap.size wr w2) (hat : v1.ownBlock = v8.ownBlock ∨ ∃ b, v1.ownBlock = some b ∧ wr.heap.size ≤ b)
    (h1 : kW.R 27 w2 w.heap.size (fun _ => True) v1 O') : Kp Z w w2 G g b0 b1 pc a b v7 v1 I O' :=
  ⟨h.pl.appOut hg hB hat h1, blk_grown h.own hg (Kd.R_ne h.pl.rout h.own (by decide)), h.gm, h.go⟩
end
theorem counted_len (n : Nat) {l : List Wt} (hn : l.length = n) (A : Option Addr) (c : Nat) (y : Wt) (w : World) (hC : kW.C w A l.length l) (hc : n ≤ c) (hl : l.length ≤ 4611686018427387) :
    Calls Try.prog 26 #[.slice A n c, (.agg #[.int .i64 y.s, .int .i64 y.g, .int .u64 y.t])] w fun e w' => e = .returned (.int .i64 (cnt l y)) ∧ Below w.heap.size w w' := by
  subst hn
  exact counted_any A c l y w hC hc hl
theorem lenR_drain (r : Rg) : lenR (drainR r) = 0 := by
  unfold drainR lenR
  cases h : r.has <;> simp [h]
set_option maxRecDepth 100000 in
set_option maxHeartbeats 16000000 in
theorem RingKeeps0.walk (w : World) (A : Option Addr) (c : Nat) (ops : List (Int × Wt)) (hC : kOp.C w A ops.length ops) (hc : ops.length ≤ c) (hl : ops.length * 32 ≤ reachBytes) :
    Calls Try.prog 5 #[.slice A ops.length c] w fun e w' => e = .returned (.bool true) ∧ Below w.heap.size w w' := by
  have hops : ops.length ≤ 4398046511104 := by unfold reachBytes at hl; omega
  have hq := eql_nil
  go_enter Try.func5, Try.ntmps5
  go_wp2_with fail
  refine (played_any A c ops w hC hc hl).mono ?_
  rintro e w1 ⟨Z, G, b0, b1, n, a, b, v7, v8, I, O, rfl, hP, hI⟩
  have HI := Aside0.mk hI
  have hA1 : Below w1.heap.size w1 (w1.alloc (.cells #[.pointer (some ⟨b0, 0, none⟩), .pointer (some ⟨b1, 0, none⟩), .slice none 0 0, .bool false, .int .i64 0, .int .i64 0, .int .u64 0, .slice none 0 0, .bool false, .int .i64 0, .int .i64 0, .int .u64 0, .int .i64 n] 55)) := below_al (Below.refl _ _) _
  have hG1 : (w1.alloc (.cells #[.pointer (some ⟨b0, 0, none⟩), .pointer (some ⟨b1, 0, none⟩), .slice none 0 0, .bool false, .int .i64 0, .int .i64 0, .int .u64 0, .slice none 0 0, .bool false, .int .i64 0, .int .i64 0, .int .u64 0, .int .i64 n] 55)).heap[w1.heap.size]? = some (.cells #[.pointer (some ⟨b0, 0, none⟩), .pointer (some ⟨b1, 0, none⟩), .slice none 0 0, .bool false, .int .i64 0, .int .i64 0, .int .u64 0, .slice none 0 0, .bool false, .int .i64 0, .int .i64 0, .int .u64 0, .int .i64 n] 55 (0, 0)) := blk_new _ _
  have hb0 := hP.m.lt
  have hb1 := hP.o.lt
  have hK0 : Kp Z w (w1.alloc (.cells #[.pointer (some ⟨b0, 0, none⟩), .pointer (some ⟨b1, 0, none⟩), .slice none 0 0, .bool false, .int .i64 0, .int .i64 0, .int .u64 0, .slice none 0 0, .bool false, .int .i64 0, .int .i64 0, .int .u64 0, .int .i64 n] 55)) G w1.heap.size b0 b1 #[.pointer (some ⟨b0, 0, none⟩), .pointer (some ⟨b1, 0, none⟩), .slice none 0 0, .bool false, .int .i64 0, .int .i64 0, .int .u64 0, .slice none 0 0, .bool false, .int .i64 0, .int .i64 0, .int .u64 0, .int .i64 n] a b v7 v8 I O := ⟨(hP.then hA1).bound, hG1, by omega, by omega⟩
  clear hP hA1 hC hc hl hI hb0 hb1
  obtain ⟨g, hg⟩ : ∃ g, g = w1.heap.size := ⟨_, rfl⟩
  rw [← hg] at hK0 hG1
  have q0 := hq b0
  have q1 := hq b1
  clear hq
  have HK0 := Aside0.mk hK0
  have c0 : (w1.alloc (.cells #[.pointer (some ⟨b0, 0, none⟩), .pointer (some ⟨b1, 0, none⟩), .slice none 0 0, .bool false, .int .i64 0, .int .i64 0, .int .u64 0, .slice none 0 0, .bool false, .int .i64 0, .int .i64 0, .int .u64 0, .int .i64 n] 55)).cell? ⟨g, 0, none⟩ = some (.pointer (some ⟨b0, 0, none⟩)) := cell_blk hG1 0; have c1 : (w1.alloc (.cells #[.pointer (some ⟨b0, 0, none⟩), .pointer (some ⟨b1, 0, none⟩), .slice none 0 0, .bool false, .int .i64 0, .int .i64 0, .int .u64 0, .slice none 0 0, .bool false, .int .i64 0, .int .i64 0, .int .u64 0, .int .i64 n] 55)).cell? ⟨g, 1, none⟩ = some (.pointer (some ⟨b1, 0, none⟩)) := cell_blk hG1 1; have c2 : (w1.alloc (.cells #[.pointer (some ⟨b0, 0, none⟩), .pointer (some ⟨b1, 0, none⟩), .slice none 0 0, .bool false, .int .i64 0, .int .i64 0, .int .u64 0, .slice none 0 0, .bool false, .int .i64 0, .int .i64 0, .int .u64 0, .int .i64 n] 55)).cell? ⟨g, 2, none⟩ = some (.slice none 0 0) := cell_blk hG1 2; have c3 : (w1.alloc (.cells #[.pointer (some ⟨b0, 0, none⟩), .pointer (some ⟨b1, 0, none⟩), .slice none 0 0, .bool false, .int .i64 0, .int .i64 0, .int .u64 0, .slice none 0 0, .bool false, .int .i64 0, .int .i64 0, .int .u64 0, .int .i64 n] 55)).cell? ⟨g, 3, none⟩ = some (.bool false) := cell_blk hG1 3; have c4 : (w1.alloc (.cells #[.pointer (some ⟨b0, 0, none⟩), .pointer (some ⟨b1, 0, none⟩), .slice none 0 0, .bool false, .int .i64 0, .int .i64 0, .int .u64 0, .slice none 0 0, .bool false, .int .i64 0, .int .i64 0, .int .u64 0, .int .i64 n] 55)).cell? ⟨g, 4, none⟩ = some (.int .i64 0) := cell_blk hG1 4; have c5 : (w1.alloc (.cells #[.pointer (some ⟨b0, 0, none⟩), .pointer (some ⟨b1, 0, none⟩), .slice none 0 0, .bool false, .int .i64 0, .int .i64 0, .int .u64 0, .slice none 0 0, .bool false, .int .i64 0, .int .i64 0, .int .u64 0, .int .i64 n] 55)).cell? ⟨g, 5, none⟩ = some (.int .i64 0) := cell_blk hG1 5; have c6 : (w1.alloc (.cells #[.pointer (some ⟨b0, 0, none⟩), .pointer (some ⟨b1, 0, none⟩), .slice none 0 0, .bool false, .int .i64 0, .int .i64 0, .int .u64 0, .slice none 0 0, .bool false, .int .i64 0, .int .i64 0, .int .u64 0, .int .i64 n] 55)).cell? ⟨g, 6, none⟩ = some (.int .u64 0) := cell_blk hG1 6; have c7 : (w1.alloc (.cells #[.pointer (some ⟨b0, 0, none⟩), .pointer (some ⟨b1, 0, none⟩), .slice none 0 0, .bool false, .int .i64 0, .int .i64 0, .int .u64 0, .slice none 0 0, .bool false, .int .i64 0, .int .i64 0, .int .u64 0, .int .i64 n] 55)).cell? ⟨g, 7, none⟩ = some (.slice none 0 0) := cell_blk hG1 7; have c8 : (w1.alloc (.cells #[.pointer (some ⟨b0, 0, none⟩), .pointer (some ⟨b1, 0, none⟩), .slice none 0 0, .bool false, .int .i64 0, .int .i64 0, .int .u64 0, .slice none 0 0, .bool false, .int .i64 0, .int .i64 0, .int .u64 0, .int .i64 n] 55)).cell? ⟨g, 8, none⟩ = some (.bool false) := cell_blk hG1 8; have c9 : (w1.alloc (.cells #[.pointer (some ⟨b0, 0, none⟩), .pointer (some ⟨b1, 0, none⟩), .slice none 0 0, .bool false, .int .i64 0, .int .i64 0, .int .u64 0, .slice none 0 0, .bool false, .int .i64 0, .int .i64 0, .int .u64 0, .int .i64 n] 55)).cell? ⟨g, 9, none⟩ = some (.int .i64 0) := cell_blk hG1 9; have c10 : (w1.alloc (.cells #[.pointer (some ⟨b0, 0, none⟩), .pointer (some ⟨b1, 0, none⟩), .slice none 0 0, .bool false, .int .i64 0, .int .i64 0, .int .u64 0, .slice none 0 0, .bool false, .int .i64 0, .int .i64 0, .int .u64 0, .int .i64 n] 55)).cell? ⟨g, 10, none⟩ = some (.int .i64 0) := cell_blk hG1 10; have c11 : (w1.alloc (.cells #[.pointer (some ⟨b0, 0, none⟩), .pointer (some ⟨b1, 0, none⟩), .slice none 0 0, .bool false, .int .i64 0, .int .i64 0, .int .u64 0, .slice none 0 0, .bool false, .int .i64 0, .int .i64 0, .int .u64 0, .int .i64 n] 55)).cell? ⟨g, 11, none⟩ = some (.int .u64 0) := cell_blk hG1 11; have c12 : (w1.alloc (.cells #[.pointer (some ⟨b0, 0, none⟩), .pointer (some ⟨b1, 0, none⟩), .slice none 0 0, .bool false, .int .i64 0, .int .i64 0, .int .u64 0, .slice none 0 0, .bool false, .int .i64 0, .int .i64 0, .int .u64 0, .int .i64 n] 55)).cell? ⟨g, 12, none⟩ = some (.int .i64 n) := cell_blk hG1 12
  have hgl := lt_blk hG1
  clear hK0
  go_wp2
  rw [← hg]
  clear hG1 c0 c1 c2 c3 c4 c5 c6 c7 c8 c9 c10 c11 c12 hg q0 q1 hgl
  generalize w1.alloc (.cells #[.pointer (some ⟨b0, 0, none⟩), .pointer (some ⟨b1, 0, none⟩), .slice none 0 0, .bool false, .int .i64 0, .int .i64 0, .int .u64 0, .slice none 0 0, .bool false, .int .i64 0, .int .i64 0, .int .u64 0, .int .i64 n] 55) = W at *
  have hlen : O.length + ((drainOut a).length + (drainOut b).length) ≤ ops.length := by
    have h1 := HI.out.perm.length_eq
    have h2 := HI.out.len
    simp only [List.length_append] at h1
    omega
  go_loopw [5, 6] (fun v i wr => ∃ (k : Nat) (ra rb : Rg) (L : List Wt), k ≤ 2 ∧ i = .int .i64 k ∧ Aside0 (Kp Z w wr G g b0 b1 #[.pointer (some ⟨b0, 0, none⟩), .pointer (some ⟨b1, 0, none⟩), .slice none 0 0, .bool false, .int .i64 0, .int .i64 0, .int .u64 0, .slice none 0 0, .bool false, .int .i64 0, .int .i64 0, .int .u64 0, .int .i64 n] ra rb v7 v I L) ∧ Aside0 ((k = 0 ∧ a = ra ∧ b = rb ∧ O = L) ∨ (k = 1 ∧ drainR a = ra ∧ b = rb ∧ O ++ drainOut a = L) ∨ (k = 2 ∧ drainR a = ra ∧ drainR b = rb ∧ O ++ drainOut a ++ drainOut b = L))) (fun _ i _ => 2 - (intOf i).toNat)
  case atStart => exact ⟨0, a, b, O, by omega, rfl, HK0, ⟨.inl ⟨rfl, rfl, rfl, rfl⟩⟩⟩
  case round =>
    clear HK0
    obtain ⟨k, ra, rb, L, hk, rfl, HK, HD⟩ := hrel
    have y0 := cell_blk HK.out.own 0
    have y1 := cell_blk HK.out.own 1
    have hgl := lt_blk HK.out.own
    simp at y0 y1
    rcases HD.out with ⟨rfl, rfl, rfl, rfl⟩ | ⟨rfl, rfl, rfl, rfl⟩ | ⟨rfl, rfl, rfl, rfl⟩
    · go_wp2_with fail
      refine (drain_any b0 a wr HK.out.pl.m).mono ?_
      rintro e w2 ⟨v, rfl, hv, hI2, hK2⟩
      obtain ⟨A2, c2, rfl, -, hC2⟩ := Kd.R_reads hv
      have hk2 := HK.out.ring0 hK2 hI2
      have hs2 := hk2.pl.below.size
      have HK2 := Aside0.mk hk2
      have HC2 := Aside0.mk hC2
      clear hv hI2 hK2 hC2 hk2 HK y0 y1
      go_wp2_with (first | ((with_reducible refine gate_builtin (b := .append) (xs := #[.tmp 28, .tmp 33]) rfl ?_); at_builtin; refine Kd.R_append_rows kW (Rr := kW.K w2) (w0 := w2) w.heap.size rfl (.tmp 28) (.tmp 33) 22 27 (.agg #[.int .i64 0, .int .i64 0, .int .u64 0]) 24 rfl Try.underlying22 infoW rfl (by decide) (by omega) u5 O (drainOut a) A2 _ c2 (fun _ => True) (fun _ => False) rfl rfl ?aO ?aR (fun x cs h => kW_KM x cs h) (fun _ h => h.elim) ?aF ?aB ?aS ?aL ?_; (case aO => exact (Kd.R_mono HK2.out.pl.rout (fun _ _ => trivial))); (case aR => exact HC2.out); (case aF => exact fun _ _ => trivial); (case aB => exact Below.refl _ _); (case aS => first | assumption | omega); (case aL => first | omega | (simp; omega)); intro v1 w5 ho5 hb5 hg hat; have HK3 := Aside0.mk (HK2.out.appOut hg hb5 hat ho5)))
      go_roundw
      case rel => exact ⟨1, drainR a, b, (O ++ drainOut a), by omega, by go_num, ⟨HK3.out⟩, ⟨.inr (.inl ⟨rfl, rfl, rfl, rfl⟩)⟩⟩
      case measure => simp [intOf]
    · go_wp2_with fail
      refine (drain_any b1 b wr HK.out.pl.o).mono ?_
      rintro e w2 ⟨v, rfl, hv, hI2, hK2⟩
      obtain ⟨A2, c2, rfl, -, hC2⟩ := Kd.R_reads hv
      have hk2 := HK.out.ring1 hK2 hI2
      have hs2 := hk2.pl.below.size
      have HK2 := Aside0.mk hk2
      have HC2 := Aside0.mk hC2
      clear hv hI2 hK2 hC2 hk2 HK y0 y1
      go_wp2_with (first | ((with_reducible refine gate_builtin (b := .append) (xs := #[.tmp 28, .tmp 33]) rfl ?_); at_builtin; refine Kd.R_append_rows kW (Rr := kW.K w2) (w0 := w2) w.heap.size rfl (.tmp 28) (.tmp 33) 22 27 (.agg #[.int .i64 0, .int .i64 0, .int .u64 0]) 24 rfl Try.underlying22 infoW rfl (by decide) (by omega) u5 (O ++ drainOut a) (drainOut b) A2 _ c2 (fun _ => True) (fun _ => False) rfl rfl ?aO ?aR (fun x cs h => kW_KM x cs h) (fun _ h => h.elim) ?aF ?aB ?aS ?aL ?_; (case aO => exact (Kd.R_mono HK2.out.pl.rout (fun _ _ => trivial))); (case aR => exact HC2.out); (case aF => exact fun _ _ => trivial); (case aB => exact Below.refl _ _); (case aS => first | assumption | omega); (case aL => first | omega | (simp; omega)); intro v1 w5 ho5 hb5 hg hat; have HK3 := Aside0.mk (HK2.out.appOut hg hb5 hat ho5)))
      go_roundw
      case rel => exact ⟨2, drainR a, drainR b, (O ++ drainOut a ++ drainOut b), by omega, by go_num, ⟨HK3.out⟩, ⟨.inr (.inr ⟨rfl, rfl, rfl, rfl⟩)⟩⟩
      case measure => simp [intOf]
    · have hpm : (O ++ drainOut a ++ drainOut b).Perm I := by
        rw [List.append_assoc]
        exact HI.out.perm
      generalize O ++ drainOut a ++ drainOut b = L at *
      have hLI := hpm.length_eq
      have hIl := HI.out.len
      have HPM := Aside0.mk hpm
      clear hpm y0 y1 hlen HI
      obtain ⟨A7, c7, rfl, hc7, hC7⟩ := Kd.R_reads HK.out.pl.rin
      obtain ⟨A8, c8, e8, hc8, hC8⟩ := Kd.R_reads HK.out.pl.rout
      subst e8
      clear hC7 hC8
      go_wp2
      go_loopw [7] (fun i wr => ∃ (k : Nat), k ≤ I.length ∧ i = .int .i64 k ∧ Aside0 (Kp Z w wr G g b0 b1 #[.pointer (some ⟨b0, 0, none⟩), .pointer (some ⟨b1, 0, none⟩), .slice none 0 0, .bool false, .int .i64 0, .int .i64 0, .int .u64 0, .slice none 0 0, .bool false, .int .i64 0, .int .i64 0, .int .u64 0, .int .i64 n] (drainR a) (drainR b) (.slice A7 I.length c7) (.slice A8 L.length c8) I L)) (fun i _ => I.length - (intOf i).toNat)
      case atStart => exact ⟨0, by omega, rfl, HK⟩
      case round =>
        clear HK
        obtain ⟨k, hk, rfl, HK⟩ := hrel
        by_cases hlt : k < I.length
        · have hC7 := (Kd.R_reads' HK.out.pl.rin).2.2
          have hC8 := (Kd.R_reads' HK.out.pl.rout).2.2
          obtain ⟨ab, off, rfl, hab⟩ := C_form hC7 (by omega) (by decide)
          obtain ⟨x, hx, c0, c1, c2⟩ := wt_at hC7 k hlt
          have HC7 := Aside0.mk hC7
          have HC8 := Aside0.mk hC8
          have hcn : cnt L x = cnt I x := cnt_perm HPM.out x
          have HCN := Aside0.mk hcn
          have hI9 : I.length ≤ 4611686018427387 := by omega
          have hL9 : L.length ≤ 4611686018427387 := by omega
          have i0 : (0 : Int) ≤ (k : Int) := by omega
          have i1 : (k : Int) < (I.length : Int) := by omega
          have hc8n : I.length ≤ c8 := by omega
          clear hx hC7 hC8 hcn
          go_wp2
          go_region_held3 (fun w' => w'.cell? ⟨ab, off + k * 3, none⟩ = some (.int .i64 x.s) ∧ w'.cell? ⟨ab, off + k * 3 + 1, none⟩ = some (.int .i64 x.g) ∧ w'.cell? ⟨ab, off + k * 3 + 2, none⟩ = some (.int .u64 x.t)) (first | (with_reducible exact ⟨(hBa.cell (p := ⟨ab, off + k * 3, none⟩) hab).trans c0, (hBa.cell (p := ⟨ab, off + k * 3 + 1, none⟩) hab).trans c1, (hBa.cell (p := ⟨ab, off + k * 3 + 2, none⟩) hab).trans c2⟩) | (with_reducible exact ⟨(hBb.cell (p := ⟨ab, off + k * 3, none⟩) hab).trans c0, (hBb.cell (p := ⟨ab, off + k * 3 + 1, none⟩) hab).trans c1, (hBb.cell (p := ⟨ab, off + k * 3 + 2, none⟩) hab).trans c2⟩) | (with_reducible exact ⟨c0, c1, c2⟩) | go_keep) (first | (go_at_call 26; (with_reducible refine (counted_any (some ⟨ab, off, none⟩) c7 I x wr.drew (Kd.C_below HC7.out (Below.refl _ _).drew) hc7 hI9).mono ?_); rintro e wa ⟨rfl, hBx⟩; have hBa : Below wr.heap.size wr wa := below_then (Below.refl _ _).drew hBx) | (go_at_call 26; (with_reducible refine (counted_len I.length hLI A8 c8 x wa (Kd.C_below HC8.out hBa) hc8n hL9).mono ?_); rw [HCN.out]; rintro e wb ⟨rfl, hBy⟩; have hBb : Below wr.heap.size wr wb := below_then hBa hBy))
          clear c0 c1 c2
          go_wp2
          go_roundw
          case rel => exact ⟨k + 1, by omega, by go_num, ⟨HK.out.then hBb⟩⟩
          case measure => simp [intOf]; omega
        · obtain rfl : k = I.length := by omega
          have y0 := cell_blk HK.out.own 0
          have y1 := cell_blk HK.out.own 1
          have hgl := lt_blk HK.out.own
          simp at y0 y1
          go_wp2_with fail
          refine (len_any b0 _ _ HK.out.pl.m).mono ?_
          rw [lenR_drain]
          rintro e w2 ⟨rfl, rfl⟩
          go_wp2_with fail
          refine (len_any b1 _ _ HK.out.pl.o).mono ?_
          rw [lenR_drain]
          rintro e w2 ⟨rfl, rfl⟩
          go_wp2_with fail
          refine (awake_any _).mono ?_
          rintro e w2 ⟨rfl, hB2⟩
          have hBf := below_then HK.out.pl.below hB2
          go_wp2
          go_ret
          exact ⟨rfl, hBf⟩
theorem ringKeeps.walk (w : World) (A : Option Addr) (c : Nat) (ops : List (Int × Wt)) (hc : ops.length ≤ c) (hC : kOp.C w A ops.length ops) (hG : ops.length * Try.prog.bytesOf 65 ≤ reachBytes ∧ ops.length ≤ 9223372036854775807 ∧ ∀ x ∈ ops, True) :
    Calls Try.prog 5 #[.slice A ops.length c] w fun e w' => e = .returned (.bool true) ∧ Below w.heap.size w w' := by
  have h32 : Try.prog.bytesOf 65 = 32 := by kernel_rfl
  rw [h32] at hG
  exact RingKeeps0.walk w A c ops hC hc hG.1
theorem ringKeeps.own : ownKnob Try.prog.godebug = none := by kernel_rfl
theorem ringKeeps.laidOut : laidOutB Try.prog = true := by kernel_rfl
set_option maxRecDepth 100000 in
set_option maxHeartbeats 1000000 in
theorem ringKeeps.lifted (os : Os) (started : os.Started) (H : Type) (enc : TypeId × Value → H)
    : ReturnsInHanded {} Try.checked os 5 .any (Rows.ringKeepsSpec.pre6 enc Try.prog Try.f5 Rows.ringKeepsRow.domain false) (Rows.ringKeepsSpec.post enc Try.prog Try.f5 false true false false) := by
  refine returnsInHanded_of_change_sized (C := Try.checked) ringKeeps.own started (by kernel_rfl) Try.func5
    (ChangeSpec.witness6 (enc := enc) (C := Try.checked) false ⟨#[], #[.slice none 0 0], []⟩ 8 (by kernel_rfl) (by kernel_rfl) (by kernel_rfl) (by kernel_rfl)) ?_
  intro W base args ds gs before hval0 hW hcnd hsz0 _
  have hsz : (DataW.weightsEach Try.prog (Try.f5.params.toList ++ Rows.ringKeepsSpec.plain.varTypes Try.prog) (ds ++ gs)).all (· ≤ reachBytes) = true := hsz0
  have hval : ∀ (j : Nat) t v, Try.f5.params[j]? = some t → args[j]? = some v → Value.okWide Try.prog W .any base t v := hval0
  have hW' := hW
  obtain ⟨p, q, hA0, hV, rfl, hfz, hnd⟩ := hW
  have hA : DataW.TrodAll enc Try.prog W 0 (fun _ => true) true Try.f5.params.toList args.toList ds p := hA0
  rw [Try.params5] at hA hval hsz
  obtain ⟨v0, vs0, d0, ds0, p0, q0, hargs, rfl, rfl, h0, r0⟩ := trodAll_cons hA
  obtain ⟨rfl, rfl, rfl⟩ := trodAll_nil r0
  obtain rfl : args = #[v0] := by cases args; simp_all
  obtain ⟨rfl, rfl⟩ := trodVars_none hV
  have k0 := h0
  have lt0 : ∀ x ∈ p0, x.block < W.heap.size := by obtain ⟨m, hm⟩ := k0; exact DataW.trod_lt m _ _ _ hm
  have W0 := Op.weights_of hsz (j := 0) (t := 51) (d := d0) rfl rfl
  obtain ⟨A0, len0, cap0, rfl⟩ := okWide_slice Try.underlying51 (hval 0 51 v0 rfl rfl)
  obtain ⟨f0, hf0⟩ := h0
  obtain ⟨a0, hK0, hG0, hM0⟩ := Op.opens_slice Try.underlying51 (by kernel_rfl) opensOp H enc W _ true f0 _ (d0, p0) hf0 W0
  obtain ⟨A', c', he0, hc0, hC0⟩ := hK0
  obtain ⟨rfl, rfl, rfl⟩ : A0 = A' ∧ len0 = a0.length ∧ cap0 = c' := by simpa [Value.cells] using he0
  clear hA0 hval0 hsz0 hsz
  refine (ringKeeps.walk W A0 cap0 a0 hc0 hC0 hG0).mono fun e W' ⟨he, bel⟩ => ?_
  subst he
  exact ⟨_, rfl, _, _, _, [], _, [], hW', trodAll_mk1 (shut_bool Try.underlying4 _), (trodAll_cons_mk (Below.trod ringKeeps.laidOut (by kernel_rfl) (of_decide_eq_true (by kernel_rfl)) k0 bel lt0) trodAll_mk0), rfl, bel.frame _, fun h => by cases h⟩
theorem ringKeeps_holds : Rows.RingKeepsSaid :=
  OpenClaim.holds_of_wide 5 Try.f5 rfl rfl rfl rfl rfl rfl rfl ⟨rfl, rfl, rfl, rfl, rfl⟩ rfl rfl rfl rfl rfl (by kernel_rfl) Try.func5 (by kernel_rfl)
    (of_decide_eq_true (by kernel_rfl)) (by unfold Func.isWrapper; first | (rw [if_pos (by decide +kernel)]; kernel_rfl) | (rw [if_neg (by decide +kernel)]; exact ⟨rfl, rfl⟩))
    (fun os started H enc _ => ringKeeps.lifted os started H enc)
#print axioms ringKeeps_holds

end Go.Proofs.Ytjjdojnnomokaaa
