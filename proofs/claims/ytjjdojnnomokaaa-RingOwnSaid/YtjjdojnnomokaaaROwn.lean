/- RingOwn: the rings take no memory of the caller, and give none of their own. No condition. -/
import Derived.Test.YtjjdojnnomokaaaROw
import Derived.Deep.DrawnRows
import Derived.Deep.DeepCutAuto
set_option linter.unusedSimpArgs false
set_option linter.unusedVariables false
namespace Go.Proofs.Ytjjdojnnomokaaa
open Go.RowKit Go.ChangeShapes Go.WideShapes Go.ChangeAt Go.Proofs.YtjjdojnnomokaaaW.PrintWords Go.Proofs.YtjjdojnnomokaaaW.PrintMore Go.Proofs.YtjjdojnnomokaaaW.PrintLast
open List (setIfInBounds_toArray set_cons_zero set_cons_succ)
set_option maxRecDepth 100000 in
set_option maxHeartbeats 16000000 in
theorem RingOwn0.walk (w : World) (A : Option Addr) (c : Nat) (l : List Wt) (has : Bool) (nx : Wt) (hC0 : kW.C w A l.length l) (hc0 : l.length ≤ c) (hl0 : l.length ≤ 9223372036854775807) (B : Option Addr) (cb : Nat) (ops : List (Int × Wt)) (hC : kOp.C w B ops.length ops) (hc : ops.length ≤ cb) (hl : ops.length * 32 ≤ reachBytes) :
    Calls Try.prog 11 #[.agg #[.slice A l.length c, .bool has, .int .i64 nx.s, .int .i64 nx.g, .int .u64 nx.t], .slice B ops.length cb] w fun e w' => e = .returned (.bool true) ∧ Below w.heap.size w w' := by
  have hops : ops.length ≤ 4398046511104 := by unfold reachBytes at hl; omega
  have HC := Aside0.mk hC
  have HC0 := Aside0.mk hC0
  have hW : Below w.heap.size w (w.alloc (.cells #[.slice A l.length c, .bool has, .int .i64 nx.s, .int .i64 nx.g, .int .u64 nx.t] 29)) := (by repeat (first | (with_reducible exact Below.refl _ _) | (with_reducible refine Below.drew ?_) | (with_reducible refine below_drewN ?_ _) | (with_reducible refine below_al ?_ _) | (with_reducible refine Below.alloc ?_ (by first | exact Nat.le_refl _ | omega | (simp; done) | (simp; omega)) _) | (with_reducible refine Below.setCell ?_ (by first | (simp only []; omega) | (simp; done) | (simp; omega)) _)))
  have hS : Aside0 ((w.alloc (.cells #[.slice A l.length c, .bool has, .int .i64 nx.s, .int .i64 nx.g, .int .u64 nx.t] 29)).heap[w.heap.size]? = some (.cells #[.slice A l.length c, .bool has, .int .i64 nx.s, .int .i64 nx.g, .int .u64 nx.t] 29 (0, 0))) := ⟨blk_new _ _⟩
  have HW := Aside0.mk hW
  have HCW := Aside0.mk (Kd.C_below hC0 hW)
  clear hC hC0 hl hW
  go_enter Try.func11, Try.ntmps11
  go_wp2_with fail
  generalize (w.alloc (.cells #[.slice A l.length c, .bool has, .int .i64 nx.s, .int .i64 nx.g, .int .u64 nx.t] 29)) = W at *
  by_cases hE : loadE l has nx = 0
  · have hG := good_load hE
    have hLr : loadR l has nx = ⟨l, has, if has then nx else Wt.zero⟩ := rfl
    have hrl := rload_good A c l has nx W HCW.out hc0 hE
    have HLR := Aside0.mk hLr
    generalize hnz : (if has then nx else Wt.zero) = nz at *
    have HG := Aside0.mk hG
    have HE := Aside0.mk hE
    have hll := hG.1
    clear hnz hG hE hLr
    refine hrl.mono ?_
    clear hrl
    rintro e w2 ⟨A', c', rfl, hc', hR2, hB2⟩
    have hA2 : Below w2.heap.size w2 (w2.alloc (.cells #[.slice A' l.length c', .bool has, .int .i64 nz.s, .int .i64 nz.g, .int .u64 nz.t] 29)) := below_al (Below.refl _ _) _
    have HT2 : Aside0 ((w2.alloc (.cells #[.slice A' l.length c', .bool has, .int .i64 nz.s, .int .i64 nz.g, .int .u64 nz.t] 29)).heap[w2.heap.size]? = some (.cells #[.slice A' l.length c', .bool has, .int .i64 nz.s, .int .i64 nz.g, .int .u64 nz.t] 29 (0, 0))) := ⟨blk_new _ _⟩
    have HB2 := Aside0.mk (below_then hB2 hA2)
    have HR2 := Aside0.mk (Kd.R_lower (Kd.R_below (Kd.R_mono (Kd.R_bound hR2) (fun k ho => (ho.2.2.1 : k < w2.heap.size))) hA2) HW.out.size)
    have hS2 := blk_below hS.out (below_then hB2 hA2)
    obtain ⟨s0, s1, s2, s3, s4, -, -, -, -, -⟩ := blk5 hS2
    have hSl := lt_blk hS2
    have HS2 := Aside0.mk hS2
    clear hR2 hB2 hA2 hS2
    have HIB : Aside0 (((w2.alloc (.cells #[.slice A' l.length c', .bool has, .int .i64 nz.s, .int .i64 nz.g, .int .u64 nz.t] 29)).alloc (.cells #[.slice none 0 0, .bool has, .int .i64 nx.s, .int .i64 nx.g, .int .u64 nx.t] 29)).heap[(w2.alloc (.cells #[.slice A' l.length c', .bool has, .int .i64 nz.s, .int .i64 nz.g, .int .u64 nz.t] 29)).heap.size]? = some (.cells #[.slice none 0 0, .bool has, .int .i64 nx.s, .int .i64 nx.g, .int .u64 nx.t] 29 (0, 0))) := ⟨blk_new _ _⟩
    have hB3 : Below (w2.alloc (.cells #[.slice A' l.length c', .bool has, .int .i64 nz.s, .int .i64 nz.g, .int .u64 nz.t] 29)).heap.size (w2.alloc (.cells #[.slice A' l.length c', .bool has, .int .i64 nz.s, .int .i64 nz.g, .int .u64 nz.t] 29)) ((w2.alloc (.cells #[.slice A' l.length c', .bool has, .int .i64 nz.s, .int .i64 nz.g, .int .u64 nz.t] 29)).alloc (.cells #[.slice none 0 0, .bool has, .int .i64 nx.s, .int .i64 nx.g, .int .u64 nx.t] 29)) := below_al (Below.refl _ _) _
    have HC3 := Aside0.mk (Kd.C_below HCW.out (below_then HB2.out hB3))
    have HB3 := Aside0.mk hB3
    have t0 := cell_blk (blk_below HS2.out hB3) 0
    simp only [List.getElem?_toArray, List.getElem?_cons_zero] at t0
    clear hB3
    have hz2 : (w2.alloc (.cells #[.slice A' l.length c', .bool has, .int .i64 nz.s, .int .i64 nz.g, .int .u64 nz.t] 29)).heap.size = w2.heap.size + 1 := by simp
    have HIB2 := HIB.out
    rw [hz2] at HIB2
    have HIB := Aside0.mk HIB2
    clear HIB2
    go_wp2_with ((with_reducible refine gate_builtin (b := .append) (xs := #[.tmp 33, .tmp 35]) rfl ?_); at_builtin; refine Kd.R_append_rows kW (Rr := kW.K ((w2.alloc (.cells #[.slice A' l.length c', .bool has, .int .i64 nz.s, .int .i64 nz.g, .int .u64 nz.t] 29)).alloc (.cells #[.slice none 0 0, .bool has, .int .i64 nx.s, .int .i64 nx.g, .int .u64 nx.t] 29))) (w0 := ((w2.alloc (.cells #[.slice A' l.length c', .bool has, .int .i64 nz.s, .int .i64 nz.g, .int .u64 nz.t] 29)).alloc (.cells #[.slice none 0 0, .bool has, .int .i64 nx.s, .int .i64 nx.g, .int .u64 nx.t] 29))) ((w2.alloc (.cells #[.slice A' l.length c', .bool has, .int .i64 nz.s, .int .i64 nz.g, .int .u64 nz.t] 29)).alloc (.cells #[.slice none 0 0, .bool has, .int .i64 nx.s, .int .i64 nx.g, .int .u64 nx.t] 29)).heap.size rfl (.tmp 33) (.tmp 35) 22 27 (.agg #[.int .i64 0, .int .i64 0, .int .u64 0]) 24 rfl Try.underlying22 infoW rfl (by decide) (by omega) (.slice none 0 0) ([] : List Wt) l A l.length c (fun _ => True) (fun _ => False) rfl rfl ?aO ?aR (fun x cs h => kW_KM x cs h) (fun _ h => h.elim) ?aF ?aB ?aS ?aL ?_; (case aO => exact (Kd.R_nil _ _ _ _ _)); (case aR => exact HC3.out); (case aF => exact fun _ _ => trivial); (case aB => exact Below.refl _ _); (case aS => first | assumption | omega); (case aL => first | omega | (simp; omega)); intro v1 w5 ho5 hb5 hg hat; rw [List.nil_append] at ho5; obtain ⟨A1, c1, he1, hc1, hC1⟩ := Kd.R_reads ho5; subst he1; have hIB5 := blk_below HIB.out hb5; obtain ⟨i0, i1, i2, i3, i4, j0, j1, j2, j3, j4⟩ := blk5 hIB5; have hIl := lt_blk hIB5; have HIB5 := Aside0.mk hIB5; clear hIB5)
    have HT5 := Aside0.mk (blk_below (blk_below HT2.out HB3.out) hb5)
    have HS5 := Aside0.mk (blk_below (blk_below HS2.out HB3.out) hb5)
    have HR5 := Aside0.mk (Kd.R_below (Kd.R_below HR2.out HB3.out) hb5)
    have HB5 := Aside0.mk (below_then (below_then HB2.out HB3.out) hb5)
    have HO5 := Aside0.mk ho5
    have hz3 : ((w2.alloc (.cells #[.slice A' l.length c', .bool has, .int .i64 nz.s, .int .i64 nz.g, .int .u64 nz.t] 29)).alloc (.cells #[.slice none 0 0, .bool has, .int .i64 nx.s, .int .i64 nx.g, .int .u64 nx.t] 29)).heap.size = w2.heap.size + 2 := by simp
    have hw2 : W.heap.size ≤ w2.heap.size + 1 := by have := HB2.out.size; omega
    rw [hz3] at HO5
    clear hg hat ho5 hb5 hC1 HC3 t0 s0 s1 s2 s3 s4 hSl HIB HT2 HS2 HR2 HB2 HB3 hz2
    clear hz3
    have hk6 : Keep (fun i => i = w2.heap.size + 1) w5 (w5.setCell ⟨w2.heap.size + 1, 0, none⟩ (.slice A1 l.length c1)) := (by repeat (first | (with_reducible exact Keep.refl _ _) | (with_reducible refine Keep.drewN ?_ _) | (with_reducible refine Keep.drew ?_) | (with_reducible refine Keep.setCell ?_ _ _ (by first | (right; with_reducible rfl) | (left; simp; done) | (left; simp; omega) | (right; simp; done) | (right; assumption))) | (with_reducible refine Keep.alloc ?_ _)))
    have hIB6 : (w5.setCell ⟨w2.heap.size + 1, 0, none⟩ (.slice A1 l.length c1)).heap[w2.heap.size + 1]? = some (.cells #[.slice A1 l.length c1, .bool has, .int .i64 nx.s, .int .i64 nx.g, .int .u64 nx.t] 29 (0, 0)) := by simpa using blk_set (i := 0) (u := .slice A1 l.length c1) HIB5.out
    have HT6 := Aside0.mk (blk_keep HT5.out hk6 (by omega))
    have hS6 := blk_keep HS5.out hk6 (by have := HW.out.size; have := lt_blk hS.out; omega)
    have HR6 := Aside0.mk (R_keepT HR5.out HIB5.out (by decide) hk6)
    have HO6 := Aside0.mk (R_keepT HO5.out HIB5.out (by decide) hk6)
    have HB6 := Aside0.mk (below_then_keep HB5.out HB5.out.size hk6 (fun i e => by omega))
    have HIB6 := Aside0.mk hIB6
    generalize (w5.setCell ⟨w2.heap.size + 1, 0, none⟩ (.slice A1 l.length c1)) = W6 at *
    obtain ⟨i0, i1, i2, i3, i4, -, -, -, -, -⟩ := blk5 hIB6
    obtain ⟨s0, s1, s2, s3, s4, -, -, -, -, -⟩ := blk5 hS6
    have HS6 := Aside0.mk hS6
    clear hk6 hIB6 hS6 HT5 HS5 HR5 HO5 HB5 HIB5 j0 j1 j2 j3 j4 hIl
    have hld := load_any A1 c1 l has nx W6 (by obtain ⟨A', c', he, -, hC⟩ := Kd.R_reads HO6.out; injection he with e1 e2 e3; subst e1; exact hC) hc1 hl0
    refine hld.mono ?_
    clear hld
    rintro e w7 ⟨hB7, ⟨-, b, rfl, hb, hI⟩ | ⟨hE', rfl⟩⟩
    · rw [HLR.out] at hI
      have HI7 := Aside0.mk hI
      have HIB7 := Aside0.mk (blk_below HIB6.out hB7)
      have HT7 := Aside0.mk (blk_below HT6.out hB7)
      have HR7 := Aside0.mk (Kd.R_below HR6.out hB7)
      have HO7 := Aside0.mk (Kd.R_below HO6.out hB7)
      have HB7 := Aside0.mk (below_then HB6.out hB7)
      have HB6z : Aside0 (W.heap.size ≤ W6.heap.size) := ⟨HB6.out.size⟩
      have HOb : Aside0 (∀ k, (Value.slice A1 l.length c1).ownBlock = some k → w2.heap.size + 2 ≤ k ∧ k < W6.heap.size) := ⟨fun k e => ⟨((Kd.R_bound HO6.out).1 k e).2.1, ((Kd.R_bound HO6.out).1 k e).2.2.1⟩⟩
      have hS7 := blk_below HS6.out hB7
      clear i0 i1 i2 i3 i4 s0 s1 s2 s3 s4
      obtain ⟨i0, i1, i2, i3, i4, -, -, -, -, -⟩ := blk5 HIB7.out
      obtain ⟨s0, s1, s2, s3, s4, -, -, -, -, -⟩ := blk5 hS7
      have hIl := lt_blk HIB7.out
      have hSl := lt_blk hS7
      have hSm := sameList_eq (w := w7) (A1 := A1) (A2 := A) (c1 := c1) (c2 := c) (l := l) (by obtain ⟨A', c', he, -, hC⟩ := Kd.R_reads HO7.out; injection he with e1 e2 e3; subst e1; exact hC) hc1 (Kd.C_below HCW.out HB7.out) hc0 (by omega)
      clear hI hB7 hS7 HIB6 HT6 HR6 HO6 HB6 HS6
      go_wp2_with fail
      refine hSm.mono ?_
      clear hSm
      rintro e w8 ⟨rfl, hB8⟩
      have HI8 := Aside0.mk (HI7.out.below hB8)
      have HT8 := Aside0.mk (blk_below HT7.out hB8)
      have HR8 := Aside0.mk (Kd.R_below HR7.out hB8)
      have hIB8 := blk_below HIB7.out hB8
      have HB8 := Aside0.mk (below_then HB7.out hB8)
      have HIB8 := Aside0.mk hIB8
      have HO8 : Aside0 (SpK w8 (w2.heap.size + 2) (.slice A1 l.length c1) l.length w8) := ⟨⟨⟨l, rfl, Kd.R_below HO7.out hB8⟩, Keep.refl _ _⟩⟩
      clear i0 i1 i2 i3 i4 s0 s1 s2 s3 s4 hIl hSl hB8 hIB8 HI7 HT7 HR7 HIB7 HB7 HO7
      go_wp2_with fail
      go_loopw [10] (fun i wr => ∃ k : Nat, k ≤ l.length ∧ i = .int .i64 k ∧ Aside0 (SpK w8 (w2.heap.size + 2) (.slice A1 l.length c1) l.length wr)) (fun i _ => l.length - (intOf i).toNat)
      case atStart => exact ⟨0, by omega, rfl, HO8⟩
      clear HO8
      obtain ⟨k, hk, rfl, HS⟩ := hrel
      have hIBr := blk_keep HIB8.out HS.out.k (fun e => by have := (HOb.out _ e).1; omega)
      obtain ⟨i0, i1, i2, i3, i4, -, -, -, -, -⟩ := blk5 hIBr
      have hIl := lt_blk hIBr
      clear hIBr
      by_cases hlt : k < l.length
      · obtain ⟨xs, hxs, hr⟩ := HS.out.r
        obtain ⟨gq, hgq⟩ : ∃ g, A1 = some (⟨g, 0, none⟩ : Addr) := by
          rcases own_form hr with ⟨he, h0⟩ | ⟨g, c', he, -, -⟩
          · omega
          injection he with e1 e2 e3
          exact ⟨g, e1⟩
        subst hgq
        have hki : (0 : Int) ≤ (k : Int) := by omega
        have hkl : (k : Int) < (l.length : Int) := by omega
        obtain ⟨z, g0, g1, g2, gf, gl, gb⟩ := own_cells hr k hlt
        have q0 := gf (k * 3)
        have q1 := gf (k * 3 + 1)
        have q2 := gf (k * 3 + 2)
        have HS2 := Aside0.mk (HS.out.set k hlt (⟨0, 0, 7⟩ : Wt))
        clear gf hr HS
        go_wp2_with fail
        go_roundw
        case rel => exact ⟨k + 1, by omega, by go_num, HS2⟩
        case measure => simp [intOf]; omega
      obtain rfl : k = l.length := by omega
      have HI9 := Aside0.mk (HI8.out.keep HS.out.k (fun e => by have := (HOb.out _ e).2; omega))
      have HT9 := Aside0.mk (blk_keep HT8.out HS.out.k (fun e => by have := (HOb.out _ e).1; omega))
      have HR9 := Aside0.mk (Kd.R_mono (Kd.R_step HR8.out (fun k ho hl => HS.out.k.block k hl (fun e => by have := (HOb.out _ e).1; have : k < w2.heap.size := ho; omega))) (fun _ _ => (trivial : True)))
      have HB9 := Aside0.mk (below_then_keep HB8.out HB8.out.size HS.out.k (fun i e => by have := (HOb.out _ e).1; omega))
      clear HS HI8 HT8 HR8 HB8 HIB8 HOb
      go_wp2_with fail
      refine (begun_any _).mono ?_
      rintro e w10 ⟨b0, b1, rfl, hb0, hb01, hI0, hI1, hB10⟩
      have hT10 := blk_below HT9.out hB10
      have HB10 := Aside0.mk (below_then HB9.out hB10)
      have HI10 := Aside0.mk (HI9.out.below hB10)
      have HR10 := Aside0.mk (Kd.R_below HR9.out hB10)
      have HJ10 := Aside0.mk hI1
      have hbW := HI9.out.lt
      have hw6 := HB6z.out
      obtain ⟨t0, t1, t2, t3, t4, -, -, -, -, -⟩ := blk5 hT10
      have hTl := lt_blk hT10
      clear hI0 hI1 hB10 hT10 HB9 HI9 HR9 HT9 i0 i1 i2 i3 i4 hIl
      have hA3 : Below w10.heap.size w10 (w10.alloc (.cells #[.pointer (some ⟨b, 0, none⟩), .pointer (some ⟨b1, 0, none⟩), .slice A' l.length c', .bool has, .int .i64 nz.s, .int .i64 nz.g, .int .u64 nz.t, .slice none 0 0, .bool false, .int .i64 0, .int .i64 0, .int .u64 0, .int .i64 0] 55)) := below_al (Below.refl _ _) _
      have hb1l := HJ10.out.lt
      have hb3l := HI10.out.lt
      have hWw := HW.out.size
      have HL : Aside0 (LP w (w10.alloc (.cells #[.pointer (some ⟨b, 0, none⟩), .pointer (some ⟨b1, 0, none⟩), .slice A' l.length c', .bool has, .int .i64 nz.s, .int .i64 nz.g, .int .u64 nz.t, .slice none 0 0, .bool false, .int .i64 0, .int .i64 0, .int .u64 0, .int .i64 0] 55)) w.heap.size b b1 w10.heap.size A' c' none 0 ⟨l, has, nz⟩ Rg.new 0) :=
        ⟨⟨below_then (below_then HW.out HB10.out) hA3, ⟨HI10.out.below hA3, HJ10.out.below hA3, Kd.R_below HR10.out hA3, Kd.R_nil _ _ _ _ _, by omega, (below_then (below_then HW.out HB10.out) hA3).size, HG.out.none, zr_new⟩, blk_new _ _, .inl rfl, by omega, by omega, by have := HB10.out.size; omega, by omega, by omega⟩⟩
      obtain ⟨G, hG⟩ : ∃ G, G = w10.heap.size := ⟨_, rfl⟩
      rw [← hG] at HL
      clear hA3 hb1l hb3l HJ10 HI10 HR10 HB10 hb0 hb01 hb hbW hw6 hWw
      go_wp2_with fail
      rw [← hG]
      clear hG t0 t1 t2 t3 t4 hTl
      generalize (w10.alloc (.cells #[.pointer (some ⟨b, 0, none⟩), .pointer (some ⟨b1, 0, none⟩), .slice A' l.length c', .bool has, .int .i64 nz.s, .int .i64 nz.g, .int .u64 nz.t, .slice none 0 0, .bool false, .int .i64 0, .int .i64 0, .int .u64 0, .int .i64 0] 55)) = W3 at *
      go_loopw [12, 13] (fun v i wr => ∃ (k : Nat) (A0 : Option Addr) (c0 : Nat) (A1 : Option Addr) (c1 : Nat) (r0 r1 : Rg) (n : Int), k ≤ ops.length ∧ i = .int .i64 k ∧ v = .bool true ∧ Aside0 (LP w wr w.heap.size b b1 G A0 c0 A1 c1 r0 r1 n)) (fun _ i _ => ops.length - (intOf i).toNat)
      case atStart => exact ⟨0, A', c', none, 0, ⟨l, has, nz⟩, Rg.new, 0, by omega, rfl, rfl, HL⟩
      clear HL HIB i0 i1 i2 i3 i4 hw2 HB6z HG HLR HE HCW hll hS
      clear hk hlt
      obtain ⟨kO, A0, c0, A1, c1, r0, r1, n, hkO, rfl, rfl, HP⟩ := hrel
      obtain ⟨wo, hwo⟩ : ∃ x, x = wr := ⟨_, rfl⟩
      subst hwo
      by_cases hltO : kO < ops.length
      · obtain ⟨ab, off, rfl, hab⟩ := C_form HC.out (by omega) (by decide)
        obtain ⟨d, x, hx, e0, e1, e2, e3⟩ := op_at HC.out kO hltO
        have E0 := Aside0.mk e0
        have E1 := Aside0.mk e1
        have E2 := Aside0.mk e2
        have E3 := Aside0.mk e3
        have hkiO : (0 : Int) ≤ (kO : Int) := by omega
        have hklO : (kO : Int) < (ops.length : Int) := by omega
        clear hx e0 e1 e2 e3
        go_upto_region 19 with fail
        go_cut [14] (fun s14 wx => ∃ (TB m : Nat) (Av : Option Addr) (cv : Nat) (u1 u2 u3 u4 : Value), s14 = .pointer (some ⟨TB, 0, none⟩) ∧ m ≤ 64 ∧ wo.heap.size ≤ TB ∧ Aside0 (Sp wo (.slice Av m cv) m wx) ∧ Aside0 (wx.heap[TB]? = some (.cells #[.slice Av m cv, u1, u2, u3, u4] 29 (0, 0))))
        case first =>
          rcases HP.out.n01 with rfl | rfl
          · obtain ⟨p0, p1, p2, p3, p4, p5, p6, p7, p8, p9, p10, p11, p12⟩ := cells13 HP.out.blk rfl
            have hGl := lt_blk HP.out.blk
            have hSt := state_any b r0 wo HP.out.q.im
            have hml := HP.out.q.im.len
            go_wp2_with fail
            refine hSt.mono ?_
            clear hSt
            rintro e w2 ⟨v, rfl, hv, hB2⟩
            obtain ⟨Av, cv, rfl, -, -⟩ := Kd.R_reads hv
            have hA2 : Below w2.heap.size w2 (w2.alloc (.cells #[.slice Av r0.l.length cv, .bool r0.has, .int .i64 r0.nx.s, .int .i64 r0.nx.g, .int .u64 r0.nx.t] 29)) := below_al (Below.refl _ _) _
            have HS : Aside0 (Sp wo (.slice Av r0.l.length cv) r0.l.length (w2.alloc (.cells #[.slice Av r0.l.length cv, .bool r0.has, .int .i64 r0.nx.s, .int .i64 r0.nx.g, .int .u64 r0.nx.t] 29))) := ⟨⟨⟨_, rfl, Kd.R_below hv hA2⟩, below_then hB2 hA2⟩⟩
            have HT : Aside0 ((w2.alloc (.cells #[.slice Av r0.l.length cv, .bool r0.has, .int .i64 r0.nx.s, .int .i64 r0.nx.g, .int .u64 r0.nx.t] 29)).heap[w2.heap.size]? = some (.cells #[.slice Av r0.l.length cv, .bool r0.has, .int .i64 r0.nx.s, .int .i64 r0.nx.g, .int .u64 r0.nx.t] 29 (0, 0))) := ⟨blk_new _ _⟩
            have hTB := Aside0.mk hB2.size
            clear hv hB2 hA2 p0 p1 p2 p3 p4 p5 p6 p7 p8 p9 p10 p11 p12 hGl
            go_wp2_with fail
            go_meet
            exact ⟨w2.heap.size, _, Av, cv, _, _, _, _, rfl, hml, hTB.out, HS, HT⟩
          obtain ⟨p0, p1, p2, p3, p4, p5, p6, p7, p8, p9, p10, p11, p12⟩ := cells13 HP.out.blk rfl
          have hGl := lt_blk HP.out.blk
          have hSt := state_any b1 r1 wo HP.out.q.io
          have hml := HP.out.q.io.len
          go_wp2_with fail
          refine hSt.mono ?_
          clear hSt
          rintro e w2 ⟨v, rfl, hv, hB2⟩
          obtain ⟨Av, cv, rfl, -, -⟩ := Kd.R_reads hv
          have hA2 : Below w2.heap.size w2 (w2.alloc (.cells #[.slice Av r1.l.length cv, .bool r1.has, .int .i64 r1.nx.s, .int .i64 r1.nx.g, .int .u64 r1.nx.t] 29)) := below_al (Below.refl _ _) _
          have HS : Aside0 (Sp wo (.slice Av r1.l.length cv) r1.l.length (w2.alloc (.cells #[.slice Av r1.l.length cv, .bool r1.has, .int .i64 r1.nx.s, .int .i64 r1.nx.g, .int .u64 r1.nx.t] 29))) := ⟨⟨⟨_, rfl, Kd.R_below hv hA2⟩, below_then hB2 hA2⟩⟩
          have HT : Aside0 ((w2.alloc (.cells #[.slice Av r1.l.length cv, .bool r1.has, .int .i64 r1.nx.s, .int .i64 r1.nx.g, .int .u64 r1.nx.t] 29)).heap[w2.heap.size]? = some (.cells #[.slice Av r1.l.length cv, .bool r1.has, .int .i64 r1.nx.s, .int .i64 r1.nx.g, .int .u64 r1.nx.t] 29 (0, 0))) := ⟨blk_new _ _⟩
          have hTB := Aside0.mk hB2.size
          clear hv hB2 hA2 p0 p1 p2 p3 p4 p5 p6 p7 p8 p9 p10 p11 p12 hGl
          go_wp2_with fail
          go_meet
          exact ⟨w2.heap.size, _, Av, cv, _, _, _, _, rfl, hml, hTB.out, HS, HT⟩
        obtain ⟨TB, m, Av, cv, u1, u2, u3, u4, rfl, hml, hTB, HS, HT⟩ := hcut
        obtain ⟨i0, i1, i2, i3, i4, -, -, -, -, -⟩ := blk5 HT.out
        have hIl := lt_blk HT.out
        go_wp2_with fail
        clear i0 i1 i2 i3 i4 hIl
        go_loopw [15] (fun i wr => ∃ k : Nat, k ≤ m ∧ i = .int .i64 k ∧ Aside0 (Sp wo (.slice Av m cv) m wr) ∧ Aside0 (wr.heap[TB]? = some (.cells #[.slice Av m cv, u1, u2, u3, u4] 29 (0, 0)))) (fun i _ => m - (intOf i).toNat)
        case atStart => exact ⟨0, by omega, rfl, HS, HT⟩
        clear HS HT
        obtain ⟨k, hk, rfl, HS, HT⟩ := hrel
        obtain ⟨i0, i1, i2, i3, i4, -, -, -, -, -⟩ := blk5 HT.out
        have hIl := lt_blk HT.out
        by_cases hlt : k < m
        · obtain ⟨xs, hxs, hr⟩ := HS.out.r
          obtain ⟨gq, hgq⟩ : ∃ g, Av = some (⟨g, 0, none⟩ : Addr) := by
            rcases own_form hr with ⟨he, h0⟩ | ⟨g, c', he, -, -⟩
            · omega
            injection he with e1 e2 e3
            exact ⟨g, e1⟩
          subst hgq
          have hki : (0 : Int) ≤ (k : Int) := by omega
          have hkl : (k : Int) < (m : Int) := by omega
          obtain ⟨z, g0, g1, g2, gf, gl, gb⟩ := own_cells hr k hlt
          have q0 := gf (k * 3)
          have q1 := gf (k * 3 + 1)
          have q2 := gf (k * 3 + 2)
          have HS2 := Aside0.mk (HS.out.set k hlt (⟨0, 0, 9⟩ : Wt))
          have HT2 := Aside0.mk (blk_keep HT.out (own_set hr k hlt (⟨0, 0, 9⟩ : Wt)).2 (fun e => by subst e; exact own_ne hr HT.out (by decide) (by simp [Value.ownBlock])))
          clear gf hr HS HT
          go_wp2_with fail
          go_roundw
          case rel => exact ⟨k + 1, by omega, by go_num, HS2, HT2⟩
          case measure => simp [intOf]; omega
        obtain rfl : m = k := by omega
        go_wp2_with fail
        clear i0 i1 i2 i3 i4 hIl
        go_loopw [16] (fun i wr => ∃ (k : Nat) (A8 : Option Addr) (c8 : Nat), k ≤ 8 ∧ i = .int .i64 k ∧ Aside0 (Sp wo (.slice A8 (m + k) c8) (m + k) wr) ∧ Aside0 (wr.heap[TB]? = some (.cells #[.slice A8 (m + k) c8, u1, u2, u3, u4] 29 (0, 0)))) (fun i _ => 8 - (intOf i).toNat)
        case atStart => exact ⟨0, Av, cv, by omega, rfl, HS, HT⟩
        clear HS HT
        obtain ⟨k, A8, c8, hk, rfl, HS, HT⟩ := hrel
        obtain ⟨i0, i1, i2, i3, i4, -, -, -, -, -⟩ := blk5 HT.out
        have hIl := lt_blk HT.out
        by_cases hlt : k < 8
        · obtain ⟨ys, hys, hry⟩ := HS.out.r
          have hkl : (k : Int) < 8 := by omega
          obtain ⟨nk, hnk⟩ : ∃ nk, m + k = nk := ⟨_, rfl⟩
          rw [hnk] at hry HS hys HT i0
          have HNK : Aside0 (m + (k + 1) = nk + 1 ∧ nk ≤ 1000) := ⟨by omega, by omega⟩
          have hnkl := HNK.out.2
          have HR := Aside0.mk hry
          have hzz := HS.out.b.size
          clear hry hnk
          go_wp2_with ((with_reducible refine gate_builtin (b := .append) (xs := #[.tmp 107, .tmp 109]) rfl ?_); at_builtin; refine Kd.R_append kW (w0 := wr) wo.heap.size rfl (.tmp 107) (.tmp 109) 22 27 (.agg #[.int .i64 0, .int .i64 0, .int .u64 0]) 24 rfl Try.underlying22 infoW rfl (by decide) (by omega) (.slice A8 nk c8) ys (⟨0, 0, 1⟩ : Wt) [.int .i64 0, .int .i64 0, .int .u64 1] (fun j => True ∨ wr.heap.size ≤ j) (fun _ => False) rfl ?aX ?aM (fun _ h => h.elim) ?aF ?aO ?aB ?aS ?aL ?_; (case aX => first | rfl | exact congrArg (fun n => Value.slice (some ⟨n, 0, none⟩) 1 1) (by simp)); (case aM => exact kW_mkM _ _ _ (⟨0, 0, 1⟩ : Wt)); (case aF => exact fun _ h => .inr h); (case aO => exact (Kd.R_mono HR.out (fun _ _ => .inl trivial))); (case aB => exact Below.refl _ _); (case aS => first | omega | (simp; omega)); (case aL => omega); intro v1 w5 ho hb hg hat; obtain ⟨A9, c9, he9, -, -⟩ := Kd.R_reads ho; rw [List.length_append, List.length_singleton, hys] at he9; subst he9; have hk5 : Keep (fun k => (Value.slice A8 nk c8).ownBlock = some k) _ w5 := ⟨hg.os, hg.tape, hg.output, hg.size, fun k hk hn => hg.block k hk (fun e => hn e.symm)⟩; have hT5 := blk_keep HT.out hk5 (own_ne HR.out HT.out (by decide)); obtain ⟨k0, k1, k2, k3, k4, j0, j1, j2, j3, j4⟩ := blk5 hT5; have hJl := lt_blk hT5; have HT5 := Aside0.mk hT5; clear hT5)
          have hks : Keep (fun i => i = TB) w5 (w5.setCell ⟨TB, 0, none⟩ (.slice A9 (nk + 1) c9)) := (by repeat (first | (with_reducible exact Keep.refl _ _) | (with_reducible refine Keep.drewN ?_ _) | (with_reducible refine Keep.drew ?_) | (with_reducible refine Keep.setCell ?_ _ _ (by first | (right; with_reducible rfl) | (left; simp; done) | (left; simp; omega) | (right; simp; done) | (right; assumption))) | (with_reducible refine Keep.alloc ?_ _)))
          have HS5 := Aside0.mk ((HS.out.app hys (Kd.R_mono ho (fun _ _ => trivial)) hg (own_base HR.out)).store HT5.out (by decide) hTB hks)
          have hT6 : (w5.setCell ⟨TB, 0, none⟩ (.slice A9 (nk + 1) c9)).heap[TB]? = some (.cells #[.slice A9 (nk + 1) c9, u1, u2, u3, u4] 29 (0, 0)) := by simpa using blk_set (i := 0) (u := .slice A9 (nk + 1) c9) HT5.out
          rw [← HNK.out.1] at HS5 hT6
          have HT6 := Aside0.mk hT6
          clear hks hT6 ho hb hg hat hk5 HS HR HT
          try rw [← HNK.out.1]
          go_roundw
          case rel => exact ⟨k + 1, A9, c9, by omega, by go_num, HS5, HT6⟩
          case measure => simp [intOf]; omega
        obtain rfl : k = 8 := by omega
        obtain ⟨wq, hwq⟩ : ∃ x, x = wr := ⟨_, rfl⟩
        subst hwq
        have HPb := Aside0.mk (HP.out.then HS.out.b)
        have hab1 := Nat.lt_of_lt_of_le hab HPb.out.below.size
        have y0 := (HPb.out.below.cell (p := ⟨ab, off + kO * 4, none⟩) hab).trans E0.out
        have y1 := (HPb.out.below.cell (p := ⟨ab, off + kO * 4 + 1, none⟩) hab).trans E1.out
        have y2 := (HPb.out.below.cell (p := ⟨ab, off + kO * 4 + 2, none⟩) hab).trans E2.out
        have y3 := (HPb.out.below.cell (p := ⟨ab, off + kO * 4 + 3, none⟩) hab).trans E3.out
        have hGl := lt_blk HPb.out.blk
        clear HS HT i0 i1 i2 i3 i4 hIl HP
        by_cases hd : d = 4
        · subst hd
          rcases HPb.out.n01 with rfl | rfl
          · obtain ⟨p0, p1, p2, p3, p4, p5, p6, p7, p8, p9, p10, p11, p12⟩ := cells13 HPb.out.blk rfl
            obtain ⟨L, hL⟩ : ∃ L, L = drainOut r0 := ⟨_, rfl⟩
            have hlm := HPb.out.q.im.len
            have hLl : L.length ≤ 1000 := by rw [hL]; exact drainOut_le hlm
            have hdr := drain_any b r0 wq HPb.out.q.im
            rw [drain_new HPb.out.q.zm, ← hL] at hdr
            have HL := Aside0.mk hL
            clear hL
            go_wp2_with fail
            refine hdr.mono ?_
            clear hdr
            rintro e w4 ⟨v4, rfl, hv4, hI4, hK4⟩
            obtain ⟨Ad, cd, rfl, hcd, hCd⟩ := Kd.R_reads hv4
            have hG4 := blk_keep HPb.out.blk hK4 (show ¬ G = b by have := HPb.out.n0; have := HPb.out.n1; omega)
            have hQm4 := R_keepR HPb.out.q.qm HPb.out.q.im hK4
            have HQo4 := Aside0.mk (R_keepR (Kd.R_mono (Kd.R_bound HPb.out.q.qo) (fun k ho => (ho.2.2.1 : k < wq.heap.size))) HPb.out.q.im hK4)
            have HIo4 := Aside0.mk (HPb.out.q.io.keep hK4 (show ¬ b1 = b from fun e => HPb.out.q.ne (by first | exact e | exact e.symm)))
            have HIm4 := Aside0.mk hI4
            have hdd := rdrain_any A0 c0 r0 w4 (Kd.R_reads' hQm4).2.2 (Kd.R_reads' hQm4).2.1 hlm
            rw [← HL.out] at hdd
            have HV4 := Aside0.mk hv4
            have HBe := Aside0.mk (below_then_keep HPb.out.below HPb.out.below.size hK4 (fun i e => by rw [e]; first | exact HPb.out.w0 | exact HPb.out.w1))
            have HZ4 := Aside0.mk hK4.size
            have HG4 := Aside0.mk hG4
            clear p0 p1 p2 p3 p4 p5 p6 p7 p8 p9 p10 p11 p12 hGl
            obtain ⟨p0, p1, p2, p3, p4, p5, p6, p7, p8, p9, p10, p11, p12⟩ := cells13 hG4 rfl
            have hGl := lt_blk hG4
            clear hv4 hI4 hK4 hG4 hQm4 hCd
            go_wp2_with fail
            refine hdd.mono ?_
            clear hdd
            rintro e w5 ⟨v5, rfl, hv5, hB5⟩
            obtain ⟨Ae, ce, rfl, hce, hCe⟩ := Kd.R_reads hv5
            have hv4' := Kd.R_below HV4.out hB5
            have hsm := sameList_eq (w := w5) (A1 := Ad) (A2 := Ae) (c1 := cd) (c2 := ce) (l := L) (Kd.R_reads' hv4').2.2 hcd hCe hce hLl
            have HB5 := Aside0.mk hB5
            clear hv5 hB5 hCe hv4'
            go_wp2_with fail
            refine hsm.mono ?_
            clear hsm
            rintro e w6 ⟨rfl, hB6⟩
            have HB6 := Aside0.mk (below_then HB5.out hB6)
            have hG6 := blk_below HG4.out HB6.out
            clear p0 p1 p2 p3 p4 p5 p6 p7 p8 p9 p10 p11 p12 hGl hB6 HB5
            obtain ⟨p0, p1, p2, p3, p4, p5, p6, p7, p8, p9, p10, p11, p12⟩ := cells13 hG6 rfl
            obtain ⟨f0, f1, f2, f3, f4, f5, f6, f7, f8, f9, f10, f11, f12⟩ := froz13 hG6
            have hGl := lt_blk hG6
            have HG6 := Aside0.mk hG6
            clear hG6
            go_wp2_with fail
            have hk8 : Keep (fun i => i = G) w6 ((((((w6.setCell ⟨G, 2, none⟩ (.slice none 0 0)).setCell ⟨G, 3, none⟩ (.bool false)).setCell ⟨G, 4, none⟩ (.int .i64 0)).setCell ⟨G, 5, none⟩ (.int .i64 0)).setCell ⟨G, 6, none⟩ (.int .u64 0))) := (by repeat (first | (with_reducible exact Keep.refl _ _) | (with_reducible refine Keep.drewN ?_ _) | (with_reducible refine Keep.drew ?_) | (with_reducible refine Keep.setCell ?_ _ _ (by first | (right; with_reducible rfl) | (left; simp; done) | (left; simp; omega) | (right; simp; done) | (right; assumption))) | (with_reducible refine Keep.alloc ?_ _)))
            have hG8 : ((((((w6.setCell ⟨G, 2, none⟩ (.slice none 0 0)).setCell ⟨G, 3, none⟩ (.bool false)).setCell ⟨G, 4, none⟩ (.int .i64 0)).setCell ⟨G, 5, none⟩ (.int .i64 0)).setCell ⟨G, 6, none⟩ (.int .u64 0))).heap[G]? = some (.cells #[.pointer (some ⟨b, 0, none⟩), .pointer (some ⟨b1, 0, none⟩), .slice none 0 0, .bool false, .int .i64 0, .int .i64 0, .int .u64 0, .slice A1 r1.l.length c1, .bool r1.has, .int .i64 r1.nx.s, .int .i64 r1.nx.g, .int .u64 r1.nx.t, .int .i64 0] 55 (0, 0)) := by
              have h := blk_set (i := 6) (u := .int .u64 0) (blk_set (i := 5) (u := .int .i64 0) (blk_set (i := 4) (u := .int .i64 0) (blk_set (i := 3) (u := .bool false) (blk_set (i := 2) (u := .slice none 0 0) (HG6.out)))))
              simpa using h
            have hGb := HPb.out.wG
            have HIm8 := Aside0.mk ((HIm4.out.below HB6.out).keep hk8 (show ¬ b = G by have := HPb.out.n0; have := HPb.out.n1; omega))
            have HIo8 := Aside0.mk ((HIo4.out.below HB6.out).keep hk8 (show ¬ b1 = G by have := HPb.out.n0; have := HPb.out.n1; omega))
            have HQo8 := Aside0.mk (R_keepT (Kd.R_below HQo4.out HB6.out) HG6.out (by decide) hk8)
            have HV8 : Aside0 (SpK ((((((w6.setCell ⟨G, 2, none⟩ (.slice none 0 0)).setCell ⟨G, 3, none⟩ (.bool false)).setCell ⟨G, 4, none⟩ (.int .i64 0)).setCell ⟨G, 5, none⟩ (.int .i64 0)).setCell ⟨G, 6, none⟩ (.int .u64 0))) wq.heap.size (.slice Ad L.length cd) L.length ((((((w6.setCell ⟨G, 2, none⟩ (.slice none 0 0)).setCell ⟨G, 3, none⟩ (.bool false)).setCell ⟨G, 4, none⟩ (.int .i64 0)).setCell ⟨G, 5, none⟩ (.int .i64 0)).setCell ⟨G, 6, none⟩ (.int .u64 0)))) := ⟨⟨⟨L, rfl, R_keepT (Kd.R_below HV4.out HB6.out) HG6.out (by decide) hk8⟩, Keep.refl _ _⟩⟩
            have HB8 := Aside0.mk (below_then_keep (below_then HBe.out HB6.out) (below_then HBe.out HB6.out).size hk8 (fun i e => by rw [e]; exact hGb))
            have hz8 : wq.heap.size ≤ ((((((w6.setCell ⟨G, 2, none⟩ (.slice none 0 0)).setCell ⟨G, 3, none⟩ (.bool false)).setCell ⟨G, 4, none⟩ (.int .i64 0)).setCell ⟨G, 5, none⟩ (.int .i64 0)).setCell ⟨G, 6, none⟩ (.int .u64 0))).heap.size := Nat.le_trans HZ4.out (Nat.le_trans HB6.out.size hk8.size)
            have HG8 := Aside0.mk hG8
            clear hk8 hG8 p0 p1 p2 p3 p4 p5 p6 p7 p8 p9 p10 p11 p12 f0 f1 f2 f3 f4 f5 f6 f7 f8 f9 f10 f11 f12 hGl HIm4 HIo4 HQo4 HV4 HBe HB6 HG6 HG4 HZ4
            generalize ((((((w6.setCell ⟨G, 2, none⟩ (.slice none 0 0)).setCell ⟨G, 3, none⟩ (.bool false)).setCell ⟨G, 4, none⟩ (.int .i64 0)).setCell ⟨G, 5, none⟩ (.int .i64 0)).setCell ⟨G, 6, none⟩ (.int .u64 0))) = W8 at *
            go_loopw [18] (fun i wx => ∃ k : Nat, k ≤ L.length ∧ i = .int .i64 k ∧ Aside0 (SpK W8 wq.heap.size (.slice Ad L.length cd) L.length wx)) (fun i _ => L.length - (intOf i).toNat)
            case atStart => exact ⟨0, by omega, rfl, HV8⟩
            clear HV8
            obtain ⟨k, hk, rfl, HS⟩ := hrel
            by_cases hlt : k < L.length
            · obtain ⟨xs, hxs, hr⟩ := HS.out.r
              obtain ⟨gq, hgq⟩ : ∃ g, Ad = some (⟨g, 0, none⟩ : Addr) := by
                rcases own_form hr with ⟨he, h0⟩ | ⟨g, c', he, -, -⟩
                · omega
                injection he with e1 e2 e3
                exact ⟨g, e1⟩
              subst hgq
              have hki : (0 : Int) ≤ (k : Int) := by omega
              have hkl : (k : Int) < (L.length : Int) := by omega
              obtain ⟨z, g0, g1, g2, gf, gl, gb⟩ := own_cells hr k hlt
              have q0 := gf (k * 3)
              have q1 := gf (k * 3 + 1)
              have q2 := gf (k * 3 + 2)
              have HS2 := Aside0.mk (HS.out.set k hlt (⟨0, 0, 8⟩ : Wt))
              clear gf hr HS
              go_wp2_with fail
              go_roundw
              case rel => exact ⟨k + 1, by omega, by go_num, HS2⟩
              case measure => simp [intOf]; omega
            obtain rfl : k = L.length := by omega
            obtain ⟨ys, hys, hrs⟩ := HS.out.r
            have hob : ∀ k, (Value.slice Ad L.length cd).ownBlock = some k → wq.heap.size ≤ k := own_base hrs
            have hbl := HPb.out.q.im.lt
            have hbl2 := HPb.out.q.io.lt
            have hGl := lt_blk HPb.out.blk
            have hbb := HPb.out.below.size
            have HI9m := HIm8.out.keep HS.out.k (fun e => by have := hob _ e; omega)
            have HI9o := HIo8.out.keep HS.out.k (fun e => by have := hob _ e; omega)
            have HQ9o := Kd.R_mono (Kd.R_step HQo8.out (fun k ho hl => HS.out.k.block k hl (fun e => by have := hob _ e; have : k < wq.heap.size := ho; omega))) (fun _ _ => (trivial : True))
            have HG9 := blk_keep HG8.out HS.out.k (fun e => by have := hob _ e; omega)
            have HB9 := below_then_keep HB8.out HB8.out.size HS.out.k (fun i e => by have := hob _ e; omega)
            have HP9 : Aside0 (LP w wr w.heap.size b b1 G none 0 A1 c1 Rg.new r1 0) := ⟨⟨HB9, ⟨HI9m, HI9o, Kd.R_nil _ _ _ _ _, HQ9o, HPb.out.q.ne, HB9.size, zr_new, HPb.out.q.zo⟩, HG9, .inl rfl, HPb.out.w0, HPb.out.w1, HPb.out.wG, HPb.out.n0, HPb.out.n1⟩⟩
            clear HI9m HI9o HQ9o HG9 HB9 hrs hob HS hbl hbl2 hGl hbb
            go_wp2_with fail
            go_roundw
            case rel => exact ⟨kO + 1, none, 0, A1, c1, Rg.new, r1, 0, by omega, by go_num, rfl, HP9⟩
            case measure => simp [intOf]; omega
          obtain ⟨p0, p1, p2, p3, p4, p5, p6, p7, p8, p9, p10, p11, p12⟩ := cells13 HPb.out.blk rfl
          obtain ⟨L, hL⟩ : ∃ L, L = drainOut r1 := ⟨_, rfl⟩
          have hlm := HPb.out.q.io.len
          have hLl : L.length ≤ 1000 := by rw [hL]; exact drainOut_le hlm
          have hdr := drain_any b1 r1 wq HPb.out.q.io
          rw [drain_new HPb.out.q.zo, ← hL] at hdr
          have HL := Aside0.mk hL
          clear hL
          go_wp2_with fail
          refine hdr.mono ?_
          clear hdr
          rintro e w4 ⟨v4, rfl, hv4, hI4, hK4⟩
          obtain ⟨Ad, cd, rfl, hcd, hCd⟩ := Kd.R_reads hv4
          have hG4 := blk_keep HPb.out.blk hK4 (show ¬ G = b1 by have := HPb.out.n0; have := HPb.out.n1; omega)
          have hQm4 := R_keepR HPb.out.q.qo HPb.out.q.io hK4
          have HQo4 := Aside0.mk (R_keepR (Kd.R_mono (Kd.R_bound HPb.out.q.qm) (fun k ho => (ho.2.2.1 : k < wq.heap.size))) HPb.out.q.io hK4)
          have HIo4 := Aside0.mk (HPb.out.q.im.keep hK4 (show ¬ b = b1 from fun e => HPb.out.q.ne (by first | exact e | exact e.symm)))
          have HIm4 := Aside0.mk hI4
          have hdd := rdrain_any A1 c1 r1 w4 (Kd.R_reads' hQm4).2.2 (Kd.R_reads' hQm4).2.1 hlm
          rw [← HL.out] at hdd
          have HV4 := Aside0.mk hv4
          have HBe := Aside0.mk (below_then_keep HPb.out.below HPb.out.below.size hK4 (fun i e => by rw [e]; first | exact HPb.out.w0 | exact HPb.out.w1))
          have HZ4 := Aside0.mk hK4.size
          have HG4 := Aside0.mk hG4
          clear p0 p1 p2 p3 p4 p5 p6 p7 p8 p9 p10 p11 p12 hGl
          obtain ⟨p0, p1, p2, p3, p4, p5, p6, p7, p8, p9, p10, p11, p12⟩ := cells13 hG4 rfl
          have hGl := lt_blk hG4
          clear hv4 hI4 hK4 hG4 hQm4 hCd
          go_wp2_with fail
          refine hdd.mono ?_
          clear hdd
          rintro e w5 ⟨v5, rfl, hv5, hB5⟩
          obtain ⟨Ae, ce, rfl, hce, hCe⟩ := Kd.R_reads hv5
          have hv4' := Kd.R_below HV4.out hB5
          have hsm := sameList_eq (w := w5) (A1 := Ad) (A2 := Ae) (c1 := cd) (c2 := ce) (l := L) (Kd.R_reads' hv4').2.2 hcd hCe hce hLl
          have HB5 := Aside0.mk hB5
          clear hv5 hB5 hCe hv4'
          go_wp2_with fail
          refine hsm.mono ?_
          clear hsm
          rintro e w6 ⟨rfl, hB6⟩
          have HB6 := Aside0.mk (below_then HB5.out hB6)
          have hG6 := blk_below HG4.out HB6.out
          clear p0 p1 p2 p3 p4 p5 p6 p7 p8 p9 p10 p11 p12 hGl hB6 HB5
          obtain ⟨p0, p1, p2, p3, p4, p5, p6, p7, p8, p9, p10, p11, p12⟩ := cells13 hG6 rfl
          obtain ⟨f0, f1, f2, f3, f4, f5, f6, f7, f8, f9, f10, f11, f12⟩ := froz13 hG6
          have hGl := lt_blk hG6
          have HG6 := Aside0.mk hG6
          clear hG6
          go_wp2_with fail
          have hk8 : Keep (fun i => i = G) w6 ((((((w6.setCell ⟨G, 7, none⟩ (.slice none 0 0)).setCell ⟨G, 8, none⟩ (.bool false)).setCell ⟨G, 9, none⟩ (.int .i64 0)).setCell ⟨G, 10, none⟩ (.int .i64 0)).setCell ⟨G, 11, none⟩ (.int .u64 0))) := (by repeat (first | (with_reducible exact Keep.refl _ _) | (with_reducible refine Keep.drewN ?_ _) | (with_reducible refine Keep.drew ?_) | (with_reducible refine Keep.setCell ?_ _ _ (by first | (right; with_reducible rfl) | (left; simp; done) | (left; simp; omega) | (right; simp; done) | (right; assumption))) | (with_reducible refine Keep.alloc ?_ _)))
          have hG8 : ((((((w6.setCell ⟨G, 7, none⟩ (.slice none 0 0)).setCell ⟨G, 8, none⟩ (.bool false)).setCell ⟨G, 9, none⟩ (.int .i64 0)).setCell ⟨G, 10, none⟩ (.int .i64 0)).setCell ⟨G, 11, none⟩ (.int .u64 0))).heap[G]? = some (.cells #[.pointer (some ⟨b, 0, none⟩), .pointer (some ⟨b1, 0, none⟩), .slice A0 r0.l.length c0, .bool r0.has, .int .i64 r0.nx.s, .int .i64 r0.nx.g, .int .u64 r0.nx.t, .slice none 0 0, .bool false, .int .i64 0, .int .i64 0, .int .u64 0, .int .i64 1] 55 (0, 0)) := by
            have h := blk_set (i := 11) (u := .int .u64 0) (blk_set (i := 10) (u := .int .i64 0) (blk_set (i := 9) (u := .int .i64 0) (blk_set (i := 8) (u := .bool false) (blk_set (i := 7) (u := .slice none 0 0) (HG6.out)))))
            simpa using h
          have hGb := HPb.out.wG
          have HIm8 := Aside0.mk ((HIm4.out.below HB6.out).keep hk8 (show ¬ b1 = G by have := HPb.out.n0; have := HPb.out.n1; omega))
          have HIo8 := Aside0.mk ((HIo4.out.below HB6.out).keep hk8 (show ¬ b = G by have := HPb.out.n0; have := HPb.out.n1; omega))
          have HQo8 := Aside0.mk (R_keepT (Kd.R_below HQo4.out HB6.out) HG6.out (by decide) hk8)
          have HV8 : Aside0 (SpK ((((((w6.setCell ⟨G, 7, none⟩ (.slice none 0 0)).setCell ⟨G, 8, none⟩ (.bool false)).setCell ⟨G, 9, none⟩ (.int .i64 0)).setCell ⟨G, 10, none⟩ (.int .i64 0)).setCell ⟨G, 11, none⟩ (.int .u64 0))) wq.heap.size (.slice Ad L.length cd) L.length ((((((w6.setCell ⟨G, 7, none⟩ (.slice none 0 0)).setCell ⟨G, 8, none⟩ (.bool false)).setCell ⟨G, 9, none⟩ (.int .i64 0)).setCell ⟨G, 10, none⟩ (.int .i64 0)).setCell ⟨G, 11, none⟩ (.int .u64 0)))) := ⟨⟨⟨L, rfl, R_keepT (Kd.R_below HV4.out HB6.out) HG6.out (by decide) hk8⟩, Keep.refl _ _⟩⟩
          have HB8 := Aside0.mk (below_then_keep (below_then HBe.out HB6.out) (below_then HBe.out HB6.out).size hk8 (fun i e => by rw [e]; exact hGb))
          have hz8 : wq.heap.size ≤ ((((((w6.setCell ⟨G, 7, none⟩ (.slice none 0 0)).setCell ⟨G, 8, none⟩ (.bool false)).setCell ⟨G, 9, none⟩ (.int .i64 0)).setCell ⟨G, 10, none⟩ (.int .i64 0)).setCell ⟨G, 11, none⟩ (.int .u64 0))).heap.size := Nat.le_trans HZ4.out (Nat.le_trans HB6.out.size hk8.size)
          have HG8 := Aside0.mk hG8
          clear hk8 hG8 p0 p1 p2 p3 p4 p5 p6 p7 p8 p9 p10 p11 p12 f0 f1 f2 f3 f4 f5 f6 f7 f8 f9 f10 f11 f12 hGl HIm4 HIo4 HQo4 HV4 HBe HB6 HG6 HG4 HZ4
          generalize ((((((w6.setCell ⟨G, 7, none⟩ (.slice none 0 0)).setCell ⟨G, 8, none⟩ (.bool false)).setCell ⟨G, 9, none⟩ (.int .i64 0)).setCell ⟨G, 10, none⟩ (.int .i64 0)).setCell ⟨G, 11, none⟩ (.int .u64 0))) = W8 at *
          go_loopw [18] (fun i wx => ∃ k : Nat, k ≤ L.length ∧ i = .int .i64 k ∧ Aside0 (SpK W8 wq.heap.size (.slice Ad L.length cd) L.length wx)) (fun i _ => L.length - (intOf i).toNat)
          case atStart => exact ⟨0, by omega, rfl, HV8⟩
          clear HV8
          obtain ⟨k, hk, rfl, HS⟩ := hrel
          by_cases hlt : k < L.length
          · obtain ⟨xs, hxs, hr⟩ := HS.out.r
            obtain ⟨gq, hgq⟩ : ∃ g, Ad = some (⟨g, 0, none⟩ : Addr) := by
              rcases own_form hr with ⟨he, h0⟩ | ⟨g, c', he, -, -⟩
              · omega
              injection he with e1 e2 e3
              exact ⟨g, e1⟩
            subst hgq
            have hki : (0 : Int) ≤ (k : Int) := by omega
            have hkl : (k : Int) < (L.length : Int) := by omega
            obtain ⟨z, g0, g1, g2, gf, gl, gb⟩ := own_cells hr k hlt
            have q0 := gf (k * 3)
            have q1 := gf (k * 3 + 1)
            have q2 := gf (k * 3 + 2)
            have HS2 := Aside0.mk (HS.out.set k hlt (⟨0, 0, 8⟩ : Wt))
            clear gf hr HS
            go_wp2_with fail
            go_roundw
            case rel => exact ⟨k + 1, by omega, by go_num, HS2⟩
            case measure => simp [intOf]; omega
          obtain rfl : k = L.length := by omega
          obtain ⟨ys, hys, hrs⟩ := HS.out.r
          have hob : ∀ k, (Value.slice Ad L.length cd).ownBlock = some k → wq.heap.size ≤ k := own_base hrs
          have hbl := HPb.out.q.io.lt
          have hbl2 := HPb.out.q.im.lt
          have hGl := lt_blk HPb.out.blk
          have hbb := HPb.out.below.size
          have HI9m := HIm8.out.keep HS.out.k (fun e => by have := hob _ e; omega)
          have HI9o := HIo8.out.keep HS.out.k (fun e => by have := hob _ e; omega)
          have HQ9o := Kd.R_mono (Kd.R_step HQo8.out (fun k ho hl => HS.out.k.block k hl (fun e => by have := hob _ e; have : k < wq.heap.size := ho; omega))) (fun _ _ => (trivial : True))
          have HG9 := blk_keep HG8.out HS.out.k (fun e => by have := hob _ e; omega)
          have HB9 := below_then_keep HB8.out HB8.out.size HS.out.k (fun i e => by have := hob _ e; omega)
          have HP9 : Aside0 (LP w wr w.heap.size b b1 G A0 c0 none 0 r0 Rg.new 1) := ⟨⟨HB9, ⟨HI9o, HI9m, HQ9o, Kd.R_nil _ _ _ _ _, HPb.out.q.ne, HB9.size, HPb.out.q.zm, zr_new⟩, HG9, .inr rfl, HPb.out.w0, HPb.out.w1, HPb.out.wG, HPb.out.n0, HPb.out.n1⟩⟩
          clear HI9m HI9o HQ9o HG9 HB9 hrs hob HS hbl hbl2 hGl hbb
          go_wp2_with fail
          go_roundw
          case rel => exact ⟨kO + 1, A0, c0, none, 0, r0, Rg.new, 1, by omega, by go_num, rfl, HP9⟩
          case measure => simp [intOf]; omega
        have hdb : (d == 4) = false := by simpa using hd
        go_wp2_with fail
        have HP0 : Aside0 (LP w wq.drew w.heap.size b b1 G A0 c0 A1 c1 r0 r1 n) := ⟨HPb.out.then (Below.refl _ _).drew⟩
        refine start_ (n := 11) (S := fun w' => w'.cell? ⟨G, 0, none⟩ = some (.pointer (some ⟨b, 0, none⟩)) ∧ w'.cell? ⟨G, 1, none⟩ = some (.pointer (some ⟨b1, 0, none⟩)) ∧ w'.cell? ⟨G, 2, none⟩ = some (.slice A0 r0.l.length c0) ∧ w'.cell? ⟨G, 3, none⟩ = some (.bool r0.has) ∧ w'.cell? ⟨G, 4, none⟩ = some (.int .i64 r0.nx.s) ∧ w'.cell? ⟨G, 5, none⟩ = some (.int .i64 r0.nx.g) ∧ w'.cell? ⟨G, 6, none⟩ = some (.int .u64 r0.nx.t) ∧ w'.cell? ⟨G, 7, none⟩ = some (.slice A1 r1.l.length c1) ∧ w'.cell? ⟨G, 8, none⟩ = some (.bool r1.has) ∧ w'.cell? ⟨G, 9, none⟩ = some (.int .i64 r1.nx.s) ∧ w'.cell? ⟨G, 10, none⟩ = some (.int .i64 r1.nx.g) ∧ w'.cell? ⟨G, 11, none⟩ = some (.int .u64 r1.nx.t) ∧ w'.cell? ⟨G, 12, none⟩ = some (.int .i64 n) ∧ w'.cell? ⟨ab, off + kO * 4, none⟩ = some (.int .i64 d) ∧ w'.cell? ⟨ab, off + kO * 4 + 1, none⟩ = some (.int .i64 x.s) ∧ w'.cell? ⟨ab, off + kO * 4 + 2, none⟩ = some (.int .i64 x.g) ∧ w'.cell? ⟨ab, off + kO * 4 + 3, none⟩ = some (.int .u64 x.t)) (ds := [5, 9]) #[false,false,false,false,false,false,false,false,false,false,false] (by kernel_rfl) rfl rfl ⟨cell_blk HP0.out.blk 0, cell_blk HP0.out.blk 1, cell_blk HP0.out.blk 2, cell_blk HP0.out.blk 3, cell_blk HP0.out.blk 4, cell_blk HP0.out.blk 5, cell_blk HP0.out.blk 6, cell_blk HP0.out.blk 7, cell_blk HP0.out.blk 8, cell_blk HP0.out.blk 9, cell_blk HP0.out.blk 10, cell_blk HP0.out.blk 11, cell_blk HP0.out.blk 12, y0, y1, y2, y3⟩ (fun hHeld => ?_)
        generalize wq.drew = x0 at *
        refine pure_ (i := 1) (N := some 149) (v := ?_) (a' := ?_) #[false,true,false,false,false,false,false,false,false,false,false] rfl rfl (by kernel_rfl) (fun _ _ _ h => h) (Or.inl ⟨by rfl, ?_⟩) ?_ ?_
        rotate_left
        · intro w'; go_simp; with_reducible rfl
        rotate_left
        · simp only [Act.put, setIfInBounds_toArray, set_cons_zero, set_cons_succ, i64_w, i32_w]; rfl
        refine pure_ (i := 2) (N := some 150) (v := ?_) (a' := ?_) #[false,true,true,false,false,false,false,false,false,false,false] rfl rfl (by kernel_rfl) (fun _ _ _ h => h) (Or.inl ⟨by rfl, ?_⟩) ?_ ?_
        rotate_left
        · intro w'; go_simp; with_reducible rfl
        rotate_left
        · simp only [Act.put, setIfInBounds_toArray, set_cons_zero, set_cons_succ, i64_w, i32_w]; rfl
        refine pure_ (i := 3) (N := some 151) (v := ?_) (a' := ?_) #[false,true,true,true,false,false,false,false,false,false,false] rfl rfl (by kernel_rfl) (fun _ _ _ h => h) (Or.inl ⟨by rfl, ?_⟩) ?_ ?_
        rotate_left
        · intro w'; go_simp; with_reducible rfl
        rotate_left
        · simp only [Act.put, setIfInBounds_toArray, set_cons_zero, set_cons_succ, i64_w, i32_w]; rfl
        refine take_ (i := 0) (N := some 148) (v := ?_) (a' := ?_) #[true,true,true,true,false,false,false,false,false,false,false] rfl rfl (by kernel_rfl) (fun _ _ _ h => h) (Or.inl ⟨by rfl, ?_⟩) hHeld ?_ ?_
        rotate_left
        · rintro w' ⟨s0, s1, s2, s3, s4, s5, s6, s7, s8, s9, s10, s11, s12, s13, s14, s15, s16⟩; go_simp; with_reducible rfl
        rotate_left
        · simp only [Act.put, setIfInBounds_toArray, set_cons_zero, set_cons_succ, i64_w, i32_w]; rfl
        refine take_ (i := 4) (N := some 152) (v := ?_) (a' := ?_) #[true,true,true,true,true,false,false,false,false,false,false] rfl rfl (by kernel_rfl) (fun _ _ _ h => h) (Or.inl ⟨by rfl, ?_⟩) hHeld ?_ ?_
        rotate_left
        · rintro w' ⟨s0, s1, s2, s3, s4, s5, s6, s7, s8, s9, s10, s11, s12, s13, s14, s15, s16⟩; go_simp; with_reducible rfl
        rotate_left
        · simp only [Act.put, setIfInBounds_toArray, set_cons_zero, set_cons_succ, i64_w, i32_w]; rfl
        refine last_ (i := 5) (N := some 153) #[true,true,true,true,true,true,false,false,false,false,false] rfl rfl (by kernel_rfl) (by decide) (fun K hK => ?_)
        refine goes_ Try.func28 (by kernel_rfl) rfl #[.agg #[.pointer (some ⟨b, 0, none⟩), .pointer (some ⟨b1, 0, none⟩), .slice A0 r0.l.length c0, .bool r0.has, .int .i64 r0.nx.s, .int .i64 r0.nx.g, .int .u64 r0.nx.t, .slice A1 r1.l.length c1, .bool r1.has, .int .i64 r1.nx.s, .int .i64 r1.nx.g, .int .u64 r1.nx.t, .int .i64 n], .agg #[.int .i64 d, .int .i64 x.s, .int .i64 x.g, .int .u64 x.t]] (by rfl) rfl rfl (by simp only [List.map_toArray, List.map_cons, List.map_nil]; rfl) ?_
        with_reducible refine (calls_top _ b b1 A0 c0 A1 c1 r0 r1 n d HP0.out.n01 x x0 HP0.out.q).mono ?_
        rintro e w2 ⟨A0', c0', A1', c1', r0', r1', n', rfl, hq, hn', hK⟩
        refine ⟨_, rfl, ?_⟩
        have hG2 := blk_keep HP0.out.blk hK (show ¬ (G = b ∨ G = b1) by have := HP0.out.n0; have := HP0.out.n1; omega)
        obtain ⟨p0, p1, p2, p3, p4, p5, p6, p7, p8, p9, p10, p11, p12⟩ := cells13 hG2 rfl
        obtain ⟨f0, f1, f2, f3, f4, f5, f6, f7, f8, f9, f10, f11, f12⟩ := froz13 hG2
        have hGl := lt_blk hG2
        have HK := Aside0.mk hK
        have HQ := Aside0.mk hq
        have HN := Aside0.mk hn'
        have HG2 := Aside0.mk hG2
        clear hK hq hn' hG2
        refine hK.out _ _ ?_
        clear hK K
        refine norm_ (a' := ?_) ?_ ?_
        rotate_left
        · show Act.put _ (some 153) _ = _; simp only [Act.put, setIfInBounds_toArray, set_cons_zero, set_cons_succ, i64_w, i32_w]; rfl
        refine pure_ (i := 6) (N := some 147) (v := ?_) (a' := ?_) #[true,true,true,true,true,true,true,false,false,false,false] rfl rfl (by kernel_rfl) (fun _ _ _ h => h) (Or.inl ⟨by rfl, ?_⟩) ?_ ?_
        rotate_left
        · intro w'; go_simp; with_reducible rfl
        rotate_left
        · simp only [Act.put, setIfInBounds_toArray, set_cons_zero, set_cons_succ, i64_w, i32_w]; rfl
        refine pure_ (i := 7) (N := some 154) (v := ?_) (a' := ?_) #[true,true,true,true,true,true,true,true,false,false,false] rfl rfl (by kernel_rfl) (fun _ _ _ h => h) (Or.inl ⟨by rfl, ?_⟩) ?_ ?_
        rotate_left
        · intro w'; go_simp; with_reducible rfl
        rotate_left
        · simp only [Act.put, setIfInBounds_toArray, set_cons_zero, set_cons_succ, i64_w, i32_w]; rfl
        refine pure_ (i := 8) (N := some 155) (v := ?_) (a' := ?_) #[true,true,true,true,true,true,true,true,true,false,false] rfl rfl (by kernel_rfl) (fun _ _ _ h => h) (Or.inl ⟨by rfl, ?_⟩) ?_ ?_
        rotate_left
        · intro w'; go_simp; with_reducible rfl
        rotate_left
        · simp only [Act.put, setIfInBounds_toArray, set_cons_zero, set_cons_succ, i64_w, i32_w]; rfl
        refine last_ (i := 9) (N := none) #[true,true,true,true,true,true,true,true,true,true,false] rfl rfl (by kernel_rfl) (by decide) (fun K hK => ?_)
        refine skip_ (w1 := ?_) (by rfl) rfl ?_ ?_
        rotate_left
        · go_simp
          first | with_reducible rfl | rfl
        refine hK.out _ _ ?_
        clear hK K
        refine pure_ (i := 10) (N := some 12) (v := ?_) (a' := ?_) #[true,true,true,true,true,true,true,true,true,true,true] rfl rfl (by kernel_rfl) (fun _ _ _ h => h) (Or.inl ⟨by rfl, ?_⟩) ?_ ?_
        rotate_left
        · intro w'; go_simp; with_reducible rfl
        rotate_left
        · simp only [Act.put, setIfInBounds_toArray, set_cons_zero, set_cons_succ, i64_w, i32_w]; rfl
        refine done_ (by kernel_rfl) ?_
        have hK3 : Keep (fun i => i = G) w2 (((((((((((((w2.setCell ⟨G, 0, none⟩ (.pointer (some ⟨b, 0, none⟩))).setCell ⟨G, 1, none⟩ (.pointer (some ⟨b1, 0, none⟩))).setCell ⟨G, 2, none⟩ (.slice A0' r0'.l.length c0')).setCell ⟨G, 3, none⟩ (.bool r0'.has)).setCell ⟨G, 4, none⟩ (.int .i64 r0'.nx.s)).setCell ⟨G, 5, none⟩ (.int .i64 r0'.nx.g)).setCell ⟨G, 6, none⟩ (.int .u64 r0'.nx.t)).setCell ⟨G, 7, none⟩ (.slice A1' r1'.l.length c1')).setCell ⟨G, 8, none⟩ (.bool r1'.has)).setCell ⟨G, 9, none⟩ (.int .i64 r1'.nx.s)).setCell ⟨G, 10, none⟩ (.int .i64 r1'.nx.g)).setCell ⟨G, 11, none⟩ (.int .u64 r1'.nx.t)).setCell ⟨G, 12, none⟩ (.int .i64 n')) := (by repeat (first | (with_reducible exact Keep.refl _ _) | (with_reducible refine Keep.drewN ?_ _) | (with_reducible refine Keep.drew ?_) | (with_reducible refine Keep.setCell ?_ _ _ (by first | (right; with_reducible rfl) | (left; simp; done) | (left; simp; omega) | (right; simp; done) | (right; assumption))) | (with_reducible refine Keep.alloc ?_ _)))
        have HP3 := Aside0.mk (HP0.out.called HQ.out HN.out HK.out hK3 (blk_set13 HG2.out))
        go_wp2
        go_roundw
        case rel => exact ⟨kO + 1, A0', c0', A1', c1', r0', r1', n', by omega, by go_num, rfl, HP3⟩
        case measure => simp [intOf]; omega
      obtain rfl : kO = ops.length := by omega
      obtain ⟨p0, p1, p2, p3, p4, p5, p6, p7, p8, p9, p10, p11, p12⟩ := cells13 HP.out.blk rfl
      have hGl := lt_blk HP.out.blk
      go_wp2_with fail
      refine (tells_any _ b b1 A0 c0 A1 c1 r0 r1 n wo HP.out.q).mono ?_
      rintro e w4 ⟨rfl, hB4⟩
      have hB5 := below_then HP.out.below hB4
      clear hB4
      go_wp2_with fail
      refine (awake_any _).mono ?_
      rintro e w5 ⟨rfl, hB6⟩
      go_wp2
      go_ret
      exact ⟨rfl, below_then hB5 hB6⟩
    exact absurd HE.out hE'
  have hd : (loadE l has nx == 0) = false := by simpa using hE
  have hd2 : (loadE l has nx != 0) = true := by simpa using hE
  have hL : loadL l has nx = Rg.new := by rw [loadL, if_neg hE]
  have hrl := rload_any A c l has nx W HCW.out hc0
  rw [hL] at hrl
  simp only [Rg.new, Wt.zero] at hrl
  generalize loadE l has nx = E at *
  clear hL hE
  refine hrl.mono ?_
  clear hrl
  rintro e w2 ⟨v, rfl, hR2, hB2⟩
  obtain ⟨A', c', rfl, -, -⟩ := Kd.R_reads hR2
  have HB2 := Aside0.mk (below_then HW.out hB2)
  clear hR2 hB2
  go_wp2_with fail
  refine (awake_any _).mono ?_
  rintro e w3 ⟨rfl, hB3⟩
  go_wp2
  go_ret
  exact ⟨rfl, below_then (below_al HB2.out _) hB3⟩
theorem ringOwn.walk (w : World) (cs : Array Value) (s : List Wt × Bool × Wt) (hK : kS.K w s cs.toList) (hG : s.1.length * 24 ≤ reachBytes) (B : Option Addr) (cb : Nat) (ops : List (Int × Wt)) (hc : ops.length ≤ cb) (hC : kOp.C w B ops.length ops) (hG2 : ops.length * Try.prog.bytesOf 65 ≤ reachBytes ∧ ops.length ≤ 9223372036854775807 ∧ ∀ x ∈ ops, True) :
    Calls Try.prog 11 #[.agg cs, .slice B ops.length cb] w fun e w' => e = .returned (.bool true) ∧ Below w.heap.size w w' := by
  have h32 : Try.prog.bytesOf 65 = 32 := by kernel_rfl
  rw [h32] at hG2
  obtain ⟨A, c, hcs, hc1, hC1⟩ := kS_open hK
  obtain rfl := Array.toList_inj.1 hcs
  exact RingOwn0.walk w A c s.1 s.2.1 s.2.2 hC1 hc1 (by unfold reachBytes at hG; omega) B cb ops hC hc hG2.1
theorem ringOwn.own : ownKnob Try.prog.godebug = none := by kernel_rfl
theorem ringOwn.laidOut : laidOutB Try.prog = true := by kernel_rfl
set_option maxRecDepth 100000 in
set_option maxHeartbeats 1000000 in
theorem ringOwn.lifted (os : Os) (started : os.Started) (H : Type) (enc : TypeId × Value → H)
    : ReturnsInHanded {} Try.checked os 11 .any (Rows.ringOwnSpec.pre6 enc Try.prog Try.f11 Rows.ringOwnRow.domain false) (Rows.ringOwnSpec.post enc Try.prog Try.f11 false true false false) := by
  refine returnsInHanded_of_change_sized (C := Try.checked) ringOwn.own started (by kernel_rfl) Try.func11
    (ChangeSpec.witness6 (enc := enc) (C := Try.checked) false ⟨#[], #[.agg #[.slice none 0 0, .bool false, .int .i64 0, .int .i64 0, .int .u64 0], .slice none 0 0], []⟩ 8 (by kernel_rfl) (by kernel_rfl) (by kernel_rfl) (by kernel_rfl)) ?_
  intro W base args ds gs before hval0 hW hcnd hsz0 _
  have hsz : (DataW.weightsEach Try.prog (Try.f11.params.toList ++ Rows.ringOwnSpec.plain.varTypes Try.prog) (ds ++ gs)).all (· ≤ reachBytes) = true := hsz0
  have hval : ∀ (j : Nat) t v, Try.f11.params[j]? = some t → args[j]? = some v → Value.okWide Try.prog W .any base t v := hval0
  have hW' := hW
  obtain ⟨p, q, hA0, hV, rfl, hfz, hnd⟩ := hW
  have hA : DataW.TrodAll enc Try.prog W 0 (fun _ => true) true Try.f11.params.toList args.toList ds p := hA0
  rw [Try.params11] at hA hval hsz
  obtain ⟨v0, vs0, d0, ds0, p0, q0, hargs, rfl, rfl, h0, r0⟩ := trodAll_cons hA
  obtain ⟨v1, vs1, d1, ds1, p1, q1, rfl, rfl, rfl, h1, r1⟩ := trodAll_cons r0
  obtain ⟨rfl, rfl, rfl⟩ := trodAll_nil r1
  obtain rfl : args = #[v0, v1] := by cases args; simp_all
  obtain ⟨rfl, rfl⟩ := trodVars_none hV
  have k0 := h0
  have lt0 : ∀ x ∈ p0, x.block < W.heap.size := by obtain ⟨m, hm⟩ := k0; exact DataW.trod_lt m _ _ _ hm
  have W0 := Op.weights_of hsz (j := 0) (t := 29) (d := d0) rfl rfl
  obtain ⟨cs0, rfl, sz0⟩ := okWide_struct Try.underlying29 (hval 0 29 v0 rfl rfl)
  obtain ⟨f0, hf0⟩ := h0
  obtain ⟨a0, hK0, hG0, hM0⟩ := opensS H enc W _ true f0 _ (d0, p0) hf0 W0
  have k1 := h1
  have lt1 : ∀ x ∈ p1, x.block < W.heap.size := by obtain ⟨m, hm⟩ := k1; exact DataW.trod_lt m _ _ _ hm
  have W1 := Op.weights_of hsz (j := 1) (t := 51) (d := d1) rfl rfl
  obtain ⟨A1, len1, cap1, rfl⟩ := okWide_slice Try.underlying51 (hval 1 51 v1 rfl rfl)
  obtain ⟨f1, hf1⟩ := h1
  obtain ⟨a1, hK1, hG1, hM1⟩ := Op.opens_slice Try.underlying51 (by kernel_rfl) opensOp H enc W _ true f1 _ (d1, p1) hf1 W1
  obtain ⟨A', c', he1, hc1, hC1⟩ := hK1
  obtain ⟨rfl, rfl, rfl⟩ : A1 = A' ∧ len1 = a1.length ∧ cap1 = c' := by simpa [Value.cells] using he1
  clear hA0 hval0 hsz0 hsz
  refine (ringOwn.walk W cs0 a0 hK0 hG0 A1 cap1 a1 hc1 hC1 hG1).mono fun e W' ⟨he, bel⟩ => ?_
  subst he
  exact ⟨_, rfl, _, _, _, [], _, [], hW', trodAll_mk1 (shut_bool Try.underlying4 _), (trodAll_cons_mk (Below.trod ringOwn.laidOut (by kernel_rfl) (of_decide_eq_true (by kernel_rfl)) k0 bel lt0) (trodAll_cons_mk (Below.trod ringOwn.laidOut (by kernel_rfl) (of_decide_eq_true (by kernel_rfl)) k1 bel lt1) trodAll_mk0)), rfl, bel.frame _, fun h => by cases h⟩
theorem ringOwn_holds : Rows.RingOwnSaid :=
  OpenClaim.holds_of_wide 11 Try.f11 rfl rfl rfl rfl rfl rfl rfl ⟨rfl, rfl, rfl, rfl, rfl⟩ rfl rfl rfl rfl rfl (by kernel_rfl) Try.func11 (by kernel_rfl)
    (of_decide_eq_true (by kernel_rfl)) (by unfold Func.isWrapper; first | (rw [if_pos (by decide +kernel)]; kernel_rfl) | (rw [if_neg (by decide +kernel)]; exact ⟨rfl, rfl⟩))
    (fun os started H enc _ => ringOwn.lifted os started H enc)
#print axioms ringOwn_holds

end Go.Proofs.Ytjjdojnnomokaaa
