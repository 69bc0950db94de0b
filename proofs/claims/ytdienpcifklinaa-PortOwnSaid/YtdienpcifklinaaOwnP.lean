import Derived.Test.YtdienpcifklinaaPtL3
set_option linter.unusedSimpArgs false
set_option linter.unusedVariables false
namespace Go.Proofs.Ytdienpcifklinaa
open Go.RowKit Go.ChangeShapes Go.WideShapes Go.ChangeAt Go.Proofs.YtdienpcifklinaaW.PrintWords Go.Proofs.YtdienpcifklinaaW.PrintMore Go.Proofs.YtdienpcifklinaaW.PrintLast PPortOwn
/-! A port's state as data: printed by gen15g.py. -/
def kZ : Kd Pt := Kd.iso (Kd.pair Kd.bool (Kd.pair (Kd.int .i64) (Kd.pair (Kd.slice TI (Kd.int .i64)) (Kd.pair (Kd.slice TA kA) (Kd.int .i64))))) (fun s : Pt => (s.q, s.cap, s.out, s.inn, s.lost))
theorem opensAg : Op.Opens Try.prog kA TA (fun _ => True) (fun _ => 1) :=
  Op.opens_mono (Op.opens_struct Try.underlying68 (by kernel_rfl) (Op.opens_isoF (Op.opensF_cons rfl (by kernel_rfl) (by decide) (Op.opens_int Try.underlying2) (Op.opensF_last rfl (by kernel_rfl) (Op.opens_int Try.underlying3))) _ (fun t : Int × Int => (⟨t.1, t.2⟩ : Ag)) (fun _ => rfl))) (fun _ _ => trivial) (fun _ => by simp)
theorem opensZ : Op.Opens Try.prog kZ TZ (fun s => s.out.length * 8 ≤ reachBytes ∧ s.inn.length * 16 ≤ reachBytes) (fun s => s.out.length + s.inn.length) :=
  Op.opens_mono (Op.opens_struct Try.underlying40 (by kernel_rfl) (Op.opens_isoF (Op.opensF_cons rfl (by kernel_rfl) (by decide) (Op.opens_bool Try.underlying4) (Op.opensF_cons rfl (by kernel_rfl) (by decide) (Op.opens_int Try.underlying3) (Op.opensF_cons rfl (by kernel_rfl) (by decide) (Op.opens_slice Try.underlying25 (by kernel_rfl) (Op.opens_int Try.underlying2)) (Op.opensF_cons rfl (by kernel_rfl) (by decide) (Op.opens_slice Try.underlying38 (by kernel_rfl) opensAg) (Op.opensF_last rfl (by kernel_rfl) (Op.opens_int Try.underlying3)))))) _ (fun t : Bool × Int × List Int × List Ag × Int => (⟨t.1, t.2.1, t.2.2.1, t.2.2.2.1, t.2.2.2.2⟩ : Pt)) (fun _ => rfl)))
    (fun s h => by
      have h1 := h.2.2.1.1
      have h2 := h.2.2.2.1.1
      rw [show Try.prog.bytesOf TI = 8 from by kernel_rfl] at h1
      rw [show Try.prog.bytesOf TA = 16 from by kernel_rfl] at h2
      exact ⟨h1, h2⟩)
    (fun s => by
      have h1 := sum_one s.out
      have h2 := sum_one s.inn
      simp only at *
      omega)
theorem kZ_open {w : World} {s : Pt} {cs : List Value} (h : kZ.K w s cs) : ∃ vO vI, cs = [.bool s.q, .int .i64 s.cap, vO, vI, .int .i64 s.lost] ∧ SttR w s vO vI := by
  obtain ⟨_, _, rfl, rfl, ⟨_, _, rfl, rfl, ⟨_, _, rfl, ⟨A, c, rfl, hc, hC⟩, ⟨_, _, rfl, ⟨B, d, rfl, hd, hD⟩, rfl⟩⟩⟩⟩ := h
  exact ⟨_, _, rfl, A, c, B, d, rfl, rfl, hc, hd, hC, hD⟩
end Go.Proofs.Ytdienpcifklinaa
set_option linter.unusedSimpArgs false
set_option linter.unusedVariables false
namespace Go.Proofs.Ytdienpcifklinaa
open Go.RowKit Go.ChangeShapes Go.WideShapes Go.ChangeAt Go.Proofs.YtdienpcifklinaaW.PrintWords Go.Proofs.YtdienpcifklinaaW.PrintMore Go.Proofs.YtdienpcifklinaaW.PrintLast PPortOwn
/-! What spoil leaves: printed by gen15g.py. -/
theorem pl_new {w w1 w2 w3 : World} {b : Nat} {s : Pt} {ok : Nat → Prop} {vO vI : Value} (h1 : Below w.heap.size w w1) (hP : IsPort w1 w.heap.size ok b s) (hS : Stt w2 w1.heap.size (fun _ => True) s vO vI) (hB : Below w1.heap.size w1 w2) (hB3 : Below w2.heap.size w2 w3) {L : Nat} (hL : w2.heap.size ≤ L) (hblk : w3.heap[L]? = some (.cells #[.bool s.q, .int .i64 s.cap, vO, vI, .int .i64 s.lost] TZ (0, 0))) : PL w b L s vO vI ok (fun k => w1.heap.size ≤ k ∧ k < w2.heap.size) w3 := by
  have hz := hB.size
  have hz1 := h1.size
  have hz3 := hB3.size
  refine ⟨⟨below_then (below_then h1 hB) hB3, (hP.below hB).below hB3, Stt.below ⟨?_, ?_⟩ hB3, fun k hk => ⟨by omega, by omega, fun h => by have := (hP.z k h).2; omega⟩⟩, hblk, by omega, fun h => by have := (hP.z L h).2; omega, fun h => by omega⟩
  · exact Kd.R_mono (Kd.R_lower (Kd.R_mono (Kd.R_bound hS.o) (fun k ho => (⟨ho.2.1, ho.2.2.1⟩ : w1.heap.size ≤ k ∧ k < w2.heap.size))) hz1) (fun _ h => h)
  · exact Kd.R_mono (Kd.R_lower (Kd.R_mono (Kd.R_bound hS.i) (fun k ho => (⟨ho.2.1, ho.2.2.1⟩ : w1.heap.size ≤ k ∧ k < w2.heap.size))) hz1) (fun _ h => h)
theorem PL.far {w0 wr w' : World} {b L : Nat} {s : Pt} {vO vI : Value} {ok P F : Nat → Prop} (h : PL w0 b L s vO vI ok P wr) (hk : Keep F wr w') (hF : ∀ k, F k → w0.heap.size ≤ k ∧ ¬ ok k ∧ ¬ P k ∧ k ≠ L) : PL w0 b L s vO vI ok P w' :=
  ⟨h.d.far hk (fun k f => ⟨(hF k f).1, (hF k f).2.1, (hF k f).2.2.1⟩), blk_keep h.blk hk (fun f => (hF L f).2.2.2 rfl), h.lo, h.nok, h.nP⟩
theorem Stt.in {w : World} {base : Nat} {P : Nat → Prop} {s : Pt} {vO vI : Value} (h : Stt w base P s vO vI) : Stt w base (fun k => base ≤ k ∧ k < w.heap.size) s vO vI :=
  ⟨Kd.R_mono (Kd.R_bound h.o) (fun k ho => ⟨ho.2.1, ho.2.2.1⟩), Kd.R_mono (Kd.R_bound h.i) (fun k ho => ⟨ho.2.1, ho.2.2.1⟩)⟩
theorem spoil_any {w0 w : World} {P : Nat → Prop} {s : Pt} {vO vI : Value} (hB : Below w0.heap.size w0 w) (h : Stt w w0.heap.size P s vO vI) (hg : Good s) : Calls Try.prog 22 #[.agg #[.bool s.q, .int .i64 s.cap, vO, vI, .int .i64 s.lost]] w fun e w' => e = .returned (.tuple #[]) ∧ Keep P w w' :=
  (rotalaw15_spoil.calls _ s.q s.cap P vO s.out P vI s.inn s.lost w0 w hB h.o h.i (spoil_ok s hg)).mono fun e w' ⟨he, hB', hk⟩ =>
    ⟨he, ⟨hB'.os.trans hB.os.symm, hB'.tape.trans hB.tape.symm, hB'.output.trans hB.output.symm, hk.1, fun i hi hn => hk.2 i hi (fun h => hn (h.elim id id))⟩⟩
end Go.Proofs.Ytdienpcifklinaa
/- PortOwn: the port takes no memory of the caller, and gives none of its own. No condition. -/
set_option linter.unusedSimpArgs false
set_option linter.unusedVariables false
namespace Go.Proofs.Ytdienpcifklinaa
open Go.RowKit Go.ChangeShapes Go.WideShapes Go.ChangeAt Go.Proofs.YtdienpcifklinaaW.PrintWords Go.Proofs.YtdienpcifklinaaW.PrintMore Go.Proofs.YtdienpcifklinaaW.PrintLast PPortOwn
/-! PortOwn: printed by gen15g.py. -/
set_option maxRecDepth 100000 in
set_option maxHeartbeats 8000000 in
theorem PortOwn0.walk (w : World) (s : Pt) (vO vI : Value) (hR : SttR w s vO vI) (hi : s.inn.length ≤ 8796093022208) (ho : s.out.length ≤ 17592186044416) (A : Option Addr) (c : Nat) (acts : List Ac) (hC : kAc.C w A acts.length acts) (hc : acts.length ≤ c) (hl : acts.length ≤ 140737488355328) :
    Calls Try.prog 8 #[.agg #[.bool s.q, .int .i64 s.cap, vO, vI, .int .i64 s.lost], .slice A acts.length c] w fun e w' => e = .returned (.bool true) ∧ Below w.heap.size w w' := by
  have HC := Aside0.mk hC
  have HR := Aside0.mk hR
  obtain ⟨AO, cO, AI, cI, rfl, rfl, -, -, -, -⟩ := hR
  have HB0 : Aside0 (Below w.heap.size w (w.alloc (.cells #[.bool s.q, .int .i64 s.cap, .slice AO s.out.length cO, .slice AI s.inn.length cI, .int .i64 s.lost] TZ))) := ⟨below_al (Below.refl _ _) _⟩
  have hX0 : Aside0 ((w.alloc (.cells #[.bool s.q, .int .i64 s.cap, .slice AO s.out.length cO, .slice AI s.inn.length cI, .int .i64 s.lost] TZ)).heap[w.heap.size]? = some (.cells #[.bool s.q, .int .i64 s.cap, .slice AO s.out.length cO, .slice AI s.inn.length cI, .int .i64 s.lost] TZ (0, 0))) := ⟨blk_new _ _⟩
  clear hC
  go_enter Try.func8, Try.ntmps8
  go_wp2_with fail
  generalize (w.alloc (.cells #[.bool s.q, .int .i64 s.cap, .slice AO s.out.length cO, .slice AI s.inn.length cI, .int .i64 s.lost] TZ)) = W at *
  refine (copy_c (HR.out.below HB0.out) hi ho).mono ?_
  rintro e w1 ⟨vO1, vI1, rfl, hS1, hB1⟩
  obtain ⟨A1, c1, A2, c2, rfl, rfl, -, -, -, -⟩ := stt_reads hS1
  have hA1 : Below w1.heap.size w1 (w1.alloc (.cells #[.bool s.q, .int .i64 s.cap, .slice A1 s.out.length c1, .slice A2 s.inn.length c2, .int .i64 s.lost] TZ)) := below_al (Below.refl _ _) _
  have HB1 := Aside0.mk (below_then (below_then HB0.out (hB1.mono (Nat.le_refl _))) hA1)
  have HX1 := Aside0.mk (blk_below (blk_below hX0.out hB1) hA1)
  have HI1 : Aside0 ((w1.alloc (.cells #[.bool s.q, .int .i64 s.cap, .slice A1 s.out.length c1, .slice A2 s.inn.length c2, .int .i64 s.lost] TZ)).heap[w1.heap.size]? = some (.cells #[.bool s.q, .int .i64 s.cap, .slice A1 s.out.length c1, .slice A2 s.inn.length c2, .int .i64 s.lost] TZ (0, 0))) := ⟨blk_new _ _⟩
  have HS1 := Aside0.mk ((hS1.in).below hA1)
  have HZ1 : Aside0 (w.heap.size ≤ W.heap.size ∧ W.heap.size ≤ w1.heap.size) := ⟨HB0.out.size, hB1.size⟩
  have HZ2 : Aside0 ((w1.alloc (.cells #[.bool s.q, .int .i64 s.cap, .slice A1 s.out.length c1, .slice A2 s.inn.length c2, .int .i64 s.lost] TZ)).heap.size = w1.heap.size + 1) := ⟨by simp⟩
  have HBW := Aside0.mk (below_then hB1 hA1)
  clear hS1 hB1 hX0 hA1
  go_wp2_with fail
  obtain ⟨n1, hn1⟩ : ∃ d, w1.heap.size = d := ⟨_, rfl⟩
  rw [hn1] at HI1 HS1 HZ1 HZ2 ⊢
  generalize (w1.alloc (.cells #[.bool s.q, .int .i64 s.cap, .slice A1 s.out.length c1, .slice A2 s.inn.length c2, .int .i64 s.lost] TZ)) = W1 at *
  clear hn1
  refine (port_load HS1.out.rd hi ho).mono ?_
  rintro e w2 ⟨hB2, ⟨hm, b, ok, rfl, hP⟩ | ⟨hm, rfl⟩⟩
  · have hX2 := blk_below HX1.out hB2
    have hI2 := blk_below HI1.out hB2
    obtain ⟨x0, x1, x2, x3, x4⟩ := cells5 hX2
    have HP2 := Aside0.mk (hP.lower HB1.out.size)
    have Hok : Aside0 (∀ k, ok k → W1.heap.size ≤ k) := ⟨fun k h => (hP.z k h).1⟩
    have HB2 := Aside0.mk (below_then HB1.out (hB2.mono (Nat.le_refl _)))
    have HBW2 := Aside0.mk (below_then HBW.out hB2)
    have HS2 := Aside0.mk (HS1.out.below hB2)
    have HX2 := Aside0.mk hX2
    have HI2 := Aside0.mk hI2
    have HZ3 : Aside0 (W1.heap.size ≤ w2.heap.size) := ⟨hB2.size⟩
    clear hX2 hI2 hB2 hP HX1 HI1 HS1 HBW HB1
    go_wp2_with fail
    refine (rload_yes (HR.out.below HB2.out) hi ho hm).mono ?_
    rintro e w3 ⟨vO3, vI3, rfl, hS3, hB3⟩
    obtain ⟨A3, c3, A4, c4, rfl, rfl, -, -, -, -⟩ := stt_reads hS3
    have hA3 : Below w3.heap.size w3 (w3.alloc (.cells #[.bool s.q, .int .i64 s.cap, .slice A3 s.out.length c3, .slice A4 s.inn.length c4, .int .i64 s.lost] TZ)) := below_al (Below.refl _ _) _
    have H3 := Aside0.mk (pl_new HB2.out HP2.out hS3 hB3 hA3 (Nat.le_refl _) (blk_new _ _))
    have HB23 : Aside0 (Below w2.heap.size w2 (w3.alloc (.cells #[.bool s.q, .int .i64 s.cap, .slice A3 s.out.length c3, .slice A4 s.inn.length c4, .int .i64 s.lost] TZ))) := ⟨below_then hB3 hA3⟩
    have hX3 := blk_below HX2.out HB23.out
    have hI3 := blk_below HI2.out HB23.out
    have HSI := Aside0.mk (HS2.out.below HB23.out)
    have HBW3 := Aside0.mk (below_then HBW2.out HB23.out)
    have HRX := Aside0.mk (HR.out.below (below_then HB2.out HB23.out))
    obtain ⟨x0, x1, x2, x3, x4⟩ := cells5 hX3
    obtain ⟨i0, i1, i2, i3, i4⟩ := cells5 hI3
    have HI3 := Aside0.mk hI3
    have HZ4 : Aside0 (w2.heap.size ≤ w3.heap.size ∧ (w3.alloc (.cells #[.bool s.q, .int .i64 s.cap, .slice A3 s.out.length c3, .slice A4 s.inn.length c4, .int .i64 s.lost] TZ)).heap.size = w3.heap.size + 1) := ⟨⟨hB3.size, by simp⟩⟩
    have hpn := pne_some b
    have hpe := peq_some b
    have hXl := lt_blk hX3
    have hIl := lt_blk hI3
    clear hS3 hB3 hX3 hI3 hA3 HX2 HI2 HS2 HBW2 HB2 HP2 HB23
    go_wp2_with fail
    generalize (w3.alloc (.cells #[.bool s.q, .int .i64 s.cap, .slice A3 s.out.length c3, .slice A4 s.inn.length c4, .int .i64 s.lost] TZ)) = W3 at *
    refine (same_c HSI.out.rd HRX.out hi ho).mono ?_
    rintro e w4 ⟨rfl, hB4⟩
    have H4 := Aside0.mk (H3.out.then hB4)
    have HI4 := Aside0.mk (blk_below HI3.out hB4)
    have HS4 := Aside0.mk (HSI.out.below hB4)
    have HBW4 := Aside0.mk (below_then HBW3.out hB4)
    have HZ5 : Aside0 (W3.heap.size ≤ w4.heap.size) := ⟨hB4.size⟩
    clear hB4 H3 HI3 HSI HBW3 HRX x0 x1 x2 x3 x4 i0 i1 i2 i3 i4
    go_wp2_with fail
    refine (lives_any w4).mono ?_
    rintro e w5 ⟨rfl, hB5⟩
    have H5 := Aside0.mk (H4.out.then hB5)
    have hI5 := blk_below HI4.out hB5
    obtain ⟨i0, i1, i2, i3, i4⟩ := cells5 hI5
    have hIl := lt_blk hI5
    have HS5 := Aside0.mk (HS4.out.below hB5)
    have HBW5 := Aside0.mk (below_then HBW4.out hB5)
    clear hB5 H4 HI4 HS4 HBW4 hI5
    go_wp2_with fail
    refine (spoil_any HBW5.out HS5.out hm.good).mono ?_
    rintro e w6 ⟨rfl, hk6⟩
    obtain ⟨L, hL⟩ : ∃ L, w3.heap.size = L := ⟨_, rfl⟩
    have H6 : Aside0 (Plays w b L s w6) := ⟨⟨ok, _, _, _, by
      rw [← hL]
      refine H5.out.far hk6 (fun k hk => ⟨by have := HZ1.out; omega, fun h => ?_, fun h => ?_, ?_⟩)
      · have := Hok.out k h
        have := HZ2.out
        omega
      · have := HZ2.out
        have := HZ3.out
        omega
      · have := HZ2.out
        have := HZ3.out
        have := HZ4.out
        omega⟩⟩
    clear hk6 H5 HS5 HBW5 i0 i1 i2 i3 i4 hIl HZ5 HZ4 HZ3 HZ2 HZ1 Hok
    rw [hL]
    clear hL
    go_wp2_with fail
    go_loopw [10, 11] (fun a i wr => ∃ (k : Nat) (s : Pt), k ≤ acts.length ∧ i = .int .i64 k ∧ Aside0 (Plays w b L s wr)) (fun _ i _ => acts.length - (intOf i).toNat)
    case atStart => exact ⟨0, s, by omega, rfl, H6⟩
    case round =>
      clear H6 hm HR
      obtain ⟨k, s, hk, rfl, HT⟩ := hrel
      by_cases hlt : k < acts.length
      · skip
        obtain ⟨ab, off, rfl, hab⟩ := C_form HC.out (by omega) (by decide)
        obtain ⟨⟨d, v⟩, ha, e0, e1⟩ := act_at HC.out k hlt
        simp only at e0 e1
        have E0 := Aside0.mk e0
        have E1 := Aside0.mk e1
        clear ha e0 e1
        obtain ⟨ok, P, vO, vI, hPL⟩ := HT.out
        obtain ⟨AO, cO, AI, cI, rfl, rfl⟩ := hPL.cut
        have HD := Aside0.mk (hPL.then (Below.refl _ _).drew)
        have hki : (0 : Int) ≤ (k : Int) := by omega
        have hkl : (k : Int) < (acts.length : Int) := by omega
        clear hPL
        go_wp2_with fail
        have x0c := (HD.out.d.below.cell (p := ⟨ab, off + k * 2, none⟩) hab).trans E0.out
        have x1c := (HD.out.d.below.cell (p := ⟨ab, off + k * 2 + 1, none⟩) hab).trans E1.out
        refine start_ (n := 12) (S := fun w' => w'.cell? ⟨L, 0, none⟩ = some (.bool s.q) ∧ w'.cell? ⟨L, 1, none⟩ = some (.int .i64 s.cap) ∧ w'.cell? ⟨L, 2, none⟩ = some (.slice AO s.out.length cO) ∧ w'.cell? ⟨L, 3, none⟩ = some (.slice AI s.inn.length cI) ∧ w'.cell? ⟨L, 4, none⟩ = some (.int .i64 s.lost) ∧ w'.cell? ⟨ab, off + k * 2, none⟩ = some (.int .i64 d) ∧ w'.cell? ⟨ab, off + k * 2 + 1, none⟩ = some (.int .i64 v)) (ds := [10]) #[false, false, false, false, false, false, false, false, false, false, false, false] (by kernel_rfl) rfl rfl ⟨cell_blk HD.out.blk 0, cell_blk HD.out.blk 1, cell_blk HD.out.blk 2, cell_blk HD.out.blk 3, cell_blk HD.out.blk 4, x0c, x1c⟩ (fun hHeld => ?_)
        generalize wr.drew = x0 at *
        refine pure_ (i := 0) (N := some 56) (v := ?_) (a' := ?_) #[true, false, false, false, false, false, false, false, false, false, false, false] rfl rfl (by kernel_rfl) (fun _ _ _ h => h) (Or.inl ⟨by rfl, ?_⟩) ?_ ?_
        rotate_left
        · intro w'
          go_simp
          with_reducible rfl
        rotate_left
        · simp only [Act.put, List.setIfInBounds_toArray, List.set_cons_zero, List.set_cons_succ, i64_w, i32_w]
          rfl
        refine pure_ (i := 2) (N := some 58) (v := ?_) (a' := ?_) #[true, false, true, false, false, false, false, false, false, false, false, false] rfl rfl (by kernel_rfl) (fun _ _ _ h => h) (Or.inl ⟨by rfl, ?_⟩) ?_ ?_
        rotate_left
        · intro w'
          go_simp
          with_reducible rfl
        rotate_left
        · simp only [Act.put, List.setIfInBounds_toArray, List.set_cons_zero, List.set_cons_succ, i64_w, i32_w]
          rfl
        refine pure_ (i := 3) (N := some 59) (v := ?_) (a' := ?_) #[true, false, true, true, false, false, false, false, false, false, false, false] rfl rfl (by kernel_rfl) (fun _ _ _ h => h) (Or.inl ⟨by rfl, ?_⟩) ?_ ?_
        rotate_left
        · intro w'
          go_simp
          with_reducible rfl
        rotate_left
        · simp only [Act.put, List.setIfInBounds_toArray, List.set_cons_zero, List.set_cons_succ, i64_w, i32_w]
          rfl
        refine pure_ (i := 4) (N := some 60) (v := ?_) (a' := ?_) #[true, false, true, true, true, false, false, false, false, false, false, false] rfl rfl (by kernel_rfl) (fun _ _ _ h => h) (Or.inl ⟨by rfl, ?_⟩) ?_ ?_
        rotate_left
        · intro w'
          go_simp
          with_reducible rfl
        rotate_left
        · simp only [Act.put, List.setIfInBounds_toArray, List.set_cons_zero, List.set_cons_succ, i64_w, i32_w]
          rfl
        refine take_ (i := 1) (N := some 57) (v := ?_) (a' := ?_) #[true, true, true, true, true, false, false, false, false, false, false, false] rfl rfl (by kernel_rfl) (fun _ _ _ h => h) (Or.inl ⟨by rfl, ?_⟩) hHeld ?_ ?_
        rotate_left
        · rintro w' ⟨s0, s1, s2, s3, s4, s5, s6⟩
          go_simp
          with_reducible rfl
        rotate_left
        · simp only [Act.put, List.setIfInBounds_toArray, List.set_cons_zero, List.set_cons_succ, i64_w, i32_w]
          rfl
        refine take_ (i := 5) (N := some 61) (v := ?_) (a' := ?_) #[true, true, true, true, true, true, false, false, false, false, false, false] rfl rfl (by kernel_rfl) (fun _ _ _ h => h) (Or.inl ⟨by rfl, ?_⟩) hHeld ?_ ?_
        rotate_left
        · rintro w' ⟨s0, s1, s2, s3, s4, s5, s6⟩
          go_simp
          with_reducible rfl
        rotate_left
        · simp only [Act.put, List.setIfInBounds_toArray, List.set_cons_zero, List.set_cons_succ, i64_w, i32_w]
          rfl
        refine one_ (i := 6) (N := some 62) #[true, true, true, true, true, true, true, false, false, false, false, false] rfl rfl (by kernel_rfl) (by decide) (fun K hK => ?_)
        refine goes_ Try.func16 (by kernel_rfl) rfl #[.pointer (some ⟨b, 0, none⟩), .agg #[.bool s.q, .int .i64 s.cap, .slice AO s.out.length cO, .slice AI s.inn.length cI, .int .i64 s.lost], .agg #[.int .i64 d, .int .i64 v]] (by rfl) rfl rfl (by simp only [List.map_toArray, List.map_cons, List.map_nil]; rfl) ?_
        with_reducible refine (does_any (d, v) HD.out.d).mono ?_
        rintro e w4 ⟨vO1, vI1, ok1, P1, rfl, hD4, hg1, hg2, hk4⟩
        refine ⟨_, rfl, ?_⟩
        obtain ⟨A1, c1, A2, c2, rfl, rfl, -, -, -, -⟩ := stt_reads hD4.st
        have hL4 := blk_keep HD.out.blk hk4 (fun h => h.elim HD.out.nok HD.out.nP)
        have y0 := (hD4.below.cell (p := ⟨ab, off + k * 2, none⟩) hab).trans E0.out
        have y1 := (hD4.below.cell (p := ⟨ab, off + k * 2 + 1, none⟩) hab).trans E1.out
        refine hK.out _ _ ⟨cell_blk hL4 0, cell_blk hL4 1, cell_blk hL4 2, cell_blk hL4 3, cell_blk hL4 4, y0, y1⟩ (fun hHeld => ?_)
        clear hK K
        refine norm_ (a' := ?_) ?_ ?_
        rotate_left
        · show Act.put _ (some 62) _ = _
          simp only [Act.put, List.setIfInBounds_toArray, List.set_cons_zero, List.set_cons_succ, i64_w, i32_w]
          rfl
        refine pure_ (i := 7) (N := some 55) (v := ?_) (a' := ?_) #[true, true, true, true, true, true, true, true, false, false, false, false] rfl rfl (by kernel_rfl) (fun _ _ _ h => h) (Or.inl ⟨by rfl, ?_⟩) ?_ ?_
        rotate_left
        · intro w'
          go_simp
          with_reducible rfl
        rotate_left
        · simp only [Act.put, List.setIfInBounds_toArray, List.set_cons_zero, List.set_cons_succ, i64_w, i32_w]
          rfl
        refine pure_ (i := 8) (N := some 63) (v := ?_) (a' := ?_) #[true, true, true, true, true, true, true, true, true, false, false, false] rfl rfl (by kernel_rfl) (fun _ _ _ h => h) (Or.inl ⟨by rfl, ?_⟩) ?_ ?_
        rotate_left
        · intro w'
          go_simp
          with_reducible rfl
        rotate_left
        · simp only [Act.put, List.setIfInBounds_toArray, List.set_cons_zero, List.set_cons_succ, i64_w, i32_w]
          rfl
        refine pure_ (i := 9) (N := some 64) (v := ?_) (a' := ?_) #[true, true, true, true, true, true, true, true, true, true, false, false] rfl rfl (by kernel_rfl) (fun _ _ _ h => h) (Or.inl ⟨by rfl, ?_⟩) ?_ ?_
        rotate_left
        · intro w'
          go_simp
          with_reducible rfl
        rotate_left
        · simp only [Act.put, List.setIfInBounds_toArray, List.set_cons_zero, List.set_cons_succ, i64_w, i32_w]
          rfl
        refine last_ (i := 10) (N := none) #[true, true, true, true, true, true, true, true, true, true, true, false] rfl rfl (by kernel_rfl) (by decide) (fun K hK => ?_)
        obtain ⟨z0, z1, z2, z3, z4⟩ := cells5 hL4
        obtain ⟨z5, z6, z7, z8, z9⟩ := froz5 hL4
        have hZl := lt_blk hL4
        refine skip_ (w1 := ?_) (by rfl) rfl ?_ ?_
        rotate_left
        · go_simp
          first | with_reducible rfl | rfl
        refine hK.out _ _ ?_
        clear hK K
        refine pure_ (i := 11) (N := some 10) (v := ?_) (a' := ?_) #[true, true, true, true, true, true, true, true, true, true, true, true] rfl rfl (by kernel_rfl) (fun _ _ _ h => h) (Or.inl ⟨by rfl, ?_⟩) ?_ ?_
        rotate_left
        · intro w'
          go_simp
          with_reducible rfl
        rotate_left
        · simp only [Act.put, List.setIfInBounds_toArray, List.set_cons_zero, List.set_cons_succ, i64_w, i32_w]
          rfl
        refine done_ (by kernel_rfl) ?_
        have H5 : Aside0 (Plays w b L (doP s (d, v)) _) := ⟨⟨_, _, _, _, HD.out.store hD4 hg1 hg2 hk4⟩⟩
        generalize doP s (d, v) = s1 at *
        clear z0 z1 z2 z3 z4 z5 z6 z7 z8 z9 hL4 hD4 hg1 hg2 hk4 hHeld y0 y1 hZl
        go_wp2
        go_roundw
        case rel => exact ⟨k + 1, _, by omega, by go_num, H5⟩
        case measure => simp [intOf]; omega
      · obtain rfl : k = acts.length := by omega
        obtain ⟨ok, P, vO, vI, hPL⟩ := HT.out
        obtain ⟨AO, cO, AI, cI, rfl, rfl⟩ := hPL.cut
        have HL := Aside0.mk hPL
        have hg := Aside0.mk hPL.d.port.good
        clear hPL HT
        go_wp2_with fail
        refine (port_state HL.out.d.port).mono ?_
        rintro e w4 ⟨vO5, vI5, rfl, hR5, hR6, hB4⟩
        obtain ⟨A5, c5, rfl⟩ := Kd.R_slice hR5
        obtain ⟨A6, c6, rfl⟩ := Kd.R_slice hR6
        have H4 := Aside0.mk (HL.out.then hB4)
        have HS4 := Aside0.mk (Stt.in ⟨hR5, hR6⟩)
        have HB4 := Aside0.mk hB4
        clear hR5 hR6 hB4
        go_wp2_with fail
        refine (port_state H4.out.d.port).mono ?_
        rintro e w5 ⟨vO7, vI7, rfl, hR7, hR8, hB5⟩
        obtain ⟨A7, c7, rfl⟩ := Kd.R_slice hR7
        obtain ⟨A8, c8, rfl⟩ := Kd.R_slice hR8
        have hA6 : Below w5.heap.size w5 ((w5.alloc (.cells #[.bool s.q, .int .i64 s.cap, .slice A5 s.out.length c5, .slice A6 s.inn.length c6, .int .i64 s.lost] TZ)).alloc (.cells #[.bool s.q, .int .i64 s.cap, .slice A7 s.out.length c7, .slice A8 s.inn.length c8, .int .i64 s.lost] TZ)) := below_al (below_al (Below.refl _ _) _) _
        have hB56 := below_then hB5 hA6
        have H6 := Aside0.mk (H4.out.then hB56)
        have HS6 := Aside0.mk (HS4.out.below hB56)
        have HT6 := Aside0.mk (Stt.below (Stt.in ⟨hR7, hR8⟩) hA6)
        have HBr : Aside0 (Below wr.heap.size wr ((w5.alloc (.cells #[.bool s.q, .int .i64 s.cap, .slice A5 s.out.length c5, .slice A6 s.inn.length c6, .int .i64 s.lost] TZ)).alloc (.cells #[.bool s.q, .int .i64 s.cap, .slice A7 s.out.length c7, .slice A8 s.inn.length c8, .int .i64 s.lost] TZ))) := ⟨below_then HB4.out hB56⟩
        have HZ : Aside0 (wr.heap.size ≤ w4.heap.size ∧ w4.heap.size ≤ w5.heap.size ∧ ((w5.alloc (.cells #[.bool s.q, .int .i64 s.cap, .slice A5 s.out.length c5, .slice A6 s.inn.length c6, .int .i64 s.lost] TZ)).alloc (.cells #[.bool s.q, .int .i64 s.cap, .slice A7 s.out.length c7, .slice A8 s.inn.length c8, .int .i64 s.lost] TZ)).heap.size = w5.heap.size + 2 ∧ L < wr.heap.size ∧ w.heap.size ≤ wr.heap.size) := ⟨⟨HB4.out.size, hB5.size, by simp, lt_blk HL.out.blk, HL.out.d.below.size⟩⟩
        have HOK : Aside0 ((∀ k, ok k → k < wr.heap.size) ∧ (∀ k, P k → k < wr.heap.size)) := ⟨⟨fun k h => (HL.out.d.port.z k h).2, fun k h => (HL.out.d.zp k h).2.1⟩⟩
        have ha6 : ((w5.alloc (.cells #[.bool s.q, .int .i64 s.cap, .slice A5 s.out.length c5, .slice A6 s.inn.length c6, .int .i64 s.lost] TZ)).alloc (.cells #[.bool s.q, .int .i64 s.cap, .slice A7 s.out.length c7, .slice A8 s.inn.length c8, .int .i64 s.lost] TZ)).heap[w5.heap.size]? = some (.cells #[.bool s.q, .int .i64 s.cap, .slice A5 s.out.length c5, .slice A6 s.inn.length c6, .int .i64 s.lost] TZ (0, 0)) := blk_alloc (blk_new _ _)
        have hb6 : ((w5.alloc (.cells #[.bool s.q, .int .i64 s.cap, .slice A5 s.out.length c5, .slice A6 s.inn.length c6, .int .i64 s.lost] TZ)).alloc (.cells #[.bool s.q, .int .i64 s.cap, .slice A7 s.out.length c7, .slice A8 s.inn.length c8, .int .i64 s.lost] TZ)).heap[w5.heap.size + 1]? = some (.cells #[.bool s.q, .int .i64 s.cap, .slice A7 s.out.length c7, .slice A8 s.inn.length c8, .int .i64 s.lost] TZ (0, 0)) := blk_new1 _ _ _
        obtain ⟨l0, l1, l2, l3, l4⟩ := cells5 H6.out.blk
        obtain ⟨a0, a1, a2, a3, a4⟩ := cells5 ha6
        obtain ⟨b0, b1, b2, b3, b4⟩ := cells5 hb6
        have Ha6 := Aside0.mk ha6
        have Hb6 := Aside0.mk hb6
        have hal := lt_blk ha6
        have hbl := lt_blk hb6
        have hll := lt_blk H6.out.blk
        clear hR7 hR8 hB5 hB56 hA6 H4 HS4 HB4 ha6 hb6
        go_wp2_with fail
        generalize ((w5.alloc (.cells #[.bool s.q, .int .i64 s.cap, .slice A5 s.out.length c5, .slice A6 s.inn.length c6, .int .i64 s.lost] TZ)).alloc (.cells #[.bool s.q, .int .i64 s.cap, .slice A7 s.out.length c7, .slice A8 s.inn.length c8, .int .i64 s.lost] TZ)) = W6 at *
        refine (same_any HS6.out H6.out.d.st hg.out).mono ?_
        rintro e w6 ⟨rfl, hB6⟩
        have H7 := Aside0.mk (H6.out.then hB6)
        have HS7 := Aside0.mk (HS6.out.below hB6)
        have HT7 := Aside0.mk (HT6.out.below hB6)
        have HBr7 := Aside0.mk (below_then HBr.out hB6)
        have ha7 := blk_below Ha6.out hB6
        have hb7 := blk_below Hb6.out hB6
        have hz6 := Aside0.mk hB6.size
        clear a0 a1 a2 a3 a4 b0 b1 b2 b3 b4 l0 l1 l2 l3 l4 hal hbl hll hB6 H6 HS6 HT6 HBr Ha6 Hb6
        obtain ⟨l0, l1, l2, l3, l4⟩ := cells5 H7.out.blk
        obtain ⟨b0, b1, b2, b3, b4⟩ := cells5 hb7
        have Ha7 := Aside0.mk ha7
        have Hb7 := Aside0.mk hb7
        clear ha7 hb7
        go_wp2_with fail
        refine (same_any HT7.out H7.out.d.st hg.out).mono ?_
        rintro e w7 ⟨rfl, hB7⟩
        have H8 := Aside0.mk (H7.out.then hB7)
        have HS8 := Aside0.mk (HS7.out.below hB7)
        have HT8 := Aside0.mk (HT7.out.below hB7)
        have HBr8 := Aside0.mk (below_then HBr7.out hB7)
        have ha8 := blk_below Ha7.out hB7
        have Hb8 := Aside0.mk (blk_below Hb7.out hB7)
        clear b0 b1 b2 b3 b4 l0 l1 l2 l3 l4 hB7 H7 HS7 HT7 HBr7 Ha7 Hb7
        obtain ⟨a0, a1, a2, a3, a4⟩ := cells5 ha8
        clear ha8
        go_wp2_with fail
        refine (spoil_any HBr8.out HS8.out hg.out).mono ?_
        rintro e w8 ⟨rfl, hk8⟩
        have H9 := Aside0.mk ((H8.out.far hk8 (fun k hk => ⟨by have := HZ.out; omega, fun h => by have := HOK.out.1 k h; omega, fun h => by have := HOK.out.2 k h; omega, by have := HZ.out; omega⟩)).then (Below.refl _ _).drew)
        have HB9 := Aside0.mk ((HT8.out.step hk8 (fun k hk h => by omega)).below (Below.refl _ _).drew)
        have hb9 := blk_drew (blk_keep Hb8.out hk8 (fun h => by have := HZ.out; omega))
        obtain ⟨Bb, hBb⟩ : ∃ d, w5.heap.size + 1 = d := ⟨_, rfl⟩
        rw [hBb] at hb9 ⊢
        have HT9 := Aside0.mk hb9
        clear a0 a1 a2 a3 a4 hb9 hBb hk8 H8 HS8 HT8 HBr8 Hb8
        go_wp2_with fail
        refine start_ (n := 10) (S := fun w' => w'.cell? ⟨L, 0, none⟩ = some (.bool s.q) ∧ w'.cell? ⟨L, 1, none⟩ = some (.int .i64 s.cap) ∧ w'.cell? ⟨L, 2, none⟩ = some (.slice AO s.out.length cO) ∧ w'.cell? ⟨L, 3, none⟩ = some (.slice AI s.inn.length cI) ∧ w'.cell? ⟨L, 4, none⟩ = some (.int .i64 s.lost) ∧ w'.cell? ⟨Bb, 0, none⟩ = some (.bool s.q) ∧ w'.cell? ⟨Bb, 1, none⟩ = some (.int .i64 s.cap) ∧ w'.cell? ⟨Bb, 2, none⟩ = some (.slice A7 s.out.length c7) ∧ w'.cell? ⟨Bb, 3, none⟩ = some (.slice A8 s.inn.length c8) ∧ w'.cell? ⟨Bb, 4, none⟩ = some (.int .i64 s.lost)) (ds := []) #[false, false, false, false, false, false, false, false, false, false] (by kernel_rfl) rfl rfl ⟨cell_blk H9.out.blk 0, cell_blk H9.out.blk 1, cell_blk H9.out.blk 2, cell_blk H9.out.blk 3, cell_blk H9.out.blk 4, cell_blk HT9.out 0, cell_blk HT9.out 1, cell_blk HT9.out 2, cell_blk HT9.out 3, cell_blk HT9.out 4⟩ (fun hHeld => ?_)
        generalize w8.drew = x0 at *
        refine take_ (i := 0) (N := some 83) (v := ?_) (a' := ?_) #[true, false, false, false, false, false, false, false, false, false] rfl rfl (by kernel_rfl) (fun _ _ _ h => h) (Or.inl ⟨by rfl, ?_⟩) hHeld ?_ ?_
        rotate_left
        · rintro w' ⟨s0, s1, s2, s3, s4, s5, s6, s7, s8, s9⟩
          go_simp
          with_reducible rfl
        rotate_left
        · simp only [Act.put, List.setIfInBounds_toArray, List.set_cons_zero, List.set_cons_succ, i64_w, i32_w]
          rfl
        refine take_ (i := 1) (N := some 84) (v := ?_) (a' := ?_) #[true, true, false, false, false, false, false, false, false, false] rfl rfl (by kernel_rfl) (fun _ _ _ h => h) (Or.inl ⟨by rfl, ?_⟩) hHeld ?_ ?_
        rotate_left
        · rintro w' ⟨s0, s1, s2, s3, s4, s5, s6, s7, s8, s9⟩
          go_simp
          with_reducible rfl
        rotate_left
        · simp only [Act.put, List.setIfInBounds_toArray, List.set_cons_zero, List.set_cons_succ, i64_w, i32_w]
          rfl
        refine one_ (i := 2) (N := some 85) #[true, true, true, false, false, false, false, false, false, false] rfl rfl (by kernel_rfl) (by decide) (fun K hK => ?_)
        refine goes_ Try.func17 (by kernel_rfl) rfl #[.agg #[.bool s.q, .int .i64 s.cap, .slice A7 s.out.length c7, .slice A8 s.inn.length c8, .int .i64 s.lost], .agg #[.bool s.q, .int .i64 s.cap, .slice AO s.out.length cO, .slice AI s.inn.length cI, .int .i64 s.lost]] (by rfl) rfl rfl (by simp only [List.map_toArray, List.map_cons, List.map_nil]; rfl) ?_
        with_reducible refine (same_any HB9.out H9.out.d.st hg.out).mono ?_
        rintro e u1 ⟨rfl, hB1⟩
        refine ⟨_, rfl, ?_⟩
        have hL1 := blk_below H9.out.blk hB1
        have hT1 := blk_below HT9.out hB1
        refine hK.out _ _ ⟨cell_blk hL1 0, cell_blk hL1 1, cell_blk hL1 2, cell_blk hL1 3, cell_blk hL1 4, cell_blk hT1 0, cell_blk hT1 1, cell_blk hT1 2, cell_blk hT1 3, cell_blk hT1 4⟩ (fun hHeld => ?_)
        clear hK K
        refine norm_ (a' := ?_) ?_ ?_
        rotate_left
        · show Act.put _ (some 85) _ = _
          simp only [Act.put, List.setIfInBounds_toArray, List.set_cons_zero, List.set_cons_succ, i64_w, i32_w]
          rfl
        refine pure_ (i := 3) (N := some 86) (v := ?_) (a' := ?_) #[true, true, true, true, false, false, false, false, false, false] rfl rfl (by kernel_rfl) (fun _ _ _ h => h) (Or.inl ⟨by rfl, ?_⟩) ?_ ?_
        rotate_left
        · intro w'
          go_simp
          with_reducible rfl
        rotate_left
        · simp only [Act.put, List.setIfInBounds_toArray, List.set_cons_zero, List.set_cons_succ, i64_w, i32_w]
          rfl
        refine pure_ (i := 4) (N := some 87) (v := ?_) (a' := ?_) #[true, true, true, true, true, false, false, false, false, false] rfl rfl (by kernel_rfl) (fun _ _ _ h => h) (Or.inl ⟨by rfl, ?_⟩) ?_ ?_
        rotate_left
        · intro w'
          go_simp
          with_reducible rfl
        rotate_left
        · simp only [Act.put, List.setIfInBounds_toArray, List.set_cons_zero, List.set_cons_succ, i64_w, i32_w]
          rfl
        refine take_ (i := 6) (N := some 89) (v := ?_) (a' := ?_) #[true, true, true, true, true, false, true, false, false, false] rfl rfl (by kernel_rfl) (fun _ _ _ h => h) (Or.inl ⟨by rfl, ?_⟩) hHeld ?_ ?_
        rotate_left
        · rintro w' ⟨s0, s1, s2, s3, s4, s5, s6, s7, s8, s9⟩
          go_simp
          with_reducible rfl
        rotate_left
        · simp only [Act.put, List.setIfInBounds_toArray, List.set_cons_zero, List.set_cons_succ, i64_w, i32_w]
          rfl
        refine one_ (i := 5) (N := some 88) #[true, true, true, true, true, true, true, false, false, false] rfl rfl (by kernel_rfl) (by decide) (fun K hK => ?_)
        refine goes_ Try.func18 (by kernel_rfl) rfl #[.pointer (some ⟨b, 0, none⟩)] (by rfl) rfl rfl (by simp only [List.map_toArray, List.map_cons, List.map_nil]; rfl) ?_
        with_reducible refine (port_state (H9.out.then hB1).d.port).mono ?_
        rintro e u2 ⟨vO1, vI1, rfl, hR1, hR2, hB2⟩
        refine ⟨_, rfl, ?_⟩
        obtain ⟨A1, c1, rfl⟩ := Kd.R_slice hR1
        obtain ⟨A2, c2, rfl⟩ := Kd.R_slice hR2
        have hL2 := blk_below hL1 hB2
        have hT2 := blk_below hT1 hB2
        refine hK.out _ _ ⟨cell_blk hL2 0, cell_blk hL2 1, cell_blk hL2 2, cell_blk hL2 3, cell_blk hL2 4, cell_blk hT2 0, cell_blk hT2 1, cell_blk hT2 2, cell_blk hT2 3, cell_blk hT2 4⟩ (fun hHeld => ?_)
        clear hK K
        refine norm_ (a' := ?_) ?_ ?_
        rotate_left
        · show Act.put _ (some 88) _ = _
          simp only [Act.put, List.setIfInBounds_toArray, List.set_cons_zero, List.set_cons_succ, i64_w, i32_w]
          rfl
        refine one_ (i := 7) (N := some 90) #[true, true, true, true, true, true, true, true, false, false] rfl rfl (by kernel_rfl) (by decide) (fun K hK => ?_)
        refine goes_ Try.func17 (by kernel_rfl) rfl #[.agg #[.bool s.q, .int .i64 s.cap, .slice A1 s.out.length c1, .slice A2 s.inn.length c2, .int .i64 s.lost], .agg #[.bool s.q, .int .i64 s.cap, .slice AO s.out.length cO, .slice AI s.inn.length cI, .int .i64 s.lost]] (by rfl) rfl rfl (by simp only [List.map_toArray, List.map_cons, List.map_nil]; rfl) ?_
        with_reducible refine (same_any ⟨hR1, hR2⟩ ((H9.out.then hB1).then hB2).d.st hg.out).mono ?_
        rintro e u3 ⟨rfl, hB3⟩
        refine ⟨_, rfl, ?_⟩
        have hL3 := blk_below hL2 hB3
        have hT3 := blk_below hT2 hB3
        refine hK.out _ _ ⟨cell_blk hL3 0, cell_blk hL3 1, cell_blk hL3 2, cell_blk hL3 3, cell_blk hL3 4, cell_blk hT3 0, cell_blk hT3 1, cell_blk hT3 2, cell_blk hT3 3, cell_blk hT3 4⟩ (fun hHeld => ?_)
        clear hK K
        refine norm_ (a' := ?_) ?_ ?_
        rotate_left
        · show Act.put _ (some 90) _ = _
          simp only [Act.put, List.setIfInBounds_toArray, List.set_cons_zero, List.set_cons_succ, i64_w, i32_w]
          rfl
        refine pure_ (i := 8) (N := some 91) (v := ?_) (a' := ?_) #[true, true, true, true, true, true, true, true, true, false] rfl rfl (by kernel_rfl) (fun _ _ _ h => h) (Or.inl ⟨by rfl, ?_⟩) ?_ ?_
        rotate_left
        · intro w'
          go_simp
          with_reducible rfl
        rotate_left
        · simp only [Act.put, List.setIfInBounds_toArray, List.set_cons_zero, List.set_cons_succ, i64_w, i32_w]
          rfl
        refine pure_ (i := 9) (N := some 4) (v := ?_) (a' := ?_) #[true, true, true, true, true, true, true, true, true, true] rfl rfl (by kernel_rfl) (fun _ _ _ h => h) (Or.inl ⟨by rfl, ?_⟩) ?_ ?_
        rotate_left
        · intro w'
          go_simp
          with_reducible rfl
        rotate_left
        · simp only [Act.put, List.setIfInBounds_toArray, List.set_cons_zero, List.set_cons_succ, i64_w, i32_w]
          rfl
        refine done_ (by kernel_rfl) ?_
        have H10 := Aside0.mk (((H9.out.then hB1).then hB2).then hB3)
        clear hL1 hL2 hL3 hT1 hT2 hT3 hR1 hR2 hB1 hB2 hB3 hHeld
        go_wp2
        go_ret
        exact ⟨rfl, H10.out.d.below⟩
  · have hX2 := blk_below HX1.out hB2
    have hI2 := blk_below HI1.out hB2
    obtain ⟨x0, x1, x2, x3, x4⟩ := cells5 hX2
    have HB2 := Aside0.mk (below_then HB1.out (hB2.mono (Nat.le_refl _)))
    have HS2 := Aside0.mk (HS1.out.below hB2)
    have HX2 := Aside0.mk hX2
    have HI2 := Aside0.mk hI2
    clear hX2 hI2 hB2
    go_wp2_with fail
    refine (rload_no (HR.out.below HB2.out) hi ho hm).mono ?_
    rintro e w3 ⟨A3, c3, A4, c4, rfl, hB3⟩
    have hA3 : Below w3.heap.size w3 (w3.alloc (.cells #[.bool false, .int .i64 0, .slice A3 0 c3, .slice A4 0 c4, .int .i64 0] TZ)) := below_al (Below.refl _ _) _
    have hX3 := blk_below (blk_below HX2.out hB3) hA3
    have hI3 := blk_below (blk_below HI2.out hB3) hA3
    obtain ⟨x0, x1, x2, x3, x4⟩ := cells5 hX3
    obtain ⟨i0, i1, i2, i3, i4⟩ := cells5 hI3
    have hXl := lt_blk hX3
    have hIl := lt_blk hI3
    have HB3 := Aside0.mk (below_then (below_then HB2.out hB3) hA3)
    have HS3 := Aside0.mk ((HS2.out.below hB3).below hA3)
    have hpn := pne_none
    have hpe := peq_none
    clear hB3 hA3 hX3 hI3 HX2 HI2 HS2
    go_wp2_with fail
    generalize (w3.alloc (.cells #[.bool false, .int .i64 0, .slice A3 0 c3, .slice A4 0 c4, .int .i64 0] TZ)) = W3 at *
    refine (same_c HS3.out.rd (HR.out.below HB3.out) hi ho).mono ?_
    rintro e w4 ⟨rfl, hB4⟩
    have HB4 := Aside0.mk (below_then HB3.out hB4)
    clear hB4 HB3 HB2 x0 x1 x2 x3 x4 i0 i1 i2 i3 i4 hXl hIl HS3
    go_wp2_with fail
    refine (lives_any _).mono ?_
    rintro e w5 ⟨rfl, hB5⟩
    have HB5 := Aside0.mk (below_then HB4.out hB5)
    clear hB5 HB4
    go_wp2
    go_ret
    exact ⟨rfl, HB5.out⟩
theorem portOwn.walk (w : World) (cs : Array Value) (s : Pt) (hK : kZ.K w s cs.toList) (hG1 : s.out.length * 8 ≤ reachBytes ∧ s.inn.length * 16 ≤ reachBytes) (A : Option Addr) (c : Nat) (acts : List Ac) (hc : acts.length ≤ c) (hC : kAc.C w A acts.length acts) (hG : acts.length * Try.prog.bytesOf 30 ≤ reachBytes ∧ acts.length ≤ 9223372036854775807 ∧ ∀ x ∈ acts, True) :
    Calls Try.prog 8 #[.agg cs, .slice A acts.length c] w fun e w' => e = .returned (.bool true) ∧ Below w.heap.size w w' := by
  have h1 : Try.prog.bytesOf 30 = 16 := by kernel_rfl
  rw [h1] at hG
  obtain ⟨vO, vI, hcs, hR⟩ := kZ_open hK
  obtain rfl : cs = #[.bool s.q, .int .i64 s.cap, vO, vI, .int .i64 s.lost] := Array.toList_inj.1 hcs
  have hg := hG.1
  have hg1 := hG1.1
  have hg2 := hG1.2
  unfold reachBytes at hg hg1 hg2
  exact PortOwn0.walk w s vO vI hR (by omega) (by omega) A c acts hC hc (by omega)
theorem portOwn.own : ownKnob Try.prog.godebug = none := by kernel_rfl
theorem portOwn.laidOut : laidOutB Try.prog = true := by kernel_rfl
set_option maxRecDepth 100000 in
set_option maxHeartbeats 1000000 in
theorem portOwn.lifted (os : Os) (started : os.Started) (H : Type) (enc : TypeId × Value → H)
    : ReturnsInHanded {} Try.checked os 8 .any (Rows.portOwnSpec.pre6 enc Try.prog Try.f8 Rows.portOwnRow.domain false) (Rows.portOwnSpec.post enc Try.prog Try.f8 false true false false) := by
  refine returnsInHanded_of_change_sized (C := Try.checked) portOwn.own started (by kernel_rfl) Try.func8
    (ChangeSpec.witness6 (enc := enc) (C := Try.checked) false ⟨#[], #[.agg #[.bool false, .int .i64 0, .slice none 0 0, .slice none 0 0, .int .i64 0], .slice none 0 0], []⟩ 8 (by kernel_rfl) (by kernel_rfl) (by kernel_rfl) (by kernel_rfl)) ?_
  intro W base args ds gs before hval0 hW hcnd hsz0 _
  have hsz : (DataW.weightsEach Try.prog (Try.f8.params.toList ++ Rows.portOwnSpec.plain.varTypes Try.prog) (ds ++ gs)).all (· ≤ reachBytes) = true := hsz0
  have hval : ∀ (j : Nat) t v, Try.f8.params[j]? = some t → args[j]? = some v → Value.okWide Try.prog W .any base t v := hval0
  have hW' := hW
  obtain ⟨p, q, hA0, hV, rfl, hfz, hnd⟩ := hW
  have hA : DataW.TrodAll enc Try.prog W 0 (fun _ => true) true Try.f8.params.toList args.toList ds p := hA0
  rw [Try.params8] at hA hval hsz
  obtain ⟨v0, vs0, d0, ds0, p0, q0, hargs, rfl, rfl, h0, r0⟩ := trodAll_cons hA
  obtain ⟨v1, vs1, d1, ds1, p1, q1, rfl, rfl, rfl, h1, r1⟩ := trodAll_cons r0
  obtain ⟨rfl, rfl, rfl⟩ := trodAll_nil r1
  obtain rfl : args = #[v0, v1] := by cases args; simp_all
  obtain ⟨rfl, rfl⟩ := trodVars_none hV
  have k0 := h0
  have lt0 : ∀ x ∈ p0, x.block < W.heap.size := by obtain ⟨m, hm⟩ := k0; exact DataW.trod_lt m _ _ _ hm
  have W0 := Op.weights_of hsz (j := 0) (t := 40) (d := d0) rfl rfl
  obtain ⟨cs0, rfl, sz0⟩ := okWide_struct Try.underlying40 (hval 0 40 v0 rfl rfl)
  obtain ⟨f0, hf0⟩ := h0
  obtain ⟨a0, hK0, hG0, hM0⟩ := opensZ H enc W _ true f0 _ (d0, p0) hf0 W0
  have k1 := h1
  have lt1 : ∀ x ∈ p1, x.block < W.heap.size := by obtain ⟨m, hm⟩ := k1; exact DataW.trod_lt m _ _ _ hm
  have W1 := Op.weights_of hsz (j := 1) (t := 24) (d := d1) rfl rfl
  obtain ⟨A1, len1, cap1, rfl⟩ := okWide_slice Try.underlying24 (hval 1 24 v1 rfl rfl)
  obtain ⟨f1, hf1⟩ := h1
  obtain ⟨a1, hK1, hG1, hM1⟩ := opensActs H enc W _ true f1 _ (d1, p1) hf1 W1
  obtain ⟨A', c', he1, hc1, hC1⟩ := hK1
  obtain ⟨rfl, rfl, rfl⟩ : A1 = A' ∧ len1 = a1.length ∧ cap1 = c' := by simpa [Value.cells] using he1
  clear hA0 hval0 hsz0 hsz
  refine (portOwn.walk W cs0 a0 hK0 hG0 A1 cap1 a1 hc1 hC1 hG1).mono fun e W' ⟨he, bel⟩ => ?_
  subst he
  exact ⟨_, rfl, _, _, _, [], _, [], hW', trodAll_mk1 (shut_bool Try.underlying4 _), (trodAll_cons_mk (Below.trod portOwn.laidOut (by kernel_rfl) (of_decide_eq_true (by kernel_rfl)) k0 bel lt0) (trodAll_cons_mk (Below.trod portOwn.laidOut (by kernel_rfl) (of_decide_eq_true (by kernel_rfl)) k1 bel lt1) trodAll_mk0)), rfl, bel.frame _, fun h => by cases h⟩
theorem portOwn_holds : Rows.PortOwnSaid :=
  OpenClaim.holds_of_wide 8 Try.f8 rfl rfl rfl rfl rfl rfl rfl ⟨rfl, rfl, rfl, rfl, rfl⟩ rfl rfl rfl rfl rfl (by kernel_rfl) Try.func8 (by kernel_rfl)
    (of_decide_eq_true (by kernel_rfl)) (by unfold Func.isWrapper; first | (rw [if_pos (by decide +kernel)]; kernel_rfl) | (rw [if_neg (by decide +kernel)]; exact ⟨rfl, rfl⟩))
    (fun os started H enc _ => portOwn.lifted os started H enc)
#print axioms portOwn_holds

end Go.Proofs.Ytdienpcifklinaa
