import Derived.Test.YtnglgjegkjfnaaaSlP
set_option linter.unusedSimpArgs false
set_option linter.unusedVariables false
namespace Go.Proofs.Ytnglgjegkjfnaaa
open Go.RowKit Go.Proofs.YtnglgjegkjfnaaaW.PrintWords Go.Proofs.YtnglgjegkjfnaaaW.PrintMore Go.Proofs.YtnglgjegkjfnaaaW.PrintLast
/-! Flush, Give, whichever way. -/
theorem give_slab {b : Nat} {s : Sl} {base : Nat} {col : Nat → Nat} (p x g : Int) (w : World) (hb : base ≤ w.heap.size) (h : IsSlab TS w base b col s) (hO : Ok s) (hc : ∀ c ∈ s.caches, c.length < 64) : Calls Try.prog 24 #[.pointer (some ⟨b, 0, none⟩), .int .i64 p, .agg #[.int .i64 x, .int .i64 g]] w (FlushP base b col (giveS s p x g) w) := by
  cases hpr : procS s p with
  | false => exact give_out p x g w h hO (.inl hpr)
  | true =>
    cases hal : aliveS s x g with
    | false => exact give_out p x g w h hO (.inr hal)
    | true =>
      obtain ⟨h0, h1⟩ := procS_iff.1 hpr
      obtain ⟨n, rfl⟩ := Int.eq_ofNat_of_zero_le h0
      obtain ⟨i, rfl, hi, -, -⟩ := alive_true hal
      have hpn : n < s.caches.length := by omega
      by_cases hg : g = 2147483647
      · exact give_last w hb h hO hpn hal hi hg
      · obtain ⟨y, hy⟩ : ∃ y, s.caches[n]? = some y := ⟨_, List.getElem?_eq_getElem hpn⟩
        have hl := hc y (List.mem_of_getElem? hy)
        by_cases h63 : y.length < 63
        · exact give_less w hb h hO hpn hal hi hg y hy h63
        · exact give_full w hb h hO hpn hal hi hg y hy (by omega)
end Go.Proofs.Ytnglgjegkjfnaaa
