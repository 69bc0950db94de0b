import Derived.Test.YtnglgjegkjfnaaaSlH
set_option linter.unusedSimpArgs false
set_option linter.unusedVariables false
namespace Go.Proofs.Ytnglgjegkjfnaaa
open Go.RowKit Go.Proofs.YtnglgjegkjfnaaaW.PrintWords Go.Proofs.YtnglgjegkjfnaaaW.PrintMore
/-! What a slab's calls do, in plain words. -/
def refillS (s : Sl) (p : Nat) : Sl := { s with caches := s.caches.set p (s.free.take 16), free := s.free.drop 16 }
def stealFrom (s : Sl) (p : Nat) : Nat → Nat → Option Nat
  | 0, _ => none
  | fuel + 1, i => if s.caches.getD ((p + i) % s.caches.length) [] = [] then stealFrom s p fuel (i + 1) else some ((p + i) % s.caches.length)
def stealAt (s : Sl) (p : Nat) : Option Nat := stealFrom s p (s.caches.length - 1) 1
def popS (s : Sl) (p : Nat) : Sl := { s with caches := s.caches.set p (s.caches.getD p []).dropLast }
def growS (s : Sl) : Sl := { s with gens := s.gens ++ [0], alive := s.alive ++ [false] }
def robS (s : Sl) (q : Nat) : Sl := { s with caches := s.caches.set q (s.caches.getD q []).tail }
/-- A slot that can be given, out of a slab whose p-th cache is filled as it may be. -/
def slotT (s : Sl) (p : Nat) : Sl × Option Int :=
  match (s.caches.getD p []).getLast? with
  | some x => (popS s p, some x)
  | none => if s.gens.length < s.limit then (growS s, some s.gens.length) else
    match stealAt s p with
    | some q => (robS s q, some ((s.caches.getD q []).headD 0))
    | none => (s, none)
def fillS (s : Sl) (p : Nat) : Sl := if s.caches.getD p [] = [] then refillS s p else s
def slotS (s : Sl) (p : Nat) : Sl × Option Int := slotT (fillS s p) p
def givenS (s : Sl) (x : Nat) : Sl := { s with gens := s.gens.set x (s.gens.getD x 0 + 1), alive := s.alive.set x true }
/-- Take: the slab, the slot, its generation, the error. -/
def takeS (s : Sl) (p : Int) : Sl × Int × Int × Int :=
  if procS s p then
    match slotS s p.toNat with
    | (s1, some x) => (givenS s1 x.toNat, x, s1.gens.getD x.toNat 0 + 1, 0)
    | (s1, none) => (s1, 0, 0, 2)
  else (s, 0, 0, 1)
def giveBack (s : Sl) (p : Nat) (x : Int) : Sl :=
  let c := s.caches.getD p [] ++ [x]
  if c.length = 64 then { s with free := s.free ++ c.take 32, caches := s.caches.set p (c.drop 32) } else { s with caches := s.caches.set p c }
def giveS (s : Sl) (p x g : Int) : Sl × Int :=
  if procS s p then
    if aliveS s x g then
      if g = 2147483647 then ({ s with alive := s.alive.set x.toNat false }, 0) else (giveBack { s with alive := s.alive.set x.toNat false } p.toNat x, 0)
    else (s, 41)
  else (s, 1)
/-- What the walks ask of a slab. -/
structure Ok (s : Sl) : Prop where
  l0 : 0 < s.limit
  l1 : s.limit ≤ 4096
  c0 : 0 < s.caches.length
  c1 : s.caches.length ≤ 64
  g : (s.gens.length : Int) ≤ s.limit
  a : s.alive.length = s.gens.length
  gb : ∀ x ∈ s.gens, 0 ≤ x ∧ x ≤ 2147483647
  fl : s.free.length ≤ 4096
  cl : ∀ c ∈ s.caches, c.length ≤ 64
  fb : ∀ x ∈ s.free, 0 ≤ x ∧ x < s.gens.length
  cb : ∀ c ∈ s.caches, ∀ x ∈ c, 0 ≤ x ∧ x < s.gens.length
theorem Ok.bd {s : Sl} (h : Ok s) : Bd s := by
  have h1 := h.l1
  have h2 := h.g
  have h3 := h.a
  have h4 := h.fl
  have h5 := h.c1
  exact ⟨by omega, by omega, by omega, by omega, fun x hx => by have := h.cl x hx; omega⟩
theorem procS_iff {s : Sl} {p : Int} : procS s p = true ↔ 0 ≤ p ∧ p < s.caches.length := by simp [procS]
end Go.Proofs.Ytnglgjegkjfnaaa
