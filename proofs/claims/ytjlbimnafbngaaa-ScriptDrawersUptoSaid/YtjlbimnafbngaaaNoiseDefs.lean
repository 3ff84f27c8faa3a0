/- What Noise makes: the definitions, and the facts that its walk needs. -/
import Derived.Test.YtjlbimnafbngaaaFairPure
namespace Go.Proofs.Ytjlbimnafbngaaa.Noise
open Go.RowKit Go.Proofs.YtjlbimnafbngaaaW.PrintWords Go.Proofs.Ytjlbimnafbngaaa.BitMath Go.Proofs.Ytjlbimnafbngaaa.FairPure

/-- The seeded number behind x, and what is told of it. -/
def nxt (x : Int) : Int := wrap64 (wrap64 (x * 6543210987654321773) + 1234567890123456789)
def num (x : Int) : Int := x / 8589934592
theorem nxt_in (x : Int) : In64 (nxt x) := in64_wrap _
/-- The first place of the least number, from place j on, where p is the first such so far. -/
def least (l : List Int) (p j : Nat) : Nat → Nat
  | 0 => p
  | d + 1 => least l (if l.getD j 0 < l.getD p 0 then j else p) (j + 1) d
theorem least_lt (l : List Int) (d : Nat) : ∀ (p j : Nat), p < l.length → j + d = l.length → least l p j d < l.length := by
  induction d with
  | zero => intro p j hp _; exact hp
  | succ d ih =>
    intro p j hp hj
    unfold least
    refine ih _ _ ?_ (by omega)
    split <;> omega
/-- Who has waited the longest: named holds, of each worker, the place behind its last pick. -/
def oldest (named : List Int) : Nat := least named 0 0 named.length
/-- Whom place i picks, where the seeded number is x. -/
def pickOf (W n i : Nat) (named : List Int) (x : Int) : Nat := if (i : Int) - named.getD (oldest named) 0 < (n : Int) - (W : Int) then who W (num x) else oldest named
/-- d more places from place i on: the picks and the draws. -/
def noise (W n : Nat) : Nat → Nat → List Int → Int → List (Int × Int)
  | 0, _, _, _ => []
  | d + 1, i, named, x => (((pickOf W n i named (nxt x) : Nat) : Int), num (nxt (nxt x))) :: noise W n d (i + 1) (named.set (pickOf W n i named (nxt x)) ((i + 1 : Nat) : Int)) (nxt (nxt x))
theorem noise_length (W n d : Nat) : ∀ (i : Nat) (named : List Int) (x : Int), (noise W n d i named x).length = d := by
  induction d with
  | zero => intro i named x; rfl
  | succ d ih => intro i named x; unfold noise; rw [List.length_cons, ih]

theorem oldest_lt {named : List Int} (h : 0 < named.length) : oldest named < named.length := least_lt named _ 0 0 h (by omega)
theorem pick_lt {W n i : Nat} {named : List Int} {x : Int} (hW : 0 < W) (hl : named.length = W) : pickOf W n i named x < W := by
  unfold pickOf
  split
  · exact who_lt W hW _
  · have := oldest_lt (named := named) (by omega); omega
theorem getD_mem_bound {named : List Int} {b : Int} (hb : ∀ v ∈ named, 0 ≤ v ∧ v ≤ b) {j : Nat} (hj : j < named.length) : 0 ≤ named.getD j 0 ∧ named.getD j 0 ≤ b := by
  have : named.getD j 0 = named[j] := by simp [List.getD_eq_getElem?_getD, hj]
  rw [this]; exact hb _ (List.getElem_mem hj)
theorem set_bound {named : List Int} {i p : Nat} (hb : ∀ v ∈ named, 0 ≤ v ∧ v ≤ (i : Int)) : ∀ v ∈ named.set p ((i + 1 : Nat) : Int), 0 ≤ v ∧ v ≤ ((i + 1 : Nat) : Int) := by
  intro v hv
  rcases List.mem_or_eq_of_mem_set hv with h | h
  · have := hb v h; omega
  · omega

/-- What Noise answers: the picks, the draws, the error. -/
def noiseR (x a n len : Int) : List Int × List Int × Int :=
  if 1 ≤ a ∧ a ≤ 64 then
    if n < a then ([], [], 101) else if len < 0 then ([], [], 3) else if len > 1048576 then ([], [], 2)
    else ((noise a.toNat n.toNat len.toNat 0 (List.replicate a.toNat 0) x).map (·.1), (noise a.toNat n.toNat len.toNat 0 (List.replicate a.toNat 0) x).map (·.2), 0)
  else ([], [], 3)
end Go.Proofs.Ytjlbimnafbngaaa.Noise
