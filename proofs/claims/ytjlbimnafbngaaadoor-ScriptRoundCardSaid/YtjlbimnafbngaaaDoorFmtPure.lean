/- The decimal numeral, as the document's own answer makes it, is the library's: plain facts, for every int64. -/
import Derived.Test.YtjlbimnafbngaaaDoorPScriptEncodex0
import Derived.Test.YtjlbimnafbngaaaDoorBitMath
import Derived.Lib.ItoaNum
namespace Go.Proofs.YtjlbimnafbngaaaDoor.PScriptEncode
open Go.RowKit Go.Proofs.YtjlbimnafbngaaaDoorW.PrintWords Go.Proofs.YtjlbimnafbngaaaDoorW.PrintLast Go.Proofs.YtjlbimnafbngaaaDoorW.PrintMore
attribute [local go_sem] max2_int min2_int max_two min_two max_three min_three max_four min_four   -- for this text's walks alone
set_option linter.unusedVariables false
set_option linter.unusedSimpArgs false

def plunderref1_digits.f : Nat → Int → Option (ByteArray)
  | 0, _ => none
  | k + 1, a0 => if a0 = 0 then (some (⟨#[]⟩ : ByteArray)) else (if (Int.tmod a0 10) < 0 then ((plunderref1_digits.f k (wrap64 (Int.tdiv a0 10))).bind fun t133 => ((some (([(wrap64 (48 + (wrap64 (-(Int.tmod a0 10))))) % 256] : List Int) : List Int)).bind fun y134 => (if t133.size + (strOfNums y134).size ≤ 9223372036854775807 then (some (t133 ++ (strOfNums y134))) else (none)))) else ((plunderref1_digits.f k (wrap64 (Int.tdiv a0 10))).bind fun t137 => ((some (([(wrap64 (48 + (Int.tmod a0 10))) % 256] : List Int) : List Int)).bind fun y138 => (if t137.size + (strOfNums y138).size ≤ 9223372036854775807 then (some (t137 ++ (strOfNums y138))) else (none)))))
theorem plunderref1_digits.mono_l : ∀ k, (∀ y0, LeO (plunderref1_digits.f k y0) (plunderref1_digits.f (k + 1) y0))
  | 0 => fun _ r h => by simp [plunderref1_digits.f] at h
  | k + 1 => by
    have ih0 := plunderref1_digits.mono_l k
    · intro y0
      unfold plunderref1_digits.f
      repeat' first
      | (with_reducible exact ih0 _)
      | (with_reducible exact LeO.refl _)
      | (with_reducible exact LeO.none _)
      | (with_reducible refine LeO.ite ?_ ?_)
      | (with_reducible refine LeO.bind ?_ (fun _ => ?_))
      | exact ih0 _
      | exact LeO.none _
      | refine LeO.ite ?_ ?_
      | refine LeO.bind ?_ (fun _ => ?_)
theorem plunderref1_digits.mono : ∀ a0 k, LeO (plunderref1_digits.f k a0) (plunderref1_digits.f (k + 1) a0) := by
  intro a0 k
  have ih0 := plunderref1_digits.mono_l k
  exact ih0 a0
def plunderref1_Format.f (k : Nat) (a0 : Int) : Option (ByteArray) := if a0 = 0 then (some (⟨#[48]⟩ : ByteArray)) else (if a0 < 0 then ((plunderref1_digits.f k a0).bind fun t141 => (if 1 + t141.size ≤ 9223372036854775807 then (some ((⟨#[45]⟩ : ByteArray) ++ t141)) else (none))) else ((plunderref1_digits.f k a0).bind fun t142 => (some t142)))
theorem plunderref1_Format.mono : ∀ a0 k, LeO (plunderref1_Format.f k a0) (plunderref1_Format.f (k + 1) a0) := by
  intro a0 k
  unfold plunderref1_Format.f
  repeat' first
      | (with_reducible exact plunderref1_digits.mono _ _)
      | (with_reducible exact LeO.refl _)
      | (with_reducible exact LeO.none _)
      | (with_reducible refine LeO.ite ?_ ?_)
      | (with_reducible refine LeO.bind ?_ (fun _ => ?_))
      | exact plunderref1_digits.mono _ _
      | exact LeO.none _
      | refine LeO.ite ?_ ?_
      | refine LeO.bind ?_ (fun _ => ?_)
end Go.Proofs.YtjlbimnafbngaaaDoor.PScriptEncode
namespace Go.Proofs.YtjlbimnafbngaaaDoor.FmtPure
open Go.RowKit Go.Proofs.YtjlbimnafbngaaaDoorW.PrintWords Go.Proofs.YtjlbimnafbngaaaDoor.BitMath Go.Proofs.YtjlbimnafbngaaaDoor.PScriptEncode

/-- The digits of u, none for 0. -/
def digs (u : Nat) : List UInt8 := if u = 0 then [] else Lib.decDigits u
theorem digs_step (u : Nat) (h : 0 < u) : digs u = digs (u / 10) ++ [UInt8.ofNat (48 + u % 10)] := by
  unfold digs
  rw [if_neg (by omega)]
  by_cases h1 : u < 10
  · rw [Lib.decDigits, dif_pos h1, if_pos (by omega), Nat.mod_eq_of_lt h1]; rfl
  · rw [Lib.decDigits, dif_neg h1, if_neg (by omega)]
theorem digs_len (k : Nat) : ∀ u, u < 10 ^ k → (digs u).length ≤ k := by
  induction k with
  | zero => intro u h; have : u = 0 := by simpa using h
            subst this; simp [digs]
  | succ k ih =>
    intro u h
    by_cases h0 : u = 0
    · subst h0; simp [digs]
    · rw [digs_step u (by omega), List.length_append]
      have := ih (u / 10) (by rw [Nat.pow_succ] at h; omega)
      simp
      omega

/-- How long a numeral is. -/
theorem itoa_len (v : Int) (hv : In64 v) : 1 ≤ (Lib.itoa v).length ∧ (Lib.itoa v).length ≤ 20 := by
  have hb : v.natAbs < 10 ^ 19 := by unfold In64 at hv; omega
  have hlen := digs_len 19 _ hb
  have hp : ∀ u : Nat, 1 ≤ (Lib.decDigits u).length := by
    intro u
    rw [Lib.decDigits]
    split <;> simp
  unfold Lib.itoa
  by_cases h0 : v = 0
  · subst h0
    rw [if_neg (by decide), Lib.decDigits, dif_pos (by decide)]
    simp
  · have hd : digs v.natAbs = Lib.decDigits v.natAbs := by unfold digs; rw [if_neg (by omega)]
    rw [hd] at hlen
    by_cases hn : v < 0
    · rw [if_pos hn]; simp; omega
    · rw [if_neg hn, show v.toNat = v.natAbs by omega]
      have := hp v.natAbs
      omega
end Go.Proofs.YtjlbimnafbngaaaDoor.FmtPure
