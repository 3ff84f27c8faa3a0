/- Which text is a number's: plain facts on decimal numerals of int64, under the bounds that each states. -/
import Derived.Test.YtjlbimnafbngaaaDoorBitMath
import Derived.Lib.ItoaNum
namespace Go.Proofs.YtjlbimnafbngaaaDoor.ParsePure
open Go.RowKit Go.Proofs.YtjlbimnafbngaaaDoor.BitMath

/-- The value of a row of digits, told on from a. -/
def vs (l : List UInt8) (a : Int) : Int := l.foldl (fun a b => a * 10 + ((b.toNat : Int) - 48)) a
def Dig (b : UInt8) : Prop := 48 ≤ b.toNat ∧ b.toNat ≤ 57
theorem vs_app (l r : List UInt8) (a : Int) : vs (l ++ r) a = vs r (vs l a) := by unfold vs; rw [List.foldl_append]
theorem vs_snoc (l : List UInt8) (b : UInt8) (a : Int) : vs (l ++ [b]) a = vs l a * 10 + ((b.toNat : Int) - 48) := by rw [vs_app]; rfl
theorem vs_le (l : List UInt8) (hl : ∀ b ∈ l, Dig b) : ∀ a, 0 ≤ a → a ≤ vs l a := by
  induction l with
  | nil => intro a _; exact Int.le_refl _
  | cons b r ih =>
    intro a ha
    have hb := hl b (by simp)
    unfold Dig at hb
    have := ih (fun c hc => hl c (by simp [hc])) (a * 10 + ((b.toNat : Int) - 48)) (by omega)
    show a ≤ vs r (a * 10 + ((b.toNat : Int) - 48))
    omega
theorem dig_of (d : Nat) (h : d < 10) : (UInt8.ofNat (48 + d)).toNat = 48 + d := by
  rw [UInt8.toNat_ofNat_of_lt']
  show 48 + d < 256
  omega
theorem dec_vs (u : Nat) : vs (Lib.decDigits u) 0 = u ∧ (∀ b ∈ Lib.decDigits u, Dig b) ∧ Lib.decDigits u ≠ [] := by
  induction u using Nat.strongRecOn with
  | _ u ih =>
    by_cases h : u < 10
    · rw [Lib.decDigits, dif_pos h]
      refine ⟨?_, ?_, by simp⟩
      · show (0 : Int) * 10 + (((UInt8.ofNat (48 + u)).toNat : Int) - 48) = u
        rw [dig_of u h]; omega
      · intro b hb
        rw [List.mem_singleton] at hb
        subst hb
        unfold Dig
        rw [dig_of u h]; omega
    · rw [Lib.decDigits, dif_neg h]
      obtain ⟨e, hd, _⟩ := ih (u / 10) (by omega)
      refine ⟨?_, ?_, by simp⟩
      · rw [vs_snoc, e, dig_of _ (Nat.mod_lt _ (by decide))]; omega
      · intro b hb
        rcases List.mem_append.1 hb with hb | hb
        · exact hd b hb
        · rw [List.mem_singleton] at hb
          subst hb
          unfold Dig
          rw [dig_of _ (Nat.mod_lt _ (by decide))]
          have := Nat.mod_lt u (show 0 < 10 by decide)
          omega

/-- What a numeral is: a sign that is there just below 0, and digits whose value is the number's size. -/
theorem itoa_neg (x : Int) (h : x < 0) : ∃ r, Lib.itoa x = 45 :: r ∧ (∀ b ∈ r, Dig b) ∧ r ≠ [] ∧ vs r 0 = -x := by
  obtain ⟨e, hd, hn⟩ := dec_vs x.natAbs
  exact ⟨Lib.decDigits x.natAbs, by unfold Lib.itoa; rw [if_pos h], hd, hn, by rw [e]; omega⟩
theorem itoa_pos (x : Int) (h : ¬ x < 0) : (∀ b ∈ Lib.itoa x, Dig b) ∧ Lib.itoa x ≠ [] ∧ vs (Lib.itoa x) 0 = x := by
  obtain ⟨e, hd, hn⟩ := dec_vs x.toNat
  have hi : Lib.itoa x = Lib.decDigits x.toNat := by unfold Lib.itoa; rw [if_neg h]
  rw [hi]
  exact ⟨hd, hn, by rw [e]; omega⟩
/-- The number of a text that is one's. -/
theorem itoa_val {x : Int} {l : List UInt8} (h : Lib.itoa x = l) : (l.head? = some 45 ∧ x < 0 ∧ (∀ b ∈ l.tail, Dig b) ∧ l.tail ≠ [] ∧ vs l.tail 0 = -x) ∨ (l.head? ≠ some 45 ∧ 0 ≤ x ∧ (∀ b ∈ l, Dig b) ∧ l ≠ [] ∧ vs l 0 = x) := by
  by_cases hx : x < 0
  · obtain ⟨r, e, h1, h2, h3⟩ := itoa_neg x hx
    rw [e] at h
    subst h
    exact .inl ⟨rfl, hx, h1, h2, h3⟩
  · obtain ⟨h1, h2, h3⟩ := itoa_pos x hx
    rw [h] at h1 h2 h3
    refine .inr ⟨fun e => ?_, by omega, h1, h2, h3⟩
    have hm : (45 : UInt8) ∈ l := List.mem_of_mem_head? (by rw [e]; rfl)
    have := h1 _ hm
    unfold Dig at this
    exact absurd this.1 (by decide)
theorem itoa_one {x y : Int} (h : Lib.itoa x = Lib.itoa y) : x = y := by
  rcases itoa_val h with ⟨h1, h2, _, _, h3⟩ | ⟨h1, h2, _, _, h3⟩ <;> rcases itoa_val (rfl : Lib.itoa y = Lib.itoa y) with ⟨k1, k2, _, _, k3⟩ | ⟨k1, k2, _, _, k3⟩
  · omega
  · exact absurd h1 k1
  · exact absurd k1 h1
  · omega

/-- What a text's number is, or why it has none. -/
def IsParse (l : List UInt8) (r : Int × Int) : Prop := (20 < l.length ∧ r = (0, 2)) ∨ (l.length ≤ 20 ∧ ∃ x, In64 x ∧ Lib.itoa x = l ∧ r = (x, 0)) ∨ (l.length ≤ 20 ∧ (∀ x, In64 x → Lib.itoa x ≠ l) ∧ r = (0, 4))
theorem IsParse.one {l : List UInt8} {r q : Int × Int} (h : IsParse l r) (k : IsParse l q) : r = q := by
  rcases h with ⟨h, rfl⟩ | ⟨h, x, hx, he, rfl⟩ | ⟨h, hn, rfl⟩ <;> rcases k with ⟨k, rfl⟩ | ⟨k, y, hy, ke, rfl⟩ | ⟨k, kn, rfl⟩
  · rfl
  · omega
  · omega
  · omega
  · rw [itoa_one (he.trans ke.symm)]
  · exact absurd he (kn x hx)
  · omega
  · exact absurd ke (hn y hy)
  · rfl

/-- The prefix p has been read: the sign, the value told below 0, how many digits. -/
def HasRead (p : List UInt8) (minus : Bool) (v : Int) (n : Nat) : Prop :=
  (minus = true ∧ ∃ r, p = 45 :: r ∧ (∀ b ∈ r, Dig b) ∧ v = -(vs r 0) ∧ n = r.length) ∨ (minus = false ∧ (∀ b ∈ p, Dig b) ∧ v = -(vs p 0) ∧ n = p.length)
theorem HasRead.nil : HasRead [] false 0 0 := .inr ⟨rfl, (fun b hb => by cases hb), rfl, rfl⟩
theorem HasRead.sign : HasRead [45] true 0 0 := .inl ⟨rfl, [], rfl, (fun b hb => by cases hb), rfl, rfl⟩
theorem HasRead.digit {p : List UInt8} {minus : Bool} {v : Int} {n : Nat} (h : HasRead p minus v n) {b : UInt8} (hb : Dig b) : HasRead (p ++ [b]) minus (v * 10 - ((b.toNat : Int) - 48)) (n + 1) := by
  rcases h with ⟨rfl, r, rfl, hd, rfl, rfl⟩ | ⟨rfl, hd, rfl, rfl⟩
  · refine .inl ⟨rfl, r ++ [b], rfl, fun c hc => ?_, ?_, by simp⟩
    · rcases List.mem_append.1 hc with hc | hc
      · exact hd c hc
      · simp at hc; subst hc; exact hb
    · rw [vs_snoc]; omega
  · refine .inr ⟨rfl, fun c hc => ?_, ?_, by simp⟩
    · rcases List.mem_append.1 hc with hc | hc
      · exact hd c hc
      · simp at hc; subst hc; exact hb
    · rw [vs_snoc]; omega
theorem HasRead.le {p : List UInt8} {minus : Bool} {v : Int} {n : Nat} (h : HasRead p minus v n) : v ≤ 0 := by
  rcases h with ⟨rfl, r, rfl, hd, rfl, rfl⟩ | ⟨rfl, hd, rfl, rfl⟩
  · have := vs_le r hd 0 (by omega); omega
  · have := vs_le p hd 0 (by omega); omega
theorem HasRead.len {p : List UInt8} {minus : Bool} {v : Int} {n : Nat} (h : HasRead p minus v n) : n ≤ p.length := by
  rcases h with ⟨rfl, r, rfl, hd, rfl, rfl⟩ | ⟨rfl, hd, rfl, rfl⟩
  · simp
  · simp
/-- A byte that is no digit, and no sign ahead: there is no number. -/
theorem no_digit {p q : List UInt8} {b : UInt8} (hb : ¬ Dig b) (hs : p ≠ [] ∨ b ≠ 45) (x : Int) : Lib.itoa x ≠ p ++ b :: q := by
  intro h
  rcases itoa_val h with ⟨h1, _, h3, _⟩ | ⟨_, _, h3, _⟩
  · cases p with
    | nil =>
      rcases hs with hs | hs
      · exact hs rfl
      · simp at h1; exact hs h1
    | cons c r => exact hb (h3 b (by simp))
  · exact hb (h3 b (by simp))
/-- A value beyond int64: there is no number. -/
theorem too_big {p q : List UInt8} {b : UInt8} {minus : Bool} {v : Int} {n : Nat} (h : HasRead p minus v n) (hb : Dig b) (hv : v * 10 - ((b.toNat : Int) - 48) < -9223372036854775808) (x : Int) (hx : In64 x) : Lib.itoa x ≠ p ++ b :: q := by
  intro e
  unfold Dig at hb
  unfold In64 at hx
  have e2 : p ++ b :: q = (p ++ [b]) ++ q := by simp
  rcases itoa_val e with ⟨h1, h2, h3, h4, h5⟩ | ⟨h1, h2, h3, h4, h5⟩
  · rcases h with ⟨rfl, r, rfl, hd, rfl, rfl⟩ | ⟨rfl, hd, rfl, rfl⟩
    · have ht : ((45 :: r) ++ b :: q).tail = (r ++ [b]) ++ q := by simp
      rw [ht] at h3 h5
      rw [vs_app, vs_snoc] at h5
      have := vs_le q (fun c hc => h3 c (List.mem_append_right _ hc)) (vs r 0 * 10 + ((b.toNat : Int) - 48)) (by have := vs_le r hd 0 (by omega); omega)
      omega
    · cases p with
      | nil =>
        simp at h1
        subst h1
        exact absurd hb.1 (by decide)
      | cons c r =>
        simp at h1
        subst h1
        exact absurd (hd 45 (by simp)).1 (by decide)
  · rcases h with ⟨rfl, r, rfl, hd, rfl, rfl⟩ | ⟨rfl, hd, rfl, rfl⟩
    · exact h1 rfl
    · rw [e2] at h3 h5
      rw [vs_app, vs_snoc] at h5
      have := vs_le q (fun c hc => h3 c (List.mem_append_right _ hc)) (vs p 0 * 10 + ((b.toNat : Int) - 48)) (by have := vs_le p hd 0 (by omega); omega)
      omega
/-- Behind the whole text: the number, if there is one, is this one. -/
theorem HasRead.whole {l : List UInt8} {minus : Bool} {v : Int} {n : Nat} (h : HasRead l minus v n) {x : Int} (e : Lib.itoa x = l) : n ≠ 0 ∧ x = if minus then v else -v := by
  rcases itoa_val e with ⟨h1, h2, h3, h4, h5⟩ | ⟨h1, h2, h3, h4, h5⟩
  · rcases h with ⟨rfl, r, rfl, hd, rfl, rfl⟩ | ⟨rfl, hd, rfl, rfl⟩
    · simp at h4 h5
      exact ⟨by simpa using h4, by simp; omega⟩
    · cases l with
      | nil => simp at h1
      | cons c r =>
        simp at h1
        subst h1
        exact absurd (hd 45 (by simp)).1 (by decide)
  · rcases h with ⟨rfl, r, rfl, hd, rfl, rfl⟩ | ⟨rfl, hd, rfl, rfl⟩
    · exact absurd rfl h1
    · exact ⟨by simpa using h4, by simp; omega⟩
end Go.Proofs.YtjlbimnafbngaaaDoor.ParsePure
