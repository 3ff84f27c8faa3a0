/- A list's text as plain Lean: numbers, equal ones together. -/
import Derived.Test.YtjlbimnafbngaaaDoorFmt
namespace Go.Proofs.YtjlbimnafbngaaaDoor.Enc
/-- As many of the same at the head. -/
def same (x : Int) : List Int → Nat
  | [] => 0
  | y :: t => if y = x then same x t + 1 else 0
theorem same_le (x : Int) (t : List Int) : same x t ≤ t.length := by
  induction t with
  | nil => exact Nat.le_refl _
  | cons y t ih => unfold same; split <;> simp <;> omega
theorem same_at (x : Int) (t : List Int) : ∀ j, j < same x t → t[j]? = some x := by
  induction t with
  | nil => intro j h; simp [same] at h
  | cons y t ih =>
    intro j h
    unfold same at h
    by_cases hy : y = x
    · rw [if_pos hy] at h
      cases j with
      | zero => simp [hy]
      | succ j => rw [List.getElem?_cons_succ]; exact ih j (by omega)
    · rw [if_neg hy] at h; omega
theorem same_end (x : Int) (t : List Int) (y : Int) (h : t[same x t]? = some y) : y ≠ x := by
  induction t with
  | nil => simp at h
  | cons z t ih =>
    unfold same at h
    by_cases hz : z = x
    · rw [if_pos hz, List.getElem?_cons_succ] at h; exact ih h
    · rw [if_neg hz] at h; simp at h; exact h ▸ hz
/-- What is written of one stretch. -/
def piece (x : Int) (r : Nat) : List UInt8 := 32 :: (Lib.itoa x ++ (if r = 0 then [] else 42 :: Lib.itoa ((r + 1 : Nat) : Int)))
def toldL : Nat → List UInt8 → List Int → List UInt8
  | 0, b, _ => b
  | _ + 1, b, [] => b
  | n + 1, b, x :: t => if b.length ≤ 65536 then toldL n (b ++ piece x (same x t)) (t.drop (same x t)) else b
theorem toldL_nil (n : Nat) (b : List UInt8) : toldL n b [] = b := by cases n <;> rfl
theorem toldL_fuel (n : Nat) : ∀ (m : Nat) (b : List UInt8) (l : List Int), l.length ≤ n → l.length ≤ m → toldL n b l = toldL m b l := by
  induction n with
  | zero =>
    intro m b l h1 h2
    have : l = [] := List.eq_nil_of_length_eq_zero (by omega)
    rw [this, toldL_nil, toldL_nil]
  | succ n ih =>
    intro m b l h1 h2
    cases l with
    | nil => rw [toldL_nil, toldL_nil]
    | cons x t =>
      rw [List.length_cons] at h1 h2
      obtain ⟨m, rfl⟩ : ∃ k, m = k + 1 := ⟨m - 1, by omega⟩
      simp only [toldL]
      split
      · exact ih m _ _ (by rw [List.length_drop]; omega) (by rw [List.length_drop]; omega)
      · rfl
/-- One stretch is written. -/
theorem toldL_step (l : List Int) (i : Nat) (cur : List UInt8) (x : Int) (t : List Int) (hd : l.drop i = x :: t) (hc : cur.length ≤ 65536) :
    toldL (l.length - i) cur (l.drop i) = toldL (l.length - (i + 1 + same x t)) (cur ++ piece x (same x t)) (l.drop (i + 1 + same x t)) := by
  have hl : (l.drop i).length = t.length + 1 := by rw [hd]; rfl
  rw [List.length_drop] at hl
  have hs := same_le x t
  have ht : l.drop (i + 1 + same x t) = t.drop (same x t) := by
    rw [Nat.add_assoc, ← List.drop_drop, hd, Nat.add_comm 1, List.drop_succ_cons]
  rw [hd, hl, ht]
  simp only [toldL]
  rw [if_pos hc]
  exact toldL_fuel _ _ _ _ (by rw [List.length_drop]; omega) (by rw [List.length_drop]; omega)
theorem toldL_stop (l : List Int) (i : Nat) (cur : List UInt8) (h : l.length ≤ i ∨ 65536 < cur.length) : toldL (l.length - i) cur (l.drop i) = cur := by
  rcases h with h | h
  · rw [List.drop_eq_nil_of_le h, toldL_nil]
  · cases hd : l.drop i with
    | nil => rw [toldL_nil]
    | cons x t =>
      cases hn : l.length - i with
      | zero => rfl
      | succ n => simp only [toldL]; rw [if_neg (by omega)]
end Go.Proofs.YtjlbimnafbngaaaDoor.Enc
