/- What the check of deeds answers: plain facts. -/
import Derived.Test.YtamfkglnejhjdaaDoorPlayPure
import Derived.Test.YtamfkglnejhjdaaDoorBitMath
import Derived.Test.YtamfkglnejhjdaaDoorSerA
namespace Go.Proofs.YtamfkglnejhjdaaDoor.Base
open Go.RowKit Go.Proofs.YtamfkglnejhjdaaDoorW.PrintWords Go.Proofs.YtamfkglnejhjdaaDoor.BitMath Go.Proofs.YtamfkglnejhjdaaDoor.PHyperFold Go.Proofs.YtamfkglnejhjdaaDoor.Play
def dd (d : S46) : Int × Int := (d.f0, d.f1)
def chk : Nat → Nat → List S46 → Int × Int
 | _, _, [] => (0, 0)
 | n, i, d :: ds => if d.f0 = 0 then chk (n + 1) (i + 1) ds else if d.f0 = 1 then (match n with | 0 => (190, (i : Int)) | m + 1 => chk m (i + 1) ds) else if d.f0 = 2 ∨ d.f0 = 3 ∨ d.f0 = 4 then chk n (i + 1) ds else (190, (i : Int))
theorem chk_right (ds : List S46) : ∀ n i, ((chk n i ds).1 = 0 ↔ right n (ds.map dd) = true) := by
 induction ds with
 | nil => intro n i; simp [chk, right]
 | cons d ds ih =>
  intro n i
  simp only [chk, List.map_cons, right, dd]
  by_cases h0 : d.f0 = 0
  ·rw [if_pos h0, if_pos h0]; exact ih _ _
  ·rw [if_neg h0, if_neg h0]
   by_cases h1 : d.f0 = 1
   ·rw [if_pos h1, if_pos h1]
    cases n with
    | zero => simp
    | succ m => exact ih _ _
   ·rw [if_neg h1, if_neg h1]
    by_cases h2 : d.f0 = 2 ∨ d.f0 = 3 ∨ d.f0 = 4
    ·rw [if_pos h2, if_pos h2]; exact ih _ _
    ·rw [if_neg h2, if_neg h2]; simp
theorem rd_drop {l : List S46} {i : Nat} {d : S46} {ds : List S46} (h : l.drop i = d :: ds) : rd_T46 l (i : Int) = d ∧ i < l.length ∧ l.drop (i + 1) = ds := by
 have hl : i < l.length := by
  rcases Nat.lt_or_ge i l.length with h1 | h1
  ·exact h1
  ·rw [List.drop_eq_nil_of_le h1] at h; cases h
 rw [List.drop_eq_getElem_cons hl] at h
 injection h with h1 h2
 refine ⟨?_, hl, h2⟩
 unfold rd_T46
 rw [Int.toNat_natCast, List.getD_eq_getElem?_getD, List.getElem?_eq_getElem hl, ← h1]; rfl
theorem nil_drop {l : List S46} {i : Nat} (h : l.drop i = []) : l.length ≤ i := List.drop_eq_nil_iff.1 h
theorem check_loop (l : List S46) (hm : l.length ≤ 4096) (ds : List S46) : ∀ (n i k : Nat), l.drop i = ds → n ≤ i → i ≤ l.length → 2 * ds.length + 1 < k → races_Check.l0 k (n : Int) l (l.length : Int) (i : Int) = some (chk n i ds) := by
 induction ds with
 | nil =>
  intro n i k hd hn hi hk
  obtain ⟨k, rfl⟩ : ∃ m, k = m + 1 := ⟨k - 1, by omega⟩
  have := nil_drop hd
  simp only [races_Check.l0]
  rw [if_neg (by omega)]; rfl
 | cons d ds ih =>
  intro n i k hd hn hi hk
  obtain ⟨hr, hl, hd2⟩ := rd_drop hd
  simp only [List.length_cons] at hk
  obtain ⟨k, rfl⟩ : ∃ m, k = m + 2 := ⟨k - 2, by omega⟩
  simp only [races_Check.l0, chk]
  rw [if_pos (by omega), if_pos (by omega), if_pos (by omega), hr, wrap_id (a := (n : Int) + 1) (by unfold In64; omega), wrap_id (a := (n : Int) - 1) (by unfold In64; omega), wrap_id (a := (i : Int) + 1) (by unfold In64; omega)]
  by_cases h0 : d.f0 = 0
  ·rw [if_pos h0, if_pos h0, if_neg (by omega)]
   exact ih (n + 1) (i + 1) (k + 1) hd2 (by omega) (by omega) (by omega)
  ·rw [if_neg h0, if_neg h0]
   by_cases h1 : d.f0 = 1
   ·rw [if_pos h1, if_pos h1]
    cases n with
    | zero => rw [if_pos (by omega)]
    | succ m =>
     rw [if_neg (by omega), show ((m + 1 : Nat) : Int) - 1 = (m : Int) by omega]
     exact ih m (i + 1) (k + 1) hd2 (by omega) (by omega) (by omega)
   ·rw [if_neg h1, if_neg h1]
    by_cases h2 : d.f0 = 2
    ·rw [if_pos h2, if_pos (.inl h2)]
     simp only [races_Check.j1]
     rw [if_pos (by simp [h2]), if_neg (by omega)]
     rw [wrap_id (a := (i : Int) + 1) (by unfold In64; omega)]
     exact ih n (i + 1) k hd2 (by omega) (by omega) (by omega)
    ·rw [if_neg h2]
     by_cases h3 : d.f0 = 3
     ·rw [if_pos h3, if_pos (.inr (.inl h3))]
      simp only [races_Check.j1]
      rw [if_pos (by simp [h3]), if_neg (by omega)]
      rw [wrap_id (a := (i : Int) + 1) (by unfold In64; omega)]
      exact ih n (i + 1) k hd2 (by omega) (by omega) (by omega)
     ·rw [if_neg h3]
      simp only [races_Check.j1]
      by_cases h4 : d.f0 = 4
      ·rw [if_pos (show d.f0 = 2 ∨ d.f0 = 3 ∨ d.f0 = 4 from .inr (.inr h4)), if_pos (by simp [h4]), if_neg (by omega)]
       rw [wrap_id (a := (i : Int) + 1) (by unfold In64; omega)]
       exact ih n (i + 1) k hd2 (by omega) (by omega) (by omega)
      ·rw [if_neg (show ¬ (d.f0 = 2 ∨ d.f0 = 3 ∨ d.f0 = 4) by omega), if_neg (by simp [h4])]
def chkF (l : List S46) : Int × Int := if l.length ≤ 4096 then chk 0 0 l else (2, 0)
theorem check_f (l : List S46) (k : Nat) (hk : 8200 ≤ k) : races_Check.f k l = some (chkF l) := by
 unfold races_Check.f chkF
 by_cases h : l.length ≤ 4096
 ·rw [if_neg (by omega), if_pos h]
  exact check_loop l h l 0 0 k (by simp) (by omega) (by omega) (by omega)
 ·rw [if_pos (by omega), if_neg h]
end Go.Proofs.YtamfkglnejhjdaaDoor.Base
