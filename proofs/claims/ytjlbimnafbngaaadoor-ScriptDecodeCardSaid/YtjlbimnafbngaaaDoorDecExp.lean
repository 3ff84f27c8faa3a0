/- Items as numbers: which they are, how many, how deep: plain facts. -/
import Derived.Test.YtjlbimnafbngaaaDoorDecPure
namespace Go.Proofs.YtjlbimnafbngaaaDoor.Dec
open Go.RowKit Go.Proofs.YtjlbimnafbngaaaDoor.BitMath Go.Proofs.YtjlbimnafbngaaaDoor.PScriptDecode
set_option linter.unusedVariables false
/-- A list so many times over. -/
def rep (n : Nat) (l : List Int) : List Int := (List.replicate n l).flatten
theorem rep_zero (l : List Int) : rep 0 l = [] := rfl
theorem rep_succ (n : Nat) (l : List Int) : rep (n + 1) l = rep n l ++ l := by
  unfold rep
  rw [List.replicate_succ', List.flatten_append]
  simp
theorem rep_succ' (n : Nat) (l : List Int) : rep (n + 1) l = l ++ rep n l := by
  unfold rep
  rw [List.replicate_succ]
  simp
theorem rep_len (n : Nat) (l : List Int) : (rep n l).length = n * l.length := by
  induction n with
  | zero => simp [rep]
  | succ n ih => rw [rep_succ, List.length_append, ih, Nat.succ_mul]
mutual
/-- The numbers of an item. -/
def expI : S78 → List Int
  | ⟨n, l, c⟩ => rep c.toNat (match l with | [] => [n] | x :: l => expI x ++ expL l)
/-- The numbers of a list of items. -/
def expL : List S78 → List Int
  | [] => []
  | x :: l => expI x ++ expL l
end
theorem expI_num (n c : Int) : expI ⟨n, [], c⟩ = rep c.toNat [n] := by rw [expI]
theorem expI_grp {l : List S78} (hl : l ≠ []) (n c : Int) : expI ⟨n, l, c⟩ = rep c.toNat (expL l) := by
  cases l with
  | nil => exact absurd rfl hl
  | cons x l => rw [expI, expL]
theorem expL_app (a b : List S78) : expL (a ++ b) = expL a ++ expL b := by
  induction a with
  | nil => rw [expL]; rfl
  | cons x a ih => rw [List.cons_append, expL, expL, ih, List.append_assoc]
theorem expL_one (x : S78) : expL [x] = expI x := by rw [expL, expL, List.append_nil]
mutual
/-- How deep an item is, and a list. -/
def dpI : S78 → Nat
  | ⟨_, l, _⟩ => dpL l + 1
def dpL : List S78 → Nat
  | [] => 0
  | x :: l => max (dpI x) (dpL l)
end
theorem dp_mem {l : List S78} {x : S78} (h : x ∈ l) : dpL x.f1 < dpL l := by
  induction l with
  | nil => cases h
  | cons y l ih =>
    rw [dpL]
    rcases List.mem_cons.1 h with rfl | h
    · have : dpI x = dpL x.f1 + 1 := by cases x; rw [dpI]
      omega
    · have := ih h
      omega
mutual
/-- Each count is 1 at least, and no more than there may be. -/
def okI : S78 → Prop
  | ⟨_, l, c⟩ => 1 ≤ c ∧ c ≤ 1048576 ∧ okL l
def okL : List S78 → Prop
  | [] => True
  | x :: l => okI x ∧ okL l
end
theorem okL_mem {l : List S78} (h : okL l) {x : S78} (hx : x ∈ l) : 1 ≤ x.f2 ∧ x.f2 ≤ 1048576 ∧ okL x.f1 := by
  induction l with
  | nil => cases hx
  | cons y l ih =>
    rw [okL] at h
    rcases List.mem_cons.1 hx with rfl | hx
    · cases x; have := h.1; rw [okI] at this; exact this
    · exact ih h.2 hx
theorem exp_len_mem {l : List S78} (h : okL l) {x : S78} (hx : x ∈ l) : (expL x.f1).length ≤ (expL l).length := by
  induction l with
  | nil => cases hx
  | cons y l ih =>
    rw [expL, List.length_append]
    rcases List.mem_cons.1 hx with rfl | hx
    · have ho := okL_mem h (show x ∈ x :: l by simp)
      obtain ⟨a, g, c⟩ := x
      by_cases hg : g = []
      · subst hg; simp [expL]
      · rw [expI_grp hg, rep_len]
        dsimp only at ho ⊢
        obtain ⟨m, hm⟩ : ∃ m, c.toNat = m + 1 := ⟨c.toNat - 1, by omega⟩
        rw [hm, Nat.succ_mul]
        omega
    · rw [okL] at h
      have := ih h.2 hx
      omega
theorem take_exp (l : List S78) (i : Nat) (h : i < l.length) : expL (l.take (i + 1)) = expL (l.take i) ++ expI (rd_T78 l (i : Int)) := by
  rw [List.take_succ_eq_append_getElem h, expL_app, expL_one]
  congr 2
  unfold rd_T78
  rw [Int.toNat_natCast, List.getD_eq_getElem?_getD, List.getElem?_eq_getElem h]
  rfl
theorem take_le {l : List S78} (i : Nat) (h : i < l.length) : (expL (l.take (i + 1))).length ≤ (expL l).length := by
  conv => rhs; rw [← List.take_append_drop (i + 1) l]
  rw [expL_app, List.length_append]
  omega
theorem rd_mem (l : List S78) (i : Nat) (h : i < l.length) : rd_T78 l (i : Int) ∈ l := by
  unfold rd_T78
  rw [Int.toNat_natCast, List.getD_eq_getElem?_getD, List.getElem?_eq_getElem h]
  exact List.getElem_mem h
end Go.Proofs.YtjlbimnafbngaaaDoor.Dec
