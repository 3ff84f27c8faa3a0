/- The items of a script's text: what is read of tokens, how many numbers it is, which: plain facts. -/
import Derived.Test.YtjlbimnafbngaaaDoorDecPure
namespace Go.Proofs.YtjlbimnafbngaaaDoor.Dec
open Go.RowKit Go.Proofs.YtjlbimnafbngaaaDoor.BitMath Go.Proofs.YtjlbimnafbngaaaDoor.ParsePure Go.Proofs.YtjlbimnafbngaaaDoor.PScriptDecode
set_option linter.unusedVariables false
/-- What is read of a list: the place where it fails, or the items and what is left. -/
abbrev Res := Nat ⊕ (List S78 × List Tok)
/-- The head of an item: a number, or a group; or there is none. -/
noncomputable def pHead (rec : Nat → List Tok → Option Res) (E o : Nat) (ts : List Tok) : Option (Nat ⊕ Option (S78 × List Tok)) :=
  match numOf (wd ts) with
  | some v => some (.inr (some (⟨v, [], 1⟩, ts.tail)))
  | none =>
    if wd ts = [40] ∧ o < 8 then
      match rec (o + 1) ts.tail with
      | none => none
      | some (.inl p) => some (.inl p)
      | some (.inr (l, t)) => if l = [] then some (.inl (ps E t)) else if wd t ≠ [41] then some (.inl (ps E t)) else some (.inr (some (⟨0, l, 1⟩, t.tail)))
    else some (.inr none)
/-- Its count. -/
noncomputable def pTail (E : Nat) (x : S78) (ts : List Tok) : Nat ⊕ (S78 × List Tok) :=
  if wd ts = [42] then
    match numOf (wd ts.tail) with
    | some v => if 1 ≤ v ∧ v ≤ 1048576 then .inr (⟨x.f0, x.f1, v⟩, ts.tail.tail) else .inl (ps E ts.tail)
    | none => .inl (ps E ts.tail)
  else .inr (x, ts)
noncomputable def pL (E : Nat) : Nat → Nat → List Tok → Option Res
  | 0, _, _ => none
  | k + 1, o, ts =>
    match pHead (pL E k) E o ts with
    | none => none
    | some (.inl p) => some (.inl p)
    | some (.inr none) => some (.inr ([], ts))
    | some (.inr (some (x, t))) =>
      match pTail E x t with
      | .inl p => some (.inl p)
      | .inr (y, t2) =>
        match pL E k o t2 with
        | none => none
        | some (.inl p) => some (.inl p)
        | some (.inr (l, t3)) => some (.inr (y :: l, t3))
theorem wd_nil : wd [] = [] := rfl
theorem num_ne {ts : List Tok} {v : Int} (h : numOf (wd ts) = some v) : ts ≠ [] := by
  rintro rfl
  rw [wd_nil] at h
  obtain ⟨hx, he⟩ := numOf_some.1 h
  have := FmtLen.itoa_len v hx
  rw [he] at this
  simp at this
theorem wd_ne {ts : List Tok} {b : UInt8} {l : Bytes} (h : wd ts = b :: l) : ts ≠ [] := by
  rintro rfl
  rw [wd_nil] at h
  cases h
theorem tail_lt {ts : List Tok} (h : ts ≠ []) : ts.tail.length < ts.length := by
  cases ts with
  | nil => exact absurd rfl h
  | cons => simp
/-- What is read is told with enough rounds, and takes tokens away. -/
theorem pL_some (E : Nat) : ∀ (k o : Nat) (ts : List Tok), ts.length < k → ∃ r, pL E k o ts = some r ∧ ∀ l t, r = .inr (l, t) → t.length ≤ ts.length := by
  intro k
  induction k with
  | zero => intro o ts h; omega
  | succ k ih =>
    intro o ts h
    have tail : ∀ (x : S78) (t : List Tok), t.length < ts.length → ∃ r, (match pTail E x t with
      | .inl p => some (.inl p)
      | .inr (y, t2) =>
        match pL E k o t2 with
        | none => none
        | some (.inl p) => some (.inl p)
        | some (.inr (l, t3)) => some (.inr (y :: l, t3)) : Option Res) = some r ∧ ∀ l t, r = .inr (l, t) → t.length ≤ ts.length := by
      intro x t ht
      have hpt : ∀ y t2, pTail E x t = .inr (y, t2) → t2.length ≤ t.length := by
        intro y t2 he
        unfold pTail at he
        split at he
        · split at he
          · split at he
            · injection he with he
              injection he with _ he
              subst he
              simp
              omega
            · cases he
          · cases he
        · injection he with he
          injection he with _ he
          subst he
          exact Nat.le_refl _
      cases hp : pTail E x t with
      | inl p => exact ⟨_, rfl, fun l t h => by cases h⟩
      | inr yt =>
        obtain ⟨y, t2⟩ := yt
        have h2 := hpt y t2 hp
        obtain ⟨r, hr, hl⟩ := ih o t2 (by omega)
        dsimp only
        rw [hr]
        cases r with
        | inl p => exact ⟨_, rfl, fun l t h => by cases h⟩
        | inr lt =>
          obtain ⟨l, t3⟩ := lt
          refine ⟨_, rfl, fun l' t' he => ?_⟩
          injection he with he
          injection he with _ he
          subst he
          have := hl l t3 rfl
          omega
    simp only [pL]
    unfold pHead
    cases hn : numOf (wd ts) with
    | some v =>
      dsimp only
      exact tail _ _ (tail_lt (num_ne hn))
    | none =>
      dsimp only
      by_cases hc : wd ts = [40] ∧ o < 8
      · rw [if_pos hc]
        have hlt := tail_lt (wd_ne hc.1)
        obtain ⟨r, hr, hl⟩ := ih (o + 1) ts.tail (by omega)
        rw [hr]
        cases r with
        | inl p => exact ⟨_, rfl, fun l t h => by cases h⟩
        | inr lt =>
          obtain ⟨l, t⟩ := lt
          dsimp only
          have h2 := hl l t rfl
          by_cases h3 : l = []
          · rw [if_pos h3]; exact ⟨_, rfl, fun l t h => by cases h⟩
          · rw [if_neg h3]
            by_cases h4 : wd t ≠ [41]
            · rw [if_pos h4]; exact ⟨_, rfl, fun l t h => by cases h⟩
            · rw [if_neg h4]
              have h5 : wd t = [41] := by simpa using h4
              have := tail_lt (wd_ne h5)
              exact tail _ _ (by omega)
      · rw [if_neg hc]
        refine ⟨_, rfl, fun l t he => ?_⟩
        injection he with he
        injection he with _ he
        subst he
        exact Nat.le_refl _
theorem pL_more (E : Nat) : ∀ (k o : Nat) (ts : List Tok) (r : Res), pL E k o ts = some r → pL E (k + 1) o ts = some r := by
  intro k
  induction k with
  | zero => intro o ts r h; simp [pL] at h
  | succ k ih =>
    intro o ts r h
    rw [pL] at h ⊢
    have hh : ∀ q, pHead (pL E k) E o ts = some q → pHead (pL E (k + 1)) E o ts = some q := by
      intro q hq
      unfold pHead at hq ⊢
      split at hq
      · exact hq
      · split at hq
        · rename_i hc
          rw [if_pos hc]
          split at hq
          · cases hq
          · rename_i p hp
            rw [ih _ _ _ hp]
            exact hq
          · rename_i l t hp
            rw [ih _ _ _ hp]
            exact hq
        · rename_i hc
          rw [if_neg hc]
          exact hq
    cases hq : pHead (pL E k) E o ts with
    | none => rw [hq] at h; cases h
    | some q =>
      rw [hq] at h
      rw [hh q hq]
      cases q with
      | inl p => exact h
      | inr q =>
        cases q with
        | none => exact h
        | some xt =>
          obtain ⟨x, t⟩ := xt
          dsimp only at h ⊢
          cases hp : pTail E x t with
          | inl p => rw [hp] at h; exact h
          | inr yt =>
            obtain ⟨y, t2⟩ := yt
            rw [hp] at h
            dsimp only at h ⊢
            cases hr : pL E k o t2 with
            | none => rw [hr] at h; cases h
            | some r2 =>
              rw [hr] at h
              rw [ih _ _ _ hr]
              exact h
theorem pL_le (E : Nat) {k m : Nat} (hkm : k ≤ m) {o : Nat} {ts : List Tok} {r : Res} (h : pL E k o ts = some r) : pL E m o ts = some r := by
  induction hkm with
  | refl => exact h
  | step _ ih => exact pL_more E _ _ _ _ ih
/-- What is read ahead of a list. -/
def ahead (acc : List S78) : Res → Res
  | .inl p => .inl p
  | .inr (l, t) => .inr (acc ++ l, t)
end Go.Proofs.YtjlbimnafbngaaaDoor.Dec
namespace Go.Proofs.YtjlbimnafbngaaaDoor.Dec
open Go.Proofs.YtjlbimnafbngaaaDoor.PScriptDecode
/-- What follows an item that is whole, and one whose count is still to be read. -/
noncomputable def pGo (E k o : Nat) (y : S78) (t2 : List Tok) : Option Res :=
  match pL E k o t2 with
  | none => none
  | some (.inl p) => some (.inl p)
  | some (.inr (l, t3)) => some (.inr (y :: l, t3))
noncomputable def pRest (E k o : Nat) (x : S78) (t : List Tok) : Option Res :=
  match pTail E x t with
  | .inl p => some (.inl p)
  | .inr (y, t2) => pGo E k o y t2
theorem pL_eq (E k o : Nat) (ts : List Tok) : pL E (k + 1) o ts = match pHead (pL E k) E o ts with
    | none => none
    | some (.inl p) => some (.inl p)
    | some (.inr none) => some (.inr ([], ts))
    | some (.inr (some (x, t))) => pRest E k o x t := by
  rw [pL]
  cases pHead (pL E k) E o ts with
  | none => rfl
  | some q =>
    cases q with
    | inl p => rfl
    | inr q =>
      cases q with
      | none => rfl
      | some xt => rfl
theorem pL_num {E k o : Nat} {ts : List Tok} {v : Int} (h : numOf (wd ts) = some v) : pL E (k + 1) o ts = pRest E k o ⟨v, [], 1⟩ ts.tail := by
  rw [pL_eq]; unfold pHead; rw [h]
theorem pL_end {E k o : Nat} {ts : List Tok} (h : numOf (wd ts) = none) (hc : ¬ (wd ts = [40] ∧ o < 8)) : pL E (k + 1) o ts = some (.inr ([], ts)) := by
  rw [pL_eq]; unfold pHead; rw [h]; dsimp only; rw [if_neg hc]
theorem pL_grp {E k o : Nat} {ts : List Tok} {r : Res} (h : numOf (wd ts) = none) (hc : wd ts = [40] ∧ o < 8) (hr : pL E (k + 1) o ts = some r) : ∃ q, pL E k (o + 1) ts.tail = some q ∧
    (∀ p, q = .inl p → r = .inl p) ∧ (∀ t, q = .inr ([], t) → r = .inl (ps E t)) ∧ (∀ l t, q = .inr (l, t) → l ≠ [] → wd t ≠ [41] → r = .inl (ps E t)) ∧ (∀ l t, q = .inr (l, t) → l ≠ [] → wd t = [41] → pRest E k o ⟨0, l, 1⟩ t.tail = some r) := by
  rw [pL_eq] at hr
  unfold pHead at hr
  rw [h] at hr
  dsimp only at hr
  rw [if_pos hc] at hr
  cases hq : pL E k (o + 1) ts.tail with
  | none => rw [hq] at hr; cases hr
  | some q =>
    rw [hq] at hr
    refine ⟨q, rfl, ?_, ?_, ?_, ?_⟩
    · rintro p rfl
      injection hr with hr; exact hr.symm
    · rintro t rfl
      dsimp only at hr
      rw [if_pos rfl] at hr
      injection hr with hr; exact hr.symm
    · rintro l t rfl hl hw
      dsimp only at hr
      rw [if_neg hl, if_pos hw] at hr
      injection hr with hr; exact hr.symm
    · rintro l t rfl hl hw
      dsimp only at hr
      rw [if_neg hl, if_neg (by simpa using hw)] at hr
      exact hr
theorem pRest_one {E k o : Nat} {x : S78} {t : List Tok} (h : wd t ≠ [42]) : pRest E k o x t = pGo E k o x t := by
  unfold pRest pTail; rw [if_neg h]
theorem pRest_bad {E k o : Nat} {x : S78} {t : List Tok} (h : wd t = [42]) (hn : ∀ v, numOf (wd t.tail) = some v → ¬ (1 ≤ v ∧ v ≤ 1048576)) : pRest E k o x t = some (.inl (ps E t.tail)) := by
  unfold pRest pTail
  rw [if_pos h]
  cases hq : numOf (wd t.tail) with
  | none => rfl
  | some v => dsimp only; rw [if_neg (hn v hq)]
theorem pRest_count {E k o : Nat} {x : S78} {t : List Tok} {v : Int} (h : wd t = [42]) (hn : numOf (wd t.tail) = some v) (hv : 1 ≤ v ∧ v ≤ 1048576) : pRest E k o x t = pGo E k o ⟨x.f0, x.f1, v⟩ t.tail.tail := by
  unfold pRest pTail
  rw [if_pos h, hn]
  dsimp only
  rw [if_pos hv]
theorem pGo_some {E k o : Nat} {y : S78} {t : List Tok} {r : Res} (h : pGo E k o y t = some r) : ∃ q, pL E k o t = some q ∧ r = ahead [y] q := by
  unfold pGo at h
  cases hq : pL E k o t with
  | none => rw [hq] at h; cases h
  | some q =>
    rw [hq] at h
    refine ⟨q, rfl, ?_⟩
    cases q with
    | inl p => injection h with h; exact h.symm
    | inr lt => obtain ⟨l, t3⟩ := lt; injection h with h; exact h.symm
theorem ahead_ahead (a b : List S78) (r : Res) : ahead a (ahead b r) = ahead (a ++ b) r := by
  cases r with
  | inl p => rfl
  | inr lt => obtain ⟨l, t⟩ := lt; simp [ahead]
end Go.Proofs.YtjlbimnafbngaaaDoor.Dec
