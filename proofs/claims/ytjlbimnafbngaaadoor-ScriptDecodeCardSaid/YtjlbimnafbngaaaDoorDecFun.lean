/- What a script's text comes to: plain. -/
import Derived.Test.YtjlbimnafbngaaaDoorDecSpec
import Derived.Test.YtjlbimnafbngaaaDoorDecExp
namespace Go.Proofs.YtjlbimnafbngaaaDoor.Dec
open Go.RowKit Go.Proofs.YtjlbimnafbngaaaDoor.BitMath Go.Proofs.YtjlbimnafbngaaaDoor.PScriptDecode
set_option linter.unusedVariables false
def bPicks : Bytes := [112, 105, 99, 107, 115]
def bDraws : Bytes := [100, 114, 97, 119, 115]
/-- The place where it fails, or the two lists of items. -/
noncomputable def pS (E k : Nat) (ts : List Tok) : Option (Nat ⊕ (List S78 × List S78)) :=
  if wd ts = bPicks then
    match pL E k 0 ts.tail with
    | none => none
    | some (.inl p) => some (.inl p)
    | some (.inr (a, t)) =>
      if wd t = bDraws then
        match pL E k 0 t.tail with
        | none => none
        | some (.inl p) => some (.inl p)
        | some (.inr (b, t2)) => if t2 = [] then some (.inr (a, b)) else some (.inl (ps E t2))
      else some (.inl (ps E t))
  else some (.inl (ps E ts))
noncomputable def decF (L : Bytes) : (List Int × List Int) × (Int × Int) :=
  if 65536 < L.length then (([], []), (2, 0))
  else match pS L.length 70000 (tks L 0) with
    | none => (([], []), (0, 0))
    | some (.inl p) => (([], []), (100, (p : Int)))
    | some (.inr (a, b)) => if 1048576 < (expL a).length ∨ 1048576 < (expL b).length then (([], []), (2, 0)) else ((expL a, expL b), (0, 0))
theorem tks_len (l : Bytes) : ∀ p, (tks l p).length ≤ l.length := by
  have key : ∀ n (l : Bytes), l.length ≤ n → ∀ p, (tks l p).length ≤ l.length := by
    intro n
    induction n with
    | zero =>
      intro l h p
      have : l = [] := List.length_eq_zero_iff.1 (by omega)
      subst this
      rw [tks_eq]
      simp [run]
    | succ n ih =>
      intro l h p
      rw [tks_eq]
      split
      · simp
      · rename_i hr
        have h1 := tlen_pos hr
        have h2 : (l.drop (run isB l)).length ≠ 0 := fun h => hr (List.length_eq_zero_iff.1 h)
        rw [List.length_drop] at h2
        have h3 := ih ((l.drop (run isB l)).drop (tlen (l.drop (run isB l)))) (by rw [List.length_drop, List.length_drop]; omega) (p + run isB l + tlen (l.drop (run isB l)))
        rw [List.length_drop, List.length_drop] at h3
        rw [List.length_cons]
        omega
  exact key _ l (Nat.le_refl _)
/-- What is read is told, and each count is in its bounds. -/
theorem pL_ok (E : Nat) : ∀ (k o : Nat) (ts : List Tok) (l : List S78) (t : List Tok), pL E k o ts = some (.inr (l, t)) → okL l := by
  intro k
  induction k with
  | zero => intro o ts l t h; simp [pL] at h
  | succ k ih =>
    have rest : ∀ (o : Nat) (x : S78) (t1 : List Tok) (l : List S78) (t : List Tok), 1 ≤ x.f2 → x.f2 ≤ 1048576 → okL x.f1 → pRest E k o x t1 = some (.inr (l, t)) → okL l := by
      intro o x t1 l t h1 h2 h3 h
      unfold pRest at h
      cases hp : pTail E x t1 with
      | inl p => rw [hp] at h; cases h
      | inr yt =>
        obtain ⟨y, t2⟩ := yt
        rw [hp] at h
        have hy : 1 ≤ y.f2 ∧ y.f2 ≤ 1048576 ∧ okL y.f1 := by
          unfold pTail at hp
          split at hp
          · split at hp
            · split at hp
              · rename_i hv
                injection hp with hp
                injection hp with hp _
                subst hp
                exact ⟨hv.1, hv.2, h3⟩
              · cases hp
            · cases hp
          · injection hp with hp
            injection hp with hp _
            subst hp
            exact ⟨h1, h2, h3⟩
        obtain ⟨q, hq, hr⟩ := pGo_some h
        cases q with
        | inl p => cases hr
        | inr lt =>
          obtain ⟨l2, t3⟩ := lt
          injection hr with hr
          injection hr with hr _
          subst hr
          have := ih _ _ _ _ hq
          rw [List.singleton_append, okL]
          refine ⟨?_, this⟩
          obtain ⟨a, g, c⟩ := y
          rw [okI]
          exact hy
    intro o ts l t h
    rw [pL_eq] at h
    cases hq : pHead (pL E k) E o ts with
    | none => rw [hq] at h; cases h
    | some q =>
      rw [hq] at h
      cases q with
      | inl p => cases h
      | inr q =>
        cases q with
        | none => injection h with h; injection h with h; injection h with h _; subst h; rw [okL]; trivial
        | some xt =>
          obtain ⟨x, t1⟩ := xt
          have hx : 1 ≤ x.f2 ∧ x.f2 ≤ 1048576 ∧ okL x.f1 := by
            unfold pHead at hq
            split at hq
            · injection hq with hq; injection hq with hq; injection hq with hq; injection hq with hq _
              subst hq
              exact ⟨show (1 : Int) ≤ 1 by decide, show (1 : Int) ≤ 1048576 by decide, by rw [okL]; trivial⟩
            · split at hq
              · split at hq
                · cases hq
                · cases hq
                · rename_i l1 t1' hp
                  split at hq
                  · cases hq
                  · split at hq
                    · cases hq
                    · injection hq with hq; injection hq with hq; injection hq with hq; injection hq with hq _
                      subst hq
                      exact ⟨show (1 : Int) ≤ 1 by decide, show (1 : Int) ≤ 1048576 by decide, ih _ _ _ _ hp⟩
              · cases hq
          exact rest _ x t1 l t hx.1 hx.2.1 hx.2.2 h
end Go.Proofs.YtjlbimnafbngaaaDoor.Dec
