/- The document's reader: what items come to, against what is read of tokens: plain facts. -/
import Derived.Test.YtjlbimnafbngaaaDoorDocLaw1
import Derived.Test.YtjlbimnafbngaaaDoorDocItems
namespace Go.Proofs.YtjlbimnafbngaaaDoor.Dec
open Go.RowKit Go.Proofs.YtjlbimnafbngaaaDoor.BitMath Go.Proofs.YtjlbimnafbngaaaDoor.PScriptDecode Go.Proofs.YtjlbimnafbngaaaDoorW.PrintWords Go.Proofs.YtjlbimnafbngaaaDoorW.PrintMore
set_option linter.unusedVariables false
theorem exp_rep (x : S78) (h1 : x.f2 = 1) (v : Int) : expI ⟨x.f0, x.f1, v⟩ = rep v.toNat (expI x) := by
  obtain ⟨n, l, c⟩ := x
  dsimp only at h1 ⊢
  subst h1
  by_cases hl : l = []
  · subst hl
    rw [expI_num, expI_num, show (1 : Int).toNat = 1 from rfl, doc_rep_one]
  · rw [expI_grp hl, expI_grp hl, show (1 : Int).toNat = 1 from rfl, doc_rep_one]
theorem pTail_exp {E : Nat} {x y : S78} {t t2 : List Tok} (h1 : x.f2 = 1) (h : pTail E x t = .inr (y, t2)) : (expI x).length ≤ (expI y).length := by
  unfold pTail at h
  split at h
  · split at h
    · split at h
      · rename_i v _ hv
        injection h with h; injection h with h _
        subst h
        rw [exp_rep x h1, rep_len]
        exact Nat.le_mul_of_pos_left _ (by omega)
      · cases h
    · cases h
  · injection h with h; injection h with h _; subst h; exact Nat.le_refl _
/-- What an item answers. -/
def ItemOk (E : Nat) (ts : List Tok) (b : Bool) (I : Nat) (q : Nat ⊕ Option (S78 × List Tok)) (a : Option (Int × List Int × Int × Bool × Bool)) : Prop :=
  ∃ (N : Int) (L : List Int) (J : Nat) (B : Bool), a = some (N, L, (J : Int), B, b) ∧ J ≤ ts.length ∧ (b = false → L = []) ∧ L.length ≤ 1048576 ∧
    match q with
    | .inl p => B = true ∧ ps E (ts.drop J) = p
    | .inr none => B = true ∧ J = I
    | .inr (some (x, t)) => match pTail E x t with
      | .inl p => B = true ∧ ps E (ts.drop J) = p
      | .inr (y, t2) => B = false ∧ ts.drop J = t2 ∧ N = szN (expI y).length ∧ L = if b then expI y else []
theorem item_law (E K : Nat) (hK : 1048700 ≤ K) (unf : List S72 → Int → Bool → Bool → Int → Option (Int × List Int × Int × Bool × Bool)) (ts : List Tok) (hT : ts.length ≤ 65536) (o I : Nat) (b : Bool)
    (q : Nat ⊕ Option (S78 × List Tok)) (hu : UnitOk E ts b I q (unf (ts.map tokS) (I : Int) false b (o : Int))) (hq1 : ∀ x t, q = .inr (some (x, t)) → x.f2 = 1)
    (hb : b = true → ∀ x t, q = .inr (some (x, t)) → ∃ y t2, pTail E x t = .inr (y, t2) ∧ (expI y).length ≤ 1048576) :
    ItemOk E ts b I q (plunderref10_Reader_item.f unf K (ts.map tokS) (I : Int) false b (o : Int)) := by
  obtain ⟨K', rfl⟩ : ∃ K', K = K' + 1 := ⟨K - 1, by omega⟩
  obtain ⟨N, L, J, B, e, hJ, hL, hr⟩ := hu
  unfold plunderref10_Reader_item.f
  rw [e, Option.bind_some]
  dsimp only
  cases q with
  | inl p =>
    obtain ⟨rfl, hp, rfl⟩ := hr
    rw [if_pos rfl, plunderref10_Reader_item.j0, if_pos rfl]
    exact ⟨N, [], J, true, rfl, hJ, fun _ => rfl, by simp, rfl, hp⟩
  | inr q =>
    cases q with
    | none =>
      obtain ⟨rfl, hp, rfl⟩ := hr
      rw [if_pos rfl, plunderref10_Reader_item.j0, if_pos rfl]
      exact ⟨N, [], J, true, rfl, hJ, fun _ => rfl, by simp, rfl, hp⟩
    | some xt =>
      obtain ⟨x, t⟩ := xt
      obtain ⟨rfl, rfl, rfl, rfl⟩ := hr
      have h1 := hq1 x _ rfl
      have hxl : b = true → (expI x).length ≤ 1048576 := by
        intro hbt
        obtain ⟨y, t2, hy, hl⟩ := hb hbt x _ rfl
        exact Nat.le_trans (pTail_exp h1 hy) hl
      have hLl : (if b then expI x else []).length ≤ 1048576 := by
        cases b with
        | true => exact hxl rfl
        | false => simp
      rw [if_neg (by decide), is_f _ _ _ _ _ (by decide), Option.bind_some, plunderref10_Reader_item.j0]
      dsimp only
      by_cases h42 : wd (ts.drop J) = [42]
      · have hJ2 := wd_lt h42
        have hdc : (!decide (wd (ts.drop J) = (⟨#[42]⟩ : ByteArray).data.toList)) = false := by
          rw [decide_eq_true (by exact h42)]; rfl
        rw [hdc, if_neg (by decide), w_succ (by omega)]
        have hbad : ∀ p, pTail E x (ts.drop J) = .inl p → ps E (ts.drop (J + 1)) = p → ItemOk E ts b I (.inr (some (x, ts.drop J))) (some (szN (expI x).length, if b then expI x else [], ((J + 1 : Nat) : Int), true, b)) := by
          intro p hp hps
          refine ⟨_, _, J + 1, true, rfl, by omega, fun h => by subst h; rfl, hLl, ?_⟩
          dsimp only
          rw [hp]
          exact ⟨rfl, hps⟩
        rcases number_f (k := K') (by omega) ts (J + 1) false b with ⟨v, hn, e2⟩ | ⟨hn, v, e2⟩
        · rw [e2, Option.bind_some]
          dsimp only
          rw [if_pos rfl]
          by_cases hv1 : v < 1
          · rw [if_pos hv1]
            refine hbad (ps E (ts.drop (J + 1))) ?_ rfl
            unfold pTail
            rw [if_pos h42, tail_at, hn]
            dsimp only
            rw [if_neg (by omega)]
          · rw [if_neg hv1]
            by_cases hv2 : v > 1048576
            · rw [if_pos hv2]
              refine hbad (ps E (ts.drop (J + 1))) ?_ rfl
              unfold pTail
              rw [if_pos h42, tail_at, hn]
              dsimp only
              rw [if_neg (by omega)]
            · rw [if_neg hv2]
              obtain ⟨c, rfl⟩ : ∃ c : Nat, v = (c : Int) := ⟨v.toNat, by omega⟩
              have hpt : pTail E x (ts.drop J) = .inr (⟨x.f0, x.f1, (c : Int)⟩, ts.drop (J + 2)) := by
                unfold pTail
                rw [if_pos h42, tail_at, hn]
                dsimp only
                rw [if_pos ⟨by omega, by omega⟩, tail_at]
              have hey : expI ⟨x.f0, x.f1, (c : Int)⟩ = rep c (expI x) := by rw [exp_rep x h1, Int.toNat_natCast]
              have hcl : b = true → c * (expI x).length ≤ 1048576 := by
                intro hbt
                obtain ⟨y, t2, hy, hl⟩ := hb hbt x _ rfl
                rw [hpt] at hy
                injection hy with hy; injection hy with hy _
                subst hy
                rwa [hey, rep_len] at hl
              have ht := times_f (expI x).length (if b then expI x else []) c (by omega) (by omega) (by
                cases b with
                | true => exact hcl rfl
                | false => simp)
              have ht2 := leO_le (f := fun k => plunderref10_times.f k (szN (expI x).length) (if b then expI x else []) (c : Int)) (plunderref10_times.mono _ _ _) (m := K') (by omega) ht
              rw [ht2, Option.bind_some]
              dsimp only
              have hJ3 := num_lt hn
              rw [w_succ (by omega)]
              refine ⟨_, _, J + 1 + 1, false, rfl, by omega, fun h => by subst h; exact rep_nil c, ?_, ?_⟩
              · rw [rep_len]
                cases b with
                | true => exact hcl rfl
                | false => simp
              · dsimp only
                rw [hpt]
                refine ⟨rfl, rfl, ?_, ?_⟩
                · rw [hey, rep_len, Nat.mul_comm]
                · rw [hey]
                  cases b with
                  | true => rfl
                  | false => exact rep_nil c
        · rw [e2, Option.bind_some]
          dsimp only
          rw [if_neg (by decide)]
          refine hbad (ps E (ts.drop (J + 1))) ?_ rfl
          unfold pTail
          rw [if_pos h42, tail_at, hn]
      · have hdc : (!decide (wd (ts.drop J) = (⟨#[42]⟩ : ByteArray).data.toList)) = true := by
          rw [decide_eq_false (by exact h42)]; rfl
        rw [hdc, if_pos rfl]
        refine ⟨_, _, J, false, rfl, hJ, fun h => by subst h; rfl, hLl, ?_⟩
        dsimp only
        have hpt : pTail E x (ts.drop J) = .inr (x, ts.drop J) := by unfold pTail; rw [if_neg h42]
        rw [hpt]
        exact ⟨rfl, rfl, rfl, rfl⟩
/-- The document's items, read so many brackets deep. -/
def itF (K : Nat) : Nat → List S72 → Int → Bool → Bool → Int → Option (Int × List Int × Int × Bool × Bool)
  | 0 => fun _ _ _ _ _ => none
  | n + 1 => plunderref10_Reader_items.f (plunderref10_Reader_item.f (plunderref10_Reader_unit.f (itF K n) K) K) K
theorem items_law (E K : Nat) (ts : List Tok) (hT : ts.length ≤ 65536) : ∀ (kp n o I : Nat) (b : Bool) (r : Res) (a : List S78) (k : Nat), o ≤ 8 → 8 ≤ o + n → I ≤ ts.length → kp + 1048700 ≤ k → k ≤ K →
    pL E kp o (ts.drop I) = some r → Hb b (ahead a r) →
    ItemsOk E ts o b (ahead a r) (plunderref10_Reader_items.l0 (plunderref10_Reader_item.f (plunderref10_Reader_unit.f (itF K n) K) K) k (o : Int) (ts.map tokS) (I : Int) false b (szN (expL a).length) (if b then expL a else [])) := by
  intro kp
  induction kp with
  | zero => intro n o I b r a k ho hn hI hk hkK h; cases h
  | succ kp ih =>
    intro n o I b r a k ho hn hI hk hkK h hb
    obtain ⟨k', rfl⟩ : ∃ k', k = k' + 1 := ⟨k - 1, by omega⟩
    have hal : b = true → (expL a).length ≤ 1048576 := by
      intro hbt
      obtain ⟨l, t, he, hl⟩ := hb hbt
      cases r with
      | inl p => cases he
      | inr lt =>
        obtain ⟨l2, t2⟩ := lt
        unfold ahead at he
        injection he with he; injection he with he _
        subst he
        rw [expL_app, List.length_append] at hl
        omega
    have hacc : (if b then expL a else []).length ≤ 1048576 := by
      cases b with
      | true => exact hal rfl
      | false => simp
    rw [pL_eq] at h
    cases hq : pHead (pL E kp) E o (ts.drop I) with
    | none => rw [hq] at h; cases h
    | some q =>
      rw [hq] at h
      have hitem : (numOf (wd (ts.drop I)) ≠ none ∨ wd (ts.drop I) = [40]) → ItemOk E ts b I q (plunderref10_Reader_item.f (plunderref10_Reader_unit.f (itF K n) K) K (ts.map tokS) (I : Int) false b (o : Int)) := by
        intro hd
        have hone : ∀ x t, q = .inr (some (x, t)) → x.f2 = 1 := by
          rintro x t rfl
          exact (pHead_len hq).2
        have htl : b = true → ∀ x t, q = .inr (some (x, t)) → ∃ y t2, pTail E x t = .inr (y, t2) ∧ (expI y).length ≤ 1048576 := by
          rintro hbt x t rfl
          dsimp only at h
          unfold pRest at h
          obtain ⟨l, t', he, hl⟩ := hb hbt
          cases hp : pTail E x t with
          | inl p =>
            rw [hp] at h
            injection h with h
            subst h
            cases he
          | inr yt =>
            obtain ⟨y, t2⟩ := yt
            refine ⟨y, t2, rfl, ?_⟩
            rw [hp] at h
            obtain ⟨q2, _, rfl⟩ := pGo_some h
            cases q2 with
            | inl p => cases he
            | inr lt =>
              obtain ⟨l2, t3⟩ := lt
              unfold ahead at he
              injection he with he; injection he with he _
              subst he
              rw [expL_app, List.singleton_append, expL, List.length_append, List.length_append] at hl
              omega
        refine item_law E K (by omega) _ ts hT o I b q ?_ hone htl
        refine unit_law E K (by omega) _ ts hT kp o I b ho ?_ hd q hq ?_
        · intro ho8 J r2 hJ hr2 hb2
          obtain ⟨n', rfl⟩ : ∃ n', n = n' + 1 := ⟨n - 1, by omega⟩
          have := ih n' (o + 1) J b r2 [] K (by omega) (by omega) hJ (by omega) (Nat.le_refl _) hr2 (by cases r2 with
            | inl p => exact hb2
            | inr lt => exact hb2)
          have e1 : ahead [] r2 = r2 := by
            cases r2 with
            | inl p => rfl
            | inr lt => rfl
          rw [e1] at this
          have e2 : (if b then expL [] else [] : List Int) = [] := by
            rw [expL]; cases b <;> rfl
          rw [e2, show (expL []).length = 0 from by rw [expL]; rfl, sz_zero] at this
          exact this
        · intro hbt
          cases q with
          | inl p =>
            exfalso
            injection h with h
            subst h
            obtain ⟨l, t, he, hl⟩ := hb hbt
            cases he
          | inr q =>
            cases q with
            | none => exact .inl rfl
            | some xt =>
              obtain ⟨x, t⟩ := xt
              obtain ⟨y, t2, hy, hl⟩ := htl hbt x t rfl
              exact .inr ⟨x, t, rfl, Nat.le_trans (pTail_exp (hone x t rfl) hy) hl⟩
      have hgo : (numOf (wd (ts.drop I)) ≠ none ∨ wd (ts.drop I) = [40]) → ItemsOk E ts o b (ahead a r) ((plunderref10_Reader_item.f (plunderref10_Reader_unit.f (itF K n) K) K (ts.map tokS) (I : Int) false b (o : Int)).bind fun bt => (if (if b then expL a else []).length + bt.2.1.length < 17592186044416 then (plunderref10_Reader_items.l0 (plunderref10_Reader_item.f (plunderref10_Reader_unit.f (itF K n) K) K) k' (o : Int) (ts.map tokS) bt.2.2.1 bt.2.2.2.1 bt.2.2.2.2 (mn (wrap64 (szN (expL a).length + bt.1)) 1048577) ((if b then expL a else []) ++ bt.2.1)) else none)) := by
        intro hd
        obtain ⟨N, L, J, B, e, hJ, hL, hLl, hr⟩ := hitem hd
        rw [e, Option.bind_some]
        dsimp only
        rw [if_pos (by omega)]
        have hbad : B = true → (match ahead a r with
            | .inl p => ps E (ts.drop J) = p
            | .inr (l, t) => ts.drop J = t ∧ o = 8 ∧ wd t = [40]) → ItemsOk E ts o b (ahead a r) (plunderref10_Reader_items.l0 (plunderref10_Reader_item.f (plunderref10_Reader_unit.f (itF K n) K) K) k' (o : Int) (ts.map tokS) (J : Int) B b (mn (wrap64 (szN (expL a).length + N)) 1048577) ((if b then expL a else []) ++ L)) := by
          rintro rfl hm
          obtain ⟨k2, rfl⟩ : ∃ k2, k' = k2 + 1 := ⟨k' - 1, by omega⟩
          rw [plunderref10_Reader_items.l0, if_pos rfl]
          refine ⟨_, _, J, true, rfl, hJ, fun h => by rw [hL h, h]; rfl, ?_⟩
          cases hr2 : ahead a r with
          | inl p => rw [hr2] at hm; exact ⟨rfl, hm⟩
          | inr lt =>
            obtain ⟨l, t⟩ := lt
            rw [hr2] at hm
            exact ⟨hm.1, .inl ⟨hm.2.1, hm.2.2, rfl⟩⟩
        cases q with
        | inl p =>
          injection h with h
          subst h
          exact hbad hr.1 hr.2
        | inr q =>
          cases q with
          | none =>
            injection h with h
            subst h
            obtain ⟨hB, rfl⟩ := hr
            refine hbad hB ⟨rfl, ?_⟩
            unfold pHead at hq
            cases hn : numOf (wd (ts.drop J)) with
            | some v => rw [hn] at hq; injection hq with hq; injection hq with hq; cases hq
            | none =>
              rw [hn] at hq
              dsimp only at hq
              have h40 : wd (ts.drop J) = [40] := hd.resolve_left (fun h => h hn)
              by_cases ho8 : o < 8
              · rw [if_pos ⟨h40, ho8⟩] at hq
                exfalso
                split at hq
                · cases hq
                · injection hq with hq; cases hq
                · split at hq
                  · injection hq with hq; cases hq
                  · split at hq
                    · injection hq with hq; cases hq
                    · injection hq with hq; injection hq with hq; cases hq
              · exact ⟨by omega, h40⟩
          | some xt =>
            obtain ⟨x, t⟩ := xt
            dsimp only at h hr
            unfold pRest at h
            cases hp : pTail E x t with
            | inl p =>
              rw [hp] at h hr
              injection h with h
              subst h
              exact hbad hr.1 hr.2
            | inr yt =>
              obtain ⟨y, t2⟩ := yt
              rw [hp] at h hr
              dsimp only at h hr
              obtain ⟨rfl, rfl, rfl, rfl⟩ := hr
              obtain ⟨q2, hq2, rfl⟩ := pGo_some h
              rw [ahead_ahead]
              rw [ahead_ahead] at hb
              have := ih n o J b q2 (a ++ [y]) k' ho hn hJ (by omega) (by omega) hq2 hb
              have e1 : (if b then expL (a ++ [y]) else []) = (if b then expL a else []) ++ (if b then expI y else []) := by
                cases b with
                | true => show expL (a ++ [y]) = expL a ++ expI y; rw [expL_app, expL_one]
                | false => rfl
              have e2 : szN (expL (a ++ [y])).length = mn (wrap64 (szN (expL a).length + szN (expI y).length)) 1048577 := by
                rw [sz_add, expL_app, expL_one, List.length_append]
              rw [e1, e2] at this
              exact this
      rw [plunderref10_Reader_items.l0, if_neg (by decide)]
      rcases number_f (k := k') (by omega) ts I false b with ⟨v, hv, e⟩ | ⟨hv, v, e⟩
      · rw [e, Option.bind_some]
        dsimp only
        rw [if_pos rfl]
        exact hgo (.inl (by rw [hv]; simp))
      · rw [e, Option.bind_some]
        dsimp only
        rw [if_neg (by decide), is_f _ _ _ _ _ (by decide), Option.bind_some]
        dsimp only
        by_cases h40 : wd (ts.drop I) = [40]
        · rw [if_pos (by simpa using h40)]
          exact hgo (.inr h40)
        · rw [if_neg (by simpa using h40)]
          unfold pHead at hq
          rw [hv] at hq
          dsimp only at hq
          rw [if_neg (fun h => h40 h.1)] at hq
          injection hq with hq
          subst hq
          injection h with h
          subst h
          refine ⟨_, _, I, false, rfl, hI, fun h => by rw [h]; rfl, rfl, .inr ⟨fun h => h40 h.2, rfl, ?_, ?_⟩⟩
          · rw [List.append_nil]
          · rw [List.append_nil]
/-- What items answer, read from their first. -/
theorem itF_law (E K : Nat) (ts : List Tok) (hT : ts.length ≤ 65536) (kp I : Nat) (b : Bool) (r : Res) (hI : I ≤ ts.length) (hk : kp + 1048700 ≤ K) (h : pL E kp 0 (ts.drop I) = some r) (hb : Hb b r) :
    ItemsOk E ts 0 b r (itF K 9 (ts.map tokS) (I : Int) false b 0) := by
  have e1 : ahead [] r = r := by
    cases r with
    | inl p => rfl
    | inr lt => rfl
  have := items_law E K ts hT kp 8 0 I b r [] K (by omega) (by omega) hI hk (Nat.le_refl _) h (by rw [e1]; exact hb)
  rw [e1] at this
  have e2 : (if b then expL [] else [] : List Int) = [] := by
    rw [expL]; cases b <;> rfl
  rw [e2, show (expL []).length = 0 from by rw [expL]; rfl, sz_zero] at this
  exact this
end Go.Proofs.YtjlbimnafbngaaaDoor.Dec
