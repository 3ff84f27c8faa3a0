/- The document's reader: what number, is, unit and item come to, against what is read of tokens: plain facts. -/
import Derived.Test.YtjlbimnafbngaaaDoorDocTokLaw
import Derived.Test.YtjlbimnafbngaaaDoorDocTimesLaw
import Derived.Test.YtjlbimnafbngaaaDoorDocUnit
import Derived.Test.YtjlbimnafbngaaaDoorDocItem
import Derived.Test.YtjlbimnafbngaaaDoorDecFun
import Derived.Test.YtjlbimnafbngaaaDoorParseRef
namespace Go.Proofs.YtjlbimnafbngaaaDoor.Dec
open Go.RowKit Go.Proofs.YtjlbimnafbngaaaDoor.BitMath Go.Proofs.YtjlbimnafbngaaaDoor.ParsePure Go.Proofs.YtjlbimnafbngaaaDoor.ParseLaw Go.Proofs.YtjlbimnafbngaaaDoor.PScriptDecode Go.Proofs.YtjlbimnafbngaaaDoorW.PrintWords Go.Proofs.YtjlbimnafbngaaaDoorW.PrintMore
set_option linter.unusedVariables false
theorem leO_le {α : Type} {f : Nat → Option α} (h : ∀ k, LeO (f k) (f (k + 1))) {k m : Nat} (hkm : k ≤ m) {r : α} (e : f k = some r) : f m = some r := by
  induction hkm with
  | refl => exact e
  | step _ ih => exact h _ _ ih
theorem parse_k (s : ByteArray) (k : Nat) (hk : 42 ≤ k) : ∃ r1 r2, plunderref1_Parse.f k s = some (r1, r2) ∧ IsParse s.data.toList (r1, r2) := by
  by_cases h : (s.size : Int) > 20
  · refine ⟨0, 2, ?_, .inl ⟨by rw [size_len]; omega, rfl⟩⟩
    unfold plunderref1_Parse.f
    rw [if_pos h]
  · obtain ⟨r1, r2, e, hp⟩ := ref_parse s
    exact ⟨r1, r2, leO_le (f := fun k => plunderref1_Parse.f k s) (plunderref1_Parse.mono s) (by omega) e, hp⟩
theorem doc_drop_at {ts : List Tok} {I : Nat} (h : I < ts.length) : ts.drop I = ts[I] :: ts.drop (I + 1) := List.drop_eq_getElem_cons h
theorem wd_at {ts : List Tok} {I : Nat} (h : I < ts.length) : wd (ts.drop I) = ts[I].1 := by rw [doc_drop_at h]; rfl
theorem rd_tok {ts : List Tok} {I : Nat} (h : I < ts.length) : rd_T72 (ts.map tokS) (I : Int) = tokS ts[I] := by
  unfold rd_T72
  rw [Int.toNat_natCast, List.getD_eq_getElem?_getD, List.getElem?_map, List.getElem?_eq_getElem h]
  rfl
theorem drop_end {ts : List Tok} {I : Nat} (h : ¬ I < ts.length) : ts.drop I = [] := List.drop_eq_nil_of_le (by omega)
theorem doc_num_nil : numOf (wd []) = none := by
  cases h : numOf (wd []) with
  | none => rfl
  | some v => exact absurd rfl (num_ne h)
theorem number_f {k : Nat} (hk : 42 ≤ k) (ts : List Tok) (I : Nat) (B b : Bool) :
    (∃ v, numOf (wd (ts.drop I)) = some v ∧ plunderref10_Reader_number.f k (ts.map tokS) (I : Int) B b = some (v, true, (I : Int), B, b)) ∨
    (numOf (wd (ts.drop I)) = none ∧ ∃ v, plunderref10_Reader_number.f k (ts.map tokS) (I : Int) B b = some (v, false, (I : Int), B, b)) := by
  unfold plunderref10_Reader_number.f
  rw [List.length_map]
  by_cases h : I < ts.length
  · rw [if_neg (by omega), if_pos (by omega), if_pos (by omega), rd_tok h, wd_at h]
    obtain ⟨r1, r2, e, hp⟩ := parse_k (tokS ts[I]).f0 k hk
    rw [e]
    have hp2 : IsParse ts[I].1 (r1, r2) := hp
    have := parse_num hp2
    by_cases h2 : r2 = 0
    · left
      refine ⟨r1, this.1.1 h2, ?_⟩
      subst h2
      rfl
    · right
      refine ⟨this.2.1 h2, r1, ?_⟩
      rw [Option.bind_some]
      have : (r2 == 0) = false := by simpa using h2
      rw [this]
  · right
    rw [if_pos (by omega), drop_end h]
    exact ⟨doc_num_nil, 0, rfl⟩
theorem is_f (ts : List Tok) (I : Nat) (B b : Bool) (s : ByteArray) (hs : s.data.toList ≠ []) :
    plunderref10_Reader_is.f (ts.map tokS) (I : Int) B b s = some (decide (wd (ts.drop I) = s.data.toList), (I : Int), B, b) := by
  unfold plunderref10_Reader_is.f
  rw [List.length_map]
  by_cases h : I < ts.length
  · rw [if_pos (by omega), if_pos (by omega), rd_tok h, wd_at h, Go.ByteArray.toList_eq, Go.ByteArray.toList_eq]
    congr 1
    congr 1
    show (ts[I].1 == s.data.toList) = decide (ts[I].1 = s.data.toList)
    by_cases e : ts[I].1 = s.data.toList
    · rw [e]; simp
    · rw [decide_eq_false e]; simpa using e
  · rw [if_neg (by omega), drop_end h]
    have : ¬ wd [] = s.data.toList := fun e => hs (by rw [← e]; rfl)
    rw [decide_eq_false this]
theorem num_lt {ts : List Tok} {I : Nat} {v : Int} (h : numOf (wd (ts.drop I)) = some v) : I < ts.length := by
  rcases Nat.lt_or_ge I ts.length with h2 | h2
  · exact h2
  · rw [drop_end (by omega), doc_num_nil] at h; cases h
theorem wd_lt {ts : List Tok} {I : Nat} {c : UInt8} {l : Bytes} (h : wd (ts.drop I) = c :: l) : I < ts.length := by
  rcases Nat.lt_or_ge I ts.length with h2 | h2
  · exact h2
  · rw [drop_end (by omega)] at h; cases h
theorem tail_at (ts : List Tok) (I : Nat) : (ts.drop I).tail = ts.drop (I + 1) := by rw [List.tail_drop]
theorem w_succ {I : Nat} (h : I < 1048576) : wrap64 ((I : Int) + 1) = ((I + 1 : Nat) : Int) := by unfold wrap64; omega
theorem sz_one : szN 1 = 1 := by unfold szN; decide
theorem sz_zero : szN 0 = 0 := by unfold szN; decide
theorem sz_add (m n : Nat) : mn (wrap64 (szN m + szN n)) 1048577 = szN (m + n) := by
  have e : wrap64 (szN m + szN n) = szN m + szN n := by
    unfold szN wrap64
    split <;> split <;> omega
  rw [e]
  unfold mn szN
  repeat' split
  all_goals omega
theorem pL_len {E k o : Nat} {ts : List Tok} {l : List S78} {t : List Tok} (h : pL E k o ts = some (.inr (l, t))) : t.length ≤ ts.length := by
  obtain ⟨r, hr, hl⟩ := pL_some E (k + ts.length + 1) o ts (by omega)
  have := pL_le E (m := k + ts.length + 1) (by omega) h
  rw [hr] at this
  injection this with this
  exact hl l t this
theorem pHead_len {E k o : Nat} {ts : List Tok} {x : S78} {t : List Tok} (h : pHead (pL E k) E o ts = some (.inr (some (x, t)))) : t.length < ts.length ∧ x.f2 = 1 := by
  unfold pHead at h
  cases hn : numOf (wd ts) with
  | some v =>
    rw [hn] at h
    injection h with h; injection h with h; injection h with h; injection h with h1 h2
    subst h1 h2
    exact ⟨tail_lt (num_ne hn), rfl⟩
  | none =>
    rw [hn] at h
    dsimp only at h
    by_cases hc : wd ts = [40] ∧ o < 8
    · rw [if_pos hc] at h
      cases hr : pL E k (o + 1) ts.tail with
      | none => rw [hr] at h; cases h
      | some r =>
        rw [hr] at h
        cases r with
        | inl p => injection h with h; cases h
        | inr lt =>
          obtain ⟨l, t1⟩ := lt
          dsimp only at h
          split at h
          · injection h with h; cases h
          · split at h
            · injection h with h; cases h
            · rename_i h41
              injection h with h; injection h with h; injection h with h; injection h with h1 h2
              subst h1 h2
              have h2 := pL_len hr
              have h3 := tail_lt (wd_ne hc.1)
              have h4 : wd t1 = [41] := by simpa using h41
              have h5 := tail_lt (wd_ne h4)
              exact ⟨by omega, rfl⟩
    · rw [if_neg hc] at h
      injection h with h; injection h with h; cases h
theorem pTail_len {E : Nat} {x y : S78} {t t2 : List Tok} (h : pTail E x t = .inr (y, t2)) : t2.length ≤ t.length := by
  unfold pTail at h
  split at h
  · split at h
    · split at h
      · injection h with h; injection h with _ h; subst h; simp; omega
      · cases h
    · cases h
  · injection h with h; injection h with _ h; subst h; exact Nat.le_refl _
theorem pL_cons {E k o : Nat} {ts : List Tok} {l : List S78} {t : List Tok} (h : pL E k o ts = some (.inr (l, t))) : (l = [] → t = ts) ∧ (l ≠ [] → t.length < ts.length) := by
  cases k with
  | zero => cases h
  | succ k =>
    rw [pL_eq] at h
    cases hq : pHead (pL E k) E o ts with
    | none => rw [hq] at h; cases h
    | some q =>
      rw [hq] at h
      cases q with
      | inl p => injection h with h; cases h
      | inr q =>
        cases q with
        | none =>
          injection h with h; injection h with h; injection h with h1 h2
          subst h1 h2
          exact ⟨fun _ => rfl, fun h => absurd rfl h⟩
        | some xt =>
          obtain ⟨x, t1⟩ := xt
          dsimp only at h
          have h1 := (pHead_len hq).1
          unfold pRest at h
          cases hp : pTail E x t1 with
          | inl p => rw [hp] at h; injection h with h; cases h
          | inr yt =>
            obtain ⟨y, t2⟩ := yt
            rw [hp] at h
            dsimp only at h
            have h2 := pTail_len hp
            obtain ⟨r, hr, he⟩ := pGo_some h
            cases r with
            | inl p => injection he
            | inr lt =>
              obtain ⟨l2, t3⟩ := lt
              unfold ahead at he
              injection he with he; injection he with he1 he2
              subst he1 he2
              have h3 := pL_len hr
              exact ⟨fun h => by simp at h, fun _ => by omega⟩
theorem pL_nil {E k o : Nat} {ts t : List Tok} (h : pL E k o ts = some (.inr ([], t))) : t = ts := (pL_cons h).1 rfl
theorem pL_less {E k o : Nat} {ts : List Tok} {l : List S78} {t : List Tok} (h : pL E k o ts = some (.inr (l, t))) (hl : l ≠ []) : t.length < ts.length := (pL_cons h).2 hl
/-- What items answer: where they end, or where they fail. -/
def ItemsOk (E : Nat) (ts : List Tok) (o : Nat) (b : Bool) (r : Res) (a : Option (Int × List Int × Int × Bool × Bool)) : Prop :=
  ∃ (N : Int) (L : List Int) (J : Nat) (B : Bool), a = some (N, L, (J : Int), B, b) ∧ J ≤ ts.length ∧ (b = false → L = []) ∧
    match r with
    | .inl p => B = true ∧ ps E (ts.drop J) = p
    | .inr (l, t) => ts.drop J = t ∧ ((o = 8 ∧ wd t = [40] ∧ B = true) ∨ (¬ (o = 8 ∧ wd t = [40]) ∧ B = false ∧ N = szN (expL l).length ∧ L = if b then expL l else []))
/-- A reader that builds reads nothing but what is whole and no longer than it may be. -/
def Hb (b : Bool) (r : Res) : Prop := b = true → ∃ l t, r = .inr (l, t) ∧ (expL l).length ≤ 1048576
def UnitOk (E : Nat) (ts : List Tok) (b : Bool) (I : Nat) (q : Nat ⊕ Option (S78 × List Tok)) (a : Option (Int × List Int × Int × Bool × Bool)) : Prop :=
  ∃ (N : Int) (L : List Int) (J : Nat) (B : Bool), a = some (N, L, (J : Int), B, b) ∧ J ≤ ts.length ∧ (b = false → L = []) ∧
    match q with
    | .inl p => B = true ∧ ps E (ts.drop J) = p ∧ L = []
    | .inr none => B = true ∧ J = I ∧ L = []
    | .inr (some (x, t)) => B = false ∧ ts.drop J = t ∧ N = szN (expI x).length ∧ L = if b then expI x else []
def Hq (b : Bool) (q : Nat ⊕ Option (S78 × List Tok)) : Prop := b = true → (q = .inr none ∨ ∃ x t, q = .inr (some (x, t)) ∧ (expI x).length ≤ 1048576)
theorem unit_law (E K : Nat) (hK : 42 ≤ K) (itf : List S72 → Int → Bool → Bool → Int → Option (Int × List Int × Int × Bool × Bool)) (ts : List Tok) (hT : ts.length ≤ 65536) (kp o I : Nat) (b : Bool) (ho : o ≤ 8)
    (hit : o < 8 → ∀ J r, J ≤ ts.length → pL E kp (o + 1) (ts.drop J) = some r → Hb b r → ItemsOk E ts (o + 1) b r (itf (ts.map tokS) (J : Int) false b ((o + 1 : Nat) : Int)))
    (hd : numOf (wd (ts.drop I)) ≠ none ∨ wd (ts.drop I) = [40]) (q : Nat ⊕ Option (S78 × List Tok)) (hq : pHead (pL E kp) E o (ts.drop I) = some q) (hb : Hq b q) :
    UnitOk E ts b I q (plunderref10_Reader_unit.f itf K (ts.map tokS) (I : Int) false b (o : Int)) := by
  unfold plunderref10_Reader_unit.f
  unfold pHead at hq
  rcases number_f hK ts I false b with ⟨v, hn, e⟩ | ⟨hn, v, e⟩
  · rw [e, Option.bind_some]
    have hI := num_lt hn
    rw [hn] at hq
    dsimp only at hq ⊢
    injection hq with hq
    subst hq
    rw [if_pos rfl, w_succ (by omega)]
    have hx : expI ⟨v, [], 1⟩ = [v] := by rw [expI_num, show (1 : Int).toNat = 1 from rfl, doc_rep_one]
    cases b with
    | true =>
      rw [if_pos rfl, if_pos (by decide)]
      refine ⟨1, [v], I + 1, false, rfl, by omega, (fun h => by cases h), rfl, (tail_at ts I).symm, ?_, ?_⟩
      · rw [hx]; exact sz_one.symm
      · rw [hx]; rfl
    | false =>
      rw [if_neg (by decide)]
      refine ⟨1, [], I + 1, false, rfl, by omega, fun _ => rfl, rfl, (tail_at ts I).symm, ?_, ?_⟩
      · rw [hx]; exact sz_one.symm
      · rfl
  · rw [e, Option.bind_some]
    have h40 : wd (ts.drop I) = [40] := hd.resolve_left (fun h => h hn)
    have hI := wd_lt h40
    rw [hn] at hq
    dsimp only at hq ⊢
    rw [if_neg (by decide)]
    by_cases h8 : o = 8
    · subst h8
      rw [if_neg (by simp)] at hq
      injection hq with hq
      subst hq
      rw [if_pos (by rfl)]
      exact ⟨0, [], I, true, rfl, by omega, fun _ => rfl, rfl, rfl, rfl⟩
    · rw [if_neg (by omega), w_succ (by omega), w_succ (by omega)]
      rw [if_pos ⟨h40, by omega⟩, tail_at] at hq
      have hwd : ∀ (N : Int) (L : List Int) (J : Nat) (p : Nat), ps E (ts.drop J) = p → J ≤ ts.length → UnitOk E ts b I (.inl p) (some (0, ([] : List Int), (J : Int), true, b)) :=
        fun N L J p hp hJ => ⟨0, [], J, true, rfl, hJ, fun _ => rfl, rfl, hp, rfl⟩
      cases hr : pL E kp (o + 1) (ts.drop (I + 1)) with
      | none => rw [hr] at hq; cases hq
      | some r =>
        rw [hr] at hq
        have hbr : Hb b r := by
          intro hbt
          rcases hb hbt with rfl | ⟨x, t, rfl, hx⟩
          · exfalso
            cases r with
            | inl p => injection hq with hq; cases hq
            | inr lt =>
              obtain ⟨l, t⟩ := lt
              dsimp only at hq
              split at hq
              · injection hq with hq; cases hq
              · split at hq
                · injection hq with hq; cases hq
                · injection hq with hq; injection hq with hq; cases hq
          · cases r with
            | inl p => injection hq with hq; cases hq
            | inr lt =>
              obtain ⟨l, t'⟩ := lt
              dsimp only at hq
              split at hq
              · injection hq with hq; cases hq
              · rename_i hl
                split at hq
                · injection hq with hq; cases hq
                · injection hq with hq; injection hq with hq; injection hq with hq; injection hq with hq _
                  subst hq
                  rw [expI_grp hl, show (1 : Int).toNat = 1 from rfl, doc_rep_one] at hx
                  exact ⟨l, t', rfl, hx⟩
        obtain ⟨N, L, J, B, ea, hJ, hLb, hres⟩ := hit (by omega) (I + 1) r (by omega) hr hbr
        rw [ea, Option.bind_some]
        dsimp only
        cases r with
        | inl p =>
          injection hq with hq
          subst hq
          obtain ⟨rfl, hp⟩ := hres
          rw [if_pos rfl]
          exact hwd 0 [] J _ hp hJ
        | inr lt =>
          obtain ⟨l, t⟩ := lt
          obtain ⟨hd2, hres⟩ := hres
          dsimp only at hq
          rcases hres with ⟨h8', h40', rfl⟩ | ⟨hn8, rfl, rfl, rfl⟩
          · rw [if_pos rfl]
            have : q = .inl (ps E t) := by
              split at hq
              · injection hq with hq; exact hq.symm
              · rw [if_pos (by rw [h40']; decide)] at hq
                injection hq with hq; exact hq.symm
            subst this
            exact hwd 0 [] J _ (by rw [hd2]) hJ
          · rw [if_neg (by decide)]
            have hIJ : (J : Int) = ((I + 1 : Nat) : Int) ↔ J = I + 1 := by omega
            by_cases hl : l = []
            · subst hl
              rw [if_pos rfl] at hq
              injection hq with hq
              subst hq
              by_cases hj : J = I + 1
              · rw [if_pos (hIJ.2 hj)]
                exact hwd 0 [] J _ (by rw [hd2]) hJ
              · exfalso
                have := pL_nil hr
                rw [← hd2] at this
                have h1 := congrArg List.length this
                rw [List.length_drop, List.length_drop] at h1
                omega
            · rw [if_neg hl] at hq
              have hj : ¬ (J : Int) = ((I + 1 : Nat) : Int) := by
                intro hj
                have hj := hIJ.1 hj
                subst hj
                have := pL_less hr hl
                rw [← hd2] at this
                omega
              rw [if_neg hj, is_f _ _ _ _ _ (by decide), Option.bind_some]
              dsimp only
              rw [hd2]
              by_cases h41 : wd t = [41]
              · rw [if_neg (by simpa using h41)] at hq
                injection hq with hq
                subst hq
                rw [if_pos (by simpa using h41)]
                have hJ2 : J < ts.length := wd_lt (hd2.symm ▸ h41)
                rw [w_succ (by omega)]
                have hx : expI ⟨0, l, 1⟩ = expL l := by rw [expI_grp hl, show (1 : Int).toNat = 1 from rfl, doc_rep_one]
                refine ⟨_, _, J + 1, false, rfl, by omega, hLb, rfl, ?_, ?_, ?_⟩
                · rw [← tail_at, hd2]
                · rw [hx]
                · rw [hx]
              · rw [if_pos (by simpa using h41)] at hq
                injection hq with hq
                subst hq
                rw [if_neg (by simpa using h41)]
                exact hwd 0 [] J _ (by rw [hd2]) hJ
end Go.Proofs.YtjlbimnafbngaaaDoor.Dec
