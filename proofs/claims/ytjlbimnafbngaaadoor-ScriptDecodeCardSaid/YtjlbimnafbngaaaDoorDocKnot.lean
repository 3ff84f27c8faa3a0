/- The document's reader: items call items: their contract, and what a script's text comes to. -/
import Derived.Test.YtjlbimnafbngaaaDoorDocLaw2
import Derived.Test.YtjlbimnafbngaaaDoorDocScript
namespace Go.Proofs.YtjlbimnafbngaaaDoor.Dec
open Go.RowKit Go.Proofs.YtjlbimnafbngaaaDoor.BitMath Go.Proofs.YtjlbimnafbngaaaDoor.PScriptDecode Go.Proofs.YtjlbimnafbngaaaDoorW.PrintWords Go.Proofs.YtjlbimnafbngaaaDoorW.PrintMore
set_option linter.unusedVariables false
theorem itF_calls (K : Nat) : ∀ (n : Nat) (g : Nat) (s0_0 : List (S72)) (s0_1 : Int) (s0_2 : Bool) (s0_3 : Bool) (a1 : Int) (r1 : Int) (r2 : List Int) (r3 : Int) (r4 : Bool) (r5 : Bool) (w0 w : World) (hI : IsS66 w0 w g s0_0 s0_1 s0_2 s0_3) (hB : Below w0.heap.size w0 w) (h : itF K n s0_0 s0_1 s0_2 s0_3 a1 = some (r1, r2, r3, r4, r5)), Calls Tryd.prog 39 #[.pointer (some ⟨g, 0, none⟩), .int .i64 a1] w fun e w' => ∃ v1_ : Value, e = .returned (.agg #[.int .i64 r1, v1_]) ∧ Kd.R (Kd.int .i64) 3 w' w.heap.size (fun _ => True) v1_ r2 ∧ IsS66 w0 w' g s0_0 r3 r4 r5 ∧ Below w0.heap.size w0 w' ∧ KeepBut w w' g none := by
  intro n
  induction n with
  | zero => intro g s0_0 s0_1 s0_2 s0_3 a1 r1 r2 r3 r4 r5 w0 w hI hB h; cases h
  | succ n ih => exact plunderref10_Reader_items.calls (plunderref10_Reader_item.f (plunderref10_Reader_unit.f (itF K n) K) K) (plunderref10_Reader_item.calls (plunderref10_Reader_unit.f (itF K n) K) (plunderref10_Reader_unit.calls (itF K n) ih K) K) K
/-- What the whole of a text's tokens comes to. -/
def ScrOk (E : Nat) (ts : List Tok) (b : Bool) (r : Nat ⊕ (List S78 × List S78)) (a : Option (Int × List Int × Int × List Int × Int × Bool × Bool)) : Prop :=
  ∃ (N1 : Int) (L1 : List Int) (N2 : Int) (L2 : List Int) (J : Nat) (B : Bool), a = some (N1, L1, N2, L2, (J : Int), B, b) ∧ J ≤ ts.length ∧
    match r with
    | .inl p => B = true ∧ ps E (ts.drop J) = p
    | .inr (x, y) => B = false ∧ N1 = szN (expL x).length ∧ L1 = (if b then expL x else []) ∧ N2 = szN (expL y).length ∧ L2 = (if b then expL y else [])
theorem script_law (E K : Nat) (ts : List Tok) (hT : ts.length ≤ 65536) (hK : 1118701 ≤ K) (b : Bool) (r : Nat ⊕ (List S78 × List S78)) (h : pS E 70000 ts = some r)
    (hb : b = true → ∃ x y, r = .inr (x, y) ∧ (expL x).length ≤ 1048576 ∧ (expL y).length ≤ 1048576) :
    ScrOk E ts b r (plunderref10_Reader_script.f (itF K 9) K (ts.map tokS) ((0 : Nat) : Int) false b) := by
  obtain ⟨K', hK'⟩ : ∃ K', K = K' + 1 := ⟨K - 1, by omega⟩
  have bad : ∀ (N1 : Int) (L1 : List Int) (N2 : Int) (L2 : List Int) (J p : Nat), J ≤ ts.length → ps E (ts.drop J) = p → ScrOk E ts b (.inl p) (some (N1, L1, N2, L2, (J : Int), true, b)) :=
    fun N1 L1 N2 L2 J p hJ hp => ⟨N1, L1, N2, L2, J, true, rfl, hJ, rfl, hp⟩
  unfold plunderref10_Reader_script.f
  unfold pS at h
  rw [is_f _ _ _ _ _ (by decide), Option.bind_some, List.drop_zero]
  dsimp only
  by_cases hp : wd ts = bPicks
  · rw [if_pos hp] at h
    rw [if_pos (decide_eq_true (show wd ts = (⟨#[112, 105, 99, 107, 115]⟩ : ByteArray).data.toList from hp))]
    have h0 := wd_lt (ts := ts) (I := 0) (c := 112) (l := [105, 99, 107, 115]) (by rw [List.drop_zero]; exact hp)
    rw [w_succ (by omega)]
    rw [show ts.tail = ts.drop 1 from by rw [← tail_at, List.drop_zero]] at h
    cases hr1 : pL E 70000 0 (ts.drop 1) with
    | none => rw [hr1] at h; cases h
    | some r1 =>
      rw [hr1] at h
      have hb1 : Hb b r1 := by
        intro hbt
        obtain ⟨x, y, rfl, hx, hy⟩ := hb hbt
        cases r1 with
        | inl p => injection h with h; cases h
        | inr lt =>
          obtain ⟨l, t⟩ := lt
          refine ⟨l, t, rfl, ?_⟩
          dsimp only at h
          split at h
          · split at h
            · cases h
            · injection h with h; cases h
            · split at h
              · injection h with h; injection h with h; injection h with h _; subst h; exact hx
              · injection h with h; cases h
          · injection h with h; cases h
      obtain ⟨N1, L1, J1, B1, e1, hJ1, hL1, hm1⟩ := itF_law E K ts hT 70000 1 b r1 (by omega) (by omega) hr1 hb1
      rw [show ((0 + 1 : Nat) : Int) = ((1 : Nat) : Int) from rfl, e1, Option.bind_some]
      dsimp only
      cases r1 with
      | inl p =>
        injection h with h
        subst h
        obtain ⟨rfl, hps⟩ := hm1
        rw [if_pos rfl, hK', plunderref10_Reader_script.j0, if_pos rfl]
        exact bad _ _ _ _ J1 p hJ1 hps
      | inr lt =>
        obtain ⟨l, t⟩ := lt
        obtain ⟨rfl, hm1⟩ := hm1
        rcases hm1 with ⟨h8, _⟩ | ⟨_, rfl, rfl, rfl⟩
        · omega
        · rw [if_neg (by decide), is_f _ _ _ _ _ (by decide), Option.bind_some]
          dsimp only at h ⊢
          by_cases hd : wd (ts.drop J1) = bDraws
          · have hdc : (!decide (wd (ts.drop J1) = (⟨#[100, 114, 97, 119, 115]⟩ : ByteArray).data.toList)) = false := by
              rw [decide_eq_true (by exact hd)]; rfl
            have hJ2 := wd_lt (ts := ts) (I := J1) (c := 100) (l := [114, 97, 119, 115]) hd
            rw [if_pos hd, tail_at] at h
            rw [hdc, hK', plunderref10_Reader_script.j0, if_neg (by decide), ← hK', w_succ (by omega)]
            cases hr2 : pL E 70000 0 (ts.drop (J1 + 1)) with
            | none => rw [hr2] at h; cases h
            | some r2 =>
              rw [hr2] at h
              have hb2 : Hb b r2 := by
                intro hbt
                obtain ⟨x, y, rfl, hx, hy⟩ := hb hbt
                cases r2 with
                | inl p => injection h with h; cases h
                | inr lt =>
                  obtain ⟨l2, t2⟩ := lt
                  refine ⟨l2, t2, rfl, ?_⟩
                  dsimp only at h
                  split at h
                  · injection h with h; injection h with h; injection h with _ h; subst h; exact hy
                  · injection h with h; cases h
              obtain ⟨N2, L2, J2, B2, e2, hJ2', hL2, hm2⟩ := itF_law E K ts hT 70000 (J1 + 1) b r2 (by omega) (by omega) hr2 hb2
              rw [e2, Option.bind_some]
              dsimp only
              rw [List.length_map]
              cases r2 with
              | inl p =>
                injection h with h
                subst h
                obtain ⟨rfl, hps⟩ := hm2
                split
                · exact bad _ _ _ _ J2 p hJ2' hps
                · exact bad _ _ _ _ J2 p hJ2' hps
              | inr lt =>
                obtain ⟨l2, t2⟩ := lt
                obtain ⟨rfl, hm2⟩ := hm2
                rcases hm2 with ⟨h8, _⟩ | ⟨_, rfl, rfl, rfl⟩
                · omega
                · dsimp only at h
                  by_cases hlt : (J2 : Int) < (ts.length : Int)
                  · rw [if_pos hlt]
                    have : ¬ ts.drop J2 = [] := by
                      intro e
                      have := List.drop_eq_nil_iff.1 e
                      omega
                    rw [if_neg this] at h
                    injection h with h
                    subst h
                    exact bad _ _ _ _ J2 _ hJ2' rfl
                  · rw [if_neg hlt]
                    rw [if_pos (drop_end (by omega))] at h
                    injection h with h
                    subst h
                    exact ⟨_, _, _, _, J2, false, rfl, hJ2', rfl, rfl, rfl, rfl, rfl⟩
          · have hdc : (!decide (wd (ts.drop J1) = (⟨#[100, 114, 97, 119, 115]⟩ : ByteArray).data.toList)) = true := by
              rw [decide_eq_false (by exact hd)]; rfl
            rw [if_neg hd] at h
            injection h with h
            subst h
            rw [hdc, hK', plunderref10_Reader_script.j0, if_pos rfl]
            exact bad _ _ _ _ J1 _ hJ1 rfl
  · rw [if_neg hp] at h
    injection h with h
    subst h
    rw [if_neg (by rw [decide_eq_false (show ¬ wd ts = (⟨#[112, 105, 99, 107, 115]⟩ : ByteArray).data.toList from hp)]; decide)]
    refine bad _ _ _ _ 0 _ (by omega) ?_
    rw [List.drop_zero]
end Go.Proofs.YtjlbimnafbngaaaDoor.Dec
