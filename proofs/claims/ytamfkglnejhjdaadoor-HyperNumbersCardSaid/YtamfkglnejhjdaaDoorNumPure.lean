/- What right and puts answer, as plain lists tell it. -/
import Derived.Test.YtamfkglnejhjdaaDoorBaseA
import Derived.Test.YtamfkglnejhjdaaDoorNumA
import Derived.Test.YtamfkglnejhjdaaDoorRefuse
import Derived.Test.YtamfkglnejhjdaaDoorOpsLaw
import Derived.Test.YtamfkglnejhjdaaDoorFoldV
namespace Go.Proofs.YtamfkglnejhjdaaDoor.HLaw
open Go.RowKit Go.Proofs.YtamfkglnejhjdaaDoorW.PrintWords Go.Proofs.YtamfkglnejhjdaaDoor.BitMath Go.Proofs.YtamfkglnejhjdaaDoor.PHyperFold Go.Proofs.YtamfkglnejhjdaaDoor.Play Go.Proofs.YtamfkglnejhjdaaDoor.Base
set_option linter.unusedVariables false

theorem right_loop (l : List S46) (b : List Bool) (c : List Int) (hm : l.length ≤ 4096) (ds : List S46) : ∀ (n i k : Nat), l.drop i = ds → n ≤ i → i ≤ l.length → 2 * ds.length + 1 < k → plunderlaw23_right.l0 k (n : Int) (i : Int) l b c = some (right n (ds.map dd)) := by
  induction ds with
  | nil =>
    intro n i k hd hn hi hk
    obtain ⟨k, rfl⟩ : ∃ m, k = m + 1 := ⟨k - 1, by omega⟩
    have := nil_drop hd
    simp only [plunderlaw23_right.l0]
    rw [if_neg (by omega)]; rfl
  | cons d ds ih =>
    intro n i k hd hn hi hk
    obtain ⟨hr, hl, hd2⟩ := rd_drop hd
    simp only [List.length_cons] at hk
    obtain ⟨k, rfl⟩ : ∃ m, k = m + 2 := ⟨k - 2, by omega⟩
    simp only [plunderlaw23_right.l0, List.map_cons, right, dd]
    rw [if_pos (by omega), if_pos (by omega), hr, wrap_id (a := (n : Int) + 1) (by unfold In64; omega), wrap_id (a := (n : Int) - 1) (by unfold In64; omega), wrap_id (a := (i : Int) + 1) (by unfold In64; omega)]
    by_cases h0 : d.f0 = 0
    · rw [if_pos h0, if_pos h0, if_neg (by omega)]
      exact ih (n + 1) (i + 1) (k + 1) hd2 (by omega) (by omega) (by omega)
    · rw [if_neg h0, if_neg h0]
      by_cases h1 : d.f0 = 1
      · rw [if_pos h1, if_pos h1]
        cases n with
        | zero => rw [if_pos (by omega)]
        | succ m =>
          rw [if_neg (by omega), show ((m + 1 : Nat) : Int) - 1 = (m : Int) by omega]
          exact ih m (i + 1) (k + 1) hd2 (by omega) (by omega) (by omega)
      · rw [if_neg h1, if_neg h1]
        by_cases h2 : d.f0 = 2
        · rw [if_pos h2, if_pos (.inl h2)]
          simp only [plunderlaw23_right.j2]
          rw [if_pos (by simp [h2]), if_neg (by omega)]
          rw [wrap_id (a := (i : Int) + 1) (by unfold In64; omega)]
          exact ih n (i + 1) k hd2 (by omega) (by omega) (by omega)
        · rw [if_neg h2]
          by_cases h3 : d.f0 = 3
          · rw [if_pos h3, if_pos (.inr (.inl h3))]
            simp only [plunderlaw23_right.j2]
            rw [if_pos (by simp [h3]), if_neg (by omega)]
            rw [wrap_id (a := (i : Int) + 1) (by unfold In64; omega)]
            exact ih n (i + 1) k hd2 (by omega) (by omega) (by omega)
          · rw [if_neg h3]
            simp only [plunderlaw23_right.j2]
            by_cases h4 : d.f0 = 4
            · rw [if_pos (show d.f0 = 2 ∨ d.f0 = 3 ∨ d.f0 = 4 from .inr (.inr h4)), if_pos (by simp [h4]), if_neg (by omega)]
              rw [wrap_id (a := (i : Int) + 1) (by unfold In64; omega)]
              exact ih n (i + 1) k hd2 (by omega) (by omega) (by omega)
            · rw [if_neg (show ¬ (d.f0 = 2 ∨ d.f0 = 3 ∨ d.f0 = 4) by omega), if_neg (by simp [h4])]
/-- May this be played? -/
def okG (l : List S46) (b : List Bool) (c : List Int) : Bool := decide (l.length ≤ 4096 ∧ b.length ≤ 4096 ∧ c.length ≤ 1048576) && right 0 (l.map dd)
theorem okG_iff {l : List S46} {b : List Bool} {c : List Int} : okG l b c = true ↔ (l.length ≤ 4096 ∧ b.length ≤ 4096 ∧ c.length ≤ 1048576 ∧ right 0 (l.map dd) = true) := by
  unfold okG
  rw [Bool.and_eq_true, decide_eq_true_eq]
  constructor
  · rintro ⟨⟨h1, h2, h3⟩, h4⟩; exact ⟨h1, h2, h3, h4⟩
  · rintro ⟨h1, h2, h3, h4⟩; exact ⟨⟨h1, h2, h3⟩, h4⟩
theorem right_f (l : List S46) (b : List Bool) (c : List Int) (k : Nat) (hk : 8200 ≤ k) : plunderlaw23_right.f k l b c = some (okG l b c) := by
  obtain ⟨k, rfl⟩ : ∃ m, k = m + 1 := ⟨k - 1, by omega⟩
  unfold plunderlaw23_right.f okG
  by_cases h0 : l.length > 4096
  · rw [if_pos (by omega), decide_eq_false (by omega)]
    simp [plunderlaw23_right.j0]
  · rw [if_neg (by omega)]
    by_cases h1 : b.length > 4096
    · rw [if_pos (by omega), decide_eq_false (by omega)]
      simp [plunderlaw23_right.j0]
    · rw [if_neg (by omega)]
      by_cases h2 : c.length > 1048576
      · rw [decide_eq_true (show (c.length : Int) > 1048576 by omega), decide_eq_false (show ¬ (l.length ≤ 4096 ∧ b.length ≤ 4096 ∧ c.length ≤ 1048576) by omega)]
        simp [plunderlaw23_right.j0]
      · rw [decide_eq_false (show ¬ (c.length : Int) > 1048576 by omega), decide_eq_true (show (l.length ≤ 4096 ∧ b.length ≤ 4096 ∧ c.length ≤ 1048576) by omega), Bool.true_and]
        simp only [plunderlaw23_right.j0]
        rw [if_neg (by decide)]
        have := right_loop l b c (by omega) l 0 0 k rfl (by omega) (by omega) (by omega)
        simpa using this
theorem puts_cons (d : S46) (ds : List S46) : puts ((d :: ds).map dd) = (if d.f0 = 4 then [d.f1] else []) ++ puts (ds.map dd) := by
  rw [List.map_cons, show dd d :: ds.map dd = [dd d] ++ ds.map dd from rfl, puts_append]
  congr 1
  by_cases h : d.f0 = 4 <;> simp [puts, dd, h]
theorem puts_loop (l : List S46) (hm : l.length ≤ 4096) (m : Nat) (hml : m ≤ l.length) (d : Nat) : ∀ (i k : Nat) (a : List Int), i + d = m → a.length ≤ i → 2 * d + 1 < k → plunderlaw23_puts.l0 k l (m : Int) a (i : Int) = some (a ++ puts (((l.take m).drop i).map dd)) := by
  induction d with
  | zero =>
    intro i k a hd ha hk
    obtain ⟨k, rfl⟩ : ∃ m, k = m + 2 := ⟨k - 2, by omega⟩
    simp only [plunderlaw23_puts.l0, plunderlaw23_puts.j1]
    rw [if_neg (by omega), if_neg (by decide), List.drop_eq_nil_of_le (by rw [List.length_take]; omega)]
    simp [puts]
  | succ d ih =>
    intro i k a hd ha hk
    obtain ⟨k, rfl⟩ : ∃ m, k = m + 2 := ⟨k - 2, by omega⟩
    have hil : i < l.length := by omega
    have hrd : rd_T46 l (i : Int) = l[i] := by unfold rd_T46; rw [Int.toNat_natCast, List.getD_eq_getElem?_getD, List.getElem?_eq_getElem hil]; rfl
    have hdr : (l.take m).drop i = l[i] :: (l.take m).drop (i + 1) := by
      rw [List.drop_eq_getElem_cons (by rw [List.length_take]; omega), List.getElem_take]
    simp only [plunderlaw23_puts.l0, plunderlaw23_puts.j1]
    rw [if_pos (by omega), decide_eq_true (by omega), if_pos rfl, if_pos (by omega), if_pos (by omega), hrd, wrap_id (a := (i : Int) + 1) (by unfold In64; omega), hdr, puts_cons]
    by_cases h4 : (l[i]).f0 = 4
    · rw [if_pos h4, if_pos (by omega), if_pos h4, ← List.append_assoc]
      exact ih (i + 1) k _ (by omega) (by simp; omega) (by omega)
    · rw [if_neg h4, if_neg h4, List.nil_append]
      exact ih (i + 1) k a (by omega) (by omega) (by omega)
theorem puts_f (l : List S46) (hm : l.length ≤ 4096) (m : Nat) (hml : m ≤ l.length) (k : Nat) (hk : 8200 ≤ k) : plunderlaw23_puts.f k l (m : Int) = some (puts ((l.take m).map dd)) := by
  unfold plunderlaw23_puts.f
  have := puts_loop l hm m hml m 0 k [] (by omega) (by simp) (by omega)
  simpa using this
theorem puts_le' (ds : List (Int × Int)) : (puts ds).length ≤ ds.length := by unfold puts; rw [List.length_map]; exact List.length_filter_le _ _
/-- What holds of a play's end. -/
theorem play_inv {l1 : List Bool} {l2 : List Int} {ds : List (Int × Int)} (hr : right 0 ds = true) : Inv (play red l1 l2 ds) (puts ds) ∧ (play red l1 l2 ds).up = [] ∧ (play red l1 l2 ds).cur = [0] := by
  have h := Inv.run l1 ds 0 (Play.start red l2) [] (Inv.start l2) hr
  rw [List.nil_append] at h
  exact Inv.finish ds.length _ _ _ h rfl
theorem play_first {l1 : List Bool} {l2 : List Int} {ds : List (Int × Int)} (hr : right 0 ds = true) : (play red l1 l2 ds).views.getD 0 [] = puts ds ∧ 0 < (play red l1 l2 ds).views.length := by
  obtain ⟨h1, h2, h3⟩ := play_inv (l1 := l1) (l2 := l2) hr
  have hv := h1.value
  have hb := h1.bound
  rw [h2, h3] at hv hb
  exact ⟨by simpa [live, flat] using hv, hb 0 (by simp [live])⟩
open Go.Proofs.YtamfkglnejhjdaaDoor.Refuse (refF refF_cases)
open Go.Proofs.YtamfkglnejhjdaaDoor.FoldLaw Go.Proofs.YtamfkglnejhjdaaDoor.Tab Go.Proofs.YtamfkglnejhjdaaDoor.Mon
open Go.Proofs.YtamfkglnejhjdaaDoor.Ref (foldV ready_unit0)
theorem refF_ok {l : List S46} {b : List Bool} {c : List Int} : okG l b c = true ↔ refF l b c = 0 := okG_iff.trans (refF_cases l b c).symm
theorem ready_len {op : Int} (h : (readyP op 0).2 = 0) (n : Int) (hn : n ≤ 65536) : readyP op n = readyP op 0 := by
  have hn2 : ¬ n > 65536 := by omega
  unfold readyP
  rw [if_neg hn2, if_neg (show ¬ (0 : Int) > 65536 by decide)]
theorem ready_un {op : Int} (h : (readyP op 0).2 = 0) : (readyP op 0).1 = un op := by
  obtain ⟨hop, hun⟩ := ready_unit0 h
  have h0 : ¬ (0 : Int) > 65536 := by decide
  unfold readyP at h ⊢
  by_cases h1 : 0 ≤ op ∧ op < 16
  · rw [if_pos h1, hun, if_pos rfl, if_neg h0]
  · rw [if_neg h1] at h
    simp at h
theorem foldP_wk {op : Int} (h : (readyP op 0).2 = 0) (l : List Int) (hl : l.length ≤ 65536) : foldP op l = (HalvesLaw.F op l, 0) := by
  obtain ⟨hop, hun⟩ := ready_unit0 h
  have e := ready_len h (l.length : Int) (by omega)
  have e2 : wkA op = wk op := by funext a b; exact wkA_wk hop a b
  unfold foldP
  rw [e, h, if_pos rfl, ready_un h, e2]
  rfl
theorem foldP_nil (op : Int) : (foldP op []).2 = (readyP op 0).2 := by
  unfold foldP
  rw [show (([] : List Int).length : Int) = 0 from rfl]
  split
  · rename_i h; exact h.symm
  · rfl
theorem foldV_no {op : Int} (h : (readyP op 0).2 ≠ 0) (l : List S46) (b : List Bool) (c : List Int) : foldV op l b c = (0, (readyP op 0).2) := by
  unfold foldV; rw [if_neg h]
theorem foldV_bad {op : Int} (h : (readyP op 0).2 = 0) {l : List S46} {b : List Bool} {c : List Int} (hb : okG l b c = false) : foldV op l b c = (0, refF l b c) ∧ refF l b c ≠ 0 := by
  have hn : ¬ refF l b c = 0 := fun e => by rw [refF_ok.2 e] at hb; cases hb
  unfold foldV
  rw [if_pos h, if_neg hn]
  exact ⟨rfl, hn⟩
theorem foldV_ok {op : Int} (h : (readyP op 0).2 = 0) {l : List S46} {b : List Bool} {c : List Int} (hb : okG l b c = true) : foldV op l b c = (HalvesLaw.F op (puts (l.map dd)), 0) := by
  unfold foldV
  rw [if_pos h, if_pos (refF_ok.1 hb), (play_first (okG_iff.1 hb).2.2.2).1]
end Go.Proofs.YtamfkglnejhjdaaDoor.HLaw
