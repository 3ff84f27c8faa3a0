/- Which picks are fair for a window: the program's longest stretch and the document's own rows agree: plain facts, for every list of int64 and every number. -/
import Derived.Test.YtjlbimnafbngaaaBitMath
import Derived.Test.YtjlbimnafbngaaaMScriptFairx3
namespace Go.Proofs.Ytjlbimnafbngaaa.FairPure
open Go.RowKit Go.Proofs.YtjlbimnafbngaaaW.PrintWords Go.Proofs.Ytjlbimnafbngaaa.BitMath Go.Proofs.Ytjlbimnafbngaaa.PScriptFair

/-- The worker that a pick names. -/
def who (W : Nat) (x : Int) : Nat := (x % (W : Int)).toNat
theorem who_lt (W : Nat) (hW : 0 < W) (x : Int) : who W x < W := by
  unfold who
  have h1 := Int.emod_nonneg x (show (W : Int) ≠ 0 by omega)
  have h2 := Int.emod_lt_of_pos x (show (0 : Int) < (W : Int) by omega)
  omega
theorem mod_f (W : Nat) (hW : 0 < W) (hw : W ≤ 64) (x : Int) : ops_Mod.f x (W : Int) = some ((who W x : Nat) : Int) := by
  unfold ops_Mod.f who
  have h1 := Int.emod_nonneg x (show (W : Int) ≠ 0 by omega)
  have h2 := Int.emod_lt_of_pos x (show (0 : Int) < (W : Int) by omega)
  rw [if_neg (by omega), if_neg (by omega), Int.tmod_eq_emod]
  have h3 : ((W : Int)).natAbs = W := by omega
  split
  · rw [if_neg (by omega)]; congr 1; omega
  · rw [h3, if_pos (by omega), wrap_id (by unfold In64; omega)]; congr 1; omega

theorem snocInd {P : List Int → Prop} (l : List Int) (h0 : P []) (h1 : ∀ l x, P l → P (l ++ [x])) : P l := by
  have : ∀ n (l : List Int), l.length = n → P l := by
    intro n
    induction n with
    | zero => intro l hl; rw [List.eq_nil_of_length_eq_zero hl]; exact h0
    | succ n ih =>
      intro l hl
      have hne : l ≠ [] := by intro e; rw [e] at hl; simp at hl
      rw [← List.dropLast_concat_getLast hne]
      exact h1 _ _ (ih _ (by rw [List.length_dropLast]; omega))
  exact this _ l rfl

/-- How many picks stand behind the last one that named w. -/
def cur (W w : Nat) (l : List Int) : Nat := l.foldl (fun a x => if who W x = w then 0 else a + 1) 0
theorem cur_snoc (W w : Nat) (l : List Int) (x : Int) : cur W w (l ++ [x]) = if who W x = w then 0 else cur W w l + 1 := by unfold cur; rw [List.foldl_append]; rfl
theorem cur_le (W w : Nat) (l : List Int) : cur W w l ≤ l.length := by
  induction l using snocInd with
  | h0 => exact Nat.le_refl _
  | h1 l x ih => rw [cur_snoc, List.length_append]; split <;> simp <;> omega
/-- The longest stretch so far that leaves w out. -/
def best (W w : Nat) (l : List Int) : Nat := (l.foldl (fun (a : Nat × Nat) x => (if who W x = w then 0 else a.1 + 1, max a.2 (if who W x = w then 0 else a.1 + 1))) (0, 0)).2
theorem pair_fst (W w : Nat) (l : List Int) : (l.foldl (fun (a : Nat × Nat) x => (if who W x = w then 0 else a.1 + 1, max a.2 (if who W x = w then 0 else a.1 + 1))) (0, 0)).1 = cur W w l := by
  induction l using snocInd with
  | h0 => rfl
  | h1 l x ih => rw [List.foldl_append, cur_snoc]; simp [ih]
theorem best_snoc (W w : Nat) (l : List Int) (x : Int) : best W w (l ++ [x]) = max (best W w l) (cur W w (l ++ [x])) := by
  unfold best
  rw [List.foldl_append]
  simp only [List.foldl_cons, List.foldl_nil]
  rw [pair_fst, cur_snoc]
theorem best_nil (W w : Nat) : best W w [] = 0 := rfl
theorem cur_best (W w : Nat) (l : List Int) : cur W w l ≤ best W w l := by
  induction l using snocInd with
  | h0 => exact Nat.le_refl _
  | h1 l x ih => rw [best_snoc]; exact Nat.le_max_right _ _
theorem best_le (W w : Nat) (l : List Int) : best W w l ≤ l.length := by
  induction l using snocInd with
  | h0 => exact Nat.le_refl _
  | h1 l x ih =>
    rw [best_snoc]
    have := cur_le W w (l ++ [x])
    rw [List.length_append] at *
    simp at *
    omega
theorem best_mono (W w : Nat) (l r : List Int) : best W w l ≤ best W w (l ++ r) := by
  induction r using snocInd with
  | h0 => simp
  | h1 r x ih => rw [← List.append_assoc, best_snoc]; omega

/-- G is the longest stretch that leaves some worker out. -/
def IsGap (W : Nat) (l : List Int) (G : Nat) : Prop := (∀ w, w < W → best W w l ≤ G) ∧ (G = 0 ∨ ∃ w, w < W ∧ G ≤ best W w l)
theorem IsGap.lt {W : Nat} {l : List Int} {G : Nat} (h : IsGap W l G) {n : Nat} (hn : 0 < n) : G < n ↔ ∀ w, w < W → best W w l < n := by
  constructor
  · intro hg w hw; have := h.1 w hw; omega
  · intro ha
    rcases h.2 with h0 | ⟨w, hw, hle⟩
    · omega
    · have := ha w hw; omega
theorem IsGap.one {W : Nat} {l : List Int} {G G' : Nat} (h : IsGap W l G) (k : IsGap W l G') : G = G' := by
  rcases Nat.lt_trichotomy G G' with hl | hl | hl
  · rcases k.2 with h0 | ⟨w, hw, hle⟩
    · omega
    · have := h.1 w hw; omega
  · exact hl
  · rcases h.2 with h0 | ⟨w, hw, hle⟩
    · omega
    · have := k.1 w hw; omega
theorem IsGap.le {W : Nat} {l : List Int} {G : Nat} (h : IsGap W l G) : G ≤ l.length := by
  rcases h.2 with h0 | ⟨w, _, hle⟩
  · omega
  · have := best_le W w l; omega

/-! ### The program's gap -/
/-- The state behind the first i picks. -/
def GInv (W : Nat) (p : List Int) (last : List Int) (L : Nat) : Prop :=
  last.length = W ∧ (∀ w, w < W → last.getD w 0 = ((p.length - cur W w p : Nat) : Int)) ∧ (∀ w, w < W → best W w p ≤ max L (cur W w p)) ∧ (L = 0 ∨ ∃ w, w < W ∧ L ≤ best W w p)
theorem GInv.start (W : Nat) : GInv W [] (List.replicate W 0) 0 := by
  refine ⟨by simp, fun w hw => ?_, fun w _ => by rw [best_nil]; omega, .inl rfl⟩
  simp [List.getD_eq_getElem?_getD, hw]
theorem GInv.step {W : Nat} (hW : 0 < W) {p last : List Int} {L : Nat} (h : GInv W p last L) (x : Int) : GInv W (p ++ [x]) (last.set (who W x) ((p.length + 1 : Nat) : Int)) (max L (cur W (who W x) p)) := by
  obtain ⟨h1, h2, h3, h4⟩ := h
  have hm := who_lt W hW x
  refine ⟨by simp [h1], fun w hw => ?_, fun w hw => ?_, ?_⟩
  · rw [cur_snoc, List.length_append]
    by_cases e : who W x = w
    · subst e
      rw [if_pos rfl]
      simp [List.getD_eq_getElem?_getD, h1, hm]
    · rw [if_neg e]
      have := h2 w hw
      have hc := cur_le W w p
      simp [List.getD_eq_getElem?_getD, e] at this ⊢
      omega
  · rw [best_snoc, cur_snoc]
    have hb := h3 w hw
    by_cases e : who W x = w
    · subst e; rw [if_pos rfl]; omega
    · rw [if_neg e]; omega
  · by_cases e : cur W (who W x) p ≤ L
    · rcases h4 with h4 | ⟨w, hw, hle⟩
      · left; omega
      · right; exact ⟨w, hw, by have := best_mono W w p [x]; omega⟩
    · right; exact ⟨who W x, hm, by have := cur_best W (who W x) p; have := best_mono W (who W x) p [x]; omega⟩

theorem mx_cast (a b : Nat) : mx (a : Int) (b : Int) = ((max a b : Nat) : Int) := by unfold mx; split <;> omega
theorem rd_getD (l : List Int) (i : Nat) : rd l (i : Int) = l.getD i 0 := by unfold rd; rw [Int.toNat_natCast]

/-- Behind the picks: each worker's last stretch. -/
theorem tail_loop (l : List Int) (W : Nat) (last : List Int) (hl : last.length = W) (h2 : ∀ w, w < W → last.getD w 0 = ((l.length - cur W w l : Nat) : Int)) (hm : l.length ≤ 9223372036854775806) (hW : W ≤ 64) (d : Nat) :
    ∀ (i k L : Nat), i + d = W → d < k → ∃ G : Nat, script_gap.l1 k l (L : Int) last (W : Int) (i : Int) = some (G : Int) ∧ L ≤ G ∧ (∀ w, i ≤ w → w < W → cur W w l ≤ G) ∧ (G = L ∨ ∃ w, w < W ∧ G = cur W w l) := by
  induction d with
  | zero =>
    intro i k L hi hk
    obtain ⟨k, rfl⟩ : ∃ m, k = m + 1 := ⟨k - 1, by omega⟩
    refine ⟨L, ?_, Nat.le_refl _, fun w h1 h2 => by omega, .inl rfl⟩
    simp only [script_gap.l1]
    rw [if_neg (by omega)]
  | succ d ih =>
    intro i k L hi hk
    obtain ⟨k, rfl⟩ : ∃ m, k = m + 1 := ⟨k - 1, by omega⟩
    have hc := cur_le W i l
    have e : wrap64 ((l.length : Int) - rd last (i : Int)) = ((cur W i l : Nat) : Int) := by
      rw [rd_getD, h2 i (by omega), wrap_id (by unfold In64; omega)]
      omega
    obtain ⟨G, hG, hL, hall, hex⟩ := ih (i + 1) k (max L (cur W i l)) (by omega) (by omega)
    refine ⟨G, ?_, by omega, fun w h3 h4 => ?_, ?_⟩
    · simp only [script_gap.l1]
      rw [if_pos (by omega), if_pos (by omega), if_pos (by omega), e, mx_cast, wrap_id (a := (i : Int) + 1) (by unfold In64; omega)]
      exact hG
    · by_cases e2 : w = i
      · subst e2; omega
      · exact hall w (by omega) h4
    · rcases hex with hex | hex
      · by_cases e3 : cur W i l ≤ L
        · left; omega
        · right; exact ⟨i, by omega, by omega⟩
      · exact .inr hex

theorem gap_loop (l : List Int) (W : Nat) (hW : 0 < W) (hW2 : W ≤ 64) (hm : l.length ≤ 9223372036854775806) (d : Nat) :
    ∀ (i k L : Nat) (last : List Int), i + d = l.length → d + 66 < k → GInv W (l.take i) last L → ∃ G : Nat, script_gap.l0 k l (W : Int) last (L : Int) l (l.length : Int) (i : Int) = some (G : Int) ∧ IsGap W l G := by
  induction d with
  | zero =>
    intro i k L last hi hk h
    obtain ⟨k, rfl⟩ : ∃ m, k = m + 1 := ⟨k - 1, by omega⟩
    have ht : l.take i = l := List.take_of_length_le (by omega)
    rw [ht] at h
    obtain ⟨h1, h2, h3, h4⟩ := h
    obtain ⟨G, hG, hL, hall, hex⟩ := tail_loop l W last h1 h2 hm hW2 W 0 k L (by omega) (by omega)
    refine ⟨G, ?_, fun w hw => ?_, ?_⟩
    · simp only [script_gap.l0]
      rw [if_neg (by omega), h1]
      exact hG
    · have := h3 w hw
      have := hall w (by omega) hw
      omega
    · rcases hex with rfl | ⟨w, hw, rfl⟩
      · rcases h4 with h4 | h4
        · exact .inl h4
        · exact .inr h4
      · exact .inr ⟨w, hw, cur_best W w l⟩
  | succ d ih =>
    intro i k L last hi hk h
    obtain ⟨k, rfl⟩ : ∃ m, k = m + 1 := ⟨k - 1, by omega⟩
    have hlt : i < l.length := by omega
    have hx : rd l (i : Int) = l[i] := by rw [rd_getD]; simp [List.getD_eq_getElem?_getD, hlt]
    have hst := h.step hW l[i]
    rw [← List.take_succ_eq_append_getElem hlt] at hst
    have hlen : (l.take i).length = i := by rw [List.length_take]; omega
    rw [hlen] at hst
    obtain ⟨G, hG, hI⟩ := ih (i + 1) k _ _ (by omega) (by omega) hst
    refine ⟨G, ?_, hI⟩
    have hm2 := who_lt W hW l[i]
    have hc := cur_le W (who W l[i]) (l.take i)
    obtain ⟨h1, h2, _, _⟩ := h
    have e : wrap64 ((i : Int) - rd last ((who W l[i] : Nat) : Int)) = ((cur W (who W l[i]) (l.take i) : Nat) : Int) := by
      rw [rd_getD, h2 _ hm2, hlen, wrap_id (by unfold In64; omega)]
      omega
    simp only [script_gap.l0]
    rw [if_pos (by omega), if_pos (by omega), if_pos (by omega), hx, mod_f W hW hW2, Option.bind_some, if_pos (by omega), if_pos (by omega), e, mx_cast, Int.toNat_natCast, wrap_id (a := (i : Int) + 1) (by unfold In64; omega)]
    exact hG

theorem gap_f (l : List Int) (W : Nat) (hW : 0 < W) (hW2 : W ≤ 64) (hm : l.length ≤ 9223372036854775806) (k : Nat) (hk : l.length + 66 < k) : ∃ G : Nat, script_gap.f k l (W : Int) = some (G : Int) ∧ IsGap W l G := by
  unfold script_gap.f
  rw [if_pos (by omega), Int.toNat_natCast, if_pos (by omega)]
  exact gap_loop l W hW hW2 hm l.length 0 k 0 (List.replicate W 0) (by omega) hk (by simpa using GInv.start W)
end Go.Proofs.Ytjlbimnafbngaaa.FairPure
