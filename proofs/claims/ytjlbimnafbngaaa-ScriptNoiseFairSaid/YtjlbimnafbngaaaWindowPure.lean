/- Fair and Window fit each other and the picks: plain facts, for every list of int64 and every number of workers. -/
import Derived.Test.YtjlbimnafbngaaaFairRef
import Derived.Test.YtjlbimnafbngaaaMScriptWindowx1
namespace Go.Proofs.Ytjlbimnafbngaaa.FairPure
open Go.RowKit Go.Proofs.YtjlbimnafbngaaaW.PrintWords Go.Proofs.Ytjlbimnafbngaaa.BitMath Go.Proofs.Ytjlbimnafbngaaa.PScriptFair
open Go.Proofs.Ytjlbimnafbngaaa.PScriptWindow (plunderlaw10_mod.f plunderlaw10_named.f plunderlaw10_named.l0)

theorem lmod_f (W : Nat) (hW : 0 < W) (hw : W ≤ 4611686018427387904) (x : Int) : plunderlaw10_mod.f x (W : Int) = some ((who W x : Nat) : Int) := by
  unfold plunderlaw10_mod.f who
  have h1 := Int.emod_nonneg x (show (W : Int) ≠ 0 by omega)
  have h2 := Int.emod_lt_of_pos x (show (0 : Int) < (W : Int) by omega)
  rw [if_neg (by omega), Int.tmod_eq_emod]
  have h3 : ((W : Int)).natAbs = W := by omega
  split
  · rw [if_neg (by omega)]; congr 1; omega
  · rw [h3, if_pos (by omega), wrap_id (by unfold In64; omega)]; congr 1; omega

/-- The last pick ahead of place i that names w. -/
theorem named_loop (l : List Int) (W w : Nat) (hW : 0 < W) (hW2 : W ≤ 64) (hm : l.length ≤ 400) : ∀ (i k : Nat), i ≤ l.length → i < k → plunderlaw10_named.l0 k l (W : Int) (w : Int) ((i : Int) - 1) = some ((i : Int) - cur W w (l.take i) - 1) := by
  intro i
  induction i with
  | zero =>
    intro k hi hk
    obtain ⟨k, rfl⟩ : ∃ m, k = m + 1 := ⟨k - 1, by omega⟩
    simp only [plunderlaw10_named.l0]
    rw [if_neg (by omega)]
    rfl
  | succ i ih =>
    intro k hi hk
    obtain ⟨k, rfl⟩ : ∃ m, k = m + 1 := ⟨k - 1, by omega⟩
    have hlt : i < l.length := by omega
    have hx : rd l (i : Int) = l[i] := by rw [rd_getD]; simp [List.getD_eq_getElem?_getD, hlt]
    have htk : l.take (i + 1) = l.take i ++ [l[i]] := List.take_succ_eq_append_getElem hlt
    rw [show ((i + 1 : Nat) : Int) - 1 = (i : Int) by omega]
    simp only [plunderlaw10_named.l0]
    rw [if_pos (by omega), if_pos (by omega), if_pos (by omega), hx, lmod_f W hW (by omega), Option.bind_some, htk, cur_snoc, wrap_id (a := (i : Int) - 1) (by unfold In64; omega)]
    by_cases e : who W l[i] = w
    · rw [if_pos (by omega), if_pos e]; congr 1; omega
    · rw [if_neg (by omega), if_neg e, ih k (by omega) (by omega)]; congr 1; omega
theorem named_f (l : List Int) (W w i : Nat) (hW : 0 < W) (hW2 : W ≤ 64) (hm : l.length ≤ 400) (hi : i ≤ l.length) : plunderlaw10_named.f 402 l (W : Int) (w : Int) (i : Int) = some ((i : Int) - cur W w (l.take i) - 1) := by
  unfold plunderlaw10_named.f
  rw [wrap_id (by unfold In64; omega)]
  exact named_loop l W w hW hW2 hm i 402 hi (by omega)

theorem best_full (W w : Nat) (l : List Int) : l.length ≤ best W w l → cur W w l = l.length := by
  induction l using snocInd with
  | h0 => intro _; rfl
  | h1 l x ih =>
    intro h
    rw [best_snoc] at h
    have := best_le W w l
    have := cur_le W w (l ++ [x])
    rw [List.length_append] at *
    simp at *
    omega
theorem cur_gap {W : Nat} {l : List Int} {G : Nat} (h : IsGap W l G) (w i : Nat) (hw : w < W) : cur W w (l.take i) ≤ G := by
  have h1 := cur_best W w (l.take i)
  have h2 := best_mono W w (l.take i) (l.drop i)
  rw [List.take_append_drop] at h2
  have := h.1 w hw
  omega

/-- The window, as a number: one more than the longest stretch, or 0. -/
theorem win_f (l : List Int) (W : Nat) (hW : 0 < W) (hW2 : W ≤ 64) (hm : l.length ≤ 400) : ∃ G : Nat, IsGap W l G ∧ G ≤ l.length ∧ script_Window.f 467 l (W : Int) = some (if G < l.length then (G : Int) + 1 else 0) := by
  obtain ⟨G, hG, hI⟩ := gap_f l W hW hW2 (by omega) 467 (by omega)
  have hle := hI.le
  refine ⟨G, hI, hle, ?_⟩
  unfold script_Window.f
  rw [goodWorkers_f, Option.bind_some, if_pos (by simp; omega), hG, Option.bind_some, wrap_id (a := (G : Int) + 1) (by unfold In64; omega)]
  by_cases h : G < l.length
  · rw [if_pos (by omega), if_pos h]
  · rw [if_neg (by omega), if_neg h]
theorem fair_gap {l : List Int} {W n G : Nat} (hW : 0 < W) (hW2 : W ≤ 64) (hn : 0 < n) (h : IsGap W l G) : fairB l (W : Int) (n : Int) = decide (G < n) := by
  unfold fairB
  have := h.lt hn
  rw [Bool.eq_iff_iff]
  simp only [decide_eq_true_eq, Int.toNat_natCast]
  constructor
  · intro h4; exact this.2 h4.2.2.2
  · intro h4; exact ⟨by omega, by omega, by omega, this.1 h4⟩
/-- No window: then some worker isn't named at all, or ... the other way round. -/
theorem gap_all {l : List Int} {W G : Nat} (h : IsGap W l G) (hl : G = l.length) (hW : 0 < W) : ∃ w, w < W ∧ cur W w l = l.length := by
  rcases h.2 with h0 | ⟨w, hw, hle⟩
  · refine ⟨0, hW, ?_⟩
    have := cur_le W 0 l
    omega
  · exact ⟨w, hw, best_full W w l (by omega)⟩
end Go.Proofs.Ytjlbimnafbngaaa.FairPure
