/- What Noise makes, as the laws ask for it: fair for its window, shorter scripts, the narrowest window. -/
import Derived.Test.YtjlbimnafbngaaaNoisePure
import Derived.Test.YtjlbimnafbngaaaWindowPure
import Derived.Test.YtjlbimnafbngaaaTurnsWalk
namespace Go.Proofs.Ytjlbimnafbngaaa.Noise
open Go.RowKit Go.Proofs.YtjlbimnafbngaaaW.PrintWords Go.Proofs.Ytjlbimnafbngaaa.BitMath Go.Proofs.Ytjlbimnafbngaaa.FairPure

/-- All the picks and draws of a seed. -/
def whole (W n len : Nat) (x : Int) : List (Int × Int) := noise W n len 0 (List.replicate W 0) x
theorem whole_length (W n len : Nat) (x : Int) : (whole W n len x).length = len := noise_length _ _ _ _ _ _
theorem whole_take (W n len k : Nat) (x : Int) (h : k ≤ len) : (whole W n len x).take k = whole W n k x := noise_take W n k len 0 _ x h
theorem whole_in (W n len : Nat) (x : Int) (hW : 0 < W) : ∀ v ∈ (whole W n len x).map (·.1), 0 ≤ v ∧ v < (W : Int) := noise_in W n hW len 0 _ x (by simp)
theorem getD_zeros (W w : Nat) : (List.replicate W (0 : Int)).getD w 0 = 0 := by
  simp only [List.getD_eq_getElem?_getD, List.getElem?_replicate]
  split <;> rfl
theorem whole_fair (W n len : Nat) (x : Int) (hW : 0 < W) (hn : W ≤ n) : ∀ w, w < W → best W w ((whole W n len x).map (·.1)) < n := by
  have := noise_fair W n hW hn len 0 (List.replicate W 0) x [] rfl (by simp) (fun w _ => by rw [getD_zeros]; simp) (late_nil hn) (fun w _ => by rw [best_nil]; omega)
  simpa [whole] using this
theorem whole_fairB (W n len : Nat) (x : Int) (hW : 0 < W) (hW2 : W ≤ 64) (hn : W ≤ n) : fairB ((whole W n len x).map (·.1)) (W : Int) (n : Int) = true := by
  unfold fairB
  rw [decide_eq_true_eq]
  refine ⟨by omega, by omega, by omega, ?_⟩
  rw [Int.toNat_natCast, Int.toNat_natCast]
  exact whole_fair W n len x hW hn
theorem noiseR_ok (W n len : Nat) (x : Int) (hW : 0 < W) (hW2 : W ≤ 64) (hn : W ≤ n) (hl : len ≤ 1048576) : noiseR x (W : Int) (n : Int) (len : Int) = ((whole W n len x).map (·.1), (whole W n len x).map (·.2), 0) := by
  unfold noiseR whole
  rw [if_pos (by omega), if_neg (by omega), if_neg (by omega), if_neg (by omega)]
  simp only [Int.toNat_natCast]
theorem whole_turns (W r : Nat) (x : Int) (hW : 0 < W) : (whole W W (W * r) x).map (·.1) = Turns.turnsL W (W * r) := by
  have := noise_turns W hW (W * r) 0 0 (List.replicate W 0) x (by simp) (.inl rfl) hW (by simp) (fun w _ => by rw [getD_zeros]; simp)
  unfold whole Turns.turnsL
  rw [this]
  simp
theorem lmod_nat (W : Nat) (hW : 0 < W) (hw : W ≤ 4611686018427387904) (x c : Int) (hc : c = (W : Int)) : PScriptWindow.plunderlaw10_mod.f x c = some ((who W x : Nat) : Int) := by
  subst hc; exact lmod_f W hW hw x
/-- The last worker waits for its first turn. -/
theorem turns_first (W n : Nat) (hn : n < W) : cur W (W - 1) (Turns.turnsL W n) = n := by
  induction n with
  | zero => rfl
  | succ n ih =>
    rw [Turns.turnsL_succ, cur_snoc, ih (by omega), Nat.mod_eq_of_lt (by omega), who_id (by omega), if_neg (by omega)]
theorem turnsL_append (W a b : Nat) : ∃ r, Turns.turnsL W (a + b) = Turns.turnsL W a ++ r := by
  induction b with
  | zero => exact ⟨[], by simp⟩
  | succ b ih =>
    obtain ⟨r, hr⟩ := ih
    exact ⟨r ++ [(((a + b) % W : Nat) : Int)], by rw [← Nat.add_assoc, Turns.turnsL_succ, hr, List.append_assoc]⟩
theorem turns_gap (W r : Nat) (hW : 0 < W) (hr : 0 < r) {G : Nat} (h : IsGap W (Turns.turnsL W (W * r)) G) : G = W - 1 := by
  have h1 : G < W := (h.lt hW).2 (by
    have := whole_fair W W (W * r) 0 hW (Nat.le_refl _)
    rwa [whole_turns W r 0 hW] at this)
  have hle : W ≤ W * r := Nat.le_mul_of_pos_right _ hr
  obtain ⟨q, hq⟩ := turnsL_append W (W - 1) (W * r - (W - 1))
  rw [show W - 1 + (W * r - (W - 1)) = W * r by omega] at hq
  have h2 := h.1 (W - 1) (by omega)
  have h3 := best_mono W (W - 1) (Turns.turnsL W (W - 1)) q
  rw [← hq] at h3
  have h4 := cur_best W (W - 1) (Turns.turnsL W (W - 1))
  rw [turns_first W (W - 1) (by omega)] at h4
  omega
theorem window_turns (W r k : Nat) (hW : 0 < W) (hW2 : W ≤ 64) (hr : 0 < r) (hm : W * r ≤ 1048576) (hk : W * r + 66 < k) : PScriptFair.script_Window.f k (Turns.turnsL W (W * r)) (W : Int) = some (W : Int) := by
  obtain ⟨G, hG, hI⟩ := gap_f (Turns.turnsL W (W * r)) W hW hW2 (by rw [Turns.turnsL_length]; omega) k (by rw [Turns.turnsL_length]; omega)
  have hg := turns_gap W r hW hr hI
  subst hg
  unfold PScriptFair.script_Window.f
  have hle : W ≤ W * r := Nat.le_mul_of_pos_right _ hr
  rw [goodWorkers_f, Option.bind_some, if_pos (by simp; omega), hG, Option.bind_some, wrap_id (a := ((W - 1 : Nat) : Int) + 1) (by unfold In64; omega), if_pos (by rw [Turns.turnsL_length]; omega)]
  congr 1; omega
theorem same_any (l m : List Int) (h : l = m) (hm : l.length ≤ 9223372036854775806) (k : Nat) (hk : l.length < k) : PScriptTurns.plunderlaw10_same.f k l m = some true := by
  subst h
  unfold PScriptTurns.plunderlaw10_same.f
  rw [if_pos rfl]
  exact Turns.same_loop l hm l.length 0 _ (by omega) (by omega)
end Go.Proofs.Ytjlbimnafbngaaa.Noise
