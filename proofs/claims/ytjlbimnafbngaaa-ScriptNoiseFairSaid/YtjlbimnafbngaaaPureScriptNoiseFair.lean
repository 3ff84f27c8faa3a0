/- What Noise makes is fair for its window and names workers alone, and Turns is what it makes for the narrowest window: for every seed, workers, window and length. -/
import Derived.Test.YtjlbimnafbngaaaMScriptNoiseFairx3
import Derived.Test.YtjlbimnafbngaaaNoiseLaws
namespace Go.Proofs.Ytjlbimnafbngaaa.Pure
open Go.RowKit Go.Proofs.Ytjlbimnafbngaaa.PScriptNoiseFair Go.Proofs.YtjlbimnafbngaaaW.PrintWords Go.Proofs.YtjlbimnafbngaaaW.PrintLast Go.Proofs.Ytjlbimnafbngaaa.BitMath Go.Proofs.Ytjlbimnafbngaaa.FairPure

/-- Behind the loop over the picks. -/
theorem narrow (a0 : Int) (W L k : Nat) (hW : 0 < W) (hW2 : W ≤ 64) (hL : L < 1500) (hk : 2000 < k) :
    (if (W : Int) = 0 then (none : Option Bool) else ((script_Noise.f k a0 (W : Int) (W : Int) (wrap64 ((W : Int) * (wrap64 (Int.tdiv (L : Int) (W : Int)))))).bind fun bt155 => ((script_Turns.f k (W : Int) (wrap64 (Int.tdiv (L : Int) (W : Int)))).bind fun bt163 => (if bt155.2.2 = 0 then (if bt163.2 = 0 then ((plunderlaw10_same.f k bt155.1 bt163.1).bind fun t167 => (if t167 = true then (if (L : Int) < (W : Int) then (some true) else ((script_Window.f k bt163.1 (W : Int)).bind fun t168 => (some (t168 == (W : Int))))) else (some false))) else (some false)) else (some false))))) = some true := by
  rw [if_neg (by omega)]
  have hd : Int.tdiv (L : Int) (W : Int) = ((L / W : Nat) : Int) := by rw [Int.tdiv_eq_ediv_of_nonneg (by omega)]; simp
  have hq : L / W ≤ L := Nat.div_le_self _ _
  have hm : W * (L / W) ≤ L := Nat.mul_div_le _ _
  rw [hd]
  have hdl : L < W ∨ 0 < L / W := by
    rcases Nat.lt_or_ge L W with h | h
    · exact .inl h
    · exact .inr (Nat.div_pos h hW)
  generalize L / W = r at *
  rw [wrap_id (a := (r : Int)) (by unfold In64; omega), show (W : Int) * (r : Int) = ((W * r : Nat) : Int) by simp, wrap_id (a := ((W * r : Nat) : Int)) (by unfold In64; omega)]
  have f1 : script_Noise.f k a0 (W : Int) (W : Int) ((W * r : Nat) : Int) = some (Turns.turnsL W (W * r), (Noise.whole W W (W * r) a0).map (·.2), 0) := by
    unfold script_Noise.f
    rw [if_pos (by omega), Noise.noiseR_ok W W (W * r) a0 hW hW2 (Nat.le_refl _) (by omega), Noise.whole_turns W r a0 hW]
  have f2 : script_Turns.f k (W : Int) (r : Int) = some (Turns.turnsL W (W * r), 0) := by
    unfold script_Turns.f Turns.turnsR
    have hd2 : (r : Int) ≤ 1048576 / (W : Int) := by
      have : r ≤ 1048576 / W := (Nat.le_div_iff_mul_le hW).2 (by rw [Nat.mul_comm]; omega)
      have e : ((1048576 / W : Nat) : Int) = 1048576 / (W : Int) := by simp
      omega
    rw [if_pos (by omega), if_neg (by omega), Int.toNat_natCast, Int.toNat_natCast]
  rw [f1]; simp only [Option.bind_some]
  rw [f2]; simp only [Option.bind_some, if_true]
  rw [show plunderlaw10_same.f k (Turns.turnsL W (W * r)) (Turns.turnsL W (W * r)) = some true from Noise.same_any _ _ rfl (by rw [Turns.turnsL_length]; omega) k (by rw [Turns.turnsL_length]; omega)]
  simp only [Option.bind_some, if_true]
  by_cases hlt : (L : Int) < (W : Int)
  · rw [if_pos hlt]
  · rw [if_neg hlt, show script_Window.f k (Turns.turnsL W (W * r)) (W : Int) = some (W : Int) from Noise.window_turns W r k hW hW2 (by omega) (by omega) (by omega)]
    simp
theorem picks_loop (a0 : Int) (W L : Nat) (hW : 0 < W) (hW2 : W ≤ 64) (hL : L < 1500) (ps ds : List Int) (hp : ps.length = L) (hv : ∀ v ∈ ps, 0 ≤ v ∧ v < (W : Int)) (d : Nat) : ∀ (i k : Nat), i + d = L → d + 2001 < k →
    plunderlaw10_ScriptNoiseFair.l0 k a0 (L : Int) (W : Int) (i : Int) ps ds = some true := by
  induction d with
  | zero =>
    intro i k hi hk
    obtain ⟨k, rfl⟩ : ∃ m, k = m + 1 := ⟨k - 1, by omega⟩
    obtain rfl : i = L := by omega
    simp only [plunderlaw10_ScriptNoiseFair.l0]
    rw [if_neg (by omega)]
    exact narrow a0 W i k hW hW2 hL (by omega)
  | succ d ih =>
    intro i k hi hk
    obtain ⟨k, rfl⟩ : ∃ m, k = m + 1 := ⟨k - 1, by omega⟩
    have hr : rd ps (i : Int) = ps.getD i 0 := by unfold rd; rw [Int.toNat_natCast]
    have hm := hv (ps.getD i 0) (by
      have : ps.getD i 0 = ps[i]'(by omega) := by simp [List.getD_eq_getElem?_getD, show i < ps.length by omega]
      rw [this]; exact List.getElem_mem _)
    simp only [plunderlaw10_ScriptNoiseFair.l0]
    rw [if_pos (by omega), if_pos (by omega), if_pos (by omega), hr, if_neg (by omega), if_neg (by omega), wrap_id (a := (i : Int) + 1) (by unfold In64; omega)]
    exact ih (i + 1) k (by omega) (by omega)

theorem ScriptNoiseFair : plunderlaw10_ScriptNoiseFair.Pure := by
  intro a0 a1 a2 a3 _ _ _ _
  have hA := who_lt 64 (by omega) a1
  have hB := who_lt 200 (by omega) a2
  have hL := who_lt 1500 (by omega) a3
  have e1 : plunderlaw10_mod.f a1 64 = some ((who 64 a1 : Nat) : Int) := Noise.lmod_nat 64 (by omega) (by omega) a1 64 rfl
  have e2 : plunderlaw10_mod.f a2 200 = some ((who 200 a2 : Nat) : Int) := Noise.lmod_nat 200 (by omega) (by omega) a2 200 rfl
  have e3 : plunderlaw10_mod.f a3 1500 = some ((who 1500 a3 : Nat) : Int) := Noise.lmod_nat 1500 (by omega) (by omega) a3 1500 rfl
  generalize who 64 a1 = A at *
  generalize who 200 a2 = B at *
  generalize who 1500 a3 = L at *
  have w1 : wrap64 (1 + (A : Int)) = ((A + 1 : Nat) : Int) := by rw [wrap_id (by unfold In64; omega)]; omega
  have w2 : wrap64 (((A + 1 : Nat) : Int) + (B : Int)) = ((A + 1 + B : Nat) : Int) := by rw [wrap_id (by unfold In64; omega)]; omega
  have nl := Noise.noiseR_ok (A + 1) (A + 1 + B) L a0 (by omega) (by omega) (by omega) (by omega)
  have hf := Noise.whole_fairB (A + 1) (A + 1 + B) L a0 (by omega) (by omega) (by omega)
  have hin := Noise.whole_in (A + 1) (A + 1 + B) L a0 (by omega)
  have l1 := Noise.whole_length (A + 1) (A + 1 + B) L a0
  generalize Noise.whole (A + 1) (A + 1 + B) L a0 = S at *
  have f1 : ∀ k, script_Noise.f k a0 ((A + 1 : Nat) : Int) ((A + 1 + B : Nat) : Int) (L : Int) = some (S.map (·.1), S.map (·.2), 0) := fun k => by
    unfold script_Noise.f; rw [if_pos (by omega), nl]
  obtain ⟨k, hk⟩ : ∃ k : Nat, k = 5000 := ⟨_, rfl⟩
  refine ⟨k + 1, ?_⟩
  unfold plunderlaw10_ScriptNoiseFair.f
  rw [e1, Option.bind_some, e2, Option.bind_some, e3, Option.bind_some, w1, w2, f1, Option.bind_some, if_pos rfl]
  rw [if_pos (by rw [List.length_map]; omega), if_pos (by rw [List.length_map]; omega)]
  rw [show script_Fair.f (k + 1) (S.map (·.1)) ((A + 1 : Nat) : Int) ((A + 1 + B : Nat) : Int) = some (fairB (S.map (·.1)) ((A + 1 : Nat) : Int) ((A + 1 + B : Nat) : Int)) from scriptFair_f _ _ _ (by rw [List.length_map]; omega) (k + 1) (by rw [List.length_map]; omega), hf]
  simp only [Option.bind_some, plunderlaw10_ScriptNoiseFair.j0, Bool.not_true, Bool.false_eq_true, if_false]
  exact picks_loop a0 (A + 1) L (by omega) (by omega) hL _ _ (by rw [List.length_map]; omega) hin L 0 k (by omega) (by omega)
end Go.Proofs.Ytjlbimnafbngaaa.Pure
