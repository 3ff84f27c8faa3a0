/- A shorter script of the same seed is the longer one's beginning; what is cut of a fair script is fair: for every seed, workers, window and lengths. -/
import Derived.Test.YtjlbimnafbngaaaMScriptLessx3
import Derived.Test.YtjlbimnafbngaaaNoiseLaws
namespace Go.Proofs.Ytjlbimnafbngaaa.Pure
open Go.RowKit Go.Proofs.Ytjlbimnafbngaaa.PScriptLess Go.Proofs.YtjlbimnafbngaaaW.PrintWords Go.Proofs.YtjlbimnafbngaaaW.PrintLast Go.Proofs.Ytjlbimnafbngaaa.BitMath Go.Proofs.Ytjlbimnafbngaaa.FairPure

theorem ScriptLess : plunderlaw10_ScriptLess.Pure := by
  intro a0 a1 a2 a3 a4 _ _ _ _ _
  have hA := who_lt 64 (by omega) a1
  have hB := who_lt 200 (by omega) a2
  have hL := who_lt 1500 (by omega) a3
  have e1 : plunderlaw10_mod.f a1 64 = some ((who 64 a1 : Nat) : Int) := Noise.lmod_nat 64 (by omega) (by omega) a1 64 rfl
  have e2 : plunderlaw10_mod.f a2 200 = some ((who 200 a2 : Nat) : Int) := Noise.lmod_nat 200 (by omega) (by omega) a2 200 rfl
  have e3 : plunderlaw10_mod.f a3 1500 = some ((who 1500 a3 : Nat) : Int) := Noise.lmod_nat 1500 (by omega) (by omega) a3 1500 rfl
  generalize who 64 a1 = A at *
  generalize who 200 a2 = B at *
  generalize who 1500 a3 = L at *
  have hK := who_lt (L + 1) (by omega) a4
  have e4 : plunderlaw10_mod.f a4 ((L : Int) + 1) = some ((who (L + 1) a4 : Nat) : Int) := Noise.lmod_nat (L + 1) (by omega) (by omega) a4 _ (by omega)
  generalize who (L + 1) a4 = K at *
  have w1 : wrap64 (1 + (A : Int)) = ((A + 1 : Nat) : Int) := by rw [wrap_id (by unfold In64; omega)]; omega
  have w2 : wrap64 (((A + 1 : Nat) : Int) + (B : Int)) = ((A + 1 + B : Nat) : Int) := by rw [wrap_id (by unfold In64; omega)]; omega
  have w3 : wrap64 ((L : Int) + 1) = (L : Int) + 1 := wrap_id (by unfold In64; omega)
  have nl := Noise.noiseR_ok (A + 1) (A + 1 + B) L a0 (by omega) (by omega) (by omega) (by omega)
  have nk := Noise.noiseR_ok (A + 1) (A + 1 + B) K a0 (by omega) (by omega) (by omega) (by omega)
  have hf := Noise.whole_fairB (A + 1) (A + 1 + B) K a0 (by omega) (by omega) (by omega)
  have ht := Noise.whole_take (A + 1) (A + 1 + B) L K a0 (by omega)
  have l1 := Noise.whole_length (A + 1) (A + 1 + B) L a0
  have l2 := Noise.whole_length (A + 1) (A + 1 + B) K a0
  generalize Noise.whole (A + 1) (A + 1 + B) L a0 = S at *
  generalize Noise.whole (A + 1) (A + 1 + B) K a0 = T at *
  subst ht
  obtain ⟨k, hk⟩ : ∃ k : Nat, k = 4000 := ⟨_, rfl⟩
  have f1 : ∀ k, script_Noise.f k a0 ((A + 1 : Nat) : Int) ((A + 1 + B : Nat) : Int) (L : Int) = some (S.map (·.1), S.map (·.2), 0) := fun k => by
    unfold script_Noise.f; rw [if_pos (by omega), nl]
  have f2 : ∀ k, script_Noise.f k a0 ((A + 1 : Nat) : Int) ((A + 1 + B : Nat) : Int) (K : Int) = some ((S.take K).map (·.1), (S.take K).map (·.2), 0) := fun k => by
    unfold script_Noise.f; rw [if_pos (by omega), nk]
  have hc : script_Cut.f (S.map (·.1)) (S.map (·.2)) (K : Int) = some ((S.map (·.1)).take K, S.map (·.2)) := by
    have m1 : mx (K : Int) 0 = (K : Int) := by unfold mx; omega
    have m2 : mn (K : Int) ((S.map (·.1)).length : Int) = (K : Int) := by unfold mn; rw [List.length_map]; omega
    unfold script_Cut.f
    rw [m1, m2, if_pos (by omega), if_pos (by rw [List.length_map]; omega), Int.toNat_natCast]
    unfold slices_Clone_int_int.f
    rw [if_pos (by rw [List.length_take, List.length_map]; omega), Option.bind_some, if_pos (by rw [List.length_map]; omega), Option.bind_some]
  refine ⟨k + 1, ?_⟩
  unfold plunderlaw10_ScriptLess.f
  rw [e1, Option.bind_some, e2, Option.bind_some, e3, Option.bind_some, w3, e4, Option.bind_some, w1, w2, f1, Option.bind_some, f2, Option.bind_some, hc, Option.bind_some, if_pos rfl, if_pos rfl]
  have lt1 : (((S.map (·.1)).take K).length : Int) = (K : Int) := by rw [List.length_take, List.length_map]; omega
  rw [if_pos (by rw [List.length_map]; omega), lt1]
  simp only [plunderlaw10_ScriptLess.j0, bne_self_eq_false, Bool.false_eq_true, if_false]
  rw [show plunderlaw10_same.f k ((S.map (·.1)).take K) ((S.take K).map (·.1)) = some true from Noise.same_any _ _ (by rw [List.map_take]) (by rw [List.length_take, List.length_map]; omega) k (by rw [List.length_take, List.length_map]; omega)]
  simp only [Option.bind_some, if_true]
  rw [show plunderlaw10_same.f k (S.map (·.2)) (S.map (·.2)) = some true from Noise.same_any _ _ rfl (by rw [List.length_map]; omega) k (by rw [List.length_map]; omega)]
  simp only [Option.bind_some, if_true]
  rw [if_pos (by omega), if_pos (by rw [List.length_map]; omega), Int.toNat_natCast, show plunderlaw10_same.f k ((S.take K).map (·.2)) ((S.map (·.2)).take K) = some true from Noise.same_any _ _ (by rw [List.map_take]) (by rw [List.length_map, List.length_take]; omega) k (by rw [List.length_map, List.length_take]; omega)]
  simp only [Option.bind_some, if_true]
  rw [List.map_take] at hf
  rw [show script_Fair.f k ((S.map (·.1)).take K) ((A + 1 : Nat) : Int) ((A + 1 + B : Nat) : Int) = some (fairB ((S.map (·.1)).take K) ((A + 1 : Nat) : Int) ((A + 1 + B : Nat) : Int)) from scriptFair_f _ _ _ (by rw [List.length_take, List.length_map]; omega) k (by rw [List.length_take, List.length_map]; omega), hf]
  rfl
end Go.Proofs.Ytjlbimnafbngaaa.Pure
