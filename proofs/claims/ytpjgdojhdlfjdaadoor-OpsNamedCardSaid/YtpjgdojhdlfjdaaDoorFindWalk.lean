/- The law OpsFind answers true for every text, in a memory that holds the table of names. -/
import Derived.Test.YtpjgdojhdlfjdaaDoorTab
import Derived.Test.YtpjgdojhdlfjdaaDoorPOpsFindx1
namespace Go.Proofs.YtpjgdojhdlfjdaaDoor.FindLaw
open Go.RowKit Go.Proofs.YtpjgdojhdlfjdaaDoor.Tab Go.Proofs.YtpjgdojhdlfjdaaDoor.POpsFind Go.Proofs.YtpjgdojhdlfjdaaDoorW.PrintWords Go.Proofs.YtpjgdojhdlfjdaaDoorW.PrintLast

theorem name_f (k : Nat) (hk : k < 16) : plunderref1_Name.f (k : Int) = some (nm k) := by
  obtain rfl | rfl | rfl | rfl | rfl | rfl | rfl | rfl | rfl | rfl | rfl | rfl | rfl | rfl | rfl | rfl : k = 0 ∨ k = 1 ∨ k = 2 ∨ k = 3 ∨ k = 4 ∨ k = 5 ∨ k = 6 ∨ k = 7 ∨ k = 8 ∨ k = 9 ∨ k = 10 ∨ k = 11 ∨ k = 12 ∨ k = 13 ∨ k = 14 ∨ k = 15 := by omega
  all_goals (unfold nm; rfl)

theorem find_ref (s : ByteArray) (d : Nat) : ∀ (i k : Nat), i + d = 16 → d < k → (∀ j, j < i → (nm j).toList ≠ s.toList) → ∃ r, plunderref1_Find.l0 k s (i : Int) = some r ∧ FindIs s r := by
  induction d with
  | zero =>
    intro i k hi hk hn
    obtain ⟨k, rfl⟩ : ∃ m, k = m + 1 := ⟨k - 1, by omega⟩
    refine ⟨-1, ?_, .inr ⟨rfl, fun j hj => hn j (by omega)⟩⟩
    simp only [plunderref1_Find.l0]
    rw [if_neg (by omega)]
  | succ d ih =>
    intro i k hi hk hn
    obtain ⟨k, rfl⟩ : ∃ m, k = m + 1 := ⟨k - 1, by omega⟩
    simp only [plunderref1_Find.l0]
    rw [if_pos (by omega), name_f i (by omega), Option.bind_some]
    by_cases he : (nm i).toList = s.toList
    · rw [if_pos he]
      exact ⟨_, rfl, .inl ⟨i, by omega, rfl, he, hn⟩⟩
    · rw [if_neg he, show wrap64 ((i : Int) + 1) = ((i + 1 : Nat) : Int) from by unfold wrap64; omega]
      refine ih (i + 1) k (by omega) (by omega) (fun j hj => ?_)
      by_cases e : j = i
      · subst e; exact he
      · exact hn j (by omega)

set_option maxHeartbeats 400000 in
theorem walk (s : ByteArray) (w : World) (hN : NamesAt w) :
    Calls Tryd.prog 3 #[.string s] w fun e w' => e = .returned (.bool true) ∧ Below w.heap.size w w' := by
  obtain ⟨r, hr, hF⟩ := find_ref s 16 0 17 (by omega) (by omega) (fun j hj => absurd hj (by omega))
  have HR := Aside0.mk (show plunderref1_Find.f 17 s = some r from hr)
  have HF := Aside0.mk hF
  clear hr hF
  go_enter Tryd.func3, Tryd.ntmps3
  go_wp2_with fail
  refine (find_calls s w hN).mono ?_
  rintro e w' ⟨⟨q, rfl, hq⟩, rfl⟩
  obtain rfl := hq.one HF.out
  clear hq
  go_wp2_with fail
  refine (plunderref1_Find.calls 17 s q _ HR.out).mono ?_
  rintro e w' ⟨rfl, hd⟩
  go_wp2
  go_ret
  exact ⟨by simp, hd.below⟩
end Go.Proofs.YtpjgdojhdlfjdaaDoor.FindLaw
