/- The law OpsNamed answers true, in a memory that holds the table of names. -/
import Derived.Test.YtpjgdojhdlfjdaaDoorTableWalk
namespace Go.Proofs.YtpjgdojhdlfjdaaDoor.NamedLaw
open Go.RowKit Go.Proofs.YtpjgdojhdlfjdaaDoor.Tab Go.Proofs.YtpjgdojhdlfjdaaDoorW.PrintWords Go.Proofs.YtpjgdojhdlfjdaaDoorW.PrintLast
theorem nm_ne : ∀ k : Fin 16, ∀ j : Fin 16, j < k → (nm j.val).toList ≠ (nm k.val).toList := by decide +kernel
theorem nm_some : ∀ k : Fin 16, (nm k.val).toList.isEmpty = false := by decide +kernel
theorem find_nm (k : Nat) (hk : k < 16) : FindIs (nm k) k := .inl ⟨k, hk, rfl, rfl, fun j hj => nm_ne ⟨k, hk⟩ ⟨j, by omega⟩ hj⟩
theorem nm_nil (j : Nat) (hj : j < 16) : (nm j).toList ≠ [] := fun h => by
  have e : (nm j).toList.isEmpty = false := nm_some ⟨j, hj⟩
  rw [h] at e
  cases e
theorem find_none : FindIs ⟨#[]⟩ (-1) := .inr ⟨rfl, fun j hj h => nm_nil j hj (h.trans (by decide +kernel))⟩
theorem name_in (k : Nat) (hk : k < 16) (w : World) (hN : NamesAt w) : Calls Tryd.prog 17 #[.int .i64 (k : Int)] w fun e w' => e = .returned (.string (nm k)) ∧ w = w' := by
  have h := name_calls (k : Int) w hN
  rw [if_pos (by omega), Int.toNat_natCast] at h
  exact h
theorem name_out (op : Int) (h : op < 0 ∨ 16 ≤ op) (w : World) (hN : NamesAt w) : Calls Tryd.prog 17 #[.int .i64 op] w fun e w' => e = .returned (.string ⟨#[]⟩) ∧ w = w' := by
  have h := name_calls op w hN
  rw [if_neg (by omega)] at h
  exact h
theorem find_at (s : ByteArray) (r : Int) (hr : FindIs s r) (w : World) (hN : NamesAt w) : Calls Tryd.prog 13 #[.string s] w fun e w' => e = .returned (.int .i64 r) ∧ w = w' :=
  (find_calls s w hN).mono fun e w' ⟨⟨q, he, hq⟩, hw⟩ => ⟨by rw [he, hq.one hr], hw⟩

set_option maxHeartbeats 800000 in
theorem walk (w : World) (hN : NamesAt w) :
    Calls Tryd.prog 5 #[] w fun e w' => e = .returned (.bool true) ∧ Below w.heap.size w w' := by
  have HN := Aside0.mk hN
  clear hN
  go_enter Tryd.func5, Tryd.ntmps5
  go_wp2_with fail
  go_loopw [1] (fun i wr => ∃ k : Nat, k ≤ 16 ∧ i = .int .i64 k ∧ w = wr) (fun i _ => 16 - (intOf i).toNat)
  case atStart => exact ⟨0, by omega, rfl, rfl⟩
  case round =>
    obtain ⟨k, hk, rfl, rfl⟩ := hrel
    by_cases hlt : k < 16
    · have HF := Aside0.mk (find_at (nm k) k (find_nm k hlt) w HN.out)
      have hne : (nm k).toList.isEmpty = false := nm_some ⟨k, hlt⟩
      go_wp2_with fail
      refine (name_in k hlt _ HN.out).mono ?_
      rintro e w1 ⟨rfl, rfl⟩
      go_wp2_with fail
      refine HF.out.mono ?_
      rintro e w1 ⟨rfl, rfl⟩
      go_wp2
      go_roundw
      case rel => exact ⟨k + 1, by omega, by go_num, by simp⟩
      case measure => simp [intOf]; omega
    · go_wp2_with fail
      refine (name_out 16 (by omega) _ HN.out).mono ?_
      rintro e w1 ⟨rfl, rfl⟩
      go_wp2_with fail
      refine (name_out (-1) (by omega) _ HN.out).mono ?_
      rintro e w1 ⟨rfl, rfl⟩
      go_wp2_with fail
      refine (find_at _ (-1) find_none _ HN.out).mono ?_
      rintro e w1 ⟨rfl, rfl⟩
      go_wp2
      go_ret
      exact ⟨rfl, Below.refl _ _⟩
end Go.Proofs.YtpjgdojhdlfjdaaDoor.NamedLaw
