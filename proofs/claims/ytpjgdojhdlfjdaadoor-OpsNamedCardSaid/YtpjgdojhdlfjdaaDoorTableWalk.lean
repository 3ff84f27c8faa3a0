/- The laws OpsTable and OpsNamed answer true, in a memory that holds the tables of names and of units. -/
import Derived.Test.YtpjgdojhdlfjdaaDoorFindWalk
import Derived.Test.YtpjgdojhdlfjdaaDoorPOpsTablex1
namespace Go.Proofs.YtpjgdojhdlfjdaaDoor.TableLaw
open Go.RowKit Go.Proofs.YtpjgdojhdlfjdaaDoor.Tab Go.Proofs.YtpjgdojhdlfjdaaDoor.POpsTable Go.Proofs.YtpjgdojhdlfjdaaDoorW.PrintWords Go.Proofs.YtpjgdojhdlfjdaaDoorW.PrintLast

/-- The name of a number: that of an operation, or none. -/
def nameOf (op : Int) : ByteArray := if 0 ≤ op ∧ op < 16 then nm op.toNat else ⟨#[]⟩
theorem name_f (op : Int) : plunderref1_Name.f op = some (nameOf op) := by
  unfold nameOf
  by_cases h : 0 ≤ op ∧ op < 16
  · rw [if_pos h]
    obtain ⟨k, rfl⟩ := Int.eq_ofNat_of_zero_le h.1
    have hk : k < 16 := by omega
    rw [Int.toNat_natCast]
    exact FindLaw.name_f k hk
  · rw [if_neg h]
    unfold plunderref1_Name.f plunderref1_later.f
    simp only [show ¬ op = 0 from by omega, show ¬ op = 1 from by omega, show ¬ op = 2 from by omega, show ¬ op = 3 from by omega, show ¬ op = 4 from by omega, show ¬ op = 5 from by omega, show ¬ op = 6 from by omega, show ¬ op = 7 from by omega, show ¬ op = 8 from by omega, show ¬ op = 9 from by omega, show ¬ op = 10 from by omega, show ¬ op = 11 from by omega, show ¬ op = 12 from by omega, show ¬ op = 13 from by omega, show ¬ op = 14 from by omega, show ¬ op = 15 from by omega, if_false, Option.bind_some]
theorem unit_f (op : Int) : plunderref1_Unit.f 1 op = some ((unitOf op).1, (unitOf op).2) := by
  unfold plunderref1_Unit.f unitOf
  simp only [plunderref1_Unit.j0]
  by_cases h0 : op = 0
  · subst h0; rfl
  by_cases h1 : op = 6
  · subst h1; rfl
  by_cases h2 : op = 7
  · subst h2; rfl
  by_cases h3 : op = 2
  · subst h3; rfl
  by_cases h4 : op = 5
  · subst h4; rfl
  by_cases h5 : op = 10
  · subst h5; rfl
  by_cases h6 : op = 11
  · subst h6; rfl
  simp [h0, h1, h2, h3, h4, h5, h6]

set_option maxHeartbeats 800000 in
theorem walk (op : Int) (w : World) (hN : NamesAt w) (hU : UnitsAt w) :
    Calls Tryd.prog 4 #[.int .i64 op] w fun e w' => e = .returned (.bool true) ∧ Below w.heap.size w w' := by
  have A1 := Aside0.mk (unit_f op)
  have A2 := Aside0.mk (name_f op)
  have HN := Aside0.mk hN
  have hname : ∀ w, NamesAt w → Calls Tryd.prog 17 #[.int .i64 op] w fun e w' => e = .returned (.string (nameOf op)) ∧ w = w' := fun w h => name_calls op w h
  have HC := Aside0.mk hname
  clear hN hname
  generalize nameOf op = s at *
  go_enter Tryd.func4, Tryd.ntmps4
  go_wp2_with fail
  refine (unit_calls op _ hU).mono ?_
  rintro e w1 ⟨rfl, hb⟩
  have HB := Aside0.mk hb
  clear hb
  generalize (unitOf op).1 = u at *
  generalize (unitOf op).2 = v at *
  go_wp2_with fail
  refine (plunderref1_Unit.calls 1 op u v _ A1.out).mono ?_
  rintro e w2 ⟨rfl, hd⟩
  have HB2 := Aside0.mk (below_step HB.out hd.below)
  clear HB hd
  go_wp2_with fail
  refine (HC.out _ (HN.out.below HB2.out)).mono ?_
  rintro e w3 ⟨rfl, rfl⟩
  go_wp2_with fail
  refine (plunderref1_Name.calls op s _ A2.out).mono ?_
  rintro e w4 ⟨rfl, hd⟩
  have HB3 := Aside0.mk (below_step HB2.out hd.below)
  clear HB2 hd
  go_wp2
  go_ret
  exact ⟨by simp, HB3.out⟩
end Go.Proofs.YtpjgdojhdlfjdaaDoor.TableLaw
