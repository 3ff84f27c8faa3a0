/- The law OpsMonoids answers true at all numbers, in a memory that holds the table of units. -/
import Derived.Test.YtpjgdojhdlfjdaaDoorTab
import Derived.Test.YtpjgdojhdlfjdaaDoorMon
import Derived.Test.YtpjgdojhdlfjdaaDoorPOpsMonoidsx1
namespace Go.Proofs.YtpjgdojhdlfjdaaDoor.MonoidsLaw
open Go.RowKit Go.Proofs.YtpjgdojhdlfjdaaDoor.Tab Go.Proofs.YtpjgdojhdlfjdaaDoor.POpsMonoids Go.Proofs.YtpjgdojhdlfjdaaDoorW.PrintWords Go.Proofs.YtpjgdojhdlfjdaaDoorW.PrintLast Go.Proofs.YtpjgdojhdlfjdaaDoor.BitMath Go.Proofs.YtpjgdojhdlfjdaaDoor.Mon

theorem work_f {op : Int} (h : HasUnit op) (a b : Int) : ops_work.f op a b = some (wk op a b) := by
  unfold HasUnit at h
  unfold wk
  rcases h with rfl | rfl | rfl | rfl | rfl | rfl | rfl <;> rfl
theorem of_f {op : Int} (h : HasUnit op) (a b : Int) : plunderlaw1_Sum_of.f false op a b = some (wk op a b, false) := by
  have e := work_f h a b
  unfold plunderlaw1_Sum_of.f ops_Apply.f ops_isOp.f
  unfold HasUnit at h
  have h0 : op ≥ 0 := by omega
  have h1 : op < 16 := by omega
  simp [h0, h1, e]
theorem unit_of {op : Int} (h : HasUnit op) : unitOf op = (un op, true) := by
  unfold HasUnit at h
  unfold unitOf un
  rcases h with rfl | rfl | rfl | rfl | rfl | rfl | rfl <;> rfl

set_option maxHeartbeats 800000 in
set_option maxRecDepth 100000 in
theorem monoid_calls (g : Nat) (op a b c : Int) (hop : HasUnit op) (ha : In64 a) (w0 w : World) (hU : UnitsAt w) (hI : IsS31 w0 w g false) (hB : Below w0.heap.size w0 w) :
    Calls Tryd.prog 19 #[.pointer (some ⟨g, 0, none⟩), .int .i64 op, .int .i64 a, .int .i64 b, .int .i64 c] w fun e w' => e = .returned (.bool true) ∧ IsS31 w0 w' g false ∧ Below w0.heap.size w0 w' := by
  have A1 := Aside0.mk (of_f hop a b)
  have A2 := Aside0.mk (of_f hop b c)
  have A3 := Aside0.mk ((wk_comm op b a) ▸ of_f hop b a)
  have A4 := Aside0.mk ((wk_assoc op a b c) ▸ of_f hop (wk op a b) c)
  have A5 := Aside0.mk (of_f hop a (wk op b c))
  have A6 := Aside0.mk ((wk_unit op hop ha) ▸ of_f hop (un op) a)
  have A7 := Aside0.mk ((wk_unit' op hop ha) ▸ of_f hop a (un op))
  have HU := Aside0.mk (unit_of hop)
  have HI := Aside0.mk hI
  have HB := Aside0.mk hB
  clear hI hB hop
  generalize wk op a b = x1 at *
  generalize wk op b c = x2 at *
  generalize wk op a x2 = x3 at *
  generalize un op = u at *
  go_enter Tryd.func19, Tryd.ntmps19
  go_wp2_with fail
  refine (unit_calls op _ hU).mono ?_
  rintro e w1 ⟨rfl, hb⟩
  rw [HU.out]
  have HI1 := Aside0.mk (HI.out.below hb)
  have HB1 := Aside0.mk (below_step HB.out hb)
  clear HI HB hb
  go_wp2_with fail
  refine (plunderlaw1_Sum_of.calls g false op a b x1 false w0 _ HI1.out HB1.out A1.out).mono ?_
  rintro e w2 ⟨rfl, hI, hB, _⟩
  have HI2 := Aside0.mk hI
  have HB2 := Aside0.mk hB
  clear hI hB
  go_wp2_with fail
  refine (plunderlaw1_Sum_of.calls g false op b c x2 false w0 _ HI2.out HB2.out A2.out).mono ?_
  rintro e w3 ⟨rfl, hI, hB, _⟩
  have HI3 := Aside0.mk hI
  have HB3 := Aside0.mk hB
  clear hI hB
  go_wp2_with fail
  refine (plunderlaw1_Sum_of.calls g false op b a x1 false w0 _ HI3.out HB3.out A3.out).mono ?_
  rintro e w4 ⟨rfl, hI, hB, _⟩
  have HI4 := Aside0.mk hI
  have HB4 := Aside0.mk hB
  clear hI hB
  go_wp2_with fail
  refine (plunderlaw1_Sum_of.calls g false op x1 c x3 false w0 _ HI4.out HB4.out A4.out).mono ?_
  rintro e w5 ⟨rfl, hI, hB, _⟩
  have HI5 := Aside0.mk hI
  have HB5 := Aside0.mk hB
  clear hI hB
  go_wp2_with fail
  refine (plunderlaw1_Sum_of.calls g false op a x2 x3 false w0 _ HI5.out HB5.out A5.out).mono ?_
  rintro e w6 ⟨rfl, hI, hB, _⟩
  have HI6 := Aside0.mk hI
  have HB6 := Aside0.mk hB
  clear hI hB
  go_wp2_with fail
  refine (plunderlaw1_Sum_of.calls g false op u a a false w0 _ HI6.out HB6.out A6.out).mono ?_
  rintro e w7 ⟨rfl, hI, hB, _⟩
  have HI7 := Aside0.mk hI
  have HB7 := Aside0.mk hB
  clear hI hB
  go_wp2_with fail
  refine (plunderlaw1_Sum_of.calls g false op a u a false w0 _ HI7.out HB7.out A7.out).mono ?_
  rintro e w8 ⟨rfl, hI, hB, _⟩
  have HI8 := Aside0.mk hI
  have HB8 := Aside0.mk hB
  clear hI hB
  go_wp2
  go_ret
  exact ⟨by simp, HI8.out, HB8.out⟩

/-- The operation of a place. -/
def sv (k : Nat) : Int := match k with | 0 => 0 | 1 => 2 | 2 => 5 | 3 => 6 | 4 => 7 | 5 => 10 | _ => 11
theorem seven_f (k : Nat) (hk : k < 7) : plunderlaw1_seven.f (k : Int) = some (sv k) := by
  obtain rfl | rfl | rfl | rfl | rfl | rfl | rfl : k = 0 ∨ k = 1 ∨ k = 2 ∨ k = 3 ∨ k = 4 ∨ k = 5 ∨ k = 6 := by omega
  all_goals rfl
theorem sv_unit (k : Nat) (hk : k < 7) : HasUnit (sv k) := by
  obtain rfl | rfl | rfl | rfl | rfl | rfl | rfl : k = 0 ∨ k = 1 ∨ k = 2 ∨ k = 3 ∨ k = 4 ∨ k = 5 ∨ k = 6 := by omega
  all_goals simp [HasUnit, sv]
attribute [irreducible] sv

set_option maxHeartbeats 800000 in
set_option maxRecDepth 100000 in
theorem walk (a b c : Int) (w : World) (ha : (Lit.int .i64 a).wf = true) (hU : UnitsAt w) :
    Calls Tryd.prog 6 #[.int .i64 a, .int .i64 b, .int .i64 c] w fun e w' => e = .returned (.bool true) ∧ Below w.heap.size w w' := by
  have HA := Aside0.mk (in64_of_wf ha)
  have HU := Aside0.mk hU
  clear ha hU
  have HI := Aside0.mk (IsS31.new w w false (Below.refl _ _))
  have HB := Aside0.mk (below_alloc (Below.refl w.heap.size w) (.cells #[.bool false] 31))
  go_enter Tryd.func6, Tryd.ntmps6
  go_wp2_with fail
  go_loopw [8] (fun i wr => ∃ k : Nat, k ≤ 7 ∧ i = .int .i64 k ∧ Aside0 (IsS31 w wr w.heap.size false) ∧ Aside0 (Below w.heap.size w wr)) (fun i _ => 7 - (intOf i).toNat)
  case atStart => exact ⟨0, by omega, rfl, HI, HB⟩
  case round =>
    clear HI HB
    obtain ⟨k, hk, rfl, HI, HB⟩ := hrel
    by_cases hlt : k < 7
    · have HS := Aside0.mk (seven_f k hlt)
      have HV := Aside0.mk (sv_unit k hlt)
      go_wp2_with fail
      refine (plunderlaw1_seven.calls (k : Int) (sv k) _ HS.out).mono ?_
      rintro e w1 ⟨rfl, hd⟩
      have HI1 := Aside0.mk (HI.out.below hd.below)
      have HB1 := Aside0.mk (below_step HB.out hd.below)
      clear HI HB hd
      go_wp2_with fail
      refine (monoid_calls w.heap.size (sv k) a b c HV.out HA.out w _ (HU.out.below HB1.out) HI1.out HB1.out).mono ?_
      rintro e w2 ⟨rfl, hI, hB⟩
      have HI2 := Aside0.mk hI
      have HB2 := Aside0.mk hB
      clear hI hB
      go_wp2
      go_roundw
      case rel => exact ⟨k + 1, by omega, by go_num, HI2, HB2⟩
      case measure => simp [intOf]; omega
    · have hc := cellS31_0 HI.out.1
      go_wp2
      go_ret
      exact ⟨rfl, HB.out⟩
end Go.Proofs.YtpjgdojhdlfjdaaDoor.MonoidsLaw
