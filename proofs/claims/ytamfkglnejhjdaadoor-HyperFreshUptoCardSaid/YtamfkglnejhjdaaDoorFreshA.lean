/- The law HyperFresh in pieces: its frame, and what is told of an answer and of a game in memory. -/
import Derived.Test.YtamfkglnejhjdaaDoorPHyperFoldx0
import Derived.Test.YtamfkglnejhjdaaDoorWEqStruct
import Derived.Test.YtamfkglnejhjdaaDoorWShort
import Derived.Test.YtamfkglnejhjdaaDoorSerA
import Derived.Test.YtamfkglnejhjdaaDoorBaseA
import Derived.Test.YtamfkglnejhjdaaDoorVPlayC
import Derived.Deep.DeepCutAuto
import Derived.Test.YtamfkglnejhjdaaDoorOpsLaw
import Derived.Test.YtamfkglnejhjdaaDoorMon
import Derived.Test.YtamfkglnejhjdaaDoorWMore
import Derived.Test.YtamfkglnejhjdaaDoorPlayRun
import Derived.Test.YtamfkglnejhjdaaDoorPlayPure
import Derived.Test.YtamfkglnejhjdaaDoorRefOpsB
import Derived.Test.YtamfkglnejhjdaaDoorRefWhole
import Derived.Test.YtamfkglnejhjdaaDoorBitMath
import Derived.Test.YtamfkglnejhjdaaDoorSerC
namespace Go.Proofs.YtamfkglnejhjdaaDoor.HLaw
open Go.Proofs.YtamfkglnejhjdaaDoorW.PrintLast (bK rR rS bB bB7 bB8 sI sZ sC)
open Go.Proofs.YtamfkglnejhjdaaDoor.PHyperFold
open Go.RowKit Go.Proofs.YtamfkglnejhjdaaDoorW.PrintWords Go.Proofs.YtamfkglnejhjdaaDoorW.PrintLast Go.Proofs.YtamfkglnejhjdaaDoorW.PrintMore
attribute [local go_sem] max2_int min2_int max_two min_two max_three min_three max_four min_four   -- for this text's walks alone
set_option linter.unusedVariables false
set_option linter.unusedSimpArgs false

theorem eqA103 (d : Nat) (w : World) (x0 y0 : Int) (x1 y1 : Int) (x2 y2 : Int) :
  (Op.equalIn (d + 2) 103 (.agg #[.int .i64 x0, .int .i64 x1, .int .i64 x2]) (.agg #[.int .i64 y0, .int .i64 y1, .int .i64 y2])).run Tryd.prog w = .ok (x0 == y0 && (x1 == y1 && (x2 == y2))) w := by
 refine eqA_of Tryd.underlying103 (by kernel_rfl) ?_
 refine eqf_cons (by rfl) (by go_simp; rfl) (by go_simp; rfl) (by go_simp) ?_
 refine eqf_cons (by rfl) (by go_simp; rfl) (by go_simp; rfl) (by go_simp) ?_
 exact eqf_last (by rfl) (by go_simp; rfl) (by go_simp; rfl) (by go_simp)
attribute [local go_sem high] eqA103
def plunderlaw23_sameInts.l0 : Nat → List Int → List Int → Int → Option (Bool)
 | 0, _, _, _ => none
 | k + 1, x0, x1, x5 => if x5 < (x0.length : Int) then (if 0 ≤ x5 then (if x5 < (x1.length : Int) then (if (rd x0 x5) = (rd x1 x5) then (plunderlaw23_sameInts.l0 k x0 x1 (wrap64 (x5 + 1))) else (some false)) else (none)) else (none)) else (some true)
def plunderlaw23_sameInts.f (k : Nat) (l0 : List Int) (l1 : List Int) : Option (Bool) := if (l0.length : Int) = (l1.length : Int) then (plunderlaw23_sameInts.l0 k l0 l1 0) else (some false)
theorem plunderlaw23_sameInts.mono_l : ∀ k, (∀ y0 y1 y2, LeO (plunderlaw23_sameInts.l0 k y0 y1 y2) (plunderlaw23_sameInts.l0 (k + 1) y0 y1 y2))
 | 0 => fun _ _ _ r h => by simp [plunderlaw23_sameInts.l0] at h
 | k + 1 => by
  have ih0 := plunderlaw23_sameInts.mono_l k
  ·intro y0 y1 y2
   unfold plunderlaw23_sameInts.l0
   repeat' first
   | (with_reducible exact ih0 _ _ _)
   | (with_reducible exact LeO.refl _)
   | (with_reducible exact LeO.none _)
   | (with_reducible refine LeO.ite ?_ ?_)
   | (with_reducible refine LeO.bind ?_ (fun _ => ?_))
   | exact ih0 _ _ _
   | exact LeO.none _
   | refine LeO.ite ?_ ?_
   | refine LeO.bind ?_ (fun _ => ?_)
theorem plunderlaw23_sameInts.mono : ∀ a0 a1 k, LeO (plunderlaw23_sameInts.f k a0 a1) (plunderlaw23_sameInts.f (k + 1) a0 a1) := by
 intro a0 a1 k
 have ih0 := plunderlaw23_sameInts.mono_l k
 unfold plunderlaw23_sameInts.f
 repeat' first
   | (with_reducible exact ih0 _ _ _)
   | (with_reducible exact LeO.refl _)
   | (with_reducible exact LeO.none _)
   | (with_reducible refine LeO.ite ?_ ?_)
   | (with_reducible refine LeO.bind ?_ (fun _ => ?_))
   | exact ih0 _ _ _
   | exact LeO.none _
   | refine LeO.ite ?_ ?_
   | refine LeO.bind ?_ (fun _ => ?_)
set_option maxHeartbeats 8000000 in
set_option maxRecDepth 100000 in
theorem plunderlaw23_sameInts.calls (k : Nat) (A0 : Option Addr) (c0 : Nat) (l0 : List Int) (A1 : Option Addr) (c1 : Nat) (l1 : List Int) (r : Bool) (w : World) (hr0 : Kd.C (Kd.int .i64) w A0 l0.length l0) (hc0 : l0.length ≤ c0) (hr1 : Kd.C (Kd.int .i64) w A1 l1.length l1) (hc1 : l1.length ≤ c1) (h : plunderlaw23_sameInts.f k l0 l1 = some r) :
  Calls Tryd.prog 36 #[.slice A0 l0.length c0, .slice A1 l1.length c1] w fun e w' => e = .returned (.bool r) ∧ Drawn0 w w' := by
 have HR0 := Aside0.mk hr0
 have HC0 := Aside0.mk hc0
 clear hr0 hc0
 have HR1 := Aside0.mk hr1
 have HC1 := Aside0.mk hc1
 clear hr1 hc1
 have H : (if (l0.length : Int) = (l1.length : Int) then (plunderlaw23_sameInts.l0 k l0 l1 0) else (some false)) = some r := h
 clear h
 by_cases c3 : (l0.length : Int) = (l1.length : Int)
 ·rw [if_pos c3] at H
  have c3b0 : ((l0.length : Int) == (l1.length : Int)) = true := beq_iff_eq.mpr c3
  have c3b1 : ((l0.length : Int) != (l1.length : Int)) = false := bne_eq_false_iff_eq.mpr c3
  have c3b2 : (l0.length == l1.length) = true := by first | simpa using c3 | (simp at c3 ⊢; omega)
  clear c3
  have H' := Aside0.mk H
  clear H
  go_enter Tryd.func36, Tryd.ntmps36
  go_wp2
  repeat (go_quiet (fail); try go_wp2)
  go_loopg [5] k (fun kq v5 w' => ∃ (x5_1 : Int), v5 = .int .i64 x5_1 ∧ Aside0 (plunderlaw23_sameInts.l0 kq l0 l1 x5_1 = some r) ∧ Aside0 (kq ≤ k) ∧ Drawn0 w w')
  case atStart => exact ⟨(0), (rS), H', ⟨Nat.le_refl _⟩, by repeat (first | exact Drawn0.refl _ | apply Drawn0.step)⟩
  case round =>
   clear H'
   try clear c1
   try clear p2
   try clear c3
   try clear c3b0
   try clear c3b1
   try clear c3b2
   obtain ⟨x5_1, rfl, HA, HK1, ⟨m1, rfl⟩⟩ := hrel
   cases gk with
   | zero => exact absurd HA.out (by simp [plunderlaw23_sameInts.l0])
   | succ k1 =>
    have H := HA.out
    clear HA
    simp only [plunderlaw23_sameInts.l0] at H
    by_cases c4 : x5_1 < (l0.length : Int)
    ·rw [if_pos c4] at H
     have c4b0 : decide (x5_1 < (l0.length : Int)) = true := decide_eq_true c4
     clear c4
     by_cases c5 : 0 ≤ x5_1
     ·rw [if_pos c5] at H
      have c5b0 : decide (0 ≤ x5_1) = true := decide_eq_true c5
      clear c5
      by_cases c6 : x5_1 < (l1.length : Int)
      ·rw [if_pos c6] at H
       have c6b0 : decide (x5_1 < (l1.length : Int)) = true := decide_eq_true c6
       clear c6
       by_cases c7 : (rd l0 x5_1) = (rd l1 x5_1)
       ·rw [if_pos c7] at H
        have c7b0 : ((rd l0 x5_1) == (rd l1 x5_1)) = true := beq_iff_eq.mpr c7
        have c7b1 : ((rd l0 x5_1) != (rd l1 x5_1)) = false := bne_eq_false_iff_eq.mpr c7
        clear c7
        have H' := Aside0.mk H
        clear H
        have p219 : 0 ≤ (x5_1 : Int) := of_decide_eq_true (by first | (with_reducible assumption) | assumption)
        have q219 : x5_1 < (l0.length : Int) := of_decide_eq_true (by first | (with_reducible assumption) | assumption)
        obtain ⟨ad219, e219, hx219_0⟩ := Kd.at_int HR0.out x5_1 p219 q219
        cases e219
        replace p219 := eq_true p219
        replace q219 := eq_true q219
        have p220 : 0 ≤ (x5_1 : Int) := of_decide_eq_true (by first | (with_reducible assumption) | assumption)
        have q220 : x5_1 < (l1.length : Int) := of_decide_eq_true (by first | (with_reducible assumption) | assumption)
        obtain ⟨ad220, e220, hx220_0⟩ := Kd.at_int HR1.out x5_1 p220 q220
        cases e220
        replace p220 := eq_true p220
        replace q220 := eq_true q220
        go_wp2
        repeat (go_quiet (fail); try go_wp2)
        go_roundg k1
        case measure => have := HK1.out; omega
        case rel => exact ⟨(wrap64 (x5_1 + 1)), (rS), H', ⟨by have := HK1.out; omega⟩, by repeat (first | exact Drawn0.refl _ | apply Drawn0.step)⟩
       ·rw [if_neg c7] at H
        have c7b0 : ((rd l0 x5_1) == (rd l1 x5_1)) = false := beq_eq_false_iff_ne.mpr c7
        have c7b1 : ((rd l0 x5_1) != (rd l1 x5_1)) = true := bne_iff_ne.mpr c7
        obtain rfl := Option.some.inj H
        have p219 : 0 ≤ (x5_1 : Int) := of_decide_eq_true (by first | (with_reducible assumption) | assumption)
        have q219 : x5_1 < (l0.length : Int) := of_decide_eq_true (by first | (with_reducible assumption) | assumption)
        obtain ⟨ad219, e219, hx219_0⟩ := Kd.at_int HR0.out x5_1 p219 q219
        cases e219
        replace p219 := eq_true p219
        replace q219 := eq_true q219
        have p220 : 0 ≤ (x5_1 : Int) := of_decide_eq_true (by first | (with_reducible assumption) | assumption)
        have q220 : x5_1 < (l1.length : Int) := of_decide_eq_true (by first | (with_reducible assumption) | assumption)
        obtain ⟨ad220, e220, hx220_0⟩ := Kd.at_int HR1.out x5_1 p220 q220
        cases e220
        replace p220 := eq_true p220
        replace q220 := eq_true q220
        go_wp2
        repeat (go_quiet (fail); try go_wp2)
        go_ret
        exact ⟨rS, by repeat (first | exact Drawn0.refl _ | apply Drawn0.step)⟩
      ·rw [if_neg c6] at H
       exact absurd H (by simp)
     ·rw [if_neg c5] at H
      exact absurd H (by simp)
    ·rw [if_neg c4] at H
     have c4b0 : decide (x5_1 < (l0.length : Int)) = false := decide_eq_false c4
     clear c4
     obtain rfl := Option.some.inj H
     go_wp2
     repeat (go_quiet (fail); try go_wp2)
     go_ret
     exact ⟨rS, by repeat (first | exact Drawn0.refl _ | apply Drawn0.step)⟩
 ·rw [if_neg c3] at H
  have c3b0 : ((l0.length : Int) == (l1.length : Int)) = false := beq_eq_false_iff_ne.mpr c3
  have c3b1 : ((l0.length : Int) != (l1.length : Int)) = true := bne_iff_ne.mpr c3
  have c3b2 : (l0.length == l1.length) = false := by first | simpa using c3 | (simp at c3 ⊢; omega)
  obtain rfl := Option.some.inj H
  go_enter Tryd.func36, Tryd.ntmps36
  go_wp2
  repeat (go_quiet (fail); try go_wp2)
  go_ret
  exact ⟨rS, by repeat (first | exact Drawn0.refl _ | apply Drawn0.step)⟩

def plunderlaw23_sameMerges.l0 : Nat → List (S103) → List (S103) → Int → Option (Bool)
 | 0, _, _, _ => none
 | k + 1, x0, x1, x5 => if x5 < (x0.length : Int) then (if 0 ≤ x5 then (if x5 < (x1.length : Int) then (if (!(((rd_T103 x0 x5).f0) == ((rd_T103 x1 x5).f0)) || (!(((rd_T103 x0 x5).f1) == ((rd_T103 x1 x5).f1)) || (!(((rd_T103 x0 x5).f2) == ((rd_T103 x1 x5).f2))))) = true then (some false) else (plunderlaw23_sameMerges.l0 k x0 x1 (wrap64 (x5 + 1)))) else (none)) else (none)) else (some true)
def plunderlaw23_sameMerges.f (k : Nat) (l0 : List (S103)) (l1 : List (S103)) : Option (Bool) := if (l0.length : Int) = (l1.length : Int) then (plunderlaw23_sameMerges.l0 k l0 l1 0) else (some false)
theorem plunderlaw23_sameMerges.mono_l : ∀ k, (∀ y0 y1 y2, LeO (plunderlaw23_sameMerges.l0 k y0 y1 y2) (plunderlaw23_sameMerges.l0 (k + 1) y0 y1 y2))
 | 0 => fun _ _ _ r h => by simp [plunderlaw23_sameMerges.l0] at h
 | k + 1 => by
  have ih0 := plunderlaw23_sameMerges.mono_l k
  ·intro y0 y1 y2
   unfold plunderlaw23_sameMerges.l0
   repeat' first
   | (with_reducible exact ih0 _ _ _)
   | (with_reducible exact LeO.refl _)
   | (with_reducible exact LeO.none _)
   | (with_reducible refine LeO.ite ?_ ?_)
   | (with_reducible refine LeO.bind ?_ (fun _ => ?_))
   | exact ih0 _ _ _
   | exact LeO.none _
   | refine LeO.ite ?_ ?_
   | refine LeO.bind ?_ (fun _ => ?_)
theorem plunderlaw23_sameMerges.mono : ∀ a0 a1 k, LeO (plunderlaw23_sameMerges.f k a0 a1) (plunderlaw23_sameMerges.f (k + 1) a0 a1) := by
 intro a0 a1 k
 have ih0 := plunderlaw23_sameMerges.mono_l k
 unfold plunderlaw23_sameMerges.f
 repeat' first
   | (with_reducible exact ih0 _ _ _)
   | (with_reducible exact LeO.refl _)
   | (with_reducible exact LeO.none _)
   | (with_reducible refine LeO.ite ?_ ?_)
   | (with_reducible refine LeO.bind ?_ (fun _ => ?_))
   | exact ih0 _ _ _
   | exact LeO.none _
   | refine LeO.ite ?_ ?_
   | refine LeO.bind ?_ (fun _ => ?_)
set_option maxHeartbeats 8000000 in
set_option maxRecDepth 100000 in
theorem plunderlaw23_sameMerges.calls (k : Nat) (A0 : Option Addr) (c0 : Nat) (l0 : List (S103)) (A1 : Option Addr) (c1 : Nat) (l1 : List (S103)) (r : Bool) (w : World) (hr0 : Kd.C k103 w A0 l0.length l0) (hc0 : l0.length ≤ c0) (hr1 : Kd.C k103 w A1 l1.length l1) (hc1 : l1.length ≤ c1) (h : plunderlaw23_sameMerges.f k l0 l1 = some r) :
  Calls Tryd.prog 37 #[.slice A0 l0.length c0, .slice A1 l1.length c1] w fun e w' => e = .returned (.bool r) ∧ Drawn0 w w' := by
 have hu103 := Tryd.underlying103
 have HR0 := Aside0.mk hr0
 have HC0 := Aside0.mk hc0
 clear hr0 hc0
 have HR1 := Aside0.mk hr1
 have HC1 := Aside0.mk hc1
 clear hr1 hc1
 have H : (if (l0.length : Int) = (l1.length : Int) then (plunderlaw23_sameMerges.l0 k l0 l1 0) else (some false)) = some r := h
 clear h
 by_cases c3 : (l0.length : Int) = (l1.length : Int)
 ·rw [if_pos c3] at H
  have c3b0 : ((l0.length : Int) == (l1.length : Int)) = true := beq_iff_eq.mpr c3
  have c3b1 : ((l0.length : Int) != (l1.length : Int)) = false := bne_eq_false_iff_eq.mpr c3
  have c3b2 : (l0.length == l1.length) = true := by first | simpa using c3 | (simp at c3 ⊢; omega)
  clear c3
  have H' := Aside0.mk H
  clear H
  go_enter Tryd.func37, Tryd.ntmps37
  go_wp2
  repeat (go_quiet (fail); try go_wp2)
  go_loopg [5] k (fun kq v5 w' => ∃ (x5_1 : Int), v5 = .int .i64 x5_1 ∧ Aside0 (plunderlaw23_sameMerges.l0 kq l0 l1 x5_1 = some r) ∧ Aside0 (kq ≤ k) ∧ Drawn0 w w')
  case atStart => exact ⟨(0), (rS), H', ⟨Nat.le_refl _⟩, by repeat (first | exact Drawn0.refl _ | apply Drawn0.step)⟩
  case round =>
   clear H'
   try clear c1
   try clear p2
   try clear c3
   try clear c3b0
   try clear c3b1
   try clear c3b2
   obtain ⟨x5_1, rfl, HA, HK1, ⟨m1, rfl⟩⟩ := hrel
   cases gk with
   | zero => exact absurd HA.out (by simp [plunderlaw23_sameMerges.l0])
   | succ k1 =>
    have H := HA.out
    clear HA
    simp only [plunderlaw23_sameMerges.l0] at H
    by_cases c4 : x5_1 < (l0.length : Int)
    ·rw [if_pos c4] at H
     have c4b0 : decide (x5_1 < (l0.length : Int)) = true := decide_eq_true c4
     clear c4
     by_cases c5 : 0 ≤ x5_1
     ·rw [if_pos c5] at H
      have c5b0 : decide (0 ≤ x5_1) = true := decide_eq_true c5
      clear c5
      by_cases c6 : x5_1 < (l1.length : Int)
      ·rw [if_pos c6] at H
       have c6b0 : decide (x5_1 < (l1.length : Int)) = true := decide_eq_true c6
       clear c6
       by_cases c7 : (!(((rd_T103 l0 x5_1).f0) == ((rd_T103 l1 x5_1).f0)) || (!(((rd_T103 l0 x5_1).f1) == ((rd_T103 l1 x5_1).f1)) || (!(((rd_T103 l0 x5_1).f2) == ((rd_T103 l1 x5_1).f2))))) = true
       ·rw [if_pos c7] at H
        have c7b0 : (!(((rd_T103 l0 x5_1).f0) == ((rd_T103 l1 x5_1).f0)) || (!(((rd_T103 l0 x5_1).f1) == ((rd_T103 l1 x5_1).f1)) || (!(((rd_T103 l0 x5_1).f2) == ((rd_T103 l1 x5_1).f2))))) = true := c7
        clear c7
        obtain rfl := Option.some.inj H
        have p221 : 0 ≤ (x5_1 : Int) := of_decide_eq_true (by first | (with_reducible assumption) | assumption)
        have q221 : x5_1 < (l0.length : Int) := of_decide_eq_true (by first | (with_reducible assumption) | assumption)
        obtain ⟨ad221, e221, hx221_0, hx221_1, hx221_2⟩ := at_T103 HR0.out x5_1 p221 q221
        cases e221
        replace p221 := eq_true p221
        replace q221 := eq_true q221
        have p222 : 0 ≤ (x5_1 : Int) := of_decide_eq_true (by first | (with_reducible assumption) | assumption)
        have q222 : x5_1 < (l1.length : Int) := of_decide_eq_true (by first | (with_reducible assumption) | assumption)
        obtain ⟨ad222, e222, hx222_0, hx222_1, hx222_2⟩ := at_T103 HR1.out x5_1 p222 q222
        cases e222
        replace p222 := eq_true p222
        replace q222 := eq_true q222
        go_wp2
        repeat (go_quiet (fail); try go_wp2)
        go_ret
        exact ⟨rS, by repeat (first | exact Drawn0.refl _ | apply Drawn0.step)⟩
       ·rw [if_neg c7] at H
        have c7b0 : (!(((rd_T103 l0 x5_1).f0) == ((rd_T103 l1 x5_1).f0)) || (!(((rd_T103 l0 x5_1).f1) == ((rd_T103 l1 x5_1).f1)) || (!(((rd_T103 l0 x5_1).f2) == ((rd_T103 l1 x5_1).f2))))) = false := by first | (simp at c7; done) | (simp; done) | simpa using c7
        clear c7
        have H' := Aside0.mk H
        clear H
        have p221 : 0 ≤ (x5_1 : Int) := of_decide_eq_true (by first | (with_reducible assumption) | assumption)
        have q221 : x5_1 < (l0.length : Int) := of_decide_eq_true (by first | (with_reducible assumption) | assumption)
        obtain ⟨ad221, e221, hx221_0, hx221_1, hx221_2⟩ := at_T103 HR0.out x5_1 p221 q221
        cases e221
        replace p221 := eq_true p221
        replace q221 := eq_true q221
        have p222 : 0 ≤ (x5_1 : Int) := of_decide_eq_true (by first | (with_reducible assumption) | assumption)
        have q222 : x5_1 < (l1.length : Int) := of_decide_eq_true (by first | (with_reducible assumption) | assumption)
        obtain ⟨ad222, e222, hx222_0, hx222_1, hx222_2⟩ := at_T103 HR1.out x5_1 p222 q222
        cases e222
        replace p222 := eq_true p222
        replace q222 := eq_true q222
        go_wp2
        repeat (go_quiet (fail); try go_wp2)
        go_roundg k1
        case measure => have := HK1.out; omega
        case rel => exact ⟨(wrap64 (x5_1 + 1)), (rS), H', ⟨by have := HK1.out; omega⟩, by repeat (first | exact Drawn0.refl _ | apply Drawn0.step)⟩
      ·rw [if_neg c6] at H
       exact absurd H (by simp)
     ·rw [if_neg c5] at H
      exact absurd H (by simp)
    ·rw [if_neg c4] at H
     have c4b0 : decide (x5_1 < (l0.length : Int)) = false := decide_eq_false c4
     clear c4
     obtain rfl := Option.some.inj H
     go_wp2
     repeat (go_quiet (fail); try go_wp2)
     go_ret
     exact ⟨rS, by repeat (first | exact Drawn0.refl _ | apply Drawn0.step)⟩
 ·rw [if_neg c3] at H
  have c3b0 : ((l0.length : Int) == (l1.length : Int)) = false := beq_eq_false_iff_ne.mpr c3
  have c3b1 : ((l0.length : Int) != (l1.length : Int)) = true := bne_iff_ne.mpr c3
  have c3b2 : (l0.length == l1.length) = false := by first | simpa using c3 | (simp at c3 ⊢; omega)
  obtain rfl := Option.some.inj H
  go_enter Tryd.func37, Tryd.ntmps37
  go_wp2
  repeat (go_quiet (fail); try go_wp2)
  go_ret
  exact ⟨rS, by repeat (first | exact Drawn0.refl _ | apply Drawn0.step)⟩

def plunderlaw23_sameLooks.l0 : Nat → List (List Int) → List (List Int) → Int → Option (Bool)
 | 0, _, _, _ => none
 | k + 1, x0, x1, x5 => if x5 < (x0.length : Int) then (if 0 ≤ x5 then (if x5 < (x1.length : Int) then ((plunderlaw23_sameInts.f k (rd_L3 x0 x5) (rd_L3 x1 x5)).bind fun t225 => (if t225 = true then (plunderlaw23_sameLooks.l0 k x0 x1 (wrap64 (x5 + 1))) else (some false))) else (none)) else (none)) else (some true)
def plunderlaw23_sameLooks.f (k : Nat) (l0 : List (List Int)) (l1 : List (List Int)) : Option (Bool) := if (l0.length : Int) = (l1.length : Int) then (plunderlaw23_sameLooks.l0 k l0 l1 0) else (some false)
theorem plunderlaw23_sameLooks.mono_l : ∀ k, (∀ y0 y1 y2, LeO (plunderlaw23_sameLooks.l0 k y0 y1 y2) (plunderlaw23_sameLooks.l0 (k + 1) y0 y1 y2))
 | 0 => fun _ _ _ r h => by simp [plunderlaw23_sameLooks.l0] at h
 | k + 1 => by
  have ih0 := plunderlaw23_sameLooks.mono_l k
  ·intro y0 y1 y2
   unfold plunderlaw23_sameLooks.l0
   repeat' first
   | (with_reducible exact ih0 _ _ _)
   | (with_reducible exact plunderlaw23_sameInts.mono _ _ _)
   | (with_reducible exact LeO.refl _)
   | (with_reducible exact LeO.none _)
   | (with_reducible refine LeO.ite ?_ ?_)
   | (with_reducible refine LeO.bind ?_ (fun _ => ?_))
   | exact ih0 _ _ _
   | exact plunderlaw23_sameInts.mono _ _ _
   | exact LeO.none _
   | refine LeO.ite ?_ ?_
   | refine LeO.bind ?_ (fun _ => ?_)
theorem plunderlaw23_sameLooks.mono : ∀ a0 a1 k, LeO (plunderlaw23_sameLooks.f k a0 a1) (plunderlaw23_sameLooks.f (k + 1) a0 a1) := by
 intro a0 a1 k
 have ih0 := plunderlaw23_sameLooks.mono_l k
 unfold plunderlaw23_sameLooks.f
 repeat' first
   | (with_reducible exact ih0 _ _ _)
   | (with_reducible exact plunderlaw23_sameInts.mono _ _ _)
   | (with_reducible exact LeO.refl _)
   | (with_reducible exact LeO.none _)
   | (with_reducible refine LeO.ite ?_ ?_)
   | (with_reducible refine LeO.bind ?_ (fun _ => ?_))
   | exact ih0 _ _ _
   | exact plunderlaw23_sameInts.mono _ _ _
   | exact LeO.none _
   | refine LeO.ite ?_ ?_
   | refine LeO.bind ?_ (fun _ => ?_)
set_option maxHeartbeats 8000000 in
set_option maxRecDepth 100000 in
theorem plunderlaw23_sameLooks.calls (k : Nat) (A0 : Option Addr) (c0 : Nat) (l0 : List (List Int)) (A1 : Option Addr) (c1 : Nat) (l1 : List (List Int)) (r : Bool) (w : World) (hr0 : Kd.C (Kd.slice 2 (Kd.int .i64)) w A0 l0.length l0) (hc0 : l0.length ≤ c0) (hr1 : Kd.C (Kd.slice 2 (Kd.int .i64)) w A1 l1.length l1) (hc1 : l1.length ≤ c1) (h : plunderlaw23_sameLooks.f k l0 l1 = some r) :
  Calls Tryd.prog 38 #[.slice A0 l0.length c0, .slice A1 l1.length c1] w fun e w' => e = .returned (.bool r) ∧ Drawn0 w w' := by
 have HR0 := Aside0.mk hr0
 have HC0 := Aside0.mk hc0
 clear hr0 hc0
 have HR1 := Aside0.mk hr1
 have HC1 := Aside0.mk hc1
 clear hr1 hc1
 have H : (if (l0.length : Int) = (l1.length : Int) then (plunderlaw23_sameLooks.l0 k l0 l1 0) else (some false)) = some r := h
 clear h
 by_cases c3 : (l0.length : Int) = (l1.length : Int)
 ·rw [if_pos c3] at H
  have c3b0 : ((l0.length : Int) == (l1.length : Int)) = true := beq_iff_eq.mpr c3
  have c3b1 : ((l0.length : Int) != (l1.length : Int)) = false := bne_eq_false_iff_eq.mpr c3
  have c3b2 : (l0.length == l1.length) = true := by first | simpa using c3 | (simp at c3 ⊢; omega)
  clear c3
  have H' := Aside0.mk H
  clear H
  go_enter Tryd.func38, Tryd.ntmps38
  go_wp2
  repeat (go_quiet (fail); try go_wp2)
  go_loopg [5] k (fun kq v5 w' => ∃ (x5_1 : Int), v5 = .int .i64 x5_1 ∧ Aside0 (plunderlaw23_sameLooks.l0 kq l0 l1 x5_1 = some r) ∧ Aside0 (kq ≤ k) ∧ Drawn0 w w')
  case atStart => exact ⟨(0), (rS), H', ⟨Nat.le_refl _⟩, by repeat (first | exact Drawn0.refl _ | apply Drawn0.step)⟩
  case round =>
   clear H'
   try clear c1
   try clear p2
   try clear c3
   try clear c3b0
   try clear c3b1
   try clear c3b2
   obtain ⟨x5_1, rfl, HA, HK1, ⟨m1, rfl⟩⟩ := hrel
   cases gk with
   | zero => exact absurd HA.out (by simp [plunderlaw23_sameLooks.l0])
   | succ k1 =>
    have H := HA.out
    clear HA
    simp only [plunderlaw23_sameLooks.l0] at H
    by_cases c4 : x5_1 < (l0.length : Int)
    ·rw [if_pos c4] at H
     have c4b0 : decide (x5_1 < (l0.length : Int)) = true := decide_eq_true c4
     clear c4
     by_cases c5 : 0 ≤ x5_1
     ·rw [if_pos c5] at H
      have c5b0 : decide (0 ≤ x5_1) = true := decide_eq_true c5
      clear c5
      by_cases c6 : x5_1 < (l1.length : Int)
      ·rw [if_pos c6] at H
       have c6b0 : decide (x5_1 < (l1.length : Int)) = true := decide_eq_true c6
       clear c6
       replace H := Option.bind_eq_some_iff.mp H
       obtain ⟨t225, A70, H⟩ := H
       replace H : (if t225 = true then (plunderlaw23_sameLooks.l0 k1 l0 l1 (wrap64 (x5_1 + 1))) else (some false)) = some r := H
       have A7 := Aside0.mk A70
       clear A70
       by_cases c8 : t225 = true
       ·subst c8
        have H1 : (plunderlaw23_sameLooks.l0 k1 l0 l1 (wrap64 (x5_1 + 1))) = some r := by rw [if_pos rfl] at H; exact H
        clear H
        have H := H1
        clear H1
        have H' := Aside0.mk H
        clear H
        have p223 : 0 ≤ (x5_1 : Int) := of_decide_eq_true (by first | (with_reducible assumption) | assumption)
        have q223 : x5_1 < (l0.length : Int) := of_decide_eq_true (by first | (with_reducible assumption) | assumption)
        obtain ⟨ad223, A223_0, c223_0, e223, hx223_0, hl223_0, hi223_0⟩ := at_L3 HR0.out x5_1 p223 q223
        cases e223
        have HR223_0 := Aside0.mk hi223_0
        have HC223_0 := Aside0.mk hl223_0
        clear hi223_0 hl223_0
        replace p223 := eq_true p223
        replace q223 := eq_true q223
        have p224 : 0 ≤ (x5_1 : Int) := of_decide_eq_true (by first | (with_reducible assumption) | assumption)
        have q224 : x5_1 < (l1.length : Int) := of_decide_eq_true (by first | (with_reducible assumption) | assumption)
        obtain ⟨ad224, A224_0, c224_0, e224, hx224_0, hl224_0, hi224_0⟩ := at_L3 HR1.out x5_1 p224 q224
        cases e224
        have HR224_0 := Aside0.mk hi224_0
        have HC224_0 := Aside0.mk hl224_0
        clear hi224_0 hl224_0
        replace p224 := eq_true p224
        replace q224 := eq_true q224
        go_wp2_with (first | (go_at_call 36; (with_reducible refine (plunderlaw23_sameInts.calls k1 _ _ (rd_L3 l0 x5_1) _ _ (rd_L3 l1 x5_1) true _ ?side1 ?side2 ?side3 ?side4 A7.out).mono ?_); (case side1 => repeat (first | exact HR223_0.out | (with_reducible refine Kd.C_alloc ?_ _) | (with_reducible refine Kd.C_drewN ?_ _) | (with_reducible refine Kd.C_drew ?_))); (case side2 => exact HC223_0.out); (case side3 => repeat (first | exact HR224_0.out | (with_reducible refine Kd.C_alloc ?_ _) | (with_reducible refine Kd.C_drewN ?_ _) | (with_reducible refine Kd.C_drew ?_))); (case side4 => exact HC224_0.out); rintro e w' ⟨rfl, ⟨nd, rfl⟩⟩; (try first | exact ⟨rfl, _, World.drewN_drewN _ _ _⟩ | exact ⟨rfl, _, Eq.trans (World.drewN_drewN _ _ _) (congrArg (World.drewN _) (Nat.add_assoc _ _ _))⟩)))
        repeat (go_quiet (first | (go_at_call 36; (with_reducible refine (plunderlaw23_sameInts.calls k1 _ _ (rd_L3 l0 x5_1) _ _ (rd_L3 l1 x5_1) true _ ?side1 ?side2 ?side3 ?side4 A7.out).mono ?_); (case side1 => repeat (first | exact HR223_0.out | (with_reducible refine Kd.C_alloc ?_ _) | (with_reducible refine Kd.C_drewN ?_ _) | (with_reducible refine Kd.C_drew ?_))); (case side2 => exact HC223_0.out); (case side3 => repeat (first | exact HR224_0.out | (with_reducible refine Kd.C_alloc ?_ _) | (with_reducible refine Kd.C_drewN ?_ _) | (with_reducible refine Kd.C_drew ?_))); (case side4 => exact HC224_0.out); rintro e w' ⟨rfl, ⟨nd, rfl⟩⟩; (try first | exact ⟨rfl, _, World.drewN_drewN _ _ _⟩ | exact ⟨rfl, _, Eq.trans (World.drewN_drewN _ _ _) (congrArg (World.drewN _) (Nat.add_assoc _ _ _))⟩))); try go_wp2_with (first | (go_at_call 36; (with_reducible refine (plunderlaw23_sameInts.calls k1 _ _ (rd_L3 l0 x5_1) _ _ (rd_L3 l1 x5_1) true _ ?side1 ?side2 ?side3 ?side4 A7.out).mono ?_); (case side1 => repeat (first | exact HR223_0.out | (with_reducible refine Kd.C_alloc ?_ _) | (with_reducible refine Kd.C_drewN ?_ _) | (with_reducible refine Kd.C_drew ?_))); (case side2 => exact HC223_0.out); (case side3 => repeat (first | exact HR224_0.out | (with_reducible refine Kd.C_alloc ?_ _) | (with_reducible refine Kd.C_drewN ?_ _) | (with_reducible refine Kd.C_drew ?_))); (case side4 => exact HC224_0.out); rintro e w' ⟨rfl, ⟨nd, rfl⟩⟩; (try first | exact ⟨rfl, _, World.drewN_drewN _ _ _⟩ | exact ⟨rfl, _, Eq.trans (World.drewN_drewN _ _ _) (congrArg (World.drewN _) (Nat.add_assoc _ _ _))⟩))))
        go_roundg k1
        case measure => have := HK1.out; omega
        case rel => exact ⟨(wrap64 (x5_1 + 1)), (rS), H', ⟨by have := HK1.out; omega⟩, by repeat (first | exact Drawn0.refl _ | apply Drawn0.step)⟩
       ·replace c8 := Bool.eq_false_iff.mpr c8
        subst c8
        have H1 : (some false) = some r := by rw [if_neg (show ¬ (false = true) by decide)] at H; exact H
        clear H
        have H := H1
        clear H1
        obtain rfl := Option.some.inj H
        have p223 : 0 ≤ (x5_1 : Int) := of_decide_eq_true (by first | (with_reducible assumption) | assumption)
        have q223 : x5_1 < (l0.length : Int) := of_decide_eq_true (by first | (with_reducible assumption) | assumption)
        obtain ⟨ad223, A223_0, c223_0, e223, hx223_0, hl223_0, hi223_0⟩ := at_L3 HR0.out x5_1 p223 q223
        cases e223
        have HR223_0 := Aside0.mk hi223_0
        have HC223_0 := Aside0.mk hl223_0
        clear hi223_0 hl223_0
        replace p223 := eq_true p223
        replace q223 := eq_true q223
        have p224 : 0 ≤ (x5_1 : Int) := of_decide_eq_true (by first | (with_reducible assumption) | assumption)
        have q224 : x5_1 < (l1.length : Int) := of_decide_eq_true (by first | (with_reducible assumption) | assumption)
        obtain ⟨ad224, A224_0, c224_0, e224, hx224_0, hl224_0, hi224_0⟩ := at_L3 HR1.out x5_1 p224 q224
        cases e224
        have HR224_0 := Aside0.mk hi224_0
        have HC224_0 := Aside0.mk hl224_0
        clear hi224_0 hl224_0
        replace p224 := eq_true p224
        replace q224 := eq_true q224
        go_wp2_with (first | (go_at_call 36; (with_reducible refine (plunderlaw23_sameInts.calls k1 _ _ (rd_L3 l0 x5_1) _ _ (rd_L3 l1 x5_1) false _ ?side1 ?side2 ?side3 ?side4 A7.out).mono ?_); (case side1 => repeat (first | exact HR223_0.out | (with_reducible refine Kd.C_alloc ?_ _) | (with_reducible refine Kd.C_drewN ?_ _) | (with_reducible refine Kd.C_drew ?_))); (case side2 => exact HC223_0.out); (case side3 => repeat (first | exact HR224_0.out | (with_reducible refine Kd.C_alloc ?_ _) | (with_reducible refine Kd.C_drewN ?_ _) | (with_reducible refine Kd.C_drew ?_))); (case side4 => exact HC224_0.out); rintro e w' ⟨rfl, ⟨nd, rfl⟩⟩; (try first | exact ⟨rfl, _, World.drewN_drewN _ _ _⟩ | exact ⟨rfl, _, Eq.trans (World.drewN_drewN _ _ _) (congrArg (World.drewN _) (Nat.add_assoc _ _ _))⟩)))
        repeat (go_quiet (first | (go_at_call 36; (with_reducible refine (plunderlaw23_sameInts.calls k1 _ _ (rd_L3 l0 x5_1) _ _ (rd_L3 l1 x5_1) false _ ?side1 ?side2 ?side3 ?side4 A7.out).mono ?_); (case side1 => repeat (first | exact HR223_0.out | (with_reducible refine Kd.C_alloc ?_ _) | (with_reducible refine Kd.C_drewN ?_ _) | (with_reducible refine Kd.C_drew ?_))); (case side2 => exact HC223_0.out); (case side3 => repeat (first | exact HR224_0.out | (with_reducible refine Kd.C_alloc ?_ _) | (with_reducible refine Kd.C_drewN ?_ _) | (with_reducible refine Kd.C_drew ?_))); (case side4 => exact HC224_0.out); rintro e w' ⟨rfl, ⟨nd, rfl⟩⟩; (try first | exact ⟨rfl, _, World.drewN_drewN _ _ _⟩ | exact ⟨rfl, _, Eq.trans (World.drewN_drewN _ _ _) (congrArg (World.drewN _) (Nat.add_assoc _ _ _))⟩))); try go_wp2_with (first | (go_at_call 36; (with_reducible refine (plunderlaw23_sameInts.calls k1 _ _ (rd_L3 l0 x5_1) _ _ (rd_L3 l1 x5_1) false _ ?side1 ?side2 ?side3 ?side4 A7.out).mono ?_); (case side1 => repeat (first | exact HR223_0.out | (with_reducible refine Kd.C_alloc ?_ _) | (with_reducible refine Kd.C_drewN ?_ _) | (with_reducible refine Kd.C_drew ?_))); (case side2 => exact HC223_0.out); (case side3 => repeat (first | exact HR224_0.out | (with_reducible refine Kd.C_alloc ?_ _) | (with_reducible refine Kd.C_drewN ?_ _) | (with_reducible refine Kd.C_drew ?_))); (case side4 => exact HC224_0.out); rintro e w' ⟨rfl, ⟨nd, rfl⟩⟩; (try first | exact ⟨rfl, _, World.drewN_drewN _ _ _⟩ | exact ⟨rfl, _, Eq.trans (World.drewN_drewN _ _ _) (congrArg (World.drewN _) (Nat.add_assoc _ _ _))⟩))))
        go_ret
        exact ⟨rS, by repeat (first | exact Drawn0.refl _ | apply Drawn0.step)⟩
      ·rw [if_neg c6] at H
       exact absurd H (by simp)
     ·rw [if_neg c5] at H
      exact absurd H (by simp)
    ·rw [if_neg c4] at H
     have c4b0 : decide (x5_1 < (l0.length : Int)) = false := decide_eq_false c4
     clear c4
     obtain rfl := Option.some.inj H
     go_wp2
     repeat (go_quiet (fail); try go_wp2)
     go_ret
     exact ⟨rS, by repeat (first | exact Drawn0.refl _ | apply Drawn0.step)⟩
 ·rw [if_neg c3] at H
  have c3b0 : ((l0.length : Int) == (l1.length : Int)) = false := beq_eq_false_iff_ne.mpr c3
  have c3b1 : ((l0.length : Int) != (l1.length : Int)) = true := bne_iff_ne.mpr c3
  have c3b2 : (l0.length == l1.length) = false := by first | simpa using c3 | (simp at c3 ⊢; omega)
  obtain rfl := Option.some.inj H
  go_enter Tryd.func38, Tryd.ntmps38
  go_wp2
  repeat (go_quiet (fail); try go_wp2)
  go_ret
  exact ⟨rS, by repeat (first | exact Drawn0.refl _ | apply Drawn0.step)⟩

def plunderlaw23_sameViews.f (k : Nat) (l0_0 : List Int) (a0_1 : Int) (l0_2 : List (S103)) (l0_3 : List (List Int)) (l1_0 : List Int) (a1_1 : Int) (l1_2 : List (S103)) (l1_3 : List (List Int)) : Option (Bool) := (plunderlaw23_sameInts.f k l0_0 l1_0).bind fun t228 => (if t228 = true then (if a0_1 = a1_1 then ((plunderlaw23_sameMerges.f k l0_2 l1_2).bind fun t229 => (if t229 = true then ((plunderlaw23_sameLooks.f k l0_3 l1_3).bind fun t230 => (some t230)) else (some false))) else (some false)) else (some false))
theorem plunderlaw23_sameViews.mono : ∀ a0 a1 a2 a3 a4 a5 a6 a7 k, LeO (plunderlaw23_sameViews.f k a0 a1 a2 a3 a4 a5 a6 a7) (plunderlaw23_sameViews.f (k + 1) a0 a1 a2 a3 a4 a5 a6 a7) := by
 intro a0 a1 a2 a3 a4 a5 a6 a7 k
 unfold plunderlaw23_sameViews.f
 repeat' first
   | (with_reducible exact plunderlaw23_sameInts.mono _ _ _)
   | (with_reducible exact plunderlaw23_sameLooks.mono _ _ _)
   | (with_reducible exact plunderlaw23_sameMerges.mono _ _ _)
   | (with_reducible exact LeO.refl _)
   | (with_reducible exact LeO.none _)
   | (with_reducible refine LeO.ite ?_ ?_)
   | (with_reducible refine LeO.bind ?_ (fun _ => ?_))
   | exact plunderlaw23_sameInts.mono _ _ _
   | exact plunderlaw23_sameLooks.mono _ _ _
   | exact plunderlaw23_sameMerges.mono _ _ _
   | exact LeO.none _
   | refine LeO.ite ?_ ?_
   | refine LeO.bind ?_ (fun _ => ?_)
set_option maxHeartbeats 8000000 in
set_option maxRecDepth 100000 in
theorem plunderlaw23_sameViews.calls (k : Nat) (A0_0 : Option Addr) (c0_0 : Nat) (l0_0 : List Int) (a0_1 : Int) (A0_2 : Option Addr) (c0_2 : Nat) (l0_2 : List (S103)) (A0_3 : Option Addr) (c0_3 : Nat) (l0_3 : List (List Int)) (A1_0 : Option Addr) (c1_0 : Nat) (l1_0 : List Int) (a1_1 : Int) (A1_2 : Option Addr) (c1_2 : Nat) (l1_2 : List (S103)) (A1_3 : Option Addr) (c1_3 : Nat) (l1_3 : List (List Int)) (r : Bool) (w : World) (hr0_0 : Kd.C (Kd.int .i64) w A0_0 l0_0.length l0_0) (hc0_0 : l0_0.length ≤ c0_0) (hr0_2 : Kd.C k103 w A0_2 l0_2.length l0_2) (hc0_2 : l0_2.length ≤ c0_2) (hr0_3 : Kd.C (Kd.slice 2 (Kd.int .i64)) w A0_3 l0_3.length l0_3) (hc0_3 : l0_3.length ≤ c0_3) (hr1_0 : Kd.C (Kd.int .i64) w A1_0 l1_0.length l1_0) (hc1_0 : l1_0.length ≤ c1_0) (hr1_2 : Kd.C k103 w A1_2 l1_2.length l1_2) (hc1_2 : l1_2.length ≤ c1_2) (hr1_3 : Kd.C (Kd.slice 2 (Kd.int .i64)) w A1_3 l1_3.length l1_3) (hc1_3 : l1_3.length ≤ c1_3) (h : plunderlaw23_sameViews.f k l0_0 a0_1 l0_2 l0_3 l1_0 a1_1 l1_2 l1_3 = some r) :
  Calls Tryd.prog 16 #[.agg #[.slice A0_0 l0_0.length c0_0, .int .i64 a0_1, .slice A0_2 l0_2.length c0_2, .slice A0_3 l0_3.length c0_3], .agg #[.slice A1_0 l1_0.length c1_0, .int .i64 a1_1, .slice A1_2 l1_2.length c1_2, .slice A1_3 l1_3.length c1_3]] w fun e w' => e = .returned (.bool r) ∧ Below w.heap.size w w' := by
 have hu41 := Tryd.underlying41
 have HR0_0 := Aside0.mk hr0_0
 have HC0_0 := Aside0.mk hc0_0
 clear hr0_0 hc0_0
 have HR0_2 := Aside0.mk hr0_2
 have HC0_2 := Aside0.mk hc0_2
 clear hr0_2 hc0_2
 have HR0_3 := Aside0.mk hr0_3
 have HC0_3 := Aside0.mk hc0_3
 clear hr0_3 hc0_3
 have HR1_0 := Aside0.mk hr1_0
 have HC1_0 := Aside0.mk hc1_0
 clear hr1_0 hc1_0
 have HR1_2 := Aside0.mk hr1_2
 have HC1_2 := Aside0.mk hc1_2
 clear hr1_2 hc1_2
 have HR1_3 := Aside0.mk hr1_3
 have HC1_3 := Aside0.mk hc1_3
 clear hr1_3 hc1_3
 have HB := Aside0.mk (Below.refl w.heap.size w)
 have H : ((plunderlaw23_sameInts.f k l0_0 l1_0).bind fun t228 => (if t228 = true then (if a0_1 = a1_1 then ((plunderlaw23_sameMerges.f k l0_2 l1_2).bind fun t229 => (if t229 = true then ((plunderlaw23_sameLooks.f k l0_3 l1_3).bind fun t230 => (some t230)) else (some false))) else (some false)) else (some false))) = some r := h
 clear h
 replace H := Option.bind_eq_some_iff.mp H
 obtain ⟨t228, A30, H⟩ := H
 replace H : (if t228 = true then (if a0_1 = a1_1 then ((plunderlaw23_sameMerges.f k l0_2 l1_2).bind fun t229 => (if t229 = true then ((plunderlaw23_sameLooks.f k l0_3 l1_3).bind fun t230 => (some t230)) else (some false))) else (some false)) else (some false)) = some r := H
 have A3 := Aside0.mk A30
 clear A30
 by_cases c4 : t228 = true
 ·subst c4
  have H1 : (if a0_1 = a1_1 then ((plunderlaw23_sameMerges.f k l0_2 l1_2).bind fun t229 => (if t229 = true then ((plunderlaw23_sameLooks.f k l0_3 l1_3).bind fun t230 => (some t230)) else (some false))) else (some false)) = some r := by rw [if_pos rfl] at H; exact H
  clear H
  have H := H1
  clear H1
  by_cases c5 : a0_1 = a1_1
  ·rw [if_pos c5] at H
   have c5b0 : (a0_1 == a1_1) = true := beq_iff_eq.mpr c5
   have c5b1 : (a0_1 != a1_1) = false := bne_eq_false_iff_eq.mpr c5
   clear c5
   replace H := Option.bind_eq_some_iff.mp H
   obtain ⟨t229, A60, H⟩ := H
   replace H : (if t229 = true then ((plunderlaw23_sameLooks.f k l0_3 l1_3).bind fun t230 => (some t230)) else (some false)) = some r := H
   have A6 := Aside0.mk A60
   clear A60
   by_cases c7 : t229 = true
   ·subst c7
    have H1 : ((plunderlaw23_sameLooks.f k l0_3 l1_3).bind fun t230 => (some t230)) = some r := by rw [if_pos rfl] at H; exact H
    clear H
    have H := H1
    clear H1
    replace H := Option.bind_eq_some_iff.mp H
    obtain ⟨t230, A80, H⟩ := H
    replace H : (some t230) = some r := H
    have A8 := Aside0.mk A80
    clear A80
    obtain rfl := Option.some.inj H
    go_enter Tryd.func16, Tryd.ntmps16
    go_wp2_with (first | ((with_reducible refine gate_dst (N := 2) rfl ?_); refine box_event ?hg (N := 2) ?hd (cs := #[.slice A0_0 l0_0.length c0_0, .int .i64 a0_1, .slice A0_2 l0_2.length c0_2, .slice A0_3 l0_3.length c0_3]) (t := 41) ?hr ?_; (case hd => rfl); (case hg => rfl); (case hr => first | (go_simp; done) | (go_simp; rfl)); intro gb226 hg w9 hbox hb; have n0_ := Aside0.mk (below_step (bB) hb); have n1_ := Aside0.mk (hbox); have n2_ := Aside0.mk ((by rw [hg]; exact (below_size (bB)) : w.heap.size ≤ gb226)); have n3_ := Aside0.mk ((by rw [hg]; exact (below_size (bB)) : w.heap.size ≤ gb226)); clear HB; have HB := n0_; have BK226 := n1_; have GW226 := n2_; have GE226 := n3_; clear n0_ n1_ n2_ n3_; clear hb hbox hg) | ((with_reducible refine gate_dst (N := 3) rfl ?_); refine box_event ?hg (N := 3) ?hd (cs := #[.slice A1_0 l1_0.length c1_0, .int .i64 a1_1, .slice A1_2 l1_2.length c1_2, .slice A1_3 l1_3.length c1_3]) (t := 41) ?hr ?_; (case hd => rfl); (case hg => rfl); (case hr => first | (go_simp; done) | (go_simp; rfl)); intro gb227 hg w10 hbox hb; have n0_ := Aside0.mk (blk_below (g := gb226) (o := .cells #[.slice A0_0 l0_0.length c0_0, .int .i64 a0_1, .slice A0_2 l0_2.length c0_2, .slice A0_3 l0_3.length c0_3] 41 (0, 0)) (bK BK226.out) hb); have n1_ := Aside0.mk (below_step (bB7) hb); have n2_ := Aside0.mk (hbox); have n3_ := Aside0.mk ((by rw [hg]; exact (below_size (bB7)) : w.heap.size ≤ gb227)); have n4_ := Aside0.mk ((by rw [hg]; exact (below_size (bB7)) : w.heap.size ≤ gb227)); have n5_ := Aside0.mk ((by rw [hg]; exact Nat.ne_of_lt (blk_lt (g := gb226) (o := .cells #[.slice A0_0 l0_0.length c0_0, .int .i64 a0_1, .slice A0_2 l0_2.length c0_2, .slice A0_3 l0_3.length c0_3] 41 (0, 0)) (bK BK226.out)) : gb226 ≠ gb227)); have n6_ := Aside0.mk ((by rw [hg]; exact Nat.ne_of_gt (blk_lt (g := gb226) (o := .cells #[.slice A0_0 l0_0.length c0_0, .int .i64 a0_1, .slice A0_2 l0_2.length c0_2, .slice A0_3 l0_3.length c0_3] 41 (0, 0)) (bK BK226.out)) : gb227 ≠ gb226)); clear BK226; clear HB; have BK226 := n0_; have HB := n1_; have BK227 := n2_; have GW227 := n3_; have GE227 := n4_; have NB226_227 := n5_; have NB227_226 := n6_; clear n0_ n1_ n2_ n3_ n4_ n5_ n6_; clear hb hbox hg; have hnb11 := NB226_227.out; have hnc11 := NB227_226.out; have hcz12_0 : w10.cell? ⟨gb226, 0, none⟩ = some (.slice A0_0 l0_0.length c0_0) := (blk_cell BK226.out 0).trans rfl; have hcz12_1 : w10.cell? ⟨gb226, 1, none⟩ = some (.int .i64 a0_1) := (blk_cell BK226.out 1).trans rfl; have hcz12_2 : w10.cell? ⟨gb226, 2, none⟩ = some (.slice A0_2 l0_2.length c0_2) := (blk_cell BK226.out 2).trans rfl; have hcz12_3 : w10.cell? ⟨gb226, 3, none⟩ = some (.slice A0_3 l0_3.length c0_3) := (blk_cell BK226.out 3).trans rfl; have hfz12_0 := blk_frozen BK226.out 0; have hfz12_1 := blk_frozen BK226.out 1; have hfz12_2 := blk_frozen BK226.out 2; have hfz12_3 := blk_frozen BK226.out 3; have hcz13_0 : w10.cell? ⟨gb227, 0, none⟩ = some (.slice A1_0 l1_0.length c1_0) := (blk_cell BK227.out 0).trans rfl; have hcz13_1 : w10.cell? ⟨gb227, 1, none⟩ = some (.int .i64 a1_1) := (blk_cell BK227.out 1).trans rfl; have hcz13_2 : w10.cell? ⟨gb227, 2, none⟩ = some (.slice A1_2 l1_2.length c1_2) := (blk_cell BK227.out 2).trans rfl; have hcz13_3 : w10.cell? ⟨gb227, 3, none⟩ = some (.slice A1_3 l1_3.length c1_3) := (blk_cell BK227.out 3).trans rfl; have hfz13_0 := blk_frozen BK227.out 0; have hfz13_1 := blk_frozen BK227.out 1; have hfz13_2 := blk_frozen BK227.out 2; have hfz13_3 := blk_frozen BK227.out 3) | ((with_reducible refine gate_callee (f := 36) rfl ?_); refine goesL_ (some 9) rfl rfl Tryd.func36 (by kernel_rfl) rfl #[.slice A0_0 l0_0.length c0_0, .slice A1_0 l1_0.length c1_0] rfl (by (try simp only [List.map_toArray, List.map_cons, List.map_nil]); first | done | rfl | (simp only [List.length_drop, List.length_take]; rfl)) ?_; (with_reducible refine (plunderlaw23_sameInts.calls k _ _ l0_0 _ _ l1_0 true _ ?side1 ?side2 ?side3 ?side4 A3.out).mono ?_); (case side1 => repeat (first | exact (Kd.C_below HR0_0.out HB.out) | (with_reducible refine Kd.C_alloc ?_ _) | (with_reducible refine Kd.C_drewN ?_ _) | (with_reducible refine Kd.C_drew ?_))); (case side2 => exact HC0_0.out); (case side3 => repeat (first | exact (Kd.C_below HR1_0.out HB.out) | (with_reducible refine Kd.C_alloc ?_ _) | (with_reducible refine Kd.C_drewN ?_ _) | (with_reducible refine Kd.C_drew ?_))); (case side4 => exact HC1_0.out); rintro e w' ⟨rfl, ⟨nd, rfl⟩⟩; refine ⟨_, rfl, ?_⟩) | (go_at_call 37; (with_reducible refine (plunderlaw23_sameMerges.calls k _ _ l0_2 _ _ l1_2 true _ ?side1 ?side2 ?side3 ?side4 A6.out).mono ?_); (case side1 => repeat (first | exact (Kd.C_below HR0_2.out (bB8)) | (with_reducible refine Kd.C_alloc ?_ _) | (with_reducible refine Kd.C_drewN ?_ _) | (with_reducible refine Kd.C_drew ?_))); (case side2 => exact HC0_2.out); (case side3 => repeat (first | exact (Kd.C_below HR1_2.out (bB8)) | (with_reducible refine Kd.C_alloc ?_ _) | (with_reducible refine Kd.C_drewN ?_ _) | (with_reducible refine Kd.C_drew ?_))); (case side4 => exact HC1_2.out); rintro e w' ⟨rfl, ⟨nd, rfl⟩⟩) | (go_at_call 38; (with_reducible refine (plunderlaw23_sameLooks.calls k _ _ l0_3 _ _ l1_3 t230 _ ?side1 ?side2 ?side3 ?side4 A8.out).mono ?_); (case side1 => repeat (first | exact (Kd.C_below HR0_3.out (bB8)) | (with_reducible refine Kd.C_alloc ?_ _) | (with_reducible refine Kd.C_drewN ?_ _) | (with_reducible refine Kd.C_drew ?_))); (case side2 => exact HC0_3.out); (case side3 => repeat (first | exact (Kd.C_below HR1_3.out (bB8)) | (with_reducible refine Kd.C_alloc ?_ _) | (with_reducible refine Kd.C_drewN ?_ _) | (with_reducible refine Kd.C_drew ?_))); (case side4 => exact HC1_3.out); rintro e w' ⟨rfl, ⟨nd, rfl⟩⟩))
    go_ret
    exact ⟨rR, bB8⟩
   ·replace c7 := Bool.eq_false_iff.mpr c7
    subst c7
    have H1 : (some false) = some r := by rw [if_neg (show ¬ (false = true) by decide)] at H; exact H
    clear H
    have H := H1
    clear H1
    obtain rfl := Option.some.inj H
    go_enter Tryd.func16, Tryd.ntmps16
    go_wp2_with (first | ((with_reducible refine gate_dst (N := 2) rfl ?_); refine box_event ?hg (N := 2) ?hd (cs := #[.slice A0_0 l0_0.length c0_0, .int .i64 a0_1, .slice A0_2 l0_2.length c0_2, .slice A0_3 l0_3.length c0_3]) (t := 41) ?hr ?_; (case hd => rfl); (case hg => rfl); (case hr => first | (go_simp; done) | (go_simp; rfl)); intro gb226 hg w14 hbox hb; have n0_ := Aside0.mk (below_step (bB) hb); have n1_ := Aside0.mk (hbox); have n2_ := Aside0.mk ((by rw [hg]; exact (below_size (bB)) : w.heap.size ≤ gb226)); have n3_ := Aside0.mk ((by rw [hg]; exact (below_size (bB)) : w.heap.size ≤ gb226)); clear HB; have HB := n0_; have BK226 := n1_; have GW226 := n2_; have GE226 := n3_; clear n0_ n1_ n2_ n3_; clear hb hbox hg) | ((with_reducible refine gate_dst (N := 3) rfl ?_); refine box_event ?hg (N := 3) ?hd (cs := #[.slice A1_0 l1_0.length c1_0, .int .i64 a1_1, .slice A1_2 l1_2.length c1_2, .slice A1_3 l1_3.length c1_3]) (t := 41) ?hr ?_; (case hd => rfl); (case hg => rfl); (case hr => first | (go_simp; done) | (go_simp; rfl)); intro gb227 hg w15 hbox hb; have n0_ := Aside0.mk (blk_below (g := gb226) (o := .cells #[.slice A0_0 l0_0.length c0_0, .int .i64 a0_1, .slice A0_2 l0_2.length c0_2, .slice A0_3 l0_3.length c0_3] 41 (0, 0)) (bK BK226.out) hb); have n1_ := Aside0.mk (below_step (bB7) hb); have n2_ := Aside0.mk (hbox); have n3_ := Aside0.mk ((by rw [hg]; exact (below_size (bB7)) : w.heap.size ≤ gb227)); have n4_ := Aside0.mk ((by rw [hg]; exact (below_size (bB7)) : w.heap.size ≤ gb227)); have n5_ := Aside0.mk ((by rw [hg]; exact Nat.ne_of_lt (blk_lt (g := gb226) (o := .cells #[.slice A0_0 l0_0.length c0_0, .int .i64 a0_1, .slice A0_2 l0_2.length c0_2, .slice A0_3 l0_3.length c0_3] 41 (0, 0)) (bK BK226.out)) : gb226 ≠ gb227)); have n6_ := Aside0.mk ((by rw [hg]; exact Nat.ne_of_gt (blk_lt (g := gb226) (o := .cells #[.slice A0_0 l0_0.length c0_0, .int .i64 a0_1, .slice A0_2 l0_2.length c0_2, .slice A0_3 l0_3.length c0_3] 41 (0, 0)) (bK BK226.out)) : gb227 ≠ gb226)); clear BK226; clear HB; have BK226 := n0_; have HB := n1_; have BK227 := n2_; have GW227 := n3_; have GE227 := n4_; have NB226_227 := n5_; have NB227_226 := n6_; clear n0_ n1_ n2_ n3_ n4_ n5_ n6_; clear hb hbox hg; have hnb16 := NB226_227.out; have hnc16 := NB227_226.out; have hcz17_0 : w15.cell? ⟨gb226, 0, none⟩ = some (.slice A0_0 l0_0.length c0_0) := (blk_cell BK226.out 0).trans rfl; have hcz17_1 : w15.cell? ⟨gb226, 1, none⟩ = some (.int .i64 a0_1) := (blk_cell BK226.out 1).trans rfl; have hcz17_2 : w15.cell? ⟨gb226, 2, none⟩ = some (.slice A0_2 l0_2.length c0_2) := (blk_cell BK226.out 2).trans rfl; have hcz17_3 : w15.cell? ⟨gb226, 3, none⟩ = some (.slice A0_3 l0_3.length c0_3) := (blk_cell BK226.out 3).trans rfl; have hfz17_0 := blk_frozen BK226.out 0; have hfz17_1 := blk_frozen BK226.out 1; have hfz17_2 := blk_frozen BK226.out 2; have hfz17_3 := blk_frozen BK226.out 3; have hcz18_0 : w15.cell? ⟨gb227, 0, none⟩ = some (.slice A1_0 l1_0.length c1_0) := (blk_cell BK227.out 0).trans rfl; have hcz18_1 : w15.cell? ⟨gb227, 1, none⟩ = some (.int .i64 a1_1) := (blk_cell BK227.out 1).trans rfl; have hcz18_2 : w15.cell? ⟨gb227, 2, none⟩ = some (.slice A1_2 l1_2.length c1_2) := (blk_cell BK227.out 2).trans rfl; have hcz18_3 : w15.cell? ⟨gb227, 3, none⟩ = some (.slice A1_3 l1_3.length c1_3) := (blk_cell BK227.out 3).trans rfl; have hfz18_0 := blk_frozen BK227.out 0; have hfz18_1 := blk_frozen BK227.out 1; have hfz18_2 := blk_frozen BK227.out 2; have hfz18_3 := blk_frozen BK227.out 3) | ((with_reducible refine gate_callee (f := 36) rfl ?_); refine goesL_ (some 9) rfl rfl Tryd.func36 (by kernel_rfl) rfl #[.slice A0_0 l0_0.length c0_0, .slice A1_0 l1_0.length c1_0] rfl (by (try simp only [List.map_toArray, List.map_cons, List.map_nil]); first | done | rfl | (simp only [List.length_drop, List.length_take]; rfl)) ?_; (with_reducible refine (plunderlaw23_sameInts.calls k _ _ l0_0 _ _ l1_0 true _ ?side1 ?side2 ?side3 ?side4 A3.out).mono ?_); (case side1 => repeat (first | exact (Kd.C_below HR0_0.out HB.out) | (with_reducible refine Kd.C_alloc ?_ _) | (with_reducible refine Kd.C_drewN ?_ _) | (with_reducible refine Kd.C_drew ?_))); (case side2 => exact HC0_0.out); (case side3 => repeat (first | exact (Kd.C_below HR1_0.out HB.out) | (with_reducible refine Kd.C_alloc ?_ _) | (with_reducible refine Kd.C_drewN ?_ _) | (with_reducible refine Kd.C_drew ?_))); (case side4 => exact HC1_0.out); rintro e w' ⟨rfl, ⟨nd, rfl⟩⟩; refine ⟨_, rfl, ?_⟩) | (go_at_call 37; (with_reducible refine (plunderlaw23_sameMerges.calls k _ _ l0_2 _ _ l1_2 false _ ?side1 ?side2 ?side3 ?side4 A6.out).mono ?_); (case side1 => repeat (first | exact (Kd.C_below HR0_2.out (bB8)) | (with_reducible refine Kd.C_alloc ?_ _) | (with_reducible refine Kd.C_drewN ?_ _) | (with_reducible refine Kd.C_drew ?_))); (case side2 => exact HC0_2.out); (case side3 => repeat (first | exact (Kd.C_below HR1_2.out (bB8)) | (with_reducible refine Kd.C_alloc ?_ _) | (with_reducible refine Kd.C_drewN ?_ _) | (with_reducible refine Kd.C_drew ?_))); (case side4 => exact HC1_2.out); rintro e w' ⟨rfl, ⟨nd, rfl⟩⟩))
    go_ret
    exact ⟨rR, bB8⟩
  ·rw [if_neg c5] at H
   have c5b0 : (a0_1 == a1_1) = false := beq_eq_false_iff_ne.mpr c5
   have c5b1 : (a0_1 != a1_1) = true := bne_iff_ne.mpr c5
   obtain rfl := Option.some.inj H
   go_enter Tryd.func16, Tryd.ntmps16
   go_wp2_with (first | ((with_reducible refine gate_dst (N := 2) rfl ?_); refine box_event ?hg (N := 2) ?hd (cs := #[.slice A0_0 l0_0.length c0_0, .int .i64 a0_1, .slice A0_2 l0_2.length c0_2, .slice A0_3 l0_3.length c0_3]) (t := 41) ?hr ?_; (case hd => rfl); (case hg => rfl); (case hr => first | (go_simp; done) | (go_simp; rfl)); intro gb226 hg w19 hbox hb; have n0_ := Aside0.mk (below_step (bB) hb); have n1_ := Aside0.mk (hbox); have n2_ := Aside0.mk ((by rw [hg]; exact (below_size (bB)) : w.heap.size ≤ gb226)); have n3_ := Aside0.mk ((by rw [hg]; exact (below_size (bB)) : w.heap.size ≤ gb226)); clear HB; have HB := n0_; have BK226 := n1_; have GW226 := n2_; have GE226 := n3_; clear n0_ n1_ n2_ n3_; clear hb hbox hg) | ((with_reducible refine gate_dst (N := 3) rfl ?_); refine box_event ?hg (N := 3) ?hd (cs := #[.slice A1_0 l1_0.length c1_0, .int .i64 a1_1, .slice A1_2 l1_2.length c1_2, .slice A1_3 l1_3.length c1_3]) (t := 41) ?hr ?_; (case hd => rfl); (case hg => rfl); (case hr => first | (go_simp; done) | (go_simp; rfl)); intro gb227 hg w20 hbox hb; have n0_ := Aside0.mk (blk_below (g := gb226) (o := .cells #[.slice A0_0 l0_0.length c0_0, .int .i64 a0_1, .slice A0_2 l0_2.length c0_2, .slice A0_3 l0_3.length c0_3] 41 (0, 0)) (bK BK226.out) hb); have n1_ := Aside0.mk (below_step (bB7) hb); have n2_ := Aside0.mk (hbox); have n3_ := Aside0.mk ((by rw [hg]; exact (below_size (bB7)) : w.heap.size ≤ gb227)); have n4_ := Aside0.mk ((by rw [hg]; exact (below_size (bB7)) : w.heap.size ≤ gb227)); have n5_ := Aside0.mk ((by rw [hg]; exact Nat.ne_of_lt (blk_lt (g := gb226) (o := .cells #[.slice A0_0 l0_0.length c0_0, .int .i64 a0_1, .slice A0_2 l0_2.length c0_2, .slice A0_3 l0_3.length c0_3] 41 (0, 0)) (bK BK226.out)) : gb226 ≠ gb227)); have n6_ := Aside0.mk ((by rw [hg]; exact Nat.ne_of_gt (blk_lt (g := gb226) (o := .cells #[.slice A0_0 l0_0.length c0_0, .int .i64 a0_1, .slice A0_2 l0_2.length c0_2, .slice A0_3 l0_3.length c0_3] 41 (0, 0)) (bK BK226.out)) : gb227 ≠ gb226)); clear BK226; clear HB; have BK226 := n0_; have HB := n1_; have BK227 := n2_; have GW227 := n3_; have GE227 := n4_; have NB226_227 := n5_; have NB227_226 := n6_; clear n0_ n1_ n2_ n3_ n4_ n5_ n6_; clear hb hbox hg; have hnb21 := NB226_227.out; have hnc21 := NB227_226.out; have hcz22_0 : w20.cell? ⟨gb226, 0, none⟩ = some (.slice A0_0 l0_0.length c0_0) := (blk_cell BK226.out 0).trans rfl; have hcz22_1 : w20.cell? ⟨gb226, 1, none⟩ = some (.int .i64 a0_1) := (blk_cell BK226.out 1).trans rfl; have hcz22_2 : w20.cell? ⟨gb226, 2, none⟩ = some (.slice A0_2 l0_2.length c0_2) := (blk_cell BK226.out 2).trans rfl; have hcz22_3 : w20.cell? ⟨gb226, 3, none⟩ = some (.slice A0_3 l0_3.length c0_3) := (blk_cell BK226.out 3).trans rfl; have hfz22_0 := blk_frozen BK226.out 0; have hfz22_1 := blk_frozen BK226.out 1; have hfz22_2 := blk_frozen BK226.out 2; have hfz22_3 := blk_frozen BK226.out 3; have hcz23_0 : w20.cell? ⟨gb227, 0, none⟩ = some (.slice A1_0 l1_0.length c1_0) := (blk_cell BK227.out 0).trans rfl; have hcz23_1 : w20.cell? ⟨gb227, 1, none⟩ = some (.int .i64 a1_1) := (blk_cell BK227.out 1).trans rfl; have hcz23_2 : w20.cell? ⟨gb227, 2, none⟩ = some (.slice A1_2 l1_2.length c1_2) := (blk_cell BK227.out 2).trans rfl; have hcz23_3 : w20.cell? ⟨gb227, 3, none⟩ = some (.slice A1_3 l1_3.length c1_3) := (blk_cell BK227.out 3).trans rfl; have hfz23_0 := blk_frozen BK227.out 0; have hfz23_1 := blk_frozen BK227.out 1; have hfz23_2 := blk_frozen BK227.out 2; have hfz23_3 := blk_frozen BK227.out 3) | ((with_reducible refine gate_callee (f := 36) rfl ?_); refine goesL_ (some 9) rfl rfl Tryd.func36 (by kernel_rfl) rfl #[.slice A0_0 l0_0.length c0_0, .slice A1_0 l1_0.length c1_0] rfl (by (try simp only [List.map_toArray, List.map_cons, List.map_nil]); first | done | rfl | (simp only [List.length_drop, List.length_take]; rfl)) ?_; (with_reducible refine (plunderlaw23_sameInts.calls k _ _ l0_0 _ _ l1_0 true _ ?side1 ?side2 ?side3 ?side4 A3.out).mono ?_); (case side1 => repeat (first | exact (Kd.C_below HR0_0.out HB.out) | (with_reducible refine Kd.C_alloc ?_ _) | (with_reducible refine Kd.C_drewN ?_ _) | (with_reducible refine Kd.C_drew ?_))); (case side2 => exact HC0_0.out); (case side3 => repeat (first | exact (Kd.C_below HR1_0.out HB.out) | (with_reducible refine Kd.C_alloc ?_ _) | (with_reducible refine Kd.C_drewN ?_ _) | (with_reducible refine Kd.C_drew ?_))); (case side4 => exact HC1_0.out); rintro e w' ⟨rfl, ⟨nd, rfl⟩⟩; refine ⟨_, rfl, ?_⟩))
   go_ret
   exact ⟨rR, bB8⟩
 ·replace c4 := Bool.eq_false_iff.mpr c4
  subst c4
  have H1 : (some false) = some r := by rw [if_neg (show ¬ (false = true) by decide)] at H; exact H
  clear H
  have H := H1
  clear H1
  obtain rfl := Option.some.inj H
  go_enter Tryd.func16, Tryd.ntmps16
  go_wp2_with (first | ((with_reducible refine gate_dst (N := 2) rfl ?_); refine box_event ?hg (N := 2) ?hd (cs := #[.slice A0_0 l0_0.length c0_0, .int .i64 a0_1, .slice A0_2 l0_2.length c0_2, .slice A0_3 l0_3.length c0_3]) (t := 41) ?hr ?_; (case hd => rfl); (case hg => rfl); (case hr => first | (go_simp; done) | (go_simp; rfl)); intro gb226 hg w24 hbox hb; have n0_ := Aside0.mk (below_step (bB) hb); have n1_ := Aside0.mk (hbox); have n2_ := Aside0.mk ((by rw [hg]; exact (below_size (bB)) : w.heap.size ≤ gb226)); have n3_ := Aside0.mk ((by rw [hg]; exact (below_size (bB)) : w.heap.size ≤ gb226)); clear HB; have HB := n0_; have BK226 := n1_; have GW226 := n2_; have GE226 := n3_; clear n0_ n1_ n2_ n3_; clear hb hbox hg) | ((with_reducible refine gate_dst (N := 3) rfl ?_); refine box_event ?hg (N := 3) ?hd (cs := #[.slice A1_0 l1_0.length c1_0, .int .i64 a1_1, .slice A1_2 l1_2.length c1_2, .slice A1_3 l1_3.length c1_3]) (t := 41) ?hr ?_; (case hd => rfl); (case hg => rfl); (case hr => first | (go_simp; done) | (go_simp; rfl)); intro gb227 hg w25 hbox hb; have n0_ := Aside0.mk (blk_below (g := gb226) (o := .cells #[.slice A0_0 l0_0.length c0_0, .int .i64 a0_1, .slice A0_2 l0_2.length c0_2, .slice A0_3 l0_3.length c0_3] 41 (0, 0)) (bK BK226.out) hb); have n1_ := Aside0.mk (below_step (bB7) hb); have n2_ := Aside0.mk (hbox); have n3_ := Aside0.mk ((by rw [hg]; exact (below_size (bB7)) : w.heap.size ≤ gb227)); have n4_ := Aside0.mk ((by rw [hg]; exact (below_size (bB7)) : w.heap.size ≤ gb227)); have n5_ := Aside0.mk ((by rw [hg]; exact Nat.ne_of_lt (blk_lt (g := gb226) (o := .cells #[.slice A0_0 l0_0.length c0_0, .int .i64 a0_1, .slice A0_2 l0_2.length c0_2, .slice A0_3 l0_3.length c0_3] 41 (0, 0)) (bK BK226.out)) : gb226 ≠ gb227)); have n6_ := Aside0.mk ((by rw [hg]; exact Nat.ne_of_gt (blk_lt (g := gb226) (o := .cells #[.slice A0_0 l0_0.length c0_0, .int .i64 a0_1, .slice A0_2 l0_2.length c0_2, .slice A0_3 l0_3.length c0_3] 41 (0, 0)) (bK BK226.out)) : gb227 ≠ gb226)); clear BK226; clear HB; have BK226 := n0_; have HB := n1_; have BK227 := n2_; have GW227 := n3_; have GE227 := n4_; have NB226_227 := n5_; have NB227_226 := n6_; clear n0_ n1_ n2_ n3_ n4_ n5_ n6_; clear hb hbox hg; have hnb26 := NB226_227.out; have hnc26 := NB227_226.out; have hcz27_0 : w25.cell? ⟨gb226, 0, none⟩ = some (.slice A0_0 l0_0.length c0_0) := (blk_cell BK226.out 0).trans rfl; have hcz27_1 : w25.cell? ⟨gb226, 1, none⟩ = some (.int .i64 a0_1) := (blk_cell BK226.out 1).trans rfl; have hcz27_2 : w25.cell? ⟨gb226, 2, none⟩ = some (.slice A0_2 l0_2.length c0_2) := (blk_cell BK226.out 2).trans rfl; have hcz27_3 : w25.cell? ⟨gb226, 3, none⟩ = some (.slice A0_3 l0_3.length c0_3) := (blk_cell BK226.out 3).trans rfl; have hfz27_0 := blk_frozen BK226.out 0; have hfz27_1 := blk_frozen BK226.out 1; have hfz27_2 := blk_frozen BK226.out 2; have hfz27_3 := blk_frozen BK226.out 3; have hcz28_0 : w25.cell? ⟨gb227, 0, none⟩ = some (.slice A1_0 l1_0.length c1_0) := (blk_cell BK227.out 0).trans rfl; have hcz28_1 : w25.cell? ⟨gb227, 1, none⟩ = some (.int .i64 a1_1) := (blk_cell BK227.out 1).trans rfl; have hcz28_2 : w25.cell? ⟨gb227, 2, none⟩ = some (.slice A1_2 l1_2.length c1_2) := (blk_cell BK227.out 2).trans rfl; have hcz28_3 : w25.cell? ⟨gb227, 3, none⟩ = some (.slice A1_3 l1_3.length c1_3) := (blk_cell BK227.out 3).trans rfl; have hfz28_0 := blk_frozen BK227.out 0; have hfz28_1 := blk_frozen BK227.out 1; have hfz28_2 := blk_frozen BK227.out 2; have hfz28_3 := blk_frozen BK227.out 3) | ((with_reducible refine gate_callee (f := 36) rfl ?_); refine goesL_ (some 9) rfl rfl Tryd.func36 (by kernel_rfl) rfl #[.slice A0_0 l0_0.length c0_0, .slice A1_0 l1_0.length c1_0] rfl (by (try simp only [List.map_toArray, List.map_cons, List.map_nil]); first | done | rfl | (simp only [List.length_drop, List.length_take]; rfl)) ?_; (with_reducible refine (plunderlaw23_sameInts.calls k _ _ l0_0 _ _ l1_0 false _ ?side1 ?side2 ?side3 ?side4 A3.out).mono ?_); (case side1 => repeat (first | exact (Kd.C_below HR0_0.out HB.out) | (with_reducible refine Kd.C_alloc ?_ _) | (with_reducible refine Kd.C_drewN ?_ _) | (with_reducible refine Kd.C_drew ?_))); (case side2 => exact HC0_0.out); (case side3 => repeat (first | exact (Kd.C_below HR1_0.out HB.out) | (with_reducible refine Kd.C_alloc ?_ _) | (with_reducible refine Kd.C_drewN ?_ _) | (with_reducible refine Kd.C_drew ?_))); (case side4 => exact HC1_0.out); rintro e w' ⟨rfl, ⟨nd, rfl⟩⟩; refine ⟨_, rfl, ?_⟩))
  go_ret
  exact ⟨rR, bB8⟩

end Go.Proofs.YtamfkglnejhjdaaDoor.HLaw
namespace Go.Proofs.YtamfkglnejhjdaaDoor.PHyperFold
open Go.Proofs.YtamfkglnejhjdaaDoorW.PrintLast (kR rR rS bB bB4 pS tS lb sI sZ sC)
open Go.RowKit Go.Proofs.YtamfkglnejhjdaaDoorW.PrintWords Go.Proofs.YtamfkglnejhjdaaDoorW.PrintLast Go.Proofs.YtamfkglnejhjdaaDoorW.PrintMore
attribute [local go_sem] max2_int min2_int max_two min_two max_three min_three max_four min_four   -- for this text's walks alone
set_option linter.unusedVariables false
set_option linter.unusedSimpArgs false

mutual
def plunderlaw23_over.l0 : Nat → Int → List (S46) → List Bool → List Int → Option (Int × (List (S46)) × List Bool × List Int)
 | 0, _, _, _, _ => none
 | k + 1, x3, x231000, x231001, x231002 => if x3 < (x231000.length : Int) then (if 0 ≤ x3 then (plunderlaw23_over.l0 k (wrap64 (x3 + 1)) (x231000.set (x3 : Int).toNat (⟨(rd_T46 x231000 x3).f0, Go.bits .xor .i64 ((rd_T46 x231000 x3).f1) 1⟩ : S46)) x231001 x231002) else (none)) else (plunderlaw23_over.l1 k 0 x231000 x231001 x231002)
def plunderlaw23_over.l1 : Nat → Int → List (S46) → List Bool → List Int → Option (Int × (List (S46)) × List Bool × List Int)
 | 0, _, _, _, _ => none
 | k + 1, x4, x231000, x231001, x231002 => if x4 < (x231001.length : Int) then (if 0 ≤ x4 then (plunderlaw23_over.l1 k (wrap64 (x4 + 1)) x231000 (x231001.set (x4 : Int).toNat (!(rdOf false x231001 x4))) x231002) else (none)) else (plunderlaw23_over.l2 k 0 x231000 x231001 x231002)
def plunderlaw23_over.l2 : Nat → Int → List (S46) → List Bool → List Int → Option (Int × (List (S46)) × List Bool × List Int)
 | 0, _, _, _, _ => none
 | k + 1, x5, x231000, x231001, x231002 => if x5 < (x231002.length : Int) then (if 0 ≤ x5 then (plunderlaw23_over.l2 k (wrap64 (x5 + 1)) x231000 x231001 (x231002.set (x5 : Int).toNat (Go.bits .xor .i64 (rd x231002 x5) 1))) else (none)) else (some (wrap64 ((wrap64 ((x231000.length : Int) + (x231001.length : Int))) + (x231002.length : Int)), x231000, x231001, x231002))
end
def plunderlaw23_over.f (k : Nat) (l0_0 : List (S46)) (l0_1 : List Bool) (l0_2 : List Int) : Option (Int × (List (S46)) × List Bool × List Int) := plunderlaw23_over.l0 k 0 l0_0 l0_1 l0_2
theorem plunderlaw23_over.mono_l : ∀ k, (∀ y0 y1 y2 y3, LeO (plunderlaw23_over.l0 k y0 y1 y2 y3) (plunderlaw23_over.l0 (k + 1) y0 y1 y2 y3)) ∧ (∀ y0 y1 y2 y3, LeO (plunderlaw23_over.l1 k y0 y1 y2 y3) (plunderlaw23_over.l1 (k + 1) y0 y1 y2 y3)) ∧ (∀ y0 y1 y2 y3, LeO (plunderlaw23_over.l2 k y0 y1 y2 y3) (plunderlaw23_over.l2 (k + 1) y0 y1 y2 y3))
 | 0 => ⟨fun _ _ _ _ r h => by simp [plunderlaw23_over.l0] at h, fun _ _ _ _ r h => by simp [plunderlaw23_over.l1] at h, fun _ _ _ _ r h => by simp [plunderlaw23_over.l2] at h⟩
 | k + 1 => by
  obtain ⟨ih0, ih1, ih2⟩ := plunderlaw23_over.mono_l k
  refine ⟨?_, ?_, ?_⟩
  ·intro y0 y1 y2 y3
   unfold plunderlaw23_over.l0
   repeat' first
   | (with_reducible exact ih0 _ _ _ _)
   | (with_reducible exact ih1 _ _ _ _)
   | (with_reducible exact ih2 _ _ _ _)
   | (with_reducible exact LeO.refl _)
   | (with_reducible exact LeO.none _)
   | (with_reducible refine LeO.ite ?_ ?_)
   | (with_reducible refine LeO.bind ?_ (fun _ => ?_))
   | exact ih0 _ _ _ _
   | exact ih1 _ _ _ _
   | exact ih2 _ _ _ _
   | exact LeO.none _
   | refine LeO.ite ?_ ?_
   | refine LeO.bind ?_ (fun _ => ?_)
  ·intro y0 y1 y2 y3
   unfold plunderlaw23_over.l1
   repeat' first
   | (with_reducible exact ih0 _ _ _ _)
   | (with_reducible exact ih1 _ _ _ _)
   | (with_reducible exact ih2 _ _ _ _)
   | (with_reducible exact LeO.refl _)
   | (with_reducible exact LeO.none _)
   | (with_reducible refine LeO.ite ?_ ?_)
   | (with_reducible refine LeO.bind ?_ (fun _ => ?_))
   | exact ih0 _ _ _ _
   | exact ih1 _ _ _ _
   | exact ih2 _ _ _ _
   | exact LeO.none _
   | refine LeO.ite ?_ ?_
   | refine LeO.bind ?_ (fun _ => ?_)
  ·intro y0 y1 y2 y3
   unfold plunderlaw23_over.l2
   repeat' first
   | (with_reducible exact ih0 _ _ _ _)
   | (with_reducible exact ih1 _ _ _ _)
   | (with_reducible exact ih2 _ _ _ _)
   | (with_reducible exact LeO.refl _)
   | (with_reducible exact LeO.none _)
   | (with_reducible refine LeO.ite ?_ ?_)
   | (with_reducible refine LeO.bind ?_ (fun _ => ?_))
   | exact ih0 _ _ _ _
   | exact ih1 _ _ _ _
   | exact ih2 _ _ _ _
   | exact LeO.none _
   | refine LeO.ite ?_ ?_
   | refine LeO.bind ?_ (fun _ => ?_)
theorem plunderlaw23_over.mono : ∀ a0 a1 a2 k, LeO (plunderlaw23_over.f k a0 a1 a2) (plunderlaw23_over.f (k + 1) a0 a1 a2) := by
 intro a0 a1 a2 k
 obtain ⟨ih0, ih1, ih2⟩ := plunderlaw23_over.mono_l k
 unfold plunderlaw23_over.f
 repeat' first
   | (with_reducible exact ih0 _ _ _ _)
   | (with_reducible exact ih1 _ _ _ _)
   | (with_reducible exact ih2 _ _ _ _)
   | (with_reducible exact LeO.refl _)
   | (with_reducible exact LeO.none _)
   | (with_reducible refine LeO.ite ?_ ?_)
   | (with_reducible refine LeO.bind ?_ (fun _ => ?_))
   | exact ih0 _ _ _ _
   | exact ih1 _ _ _ _
   | exact ih2 _ _ _ _
   | exact LeO.none _
   | refine LeO.ite ?_ ?_
   | refine LeO.bind ?_ (fun _ => ?_)
def plunderlaw23_over.T4 : Bool × List (List Nat × List Nat) := (true, [([], []), ([0], [0]), ([], []), ([], []), ([3], [3]), ([], []), ([4, 5], [4, 5]), ([6], [6]), ([7], [7]), ([8], [8]), ([1, 2, 0, 1, 2, 3, 4, 5, 6, 7, 8, 9], [1, 2]), ([10, 0, 1, 2, 3, 4, 5, 6, 7, 8, 9], [10]), ([11, 9, 0, 1, 2, 3, 4, 5, 6, 7, 8, 9], [9, 11])])
def plunderlaw23_over.B4 : List Nat := [0, 1, 0, 0, 8, 0, 56, 120, 248, 504, 1023, 2047, 4095]
theorem plunderlaw23_over.tab4 : rtab .any (opsOf Tryd.f10 4) = plunderlaw23_over.T4 := by kernel_rfl
theorem plunderlaw23_over.bits4 : waitsOk plunderlaw23_over.T4.2 plunderlaw23_over.B4 = true := by kernel_rfl
def plunderlaw23_over.T8 : Bool × List (List Nat × List Nat) := (true, [([], []), ([0], [0]), ([], []), ([], []), ([3], [3]), ([], []), ([4, 5], [4, 5]), ([6], [6]), ([7], [7]), ([1, 2, 0, 1, 2, 3, 4, 5, 6, 7, 8], [1, 2]), ([9, 8, 0, 1, 2, 3, 4, 5, 6, 7, 8], [8, 9])])
def plunderlaw23_over.B8 : List Nat := [0, 1, 0, 0, 8, 0, 56, 120, 248, 511, 1023]
theorem plunderlaw23_over.tab8 : rtab .any (opsOf Tryd.f10 8) = plunderlaw23_over.T8 := by kernel_rfl
theorem plunderlaw23_over.bits8 : waitsOk plunderlaw23_over.T8.2 plunderlaw23_over.B8 = true := by kernel_rfl
def plunderlaw23_over.T12 : Bool × List (List Nat × List Nat) := (true, [([], []), ([0], [0]), ([], []), ([], []), ([3], [3]), ([], []), ([4, 5], [4, 5]), ([6], [6]), ([7], [7]), ([1, 2, 0, 1, 2, 3, 4, 5, 6, 7, 8], [1, 2]), ([9, 8, 0, 1, 2, 3, 4, 5, 6, 7, 8], [8, 9])])
def plunderlaw23_over.B12 : List Nat := [0, 1, 0, 0, 8, 0, 56, 120, 248, 511, 1023]
theorem plunderlaw23_over.tab12 : rtab .any (opsOf Tryd.f10 12) = plunderlaw23_over.T12 := by kernel_rfl
theorem plunderlaw23_over.bits12 : waitsOk plunderlaw23_over.T12.2 plunderlaw23_over.B12 = true := by kernel_rfl
set_option maxHeartbeats 8000000 in
set_option maxRecDepth 100000 in
theorem plunderlaw23_over.calls (k : Nat) (P0_0_ : Nat → Prop) (u9000_ : Value) (l0_0 : List (S46)) (P0_1_ : Nat → Prop) (u9001_ : Value) (l0_1 : List Bool) (P0_2_ : Nat → Prop) (u9002_ : Value) (l0_2 : List Int) (r1 : Int) (r2 : List (S46)) (r3 : List Bool) (r4 : List Int) (w0 w : World) (hB : Below w0.heap.size w0 w) (ho0_0 : Kd.R k46 46 w w0.heap.size P0_0_ u9000_ l0_0) (ho0_1 : Kd.R Kd.bool 4 w w0.heap.size P0_1_ u9001_ l0_1) (ho0_2 : Kd.R (Kd.int .i64) 3 w w0.heap.size P0_2_ u9002_ l0_2) (h : plunderlaw23_over.f k l0_0 l0_1 l0_2 = some (r1, r2, r3, r4)) :
  Calls Tryd.prog 10 #[.agg #[u9000_, u9001_, u9002_]] w fun e w' => e = .returned (.int .i64 r1) ∧ Kd.R k46 46 w' w0.heap.size (fun k_ => ((P0_0_ k_ ∨ P0_1_ k_ ∨ P0_2_ k_) ∨ w.heap.size ≤ k_)) u9000_ r2 ∧ Kd.R Kd.bool 4 w' w0.heap.size (fun k_ => ((P0_0_ k_ ∨ P0_1_ k_ ∨ P0_2_ k_) ∨ w.heap.size ≤ k_)) u9001_ r3 ∧ Kd.R (Kd.int .i64) 3 w' w0.heap.size (fun k_ => ((P0_0_ k_ ∨ P0_1_ k_ ∨ P0_2_ k_) ∨ w.heap.size ≤ k_)) u9002_ r4 ∧ Below w0.heap.size w0 w' ∧ Kept w w' (fun k_ => P0_0_ k_ ∨ P0_1_ k_ ∨ P0_2_ k_) := by
 have hu26 := Tryd.underlying26
 have HO0_0 := Aside0.mk (show Kd.R k46 46 w w0.heap.size (fun k_ => ((P0_0_ k_ ∨ P0_1_ k_ ∨ P0_2_ k_) ∨ w.heap.size ≤ k_)) u9000_ l0_0 from Kd.R_mono ho0_0 (fun k_ hk => (.inl (.inl hk))))
 have HO0_1 := Aside0.mk (show Kd.R Kd.bool 4 w w0.heap.size (fun k_ => ((P0_0_ k_ ∨ P0_1_ k_ ∨ P0_2_ k_) ∨ w.heap.size ≤ k_)) u9001_ l0_1 from Kd.R_mono ho0_1 (fun k_ hk => (.inl (.inr (.inl hk)))))
 have HO0_2 := Aside0.mk (show Kd.R (Kd.int .i64) 3 w w0.heap.size (fun k_ => ((P0_0_ k_ ∨ P0_1_ k_ ∨ P0_2_ k_) ∨ w.heap.size ≤ k_)) u9002_ l0_2 from Kd.R_mono ho0_2 (fun k_ hk => (.inl (.inr (.inr hk)))))
 have HK := Aside0.mk (Kept.refl w (fun k_ => P0_0_ k_ ∨ P0_1_ k_ ∨ P0_2_ k_))
 have HW0 := Aside0.mk hB.size
 have HB := Aside0.mk hB
 clear hB
 have H : (plunderlaw23_over.l0 k 0 l0_0 l0_1 l0_2) = some (r1, r2, r3, r4) := h
 clear h
 have H' := Aside0.mk H
 clear H
 obtain ⟨Ao2, co2, eo2⟩ := Kd.R_slice HO0_0.out
 subst eo2
 obtain ⟨Ao3, co3, eo3⟩ := Kd.R_slice HO0_1.out
 subst eo3
 obtain ⟨Ao4, co4, eo4⟩ := Kd.R_slice HO0_2.out
 subst eo4
 go_enter Tryd.func10, Tryd.ntmps10
 go_wp2_with (first | ((with_reducible refine gate_dst (N := 1) rfl ?_); refine box_event ?hg (N := 1) ?hd (cs := #[.slice Ao2 l0_0.length co2, .slice Ao3 l0_1.length co3, .slice Ao4 l0_2.length co4]) (t := 26) ?hr ?_; (case hd => rfl); (case hg => rfl); (case hr => first | (go_simp; done) | (go_simp; rfl)); intro gb230 hg w5 hbox hb; have n0_ := Aside0.mk (Kd.R_below (kR HO0_0.out) hb); have n1_ := Aside0.mk (Kd.R_below (kR HO0_1.out) hb); have n2_ := Aside0.mk (Kd.R_below (kR HO0_2.out) hb); have n3_ := Aside0.mk (Kept.below (S := (fun k_ => P0_0_ k_ ∨ P0_1_ k_ ∨ P0_2_ k_)) (by repeat (first | (with_reducible first | exact HK.out | apply Kept.alloc | apply Kept.drewN | apply Kept.drew) | exact HK.out)) hb); have n4_ := Aside0.mk (below_step (bB) hb); have n5_ := Aside0.mk (hbox); have n6_ := Aside0.mk ((by rw [hg]; exact (by first | exact HK.out.1 | exact (show Kept w _ (fun k_ => P0_0_ k_ ∨ P0_1_ k_ ∨ P0_2_ k_) from by repeat (first | (with_reducible first | exact HK.out | apply Kept.alloc | apply Kept.drewN | apply Kept.drew) | exact HK.out)).1) : w.heap.size ≤ gb230)); have n7_ := Aside0.mk ((by rw [hg]; exact (below_size (bB)) : w0.heap.size ≤ gb230)); clear HO0_0; clear HO0_1; clear HO0_2; clear HK; clear HB; have HO0_0 := n0_; have HO0_1 := n1_; have HO0_2 := n2_; have HK := n3_; have HB := n4_; have BK230 := n5_; have GW230 := n6_; have GE230 := n7_; clear n0_ n1_ n2_ n3_ n4_ n5_ n6_ n7_; clear hb hbox hg))
 go_loopg [3] k (fun kq v3 w' => ∃ (x3_1 : Int) (x231000_1 : List (S46)), v3 = .int .i64 x3_1 ∧ Aside0 (plunderlaw23_over.l0 kq x3_1 x231000_1 l0_1 l0_2 = some (r1, r2, r3, r4)) ∧ Aside0 (kq ≤ k) ∧ Aside0 (Kd.R k46 46 w' w0.heap.size (fun k_ => ((P0_0_ k_ ∨ P0_1_ k_ ∨ P0_2_ k_) ∨ w.heap.size ≤ k_)) (.slice Ao2 l0_0.length co2) x231000_1) ∧ Aside0 (Kd.R Kd.bool 4 w' w0.heap.size (fun k_ => ((P0_0_ k_ ∨ P0_1_ k_ ∨ P0_2_ k_) ∨ w.heap.size ≤ k_)) (.slice Ao3 l0_1.length co3) l0_1) ∧ Aside0 (Kd.R (Kd.int .i64) 3 w' w0.heap.size (fun k_ => ((P0_0_ k_ ∨ P0_1_ k_ ∨ P0_2_ k_) ∨ w.heap.size ≤ k_)) (.slice Ao4 l0_2.length co4) l0_2) ∧ Aside0 (w'.heap[gb230]? = some (.cells #[(.slice Ao2 l0_0.length co2), (.slice Ao3 l0_1.length co3), (.slice Ao4 l0_2.length co4)] 26 (0, 0))) ∧ Aside0 (Kept w w' (fun k_ => P0_0_ k_ ∨ P0_1_ k_ ∨ P0_2_ k_)) ∧ Aside0 (Below w0.heap.size w0 w'))
 case atStart => exact ⟨(0), (l0_0), (rS), H', ⟨Nat.le_refl _⟩, ⟨by (with_reducible repeat (first | apply Kd.R_alloc | apply Kd.R_drewN | apply Kd.R_drew)); exact HO0_0.out⟩, ⟨by (with_reducible repeat (first | apply Kd.R_alloc | apply Kd.R_drewN | apply Kd.R_drew)); exact HO0_1.out⟩, ⟨by (with_reducible repeat (first | apply Kd.R_alloc | apply Kd.R_drewN | apply Kd.R_drew)); exact HO0_2.out⟩, ⟨by (with_reducible repeat (first | refine blk_drewN ?_ _ | refine blk_drew ?_ | refine blk_alloc ?_ _)); exact BK230.out⟩, ⟨by repeat (first | (with_reducible first | exact HK.out | apply Kept.alloc | apply Kept.drewN | apply Kept.drew | refine Kept.setCell ?_ (.inr GW230.out) _) | exact HK.out)⟩, ⟨bB4⟩⟩
 case round =>
  clear H'
  try clear c1
  try clear p2
  obtain ⟨x3_1, x231000_1, rfl, HA, HK1, HO_231000, HO_231001, HO_231002, BK230, HK, HB⟩ := hrel
  have hl231000_1 := (Kd.R_reads' HO_231000.out).1
  rw [hl231000_1] at HO_231000
  (try simp only [hl231000_1])
  (try simp only [hl231000_1] at BK230)
  (try simp only [hl231000_1] at HO_231001)
  (try simp only [hl231000_1] at HO_231002)
  cases gk with
  | zero => exact absurd HA.out (by simp [plunderlaw23_over.l0])
  | succ k1 =>
   have H := HA.out
   clear HA
   simp only [plunderlaw23_over.l0] at H
   by_cases c6 : x3_1 < (x231000_1.length : Int)
   ·rw [if_pos c6] at H
    have c6b0 : decide (x3_1 < (x231000_1.length : Int)) = true := decide_eq_true c6
    clear c6
    by_cases c7 : 0 ≤ x3_1
    ·rw [if_pos c7] at H
     have c7b0 : decide (0 ≤ x3_1) = true := decide_eq_true c7
     clear c7
     obtain ⟨y232, hy232⟩ : ∃ y_ : List (S46), y_ = (x231000_1.set (x3_1 : Int).toNat (⟨(rd_T46 x231000_1 x3_1).f0, Go.bits .xor .i64 ((rd_T46 x231000_1 x3_1).f1) 1⟩ : S46)) := ⟨_, rfl⟩
     replace H : (plunderlaw23_over.l0 k1 (wrap64 (x3_1 + 1)) y232 l0_1 l0_2) = some (r1, r2, r3, r4) := by first | (rw [hy232]; with_reducible exact H) | (have H2_ := (Option.bind_some _ _).symm.trans H; rw [hy232]; with_reducible exact H2_) | (have H2_ := (Option.bind_some _ _).symm.trans H; with_reducible exact H2_) | with_reducible exact H | (rw [hy232]; exact H) | exact H
     have Ny232 := Aside0.mk hy232
     clear hy232
     have H' := Aside0.mk H
     clear H
     have hcz9_0 : wr.cell? ⟨gb230, 0, none⟩ = some (.slice Ao2 x231000_1.length co2) := (blk_cell BK230.out 0).trans rfl
     have hcz9_1 : wr.cell? ⟨gb230, 1, none⟩ = some (.slice Ao3 l0_1.length co3) := (blk_cell BK230.out 1).trans rfl
     have hcz9_2 : wr.cell? ⟨gb230, 2, none⟩ = some (.slice Ao4 l0_2.length co4) := (blk_cell BK230.out 2).trans rfl
     have hfz9_0 := blk_frozen BK230.out 0
     have hfz9_1 := blk_frozen BK230.out 1
     have hfz9_2 := blk_frozen BK230.out 2
     try go_wp2
     have n0_ := Aside0.mk (Kd.R_drew HO_231000.out)
     have n1_ := Aside0.mk (Kd.R_drew HO_231001.out)
     have n2_ := Aside0.mk (Kd.R_drew HO_231002.out)
     have n3_ := Aside0.mk (blk_drew BK230.out)
     have n4_ := Aside0.mk (Kept.drew HK.out)
     have n5_ := Aside0.mk (below_drew1 HB.out)
     clear HO_231000
     clear HO_231001
     clear HO_231002
     clear BK230
     clear HK
     clear HB
     have HO_231000 := n0_
     have HO_231001 := n1_
     have HO_231002 := n2_
     have BK230 := n3_
     have HK := n4_
     have HB := n5_
     clear n0_ n1_ n2_ n3_ n4_ n5_
     have p231 : 0 ≤ (x3_1 : Int) := of_decide_eq_true (by first | (with_reducible assumption) | assumption)
     have q231 : x3_1 < (x231000_1.length : Int) := of_decide_eq_true (by first | (with_reducible assumption) | assumption)
     obtain ⟨ad231, e231, hx231_0, hx231_1⟩ := at_T46 (Kd.R_reads' HO_231000.out).2.2 x3_1 p231 q231
     cases e231
     replace p231 := eq_true p231
     replace q231 := eq_true q231
     have p8 : 0 ≤ (x3_1 : Int) := of_decide_eq_true (by first | (with_reducible assumption) | assumption)
     have q8 : (x3_1 : Int) < ((x231000_1.length : Int) : Int) := of_decide_eq_true (by first | (with_reducible assumption) | assumption)
     obtain ⟨go8, co8, eo8, gb8, gl8, cl8, HG8⟩ := Kd.R_form HO_231000.out (by omega)
     (first | cases eo8 | (injection eo8 with ea_ en_ ec_; (first | subst ea_ | (injection ea_ with ea_; subst ea_)); subst ec_; clear en_))
     have GB8 := Aside0.mk gb8
     have GG8 := Aside0.mk HG8
     clear gb8 gl8 HG8
     have HMgo8 := Aside0.mk (show ((P0_0_ go8 ∨ P0_1_ go8 ∨ P0_2_ go8) ∨ w.heap.size ≤ go8) from (HO_231000.out.1 _ rfl))
     (first | simp only [add_plain] at hx231_0 | skip)
     (first | simp only [add_plain] at hx231_1 | skip)
     obtain ⟨ce8, hcl8, hM8, hcc8, hfr8⟩ := Kd.R_elem HO_231000.out z46 (x3_1 : Int) p8 q8
     obtain rfl := k46_openM hM8
     have hx8_0 : World.cell? _ ⟨go8, (x3_1 : Int).toNat * 2, none⟩ = some (.int .i64 ((rd_T46 x231000_1 x3_1).f0)) := hcc8 0 _ rfl
     have hx8_1 : World.cell? _ ⟨go8, (x3_1 : Int).toNat * 2 + 1, none⟩ = some (.int .i64 ((rd_T46 x231000_1 x3_1).f1)) := hcc8 1 _ rfl
     have hf8_0 : World.frozen? _ ⟨go8, (x3_1 : Int).toNat * 2, none⟩ = false := hfr8 0
     have hf8_1 : World.frozen? _ ⟨go8, (x3_1 : Int).toNat * 2 + 1, none⟩ = false := hfr8 1
     clear hcl8 hcc8 hfr8 hM8
     replace p8 := eq_true p8
     replace q8 := eq_true q8
     obtain ⟨ce11, hcl11, hM11, hcc11, hfr11⟩ := Kd.R_elem HO_231000.out z46 (x3_1 : Int) (of_decide_eq_true (by first | (with_reducible assumption) | assumption)) (by have h_ : (x3_1 : Int) < ((x231000_1.length : Int) : Int) := of_decide_eq_true (by first | (with_reducible assumption) | assumption); first | exact h_ | (have e_ := (Kd.R_reads' HO_231000.out).1; omega) | simpa using h_)
     obtain rfl := k46_openM hM11
     have HP11 := (Kd.R_seg HO_231000.out (x3_1 : Int) (of_decide_eq_true (by first | (with_reducible assumption) | assumption)) (by have h_ : (x3_1 : Int) < ((x231000_1.length : Int) : Int) := of_decide_eq_true (by first | (with_reducible assumption) | assumption); first | exact h_ | (have e_ := (Kd.R_reads' HO_231000.out).1; omega) | simpa using h_) (seg := [.int .i64 (Go.bits .xor .i64 ((rd_T46 x231000_1 x3_1).f1) 1)]) (j := 1) hcl11 hcc11 (show 2 ≤ 2 from by decide) (x' := (⟨(rd_T46 x231000_1 x3_1).f0, Go.bits .xor .i64 ((rd_T46 x231000_1 x3_1).f1) 1⟩ : S46)) (k46_mkM _ _ _ (⟨(rd_T46 x231000_1 x3_1).f0, Go.bits .xor .i64 ((rd_T46 x231000_1 x3_1).f1) 1⟩ : S46) ) (fun _ hk => hk)).1
     rw [← Ny232.out] at HP11
     have HQ11 := Aside0.mk HP11
     clear hcl11 hcc11 hfr11 hM11 HP11
     refine start_ (n := 13) (S := fun w' => w'.cell? ⟨gb230, 0, none⟩ = some (.slice (some ⟨go8, 0, none⟩) x231000_1.length co2) ∧ w'.cell? ⟨gb230, 1, none⟩ = some (.slice Ao3 l0_1.length co3) ∧ w'.cell? ⟨gb230, 2, none⟩ = some (.slice Ao4 l0_2.length co4) ∧ w'.cell? ⟨go8, ((x3_1).toNat * 2), none⟩ = some (.int .i64 ((rd_T46 x231000_1 x3_1).f0)) ∧ w'.cell? ⟨go8, ((x3_1).toNat * 2) + 1, none⟩ = some (.int .i64 ((rd_T46 x231000_1 x3_1).f1))) (ds := [12]) (lb 13 0) (by kernel_rfl) rfl rfl ⟨(blk_cell BK230.out 0).trans rfl, (blk_cell BK230.out 1).trans rfl, (blk_cell BK230.out 2).trans rfl, hx231_0, hx231_1⟩ (fun hHeld => ?_); refine with_tabW plunderlaw23_over.tab4 plunderlaw23_over.bits4 (fun HT_ HW_ => ?_)
     generalize wr.drew = w10 at HO_231000 HO_231001 HO_231002 BK230 HK HB GG8 HQ11 hf8_0 hf8_1 hx231_0 hx231_1 hx8_0 hx8_1 hHeld ⊢
     refine pS 0 13 1 13 HT_.out ?_
     refine pS 2 15 5 13 HT_.out ?_
     refine pS 3 16 13 13 HT_.out ?_
     refine pS 5 18 45 13 HT_.out ?_
     refine tS 1 14 47 13 HT_.out HW_.out hHeld ?_
     refine tS 4 17 63 13 HT_.out HW_.out hHeld ?_
     refine pS 6 19 127 13 HT_.out ?_
     refine pS 7 20 255 13 HT_.out ?_
     refine tS 8 21 511 13 HT_.out HW_.out hHeld ?_
     refine pS 9 22 1023 13 HT_.out ?_
     refine pS 10 23 2047 13 HT_.out ?_
     refine pS 11 24 4095 13 HT_.out ?_
     refine last_ (i := 12) (N := none) (lb 13 8191) rfl rfl (one_of HT_.out (by kernel_rfl)) (by decide) (fun K hK => ?_)
     refine skip_ (w1 := ?_) (by rfl) rfl ?_ ?_
     rotate_left
     ·go_simp
      rfl
     refine hK.out _ _ ?_
     clear hK K
     refine done_ (done_of HT_.out (by kernel_rfl)) ?_
     try go_wp2
     (try simp only [← hl231000_1])
     go_roundg k1
     case measure => have := HK1.out; omega
     case rel => exact ⟨(wrap64 (x3_1 + 1)), (y232), (rS), H', ⟨by have := HK1.out; omega⟩, ⟨by (try simp only [hl231000_1]); (with_reducible repeat (first | apply Kd.R_alloc | apply Kd.R_drewN | apply Kd.R_drew)); exact HQ11.out⟩, ⟨by (try simp only [hl231000_1]); (with_reducible repeat (first | apply Kd.R_alloc | apply Kd.R_drewN | apply Kd.R_drew)); exact Kd.R_mono (Kd.R_far (p := ⟨go8, (x3_1 : Int).toNat * 2 + 1, none⟩) (Kd.R_types HO_231001.out GG8.out (by decide)) (fun _ hk => hk.2) (.int .i64 (Go.bits .xor .i64 ((rd_T46 x231000_1 x3_1).f1) 1))) (fun _ hk => hk.1)⟩, ⟨by (try simp only [hl231000_1]); (with_reducible repeat (first | apply Kd.R_alloc | apply Kd.R_drewN | apply Kd.R_drew)); exact Kd.R_mono (Kd.R_far (p := ⟨go8, (x3_1 : Int).toNat * 2 + 1, none⟩) (Kd.R_types HO_231002.out GG8.out (by decide)) (fun _ hk => hk.2) (.int .i64 (Go.bits .xor .i64 ((rd_T46 x231000_1 x3_1).f1) 1))) (fun _ hk => hk.1)⟩, ⟨by (try simp only [hl231000_1]); (with_reducible repeat (first | refine blk_drewN ?_ _ | refine blk_drew ?_ | refine blk_alloc ?_ _)); refine blk_far ?_ (by have h_ := Kd.R_ne HO_231000.out BK230.out (by decide); intro e_; exact h_ (by rw [e_]; rfl)) _; (with_reducible repeat (first | refine blk_drewN ?_ _ | refine blk_drew ?_ | refine blk_alloc ?_ _)); exact BK230.out⟩, ⟨by repeat (first | (with_reducible first | exact HK.out | apply Kept.alloc | apply Kept.drewN | apply Kept.drew | refine Kept.setCell ?_ HMgo8.out _ | refine Kept.setCell ?_ (.inr GW230.out) _) | exact HK.out)⟩, ⟨by repeat (first | (with_reducible first | exact HB.out | apply below_alloc | apply pw_below_drewN | apply below_drew1 | refine below_set ?_ GB8.out | refine below_set ?_ GE230.out) | exact HB.out)⟩⟩
    ·rw [if_neg c7] at H
     exact absurd H (by simp)
   ·rw [if_neg c6] at H
    have c6b0 : decide (x3_1 < (x231000_1.length : Int)) = false := decide_eq_false c6
    clear c6
    have H' := Aside0.mk H
    clear H
    have hcz12_0 : wr.cell? ⟨gb230, 0, none⟩ = some (.slice Ao2 x231000_1.length co2) := (blk_cell BK230.out 0).trans rfl
    have hcz12_1 : wr.cell? ⟨gb230, 1, none⟩ = some (.slice Ao3 l0_1.length co3) := (blk_cell BK230.out 1).trans rfl
    have hcz12_2 : wr.cell? ⟨gb230, 2, none⟩ = some (.slice Ao4 l0_2.length co4) := (blk_cell BK230.out 2).trans rfl
    have hfz12_0 := blk_frozen BK230.out 0
    have hfz12_1 := blk_frozen BK230.out 1
    have hfz12_2 := blk_frozen BK230.out 2
    go_wp2
    go_loopg [4] k1 (fun kq v4 w' => ∃ (x4_2 : Int) (x231001_2 : List Bool), v4 = .int .i64 x4_2 ∧ Aside0 (plunderlaw23_over.l1 kq x4_2 x231000_1 x231001_2 l0_2 = some (r1, r2, r3, r4)) ∧ Aside0 (kq ≤ k1) ∧ Aside0 (Kd.R k46 46 w' w0.heap.size (fun k_ => ((P0_0_ k_ ∨ P0_1_ k_ ∨ P0_2_ k_) ∨ w.heap.size ≤ k_)) (.slice Ao2 x231000_1.length co2) x231000_1) ∧ Aside0 (Kd.R Kd.bool 4 w' w0.heap.size (fun k_ => ((P0_0_ k_ ∨ P0_1_ k_ ∨ P0_2_ k_) ∨ w.heap.size ≤ k_)) (.slice Ao3 l0_1.length co3) x231001_2) ∧ Aside0 (Kd.R (Kd.int .i64) 3 w' w0.heap.size (fun k_ => ((P0_0_ k_ ∨ P0_1_ k_ ∨ P0_2_ k_) ∨ w.heap.size ≤ k_)) (.slice Ao4 l0_2.length co4) l0_2) ∧ Aside0 (w'.heap[gb230]? = some (.cells #[(.slice Ao2 x231000_1.length co2), (.slice Ao3 l0_1.length co3), (.slice Ao4 l0_2.length co4)] 26 (0, 0))) ∧ Aside0 (Kept w w' (fun k_ => P0_0_ k_ ∨ P0_1_ k_ ∨ P0_2_ k_)) ∧ Aside0 (Below w0.heap.size w0 w'))
    case atStart => exact ⟨(0), (l0_1), (rS), H', ⟨Nat.le_refl _⟩, ⟨by (try simp only [hl231000_1]); (with_reducible repeat (first | apply Kd.R_alloc | apply Kd.R_drewN | apply Kd.R_drew)); exact HO_231000.out⟩, ⟨by (try simp only [hl231000_1]); (with_reducible repeat (first | apply Kd.R_alloc | apply Kd.R_drewN | apply Kd.R_drew)); exact HO_231001.out⟩, ⟨by (try simp only [hl231000_1]); (with_reducible repeat (first | apply Kd.R_alloc | apply Kd.R_drewN | apply Kd.R_drew)); exact HO_231002.out⟩, ⟨by (try simp only [hl231000_1]); (with_reducible repeat (first | refine blk_drewN ?_ _ | refine blk_drew ?_ | refine blk_alloc ?_ _)); exact BK230.out⟩, ⟨by repeat (first | (with_reducible first | exact HK.out | apply Kept.alloc | apply Kept.drewN | apply Kept.drew | refine Kept.setCell ?_ (.inr GW230.out) _) | exact HK.out)⟩, ⟨bB4⟩⟩
    case round =>
     clear H'
     try clear c1
     try clear p2
     try clear q2
     try clear hx2
     try clear c6
     try clear c6b0
     try clear p6
     try clear c7
     try clear c7b0
     try clear c8
     try clear p8
     try clear q8
     try clear hx8
     try clear hf8
     try clear c10
     try clear c11
     try clear hcz12_0
     try clear hcz12_1
     try clear hcz12_2
     try clear hcz9_0
     try clear hcz9_1
     try clear hcz9_2
     try clear hfz12_0
     try clear hfz12_1
     try clear hfz12_2
     try clear hfz9_0
     try clear hfz9_1
     try clear hfz9_2
     try clear hx231_0
     try clear hx231_1
     try clear hx8_0
     try clear hx8_1
     try clear p2
     try clear p231
     try clear p8
     try clear q231
     try clear q8
     obtain ⟨x4_2, x231001_2, rfl, HA, HK2, HO_231000, HO_231001, HO_231002, BK230, HK, HB⟩ := hrel
     have hl231001_2 := (Kd.R_reads' HO_231001.out).1
     rw [hl231001_2] at HO_231001
     (try simp only [hl231001_2])
     (try simp only [hl231001_2] at BK230)
     (try simp only [hl231001_2] at HO_231000)
     (try simp only [hl231001_2] at HO_231002)
     cases gk with
     | zero => exact absurd HA.out (by simp [plunderlaw23_over.l1])
     | succ k2 =>
      have H := HA.out
      clear HA
      simp only [plunderlaw23_over.l1] at H
      by_cases c13 : x4_2 < (x231001_2.length : Int)
      ·rw [if_pos c13] at H
       have c13b0 : decide (x4_2 < (x231001_2.length : Int)) = true := decide_eq_true c13
       clear c13
       by_cases c14 : 0 ≤ x4_2
       ·rw [if_pos c14] at H
        have c14b0 : decide (0 ≤ x4_2) = true := decide_eq_true c14
        clear c14
        obtain ⟨y234, hy234⟩ : ∃ y_ : List Bool, y_ = (x231001_2.set (x4_2 : Int).toNat (!(rdOf false x231001_2 x4_2))) := ⟨_, rfl⟩
        replace H : (plunderlaw23_over.l1 k2 (wrap64 (x4_2 + 1)) x231000_1 y234 l0_2) = some (r1, r2, r3, r4) := by first | (rw [hy234]; with_reducible exact H) | (have H2_ := (Option.bind_some _ _).symm.trans H; rw [hy234]; with_reducible exact H2_) | (have H2_ := (Option.bind_some _ _).symm.trans H; with_reducible exact H2_) | with_reducible exact H | (rw [hy234]; exact H) | exact H
        have Ny234 := Aside0.mk hy234
        clear hy234
        have H' := Aside0.mk H
        clear H
        have hcz16_0 : wr.cell? ⟨gb230, 0, none⟩ = some (.slice Ao2 x231000_1.length co2) := (blk_cell BK230.out 0).trans rfl
        have hcz16_1 : wr.cell? ⟨gb230, 1, none⟩ = some (.slice Ao3 x231001_2.length co3) := (blk_cell BK230.out 1).trans rfl
        have hcz16_2 : wr.cell? ⟨gb230, 2, none⟩ = some (.slice Ao4 l0_2.length co4) := (blk_cell BK230.out 2).trans rfl
        have hfz16_0 := blk_frozen BK230.out 0
        have hfz16_1 := blk_frozen BK230.out 1
        have hfz16_2 := blk_frozen BK230.out 2
        try go_wp2
        have n0_ := Aside0.mk (Kd.R_drew HO_231000.out)
        have n1_ := Aside0.mk (Kd.R_drew HO_231001.out)
        have n2_ := Aside0.mk (Kd.R_drew HO_231002.out)
        have n3_ := Aside0.mk (blk_drew BK230.out)
        have n4_ := Aside0.mk (Kept.drew HK.out)
        have n5_ := Aside0.mk (below_drew1 HB.out)
        clear HO_231000
        clear HO_231001
        clear HO_231002
        clear BK230
        clear HK
        clear HB
        have HO_231000 := n0_
        have HO_231001 := n1_
        have HO_231002 := n2_
        have BK230 := n3_
        have HK := n4_
        have HB := n5_
        clear n0_ n1_ n2_ n3_ n4_ n5_
        have p233 : 0 ≤ (x4_2 : Int) := of_decide_eq_true (by first | (with_reducible assumption) | assumption)
        have q233 : x4_2 < (x231001_2.length : Int) := of_decide_eq_true (by first | (with_reducible assumption) | assumption)
        obtain ⟨ad233, e233, hx233_0⟩ := Kd.at_bool (Kd.R_reads' HO_231001.out).2.2 x4_2 p233 q233
        cases e233
        replace p233 := eq_true p233
        replace q233 := eq_true q233
        have p15 : 0 ≤ (x4_2 : Int) := of_decide_eq_true (by first | (with_reducible assumption) | assumption)
        have q15 : (x4_2 : Int) < ((x231001_2.length : Int) : Int) := of_decide_eq_true (by first | (with_reducible assumption) | assumption)
        obtain ⟨go15, co15, eo15, gb15, gl15, cl15, HG15⟩ := Kd.R_form HO_231001.out (by omega)
        (first | cases eo15 | (injection eo15 with ea_ en_ ec_; (first | subst ea_ | (injection ea_ with ea_; subst ea_)); subst ec_; clear en_))
        have GB15 := Aside0.mk gb15
        have GG15 := Aside0.mk HG15
        clear gb15 gl15 HG15
        have HMgo15 := Aside0.mk (show ((P0_0_ go15 ∨ P0_1_ go15 ∨ P0_2_ go15) ∨ w.heap.size ≤ go15) from (HO_231001.out.1 _ rfl))
        (first | simp only [add_plain] at hx233_0 | skip)
        obtain ⟨hx15_0, hf15_0⟩ := Kd.R_celln false HO_231001.out (x4_2 : Int) p15 q15
        replace p15 := eq_true p15
        replace q15 := eq_true q15
        have HP18 := Kd.R_putn HO_231001.out (x4_2 : Int) (!(rdOf false x231001_2 x4_2))
        rw [← Ny234.out] at HP18
        have HQ18 := Aside0.mk HP18
        clear HP18
        refine start_ (n := 11) (S := fun w' => w'.cell? ⟨gb230, 0, none⟩ = some (.slice Ao2 x231000_1.length co2) ∧ w'.cell? ⟨gb230, 1, none⟩ = some (.slice (some ⟨go15, 0, none⟩) x231001_2.length co3) ∧ w'.cell? ⟨gb230, 2, none⟩ = some (.slice Ao4 l0_2.length co4) ∧ w'.cell? ⟨go15, (x4_2).toNat, none⟩ = some (.bool (rdOf false x231001_2 x4_2))) (ds := [10]) (lb 11 0) (by kernel_rfl) rfl rfl ⟨(blk_cell BK230.out 0).trans rfl, (blk_cell BK230.out 1).trans rfl, (blk_cell BK230.out 2).trans rfl, hx233_0⟩ (fun hHeld => ?_); refine with_tabW plunderlaw23_over.tab8 plunderlaw23_over.bits8 (fun HT_ HW_ => ?_)
        generalize wr.drew = w17 at HO_231000 HO_231001 HO_231002 BK230 HK HB GG15 HQ18 hf15_0 hx15_0 hx233_0 hHeld ⊢
        refine pS 0 32 1 11 HT_.out ?_
        refine pS 2 34 5 11 HT_.out ?_
        refine pS 3 35 13 11 HT_.out ?_
        refine pS 5 37 45 11 HT_.out ?_
        refine tS 1 33 47 11 HT_.out HW_.out hHeld ?_
        refine tS 4 36 63 11 HT_.out HW_.out hHeld ?_
        refine pS 6 38 127 11 HT_.out ?_
        refine tS 7 39 255 11 HT_.out HW_.out hHeld ?_
        refine pS 8 40 511 11 HT_.out ?_
        refine pS 9 41 1023 11 HT_.out ?_
        refine last_ (i := 10) (N := none) (lb 11 2047) rfl rfl (one_of HT_.out (by kernel_rfl)) (by decide) (fun K hK => ?_)
        refine skip_ (w1 := ?_) (by rfl) rfl ?_ ?_
        rotate_left
        ·go_simp
         rfl
        refine hK.out _ _ ?_
        clear hK K
        refine done_ (done_of HT_.out (by kernel_rfl)) ?_
        try go_wp2
        (try simp only [← hl231001_2])
        go_roundg k2
        case measure => have := HK1.out; have := HK2.out; omega
        case rel => exact ⟨(wrap64 (x4_2 + 1)), (y234), (rS), H', ⟨by have := HK1.out; have := HK2.out; omega⟩, ⟨by (try simp only [hl231000_1]); (try simp only [hl231001_2]); (with_reducible repeat (first | apply Kd.R_alloc | apply Kd.R_drewN | apply Kd.R_drew)); exact Kd.R_mono (Kd.R_far (p := ⟨go15, (x4_2 : Int).toNat, none⟩) (Kd.R_types HO_231000.out GG15.out (by decide)) (fun _ hk => hk.2) (.bool (!(rdOf false x231001_2 x4_2)))) (fun _ hk => hk.1)⟩, ⟨by (try simp only [hl231000_1]); (try simp only [hl231001_2]); (with_reducible repeat (first | apply Kd.R_alloc | apply Kd.R_drewN | apply Kd.R_drew)); exact HQ18.out⟩, ⟨by (try simp only [hl231000_1]); (try simp only [hl231001_2]); (with_reducible repeat (first | apply Kd.R_alloc | apply Kd.R_drewN | apply Kd.R_drew)); exact Kd.R_mono (Kd.R_far (p := ⟨go15, (x4_2 : Int).toNat, none⟩) (Kd.R_types HO_231002.out GG15.out (by decide)) (fun _ hk => hk.2) (.bool (!(rdOf false x231001_2 x4_2)))) (fun _ hk => hk.1)⟩, ⟨by (try simp only [hl231000_1]); (try simp only [hl231001_2]); (with_reducible repeat (first | refine blk_drewN ?_ _ | refine blk_drew ?_ | refine blk_alloc ?_ _)); refine blk_far ?_ (by have h_ := Kd.R_ne HO_231001.out BK230.out (by decide); intro e_; exact h_ (by rw [e_]; rfl)) _; (with_reducible repeat (first | refine blk_drewN ?_ _ | refine blk_drew ?_ | refine blk_alloc ?_ _)); exact BK230.out⟩, ⟨by repeat (first | (with_reducible first | exact HK.out | apply Kept.alloc | apply Kept.drewN | apply Kept.drew | refine Kept.setCell ?_ HMgo15.out _ | refine Kept.setCell ?_ (.inr GW230.out) _) | exact HK.out)⟩, ⟨by repeat (first | (with_reducible first | exact HB.out | apply below_alloc | apply pw_below_drewN | apply below_drew1 | refine below_set ?_ GB15.out | refine below_set ?_ GE230.out) | exact HB.out)⟩⟩
       ·rw [if_neg c14] at H
        exact absurd H (by simp)
      ·rw [if_neg c13] at H
       have c13b0 : decide (x4_2 < (x231001_2.length : Int)) = false := decide_eq_false c13
       clear c13
       have H' := Aside0.mk H
       clear H
       have hcz19_0 : wr.cell? ⟨gb230, 0, none⟩ = some (.slice Ao2 x231000_1.length co2) := (blk_cell BK230.out 0).trans rfl
       have hcz19_1 : wr.cell? ⟨gb230, 1, none⟩ = some (.slice Ao3 x231001_2.length co3) := (blk_cell BK230.out 1).trans rfl
       have hcz19_2 : wr.cell? ⟨gb230, 2, none⟩ = some (.slice Ao4 l0_2.length co4) := (blk_cell BK230.out 2).trans rfl
       have hfz19_0 := blk_frozen BK230.out 0
       have hfz19_1 := blk_frozen BK230.out 1
       have hfz19_2 := blk_frozen BK230.out 2
       go_wp2
       go_loopg [5] k2 (fun kq v5 w' => ∃ (x5_3 : Int) (x231002_3 : List Int), v5 = .int .i64 x5_3 ∧ Aside0 (plunderlaw23_over.l2 kq x5_3 x231000_1 x231001_2 x231002_3 = some (r1, r2, r3, r4)) ∧ Aside0 (kq ≤ k2) ∧ Aside0 (Kd.R k46 46 w' w0.heap.size (fun k_ => ((P0_0_ k_ ∨ P0_1_ k_ ∨ P0_2_ k_) ∨ w.heap.size ≤ k_)) (.slice Ao2 x231000_1.length co2) x231000_1) ∧ Aside0 (Kd.R Kd.bool 4 w' w0.heap.size (fun k_ => ((P0_0_ k_ ∨ P0_1_ k_ ∨ P0_2_ k_) ∨ w.heap.size ≤ k_)) (.slice Ao3 x231001_2.length co3) x231001_2) ∧ Aside0 (Kd.R (Kd.int .i64) 3 w' w0.heap.size (fun k_ => ((P0_0_ k_ ∨ P0_1_ k_ ∨ P0_2_ k_) ∨ w.heap.size ≤ k_)) (.slice Ao4 l0_2.length co4) x231002_3) ∧ Aside0 (w'.heap[gb230]? = some (.cells #[(.slice Ao2 x231000_1.length co2), (.slice Ao3 x231001_2.length co3), (.slice Ao4 l0_2.length co4)] 26 (0, 0))) ∧ Aside0 (Kept w w' (fun k_ => P0_0_ k_ ∨ P0_1_ k_ ∨ P0_2_ k_)) ∧ Aside0 (Below w0.heap.size w0 w'))
       case atStart => exact ⟨(0), (l0_2), (rS), H', ⟨Nat.le_refl _⟩, ⟨by (try simp only [hl231000_1]); (try simp only [hl231001_2]); (with_reducible repeat (first | apply Kd.R_alloc | apply Kd.R_drewN | apply Kd.R_drew)); exact HO_231000.out⟩, ⟨by (try simp only [hl231000_1]); (try simp only [hl231001_2]); (with_reducible repeat (first | apply Kd.R_alloc | apply Kd.R_drewN | apply Kd.R_drew)); exact HO_231001.out⟩, ⟨by (try simp only [hl231000_1]); (try simp only [hl231001_2]); (with_reducible repeat (first | apply Kd.R_alloc | apply Kd.R_drewN | apply Kd.R_drew)); exact HO_231002.out⟩, ⟨by (try simp only [hl231000_1]); (try simp only [hl231001_2]); (with_reducible repeat (first | refine blk_drewN ?_ _ | refine blk_drew ?_ | refine blk_alloc ?_ _)); exact BK230.out⟩, ⟨by repeat (first | (with_reducible first | exact HK.out | apply Kept.alloc | apply Kept.drewN | apply Kept.drew | refine Kept.setCell ?_ (.inr GW230.out) _) | exact HK.out)⟩, ⟨bB4⟩⟩
       case round =>
        clear H'
        try clear c1
        try clear p1
        try clear q1
        try clear hx1
        try clear hf1
        try clear p2
        try clear q2
        try clear hx2
        try clear c6
        try clear c6b0
        try clear p6
        try clear c7
        try clear c7b0
        try clear c8
        try clear p8
        try clear q8
        try clear hx8
        try clear hf8
        try clear c10
        try clear c11
        try clear c13
        try clear c13b0
        try clear c14
        try clear c14b0
        try clear p15
        try clear q15
        try clear hx15
        try clear hf15
        try clear hcz12_0
        try clear hcz12_1
        try clear hcz12_2
        try clear hcz16_0
        try clear hcz16_1
        try clear hcz16_2
        try clear hcz19_0
        try clear hcz19_1
        try clear hcz19_2
        try clear hcz9_0
        try clear hcz9_1
        try clear hcz9_2
        try clear hfz12_0
        try clear hfz12_1
        try clear hfz12_2
        try clear hfz16_0
        try clear hfz16_1
        try clear hfz16_2
        try clear hfz19_0
        try clear hfz19_1
        try clear hfz19_2
        try clear hfz9_0
        try clear hfz9_1
        try clear hfz9_2
        try clear hx15_0
        try clear hx231_0
        try clear hx231_1
        try clear hx233_0
        try clear hx8_0
        try clear hx8_1
        try clear p15
        try clear p2
        try clear p231
        try clear p233
        try clear p6
        try clear p8
        try clear q15
        try clear q2
        try clear q231
        try clear q233
        try clear q8
        obtain ⟨x5_3, x231002_3, rfl, HA, HK3, HO_231000, HO_231001, HO_231002, BK230, HK, HB⟩ := hrel
        have hl231002_3 := (Kd.R_reads' HO_231002.out).1
        rw [hl231002_3] at HO_231002
        (try simp only [hl231002_3])
        (try simp only [hl231002_3] at BK230)
        (try simp only [hl231002_3] at HO_231000)
        (try simp only [hl231002_3] at HO_231001)
        cases gk with
        | zero => exact absurd HA.out (by simp [plunderlaw23_over.l2])
        | succ k3 =>
         have H := HA.out
         clear HA
         simp only [plunderlaw23_over.l2] at H
         by_cases c20 : x5_3 < (x231002_3.length : Int)
         ·rw [if_pos c20] at H
          have c20b0 : decide (x5_3 < (x231002_3.length : Int)) = true := decide_eq_true c20
          clear c20
          by_cases c21 : 0 ≤ x5_3
          ·rw [if_pos c21] at H
           have c21b0 : decide (0 ≤ x5_3) = true := decide_eq_true c21
           clear c21
           obtain ⟨y236, hy236⟩ : ∃ y_ : List Int, y_ = (x231002_3.set (x5_3 : Int).toNat (Go.bits .xor .i64 (rd x231002_3 x5_3) 1)) := ⟨_, rfl⟩
           replace H : (plunderlaw23_over.l2 k3 (wrap64 (x5_3 + 1)) x231000_1 x231001_2 y236) = some (r1, r2, r3, r4) := by first | (rw [hy236]; with_reducible exact H) | (have H2_ := (Option.bind_some _ _).symm.trans H; rw [hy236]; with_reducible exact H2_) | (have H2_ := (Option.bind_some _ _).symm.trans H; with_reducible exact H2_) | with_reducible exact H | (rw [hy236]; exact H) | exact H
           have Ny236 := Aside0.mk hy236
           clear hy236
           have H' := Aside0.mk H
           clear H
           have hcz23_0 : wr.cell? ⟨gb230, 0, none⟩ = some (.slice Ao2 x231000_1.length co2) := (blk_cell BK230.out 0).trans rfl
           have hcz23_1 : wr.cell? ⟨gb230, 1, none⟩ = some (.slice Ao3 x231001_2.length co3) := (blk_cell BK230.out 1).trans rfl
           have hcz23_2 : wr.cell? ⟨gb230, 2, none⟩ = some (.slice Ao4 x231002_3.length co4) := (blk_cell BK230.out 2).trans rfl
           have hfz23_0 := blk_frozen BK230.out 0
           have hfz23_1 := blk_frozen BK230.out 1
           have hfz23_2 := blk_frozen BK230.out 2
           try go_wp2
           have n0_ := Aside0.mk (Kd.R_drew HO_231000.out)
           have n1_ := Aside0.mk (Kd.R_drew HO_231001.out)
           have n2_ := Aside0.mk (Kd.R_drew HO_231002.out)
           have n3_ := Aside0.mk (blk_drew BK230.out)
           have n4_ := Aside0.mk (Kept.drew HK.out)
           have n5_ := Aside0.mk (below_drew1 HB.out)
           clear HO_231000
           clear HO_231001
           clear HO_231002
           clear BK230
           clear HK
           clear HB
           have HO_231000 := n0_
           have HO_231001 := n1_
           have HO_231002 := n2_
           have BK230 := n3_
           have HK := n4_
           have HB := n5_
           clear n0_ n1_ n2_ n3_ n4_ n5_
           have p235 : 0 ≤ (x5_3 : Int) := of_decide_eq_true (by first | (with_reducible assumption) | assumption)
           have q235 : x5_3 < (x231002_3.length : Int) := of_decide_eq_true (by first | (with_reducible assumption) | assumption)
           obtain ⟨ad235, e235, hx235_0⟩ := Kd.at_int (Kd.R_reads' HO_231002.out).2.2 x5_3 p235 q235
           cases e235
           replace p235 := eq_true p235
           replace q235 := eq_true q235
           have p22 : 0 ≤ (x5_3 : Int) := of_decide_eq_true (by first | (with_reducible assumption) | assumption)
           have q22 : (x5_3 : Int) < ((x231002_3.length : Int) : Int) := of_decide_eq_true (by first | (with_reducible assumption) | assumption)
           obtain ⟨go22, co22, eo22, gb22, gl22, cl22, HG22⟩ := Kd.R_form HO_231002.out (by omega)
           (first | cases eo22 | (injection eo22 with ea_ en_ ec_; (first | subst ea_ | (injection ea_ with ea_; subst ea_)); subst ec_; clear en_))
           have GB22 := Aside0.mk gb22
           have GG22 := Aside0.mk HG22
           clear gb22 gl22 HG22
           have HMgo22 := Aside0.mk (show ((P0_0_ go22 ∨ P0_1_ go22 ∨ P0_2_ go22) ∨ w.heap.size ≤ go22) from (HO_231002.out.1 _ rfl))
           (first | simp only [add_plain] at hx235_0 | skip)
           obtain ⟨hx22_0, hf22_0⟩ := Kd.R_celln 0 HO_231002.out (x5_3 : Int) p22 q22
           replace p22 := eq_true p22
           replace q22 := eq_true q22
           have HP25 := Kd.R_putn HO_231002.out (x5_3 : Int) (Go.bits .xor .i64 (rd x231002_3 x5_3) 1)
           rw [← Ny236.out] at HP25
           have HQ25 := Aside0.mk HP25
           clear HP25
           refine start_ (n := 11) (S := fun w' => w'.cell? ⟨gb230, 0, none⟩ = some (.slice Ao2 x231000_1.length co2) ∧ w'.cell? ⟨gb230, 1, none⟩ = some (.slice Ao3 x231001_2.length co3) ∧ w'.cell? ⟨gb230, 2, none⟩ = some (.slice (some ⟨go22, 0, none⟩) x231002_3.length co4) ∧ w'.cell? ⟨go22, (x5_3).toNat, none⟩ = some (.int .i64 (rd x231002_3 x5_3))) (ds := [10]) (lb 11 0) (by kernel_rfl) rfl rfl ⟨(blk_cell BK230.out 0).trans rfl, (blk_cell BK230.out 1).trans rfl, (blk_cell BK230.out 2).trans rfl, hx235_0⟩ (fun hHeld => ?_); refine with_tabW plunderlaw23_over.tab12 plunderlaw23_over.bits12 (fun HT_ HW_ => ?_)
           generalize wr.drew = w24 at HO_231000 HO_231001 HO_231002 BK230 HK HB GG22 HQ25 hf22_0 hx22_0 hx235_0 hHeld ⊢
           refine pS 0 49 1 11 HT_.out ?_
           refine pS 2 51 5 11 HT_.out ?_
           refine pS 3 52 13 11 HT_.out ?_
           refine pS 5 54 45 11 HT_.out ?_
           refine tS 1 50 47 11 HT_.out HW_.out hHeld ?_
           refine tS 4 53 63 11 HT_.out HW_.out hHeld ?_
           refine pS 6 55 127 11 HT_.out ?_
           refine tS 7 56 255 11 HT_.out HW_.out hHeld ?_
           refine pS 8 57 511 11 HT_.out ?_
           refine pS 9 58 1023 11 HT_.out ?_
           refine last_ (i := 10) (N := none) (lb 11 2047) rfl rfl (one_of HT_.out (by kernel_rfl)) (by decide) (fun K hK => ?_)
           refine skip_ (w1 := ?_) (by rfl) rfl ?_ ?_
           rotate_left
           ·go_simp
            rfl
           refine hK.out _ _ ?_
           clear hK K
           refine done_ (done_of HT_.out (by kernel_rfl)) ?_
           try go_wp2
           (try simp only [← hl231002_3])
           go_roundg k3
           case measure => have := HK1.out; have := HK2.out; have := HK3.out; omega
           case rel => exact ⟨(wrap64 (x5_3 + 1)), (y236), (rS), H', ⟨by have := HK1.out; have := HK2.out; have := HK3.out; omega⟩, ⟨by (try simp only [hl231000_1]); (try simp only [hl231001_2]); (try simp only [hl231002_3]); (with_reducible repeat (first | apply Kd.R_alloc | apply Kd.R_drewN | apply Kd.R_drew)); exact Kd.R_mono (Kd.R_far (p := ⟨go22, (x5_3 : Int).toNat, none⟩) (Kd.R_types HO_231000.out GG22.out (by decide)) (fun _ hk => hk.2) (.int .i64 (Go.bits .xor .i64 (rd x231002_3 x5_3) 1))) (fun _ hk => hk.1)⟩, ⟨by (try simp only [hl231000_1]); (try simp only [hl231001_2]); (try simp only [hl231002_3]); (with_reducible repeat (first | apply Kd.R_alloc | apply Kd.R_drewN | apply Kd.R_drew)); exact Kd.R_mono (Kd.R_far (p := ⟨go22, (x5_3 : Int).toNat, none⟩) (Kd.R_types HO_231001.out GG22.out (by decide)) (fun _ hk => hk.2) (.int .i64 (Go.bits .xor .i64 (rd x231002_3 x5_3) 1))) (fun _ hk => hk.1)⟩, ⟨by (try simp only [hl231000_1]); (try simp only [hl231001_2]); (try simp only [hl231002_3]); (with_reducible repeat (first | apply Kd.R_alloc | apply Kd.R_drewN | apply Kd.R_drew)); exact HQ25.out⟩, ⟨by (try simp only [hl231000_1]); (try simp only [hl231001_2]); (try simp only [hl231002_3]); (with_reducible repeat (first | refine blk_drewN ?_ _ | refine blk_drew ?_ | refine blk_alloc ?_ _)); refine blk_far ?_ (by have h_ := Kd.R_ne HO_231002.out BK230.out (by decide); intro e_; exact h_ (by rw [e_]; rfl)) _; (with_reducible repeat (first | refine blk_drewN ?_ _ | refine blk_drew ?_ | refine blk_alloc ?_ _)); exact BK230.out⟩, ⟨by repeat (first | (with_reducible first | exact HK.out | apply Kept.alloc | apply Kept.drewN | apply Kept.drew | refine Kept.setCell ?_ HMgo22.out _ | refine Kept.setCell ?_ (.inr GW230.out) _) | exact HK.out)⟩, ⟨by repeat (first | (with_reducible first | exact HB.out | apply below_alloc | apply pw_below_drewN | apply below_drew1 | refine below_set ?_ GB22.out | refine below_set ?_ GE230.out) | exact HB.out)⟩⟩
          ·rw [if_neg c21] at H
           exact absurd H (by simp)
         ·rw [if_neg c20] at H
          have c20b0 : decide (x5_3 < (x231002_3.length : Int)) = false := decide_eq_false c20
          clear c20
          simp only [Option.some.injEq, Prod.mk.injEq] at H
          obtain ⟨rfl, rfl, rfl, rfl⟩ := H
          have hcz26_0 : wr.cell? ⟨gb230, 0, none⟩ = some (.slice Ao2 x231000_1.length co2) := (blk_cell BK230.out 0).trans rfl
          have hcz26_1 : wr.cell? ⟨gb230, 1, none⟩ = some (.slice Ao3 x231001_2.length co3) := (blk_cell BK230.out 1).trans rfl
          have hcz26_2 : wr.cell? ⟨gb230, 2, none⟩ = some (.slice Ao4 x231002_3.length co4) := (blk_cell BK230.out 2).trans rfl
          have hfz26_0 := blk_frozen BK230.out 0
          have hfz26_1 := blk_frozen BK230.out 1
          have hfz26_2 := blk_frozen BK230.out 2
          go_wp2
          go_ret
          exact ⟨rR, (by first | exact (kR HO_231000.out) | (simp only [hl231000_1, hl231001_2, hl231002_3]; exact (kR HO_231000.out))), (by first | exact (kR HO_231001.out) | (simp only [hl231000_1, hl231001_2, hl231002_3]; exact (kR HO_231001.out))), (by first | exact (kR HO_231002.out) | (simp only [hl231000_1, hl231001_2, hl231002_3]; exact (kR HO_231002.out))), bB4, by repeat (first | (with_reducible first | exact HK.out | apply Kept.alloc | apply Kept.drewN | apply Kept.drew | refine Kept.setCell ?_ (.inr GW230.out) _) | exact HK.out)⟩

end Go.Proofs.YtamfkglnejhjdaaDoor.PHyperFold
namespace Go.Proofs.YtamfkglnejhjdaaDoor.PHyperFold
open Go.Proofs.YtamfkglnejhjdaaDoorW.PrintLast (bK kR rR rS bB bB10 bB9 sI sZ sC)
open Go.RowKit Go.Proofs.YtamfkglnejhjdaaDoorW.PrintWords Go.Proofs.YtamfkglnejhjdaaDoorW.PrintLast Go.Proofs.YtamfkglnejhjdaaDoorW.PrintMore
attribute [local go_sem] max2_int min2_int max_two min_two max_three min_three max_four min_four   -- for this text's walks alone
set_option linter.unusedVariables false
set_option linter.unusedSimpArgs false

theorem info2 : (Tryd.prog.info? 2).map (fun i => (i.zero, i.size, i.bytes)) = some (some (.int .i64 0), 1, 8) := by kernel_rfl
def hyper_Serial.l0 : Nat → List Int → List (S46) → Int → Int → Option (List Int × Int)
 | 0, _, _, _, _ => none
 | k + 1, x5, x15, x16, x17 => if x17 < x16 then (if 0 ≤ x17 then (if x17 < (x15.length : Int) then (if ((rd_T46 x15 x17).f0) = 4 then (if x5.length < 17592186044416 then (hyper_Serial.l0 k (x5 ++ [(rd_T46 x15 x17).f1]) x15 x16 (wrap64 (x17 + 1))) else (none)) else (hyper_Serial.l0 k x5 x15 x16 (wrap64 (x17 + 1)))) else (none)) else (none)) else (some (x5, 0))
def hyper_Serial.f (k : Nat) (l0 : List (S46)) : Option (List Int × Int) := (races_Check.f k l0).bind fun bt231 => (if bt231.1 = 0 then (hyper_Serial.l0 k ([] : List Int) l0 (l0.length : Int) 0) else (some (([] : List Int), bt231.1)))
theorem hyper_Serial.mono_l : ∀ k, (∀ y0 y1 y2 y3, LeO (hyper_Serial.l0 k y0 y1 y2 y3) (hyper_Serial.l0 (k + 1) y0 y1 y2 y3))
 | 0 => fun _ _ _ _ r h => by simp [hyper_Serial.l0] at h
 | k + 1 => by
  have ih0 := hyper_Serial.mono_l k
  ·intro y0 y1 y2 y3
   unfold hyper_Serial.l0
   repeat' first
   | (with_reducible exact ih0 _ _ _ _)
   | (with_reducible exact races_Check.mono _ _)
   | (with_reducible exact LeO.refl _)
   | (with_reducible exact LeO.none _)
   | (with_reducible refine LeO.ite ?_ ?_)
   | (with_reducible refine LeO.bind ?_ (fun _ => ?_))
   | exact ih0 _ _ _ _
   | exact races_Check.mono _ _
   | exact LeO.none _
   | refine LeO.ite ?_ ?_
   | refine LeO.bind ?_ (fun _ => ?_)
theorem hyper_Serial.mono : ∀ a0 k, LeO (hyper_Serial.f k a0) (hyper_Serial.f (k + 1) a0) := by
 intro a0 k
 have ih0 := hyper_Serial.mono_l k
 unfold hyper_Serial.f
 repeat' first
   | (with_reducible exact ih0 _ _ _ _)
   | (with_reducible exact races_Check.mono _ _)
   | (with_reducible exact LeO.refl _)
   | (with_reducible exact LeO.none _)
   | (with_reducible refine LeO.ite ?_ ?_)
   | (with_reducible refine LeO.bind ?_ (fun _ => ?_))
   | exact ih0 _ _ _ _
   | exact races_Check.mono _ _
   | exact LeO.none _
   | refine LeO.ite ?_ ?_
   | refine LeO.bind ?_ (fun _ => ?_)
set_option maxHeartbeats 8000000 in
set_option maxRecDepth 100000 in
theorem hyper_Serial.calls (k : Nat) (A0 : Option Addr) (c0 : Nat) (l0 : List (S46)) (r1 : List Int) (r2 : Int) (w : World) (hr0 : Kd.C k46 w A0 l0.length l0) (hc0 : l0.length ≤ c0) (h : hyper_Serial.f k l0 = some (r1, r2)) :
  Calls Tryd.prog 17 #[.slice A0 l0.length c0] w fun e w' => ∃ v0_ : Value, e = .returned (.tuple #[v0_, .int .i64 r2]) ∧ Kd.R (Kd.int .i64) 2 w' w.heap.size (fun _ => True) v0_ r1 ∧ Below w.heap.size w w' := by
 have hu86 := Tryd.underlying86
 have hu46 := Tryd.underlying46
 have HR0 := Aside0.mk hr0
 have HC0 := Aside0.mk hc0
 clear hr0 hc0
 have HB := Aside0.mk (Below.refl w.heap.size w)
 have H : ((races_Check.f k l0).bind fun bt231 => (if bt231.1 = 0 then (hyper_Serial.l0 k ([] : List Int) l0 (l0.length : Int) 0) else (some (([] : List Int), bt231.1)))) = some (r1, r2) := h
 clear h
 replace H := Option.bind_eq_some_iff.mp H
 obtain ⟨⟨t231, t232⟩, A20, H⟩ := H
 replace H : (if t231 = 0 then (hyper_Serial.l0 k ([] : List Int) l0 (l0.length : Int) 0) else (some (([] : List Int), t231))) = some (r1, r2) := H
 have A2 := Aside0.mk A20
 clear A20
 by_cases c3 : t231 = 0
 ·rw [if_pos c3] at H
  have c3b0 : (t231 == 0) = true := beq_iff_eq.mpr c3
  have c3b1 : (t231 != 0) = false := bne_eq_false_iff_eq.mpr c3
  clear c3
  have H' := Aside0.mk H
  clear H
  go_enter Tryd.func17, Tryd.ntmps17
  go_wp2_with (first | (go_at_call 39; (with_reducible refine (races_Check.calls k _ _ l0 t231 t232 _ ?side1 ?side2 A2.out).mono ?_); (case side1 => repeat (first | exact HR0.out | (with_reducible refine Kd.C_alloc ?_ _) | (with_reducible refine Kd.C_drewN ?_ _) | (with_reducible refine Kd.C_drew ?_))); (case side2 => exact HC0.out); rintro e w4 ⟨rfl, hb⟩; have n0_ := Aside0.mk (below_step (bB) hb); clear HB; have HB := n0_; clear n0_; (try clear hb); (try clear hb2); (try clear hk); (try clear hi)) | ((with_reducible refine gate_dst (N := 4) rfl ?_); refine box_event ?hg (N := 4) ?hd (cs := #[.int .i64 0, .int .i64 0]) (t := 86) ?hr ?_; (case hd => rfl); (case hg => rfl); (case hr => first | (go_simp; done) | (go_simp; rfl)); intro gb233 hg w5 hbox hb; have n0_ := Aside0.mk (below_step (bB) hb); have n1_ := Aside0.mk (hbox); have n2_ := Aside0.mk ((by rw [hg]; exact (below_size (bB)) : w.heap.size ≤ gb233)); have n3_ := Aside0.mk ((by rw [hg]; exact (below_size (bB)) : w.heap.size ≤ gb233)); clear HB; have HB := n0_; have BK233 := n1_; have GW233 := n2_; have GE233 := n3_; clear n0_ n1_ n2_ n3_; clear hb hbox hg; have hcz6_0 : w5.cell? ⟨gb233, 0, none⟩ = some (.int .i64 0) := (blk_cell BK233.out 0).trans rfl; have hcz6_1 : w5.cell? ⟨gb233, 1, none⟩ = some (.int .i64 0) := (blk_cell BK233.out 1).trans rfl; have hfz6_0 := blk_frozen BK233.out 0; have hfz6_1 := blk_frozen BK233.out 1))
  repeat (go_quiet (first | (go_at_call 39; (with_reducible refine (races_Check.calls k _ _ l0 t231 t232 _ ?side1 ?side2 A2.out).mono ?_); (case side1 => repeat (first | exact HR0.out | (with_reducible refine Kd.C_alloc ?_ _) | (with_reducible refine Kd.C_drewN ?_ _) | (with_reducible refine Kd.C_drew ?_))); (case side2 => exact HC0.out); rintro e w4 ⟨rfl, hb⟩; have n0_ := Aside0.mk (below_step (bB) hb); clear HB; have HB := n0_; clear n0_; (try clear hb); (try clear hb2); (try clear hk); (try clear hi)) | ((with_reducible refine gate_dst (N := 4) rfl ?_); refine box_event ?hg (N := 4) ?hd (cs := #[.int .i64 0, .int .i64 0]) (t := 86) ?hr ?_; (case hd => rfl); (case hg => rfl); (case hr => first | (go_simp; done) | (go_simp; rfl)); intro gb233 hg w5 hbox hb; have n0_ := Aside0.mk (below_step (bB) hb); have n1_ := Aside0.mk (hbox); have n2_ := Aside0.mk ((by rw [hg]; exact (below_size (bB)) : w.heap.size ≤ gb233)); have n3_ := Aside0.mk ((by rw [hg]; exact (below_size (bB)) : w.heap.size ≤ gb233)); clear HB; have HB := n0_; have BK233 := n1_; have GW233 := n2_; have GE233 := n3_; clear n0_ n1_ n2_ n3_; clear hb hbox hg; have hcz6_0 : w5.cell? ⟨gb233, 0, none⟩ = some (.int .i64 0) := (blk_cell BK233.out 0).trans rfl; have hcz6_1 : w5.cell? ⟨gb233, 1, none⟩ = some (.int .i64 0) := (blk_cell BK233.out 1).trans rfl; have hfz6_0 := blk_frozen BK233.out 0; have hfz6_1 := blk_frozen BK233.out 1)); try go_wp2_with (first | (go_at_call 39; (with_reducible refine (races_Check.calls k _ _ l0 t231 t232 _ ?side1 ?side2 A2.out).mono ?_); (case side1 => repeat (first | exact HR0.out | (with_reducible refine Kd.C_alloc ?_ _) | (with_reducible refine Kd.C_drewN ?_ _) | (with_reducible refine Kd.C_drew ?_))); (case side2 => exact HC0.out); rintro e w4 ⟨rfl, hb⟩; have n0_ := Aside0.mk (below_step (bB) hb); clear HB; have HB := n0_; clear n0_; (try clear hb); (try clear hb2); (try clear hk); (try clear hi)) | ((with_reducible refine gate_dst (N := 4) rfl ?_); refine box_event ?hg (N := 4) ?hd (cs := #[.int .i64 0, .int .i64 0]) (t := 86) ?hr ?_; (case hd => rfl); (case hg => rfl); (case hr => first | (go_simp; done) | (go_simp; rfl)); intro gb233 hg w5 hbox hb; have n0_ := Aside0.mk (below_step (bB) hb); have n1_ := Aside0.mk (hbox); have n2_ := Aside0.mk ((by rw [hg]; exact (below_size (bB)) : w.heap.size ≤ gb233)); have n3_ := Aside0.mk ((by rw [hg]; exact (below_size (bB)) : w.heap.size ≤ gb233)); clear HB; have HB := n0_; have BK233 := n1_; have GW233 := n2_; have GE233 := n3_; clear n0_ n1_ n2_ n3_; clear hb hbox hg; have hcz6_0 : w5.cell? ⟨gb233, 0, none⟩ = some (.int .i64 0) := (blk_cell BK233.out 0).trans rfl; have hcz6_1 : w5.cell? ⟨gb233, 1, none⟩ = some (.int .i64 0) := (blk_cell BK233.out 1).trans rfl; have hfz6_0 := blk_frozen BK233.out 0; have hfz6_1 := blk_frozen BK233.out 1)))
  go_loopg [5, 17] k (fun kq v5 v17 w' => ∃ (x5_1 : List Int) (x17_1 : Int), v17 = .int .i64 x17_1 ∧ Aside0 (hyper_Serial.l0 kq x5_1 l0 (l0.length : Int) x17_1 = some (r1, r2)) ∧ Aside0 (kq ≤ k) ∧ Aside0 (Kd.R (Kd.int .i64) 2 w' w.heap.size (fun _ => True) v5 x5_1) ∧ Aside0 (w'.heap[gb233]? = some (.cells #[.int .i64 t231, .int .i64 t232] 86 (0, 0))) ∧ Aside0 (Below w.heap.size w w'))
  case atStart => exact ⟨(([] : List Int)), (0), (rS), H', ⟨Nat.le_refl _⟩, ⟨by first | exact Kd.R_nil _ _ _ _ _ | exact Kd.N_nil _ _ _ _ _ | exact Kd.V_nil _ _ _ _ _ | exact Kd.Q_nil _ _ _ _ _ | exact Kd.S_nil _ _ _ _ _⟩, ⟨by (with_reducible repeat (first | refine blk_drewN ?_ _ | refine blk_drew ?_ | refine blk_alloc ?_ _)); refine blk_put (cs := #[.int .i64 t231, .int .i64 0]) ?_ 1 _ rfl; (with_reducible repeat (first | refine blk_drewN ?_ _ | refine blk_drew ?_ | refine blk_alloc ?_ _)); refine blk_put (cs := #[.int .i64 0, .int .i64 0]) ?_ 0 _ rfl; (with_reducible repeat (first | refine blk_drewN ?_ _ | refine blk_drew ?_ | refine blk_alloc ?_ _)); exact BK233.out⟩, ⟨bB9⟩⟩
  case round =>
   clear H'
   try clear c1
   try clear p2
   try clear c3
   try clear c3b0
   try clear c3b1
   try clear hcz6_0
   try clear hcz6_1
   try clear hfz6_0
   try clear hfz6_1
   obtain ⟨x5_1, x17_1, rfl, HA, HK1, HO_5, BK233, HB⟩ := hrel
   cases gk with
   | zero => exact absurd HA.out (by simp [hyper_Serial.l0])
   | succ k1 =>
    have H := HA.out
    clear HA
    simp only [hyper_Serial.l0] at H
    by_cases c7 : x17_1 < (l0.length : Int)
    ·rw [if_pos c7] at H
     have c7b0 : decide (x17_1 < (l0.length : Int)) = true := decide_eq_true c7
     clear c7
     by_cases c8 : 0 ≤ x17_1
     ·rw [if_pos c8] at H
      have c8b0 : decide (0 ≤ x17_1) = true := decide_eq_true c8
      clear c8
      by_cases c9 : x17_1 < (l0.length : Int)
      ·rw [if_pos c9] at H
       have c9b0 : decide (x17_1 < (l0.length : Int)) = true := decide_eq_true c9
       clear c9
       by_cases c10 : ((rd_T46 l0 x17_1).f0) = 4
       ·rw [if_pos c10] at H
        have c10b0 : (((rd_T46 l0 x17_1).f0) == 4) = true := beq_iff_eq.mpr c10
        have c10b1 : (((rd_T46 l0 x17_1).f0) != 4) = false := bne_eq_false_iff_eq.mpr c10
        clear c10
        by_cases c11 : x5_1.length < 17592186044416
        ·rw [if_pos c11] at H
         have LMc11 := Aside0.mk c11
         clear c11
         obtain ⟨y236, hy236⟩ : ∃ y_ : List Int, y_ = (x5_1 ++ [(rd_T46 l0 x17_1).f1]) := ⟨_, rfl⟩
         replace H : (hyper_Serial.l0 k1 y236 l0 (l0.length : Int) (wrap64 (x17_1 + 1))) = some (r1, r2) := by first | (rw [hy236]; with_reducible exact H) | (have H2_ := (Option.bind_some _ _).symm.trans H; rw [hy236]; with_reducible exact H2_) | (have H2_ := (Option.bind_some _ _).symm.trans H; with_reducible exact H2_) | with_reducible exact H | (rw [hy236]; exact H) | exact H
         have Ny236 := Aside0.mk hy236
         clear hy236
         have H' := Aside0.mk H
         clear H
         have p234 : 0 ≤ (x17_1 : Int) := of_decide_eq_true (by first | (with_reducible assumption) | assumption)
         have q234 : x17_1 < (l0.length : Int) := of_decide_eq_true (by first | (with_reducible assumption) | assumption)
         obtain ⟨ad234, e234, hx234_0, hx234_1⟩ := at_T46 HR0.out x17_1 p234 q234
         cases e234
         replace hx234_0 := (HB.out.cell (World.block_lt_of_cell? w _ hx234_0)).trans hx234_0
         replace hx234_1 := (HB.out.cell (World.block_lt_of_cell? w _ hx234_1)).trans hx234_1
         replace p234 := eq_true p234
         replace q234 := eq_true q234
         go_wp2_with (first | ((with_reducible refine gate_dst (N := 7) rfl ?_); refine box_event ?hg (N := 7) ?hd (cs := #[.int .i64 0, .int .i64 0]) (t := 46) ?hr ?_; (case hd => rfl); (case hg => rfl); (case hr => first | (go_simp; done) | (go_simp; rfl)); intro gb235 hg w12 hbox hb; have n0_ := Aside0.mk (Kd.R_below (kR HO_5.out) hb); have n1_ := Aside0.mk (blk_below (g := gb233) (o := .cells #[.int .i64 t231, .int .i64 t232] 86 (0, 0)) (bK BK233.out) hb); have n2_ := Aside0.mk (below_step (bB9) hb); have n3_ := Aside0.mk (hbox); have n4_ := Aside0.mk ((by rw [hg]; exact (below_size (bB9)) : w.heap.size ≤ gb235)); have n5_ := Aside0.mk ((by rw [hg]; exact (below_size (bB9)) : w.heap.size ≤ gb235)); have n6_ := Aside0.mk ((by rw [hg]; exact Nat.ne_of_lt (blk_lt (g := gb233) (o := .cells #[.int .i64 t231, .int .i64 t232] 86 (0, 0)) (bK BK233.out)) : gb233 ≠ gb235)); have n7_ := Aside0.mk ((by rw [hg]; exact Nat.ne_of_gt (blk_lt (g := gb233) (o := .cells #[.int .i64 t231, .int .i64 t232] 86 (0, 0)) (bK BK233.out)) : gb235 ≠ gb233)); clear HO_5; clear BK233; clear HB; have HO_5 := n0_; have BK233 := n1_; have HB := n2_; have BK235 := n3_; have GW235 := n4_; have GE235 := n5_; have NB233_235 := n6_; have NB235_233 := n7_; clear n0_ n1_ n2_ n3_ n4_ n5_ n6_ n7_; clear hb hbox hg; have hnb13 := NB235_233.out; have hnc13 := NB233_235.out; have hcz14_0 : w12.cell? ⟨gb235, 0, none⟩ = some (.int .i64 0) := (blk_cell BK235.out 0).trans rfl; have hcz14_1 : w12.cell? ⟨gb235, 1, none⟩ = some (.int .i64 0) := (blk_cell BK235.out 1).trans rfl; have hfz14_0 := blk_frozen BK235.out 0; have hfz14_1 := blk_frozen BK235.out 1) | ((with_reducible refine gate_builtin (b := .append) (xs := #[.tmp 24, .tmp 27]) rfl ?_); at_builtin; refine Kd.R_append (Kd.int .i64) (w0 := w) w.heap.size rfl (.tmp 24) (.tmp 27) 36 2 (.int .i64 0) 8 rfl Tryd.underlying36 info2 rfl (by decide) (by omega) u5 x5_1 ((rd_T46 l0 x17_1).f1) [.int .i64 ((rd_T46 l0 x17_1).f1)] (fun _ => True) (fun _ => False) rfl (by first | (go_simp; done) | (go_simp; rfl)) ?aP (fun _ hk => hk.elim) ?aF ?aO ?aB ?aS ?aL ?_; (case aP => exact rfl); (case aB => exact (bB10)); (case aF => exact (fun _ _ => trivial)); (case aO => exact (by (with_reducible repeat (first | apply Kd.R_alloc | apply Kd.R_drewN | apply Kd.R_drew)); exact Kd.R_mono (Kd.R_far (p := ⟨gb235, 1, none⟩) (Kd.R_far (p := ⟨gb235, 0, none⟩) (Kd.R_types HO_5.out BK235.out (by decide)) (fun _ hk => hk.2) (.int .i64 ((rd_T46 l0 x17_1).f0))) (fun _ hk => hk.2) (.int .i64 ((rd_T46 l0 x17_1).f1))) (fun _ hk => trivial))); (case aS => exact (below_size (bB10))); (case aL => have := LMc11.out; omega); intro v237 w15 ho hb hg hat; rw [← Ny236.out] at ho; have n0_ := Aside0.mk (blk_grown (g := gb233) (o := .cells #[.int .i64 t231, .int .i64 t232] 86 (0, 0)) (by (with_reducible repeat (first | refine blk_drewN ?_ _ | refine blk_drew ?_ | refine blk_alloc ?_ _)); refine blk_far ?_ NB233_235.out _; (with_reducible repeat (first | refine blk_drewN ?_ _ | refine blk_drew ?_ | refine blk_alloc ?_ _)); refine blk_far ?_ NB233_235.out _; (with_reducible repeat (first | refine blk_drewN ?_ _ | refine blk_drew ?_ | refine blk_alloc ?_ _)); exact BK233.out) hg (Kd.R_ne HO_5.out BK233.out (by decide))); have n1_ := Aside0.mk (blk_grown (g := gb235) (o := .cells #[.int .i64 ((rd_T46 l0 x17_1).f0), .int .i64 ((rd_T46 l0 x17_1).f1)] 46 (0, 0)) (by (with_reducible repeat (first | refine blk_drewN ?_ _ | refine blk_drew ?_ | refine blk_alloc ?_ _)); refine blk_put (cs := #[.int .i64 ((rd_T46 l0 x17_1).f0), .int .i64 0]) ?_ 1 _ rfl; (with_reducible repeat (first | refine blk_drewN ?_ _ | refine blk_drew ?_ | refine blk_alloc ?_ _)); refine blk_put (cs := #[.int .i64 0, .int .i64 0]) ?_ 0 _ rfl; (with_reducible repeat (first | refine blk_drewN ?_ _ | refine blk_drew ?_ | refine blk_alloc ?_ _)); exact BK235.out) hg (Kd.R_ne HO_5.out BK235.out (by decide))); have n2_ := Aside0.mk (hb); have n3_ := Aside0.mk (ho); clear BK233; clear BK235; clear HB; clear HO_5; have BK233 := n0_; have BK235 := n1_; have HB := n2_; have HO238 := n3_; clear n0_ n1_ n2_ n3_; clear ho hb hg hat))
         repeat (go_quiet (first | ((with_reducible refine gate_dst (N := 7) rfl ?_); refine box_event ?hg (N := 7) ?hd (cs := #[.int .i64 0, .int .i64 0]) (t := 46) ?hr ?_; (case hd => rfl); (case hg => rfl); (case hr => first | (go_simp; done) | (go_simp; rfl)); intro gb235 hg w12 hbox hb; have n0_ := Aside0.mk (Kd.R_below (kR HO_5.out) hb); have n1_ := Aside0.mk (blk_below (g := gb233) (o := .cells #[.int .i64 t231, .int .i64 t232] 86 (0, 0)) (bK BK233.out) hb); have n2_ := Aside0.mk (below_step (bB9) hb); have n3_ := Aside0.mk (hbox); have n4_ := Aside0.mk ((by rw [hg]; exact (below_size (bB9)) : w.heap.size ≤ gb235)); have n5_ := Aside0.mk ((by rw [hg]; exact (below_size (bB9)) : w.heap.size ≤ gb235)); have n6_ := Aside0.mk ((by rw [hg]; exact Nat.ne_of_lt (blk_lt (g := gb233) (o := .cells #[.int .i64 t231, .int .i64 t232] 86 (0, 0)) (bK BK233.out)) : gb233 ≠ gb235)); have n7_ := Aside0.mk ((by rw [hg]; exact Nat.ne_of_gt (blk_lt (g := gb233) (o := .cells #[.int .i64 t231, .int .i64 t232] 86 (0, 0)) (bK BK233.out)) : gb235 ≠ gb233)); clear HO_5; clear BK233; clear HB; have HO_5 := n0_; have BK233 := n1_; have HB := n2_; have BK235 := n3_; have GW235 := n4_; have GE235 := n5_; have NB233_235 := n6_; have NB235_233 := n7_; clear n0_ n1_ n2_ n3_ n4_ n5_ n6_ n7_; clear hb hbox hg; have hnb13 := NB235_233.out; have hnc13 := NB233_235.out; have hcz14_0 : w12.cell? ⟨gb235, 0, none⟩ = some (.int .i64 0) := (blk_cell BK235.out 0).trans rfl; have hcz14_1 : w12.cell? ⟨gb235, 1, none⟩ = some (.int .i64 0) := (blk_cell BK235.out 1).trans rfl; have hfz14_0 := blk_frozen BK235.out 0; have hfz14_1 := blk_frozen BK235.out 1) | ((with_reducible refine gate_builtin (b := .append) (xs := #[.tmp 24, .tmp 27]) rfl ?_); at_builtin; refine Kd.R_append (Kd.int .i64) (w0 := w) w.heap.size rfl (.tmp 24) (.tmp 27) 36 2 (.int .i64 0) 8 rfl Tryd.underlying36 info2 rfl (by decide) (by omega) u5 x5_1 ((rd_T46 l0 x17_1).f1) [.int .i64 ((rd_T46 l0 x17_1).f1)] (fun _ => True) (fun _ => False) rfl (by first | (go_simp; done) | (go_simp; rfl)) ?aP (fun _ hk => hk.elim) ?aF ?aO ?aB ?aS ?aL ?_; (case aP => exact rfl); (case aB => exact (bB10)); (case aF => exact (fun _ _ => trivial)); (case aO => exact (by (with_reducible repeat (first | apply Kd.R_alloc | apply Kd.R_drewN | apply Kd.R_drew)); exact Kd.R_mono (Kd.R_far (p := ⟨gb235, 1, none⟩) (Kd.R_far (p := ⟨gb235, 0, none⟩) (Kd.R_types HO_5.out BK235.out (by decide)) (fun _ hk => hk.2) (.int .i64 ((rd_T46 l0 x17_1).f0))) (fun _ hk => hk.2) (.int .i64 ((rd_T46 l0 x17_1).f1))) (fun _ hk => trivial))); (case aS => exact (below_size (bB10))); (case aL => have := LMc11.out; omega); intro v237 w15 ho hb hg hat; rw [← Ny236.out] at ho; have n0_ := Aside0.mk (blk_grown (g := gb233) (o := .cells #[.int .i64 t231, .int .i64 t232] 86 (0, 0)) (by (with_reducible repeat (first | refine blk_drewN ?_ _ | refine blk_drew ?_ | refine blk_alloc ?_ _)); refine blk_far ?_ NB233_235.out _; (with_reducible repeat (first | refine blk_drewN ?_ _ | refine blk_drew ?_ | refine blk_alloc ?_ _)); refine blk_far ?_ NB233_235.out _; (with_reducible repeat (first | refine blk_drewN ?_ _ | refine blk_drew ?_ | refine blk_alloc ?_ _)); exact BK233.out) hg (Kd.R_ne HO_5.out BK233.out (by decide))); have n1_ := Aside0.mk (blk_grown (g := gb235) (o := .cells #[.int .i64 ((rd_T46 l0 x17_1).f0), .int .i64 ((rd_T46 l0 x17_1).f1)] 46 (0, 0)) (by (with_reducible repeat (first | refine blk_drewN ?_ _ | refine blk_drew ?_ | refine blk_alloc ?_ _)); refine blk_put (cs := #[.int .i64 ((rd_T46 l0 x17_1).f0), .int .i64 0]) ?_ 1 _ rfl; (with_reducible repeat (first | refine blk_drewN ?_ _ | refine blk_drew ?_ | refine blk_alloc ?_ _)); refine blk_put (cs := #[.int .i64 0, .int .i64 0]) ?_ 0 _ rfl; (with_reducible repeat (first | refine blk_drewN ?_ _ | refine blk_drew ?_ | refine blk_alloc ?_ _)); exact BK235.out) hg (Kd.R_ne HO_5.out BK235.out (by decide))); have n2_ := Aside0.mk (hb); have n3_ := Aside0.mk (ho); clear BK233; clear BK235; clear HB; clear HO_5; have BK233 := n0_; have BK235 := n1_; have HB := n2_; have HO238 := n3_; clear n0_ n1_ n2_ n3_; clear ho hb hg hat)); try go_wp2_with (first | ((with_reducible refine gate_dst (N := 7) rfl ?_); refine box_event ?hg (N := 7) ?hd (cs := #[.int .i64 0, .int .i64 0]) (t := 46) ?hr ?_; (case hd => rfl); (case hg => rfl); (case hr => first | (go_simp; done) | (go_simp; rfl)); intro gb235 hg w12 hbox hb; have n0_ := Aside0.mk (Kd.R_below (kR HO_5.out) hb); have n1_ := Aside0.mk (blk_below (g := gb233) (o := .cells #[.int .i64 t231, .int .i64 t232] 86 (0, 0)) (bK BK233.out) hb); have n2_ := Aside0.mk (below_step (bB9) hb); have n3_ := Aside0.mk (hbox); have n4_ := Aside0.mk ((by rw [hg]; exact (below_size (bB9)) : w.heap.size ≤ gb235)); have n5_ := Aside0.mk ((by rw [hg]; exact (below_size (bB9)) : w.heap.size ≤ gb235)); have n6_ := Aside0.mk ((by rw [hg]; exact Nat.ne_of_lt (blk_lt (g := gb233) (o := .cells #[.int .i64 t231, .int .i64 t232] 86 (0, 0)) (bK BK233.out)) : gb233 ≠ gb235)); have n7_ := Aside0.mk ((by rw [hg]; exact Nat.ne_of_gt (blk_lt (g := gb233) (o := .cells #[.int .i64 t231, .int .i64 t232] 86 (0, 0)) (bK BK233.out)) : gb235 ≠ gb233)); clear HO_5; clear BK233; clear HB; have HO_5 := n0_; have BK233 := n1_; have HB := n2_; have BK235 := n3_; have GW235 := n4_; have GE235 := n5_; have NB233_235 := n6_; have NB235_233 := n7_; clear n0_ n1_ n2_ n3_ n4_ n5_ n6_ n7_; clear hb hbox hg; have hnb13 := NB235_233.out; have hnc13 := NB233_235.out; have hcz14_0 : w12.cell? ⟨gb235, 0, none⟩ = some (.int .i64 0) := (blk_cell BK235.out 0).trans rfl; have hcz14_1 : w12.cell? ⟨gb235, 1, none⟩ = some (.int .i64 0) := (blk_cell BK235.out 1).trans rfl; have hfz14_0 := blk_frozen BK235.out 0; have hfz14_1 := blk_frozen BK235.out 1) | ((with_reducible refine gate_builtin (b := .append) (xs := #[.tmp 24, .tmp 27]) rfl ?_); at_builtin; refine Kd.R_append (Kd.int .i64) (w0 := w) w.heap.size rfl (.tmp 24) (.tmp 27) 36 2 (.int .i64 0) 8 rfl Tryd.underlying36 info2 rfl (by decide) (by omega) u5 x5_1 ((rd_T46 l0 x17_1).f1) [.int .i64 ((rd_T46 l0 x17_1).f1)] (fun _ => True) (fun _ => False) rfl (by first | (go_simp; done) | (go_simp; rfl)) ?aP (fun _ hk => hk.elim) ?aF ?aO ?aB ?aS ?aL ?_; (case aP => exact rfl); (case aB => exact (bB10)); (case aF => exact (fun _ _ => trivial)); (case aO => exact (by (with_reducible repeat (first | apply Kd.R_alloc | apply Kd.R_drewN | apply Kd.R_drew)); exact Kd.R_mono (Kd.R_far (p := ⟨gb235, 1, none⟩) (Kd.R_far (p := ⟨gb235, 0, none⟩) (Kd.R_types HO_5.out BK235.out (by decide)) (fun _ hk => hk.2) (.int .i64 ((rd_T46 l0 x17_1).f0))) (fun _ hk => hk.2) (.int .i64 ((rd_T46 l0 x17_1).f1))) (fun _ hk => trivial))); (case aS => exact (below_size (bB10))); (case aL => have := LMc11.out; omega); intro v237 w15 ho hb hg hat; rw [← Ny236.out] at ho; have n0_ := Aside0.mk (blk_grown (g := gb233) (o := .cells #[.int .i64 t231, .int .i64 t232] 86 (0, 0)) (by (with_reducible repeat (first | refine blk_drewN ?_ _ | refine blk_drew ?_ | refine blk_alloc ?_ _)); refine blk_far ?_ NB233_235.out _; (with_reducible repeat (first | refine blk_drewN ?_ _ | refine blk_drew ?_ | refine blk_alloc ?_ _)); refine blk_far ?_ NB233_235.out _; (with_reducible repeat (first | refine blk_drewN ?_ _ | refine blk_drew ?_ | refine blk_alloc ?_ _)); exact BK233.out) hg (Kd.R_ne HO_5.out BK233.out (by decide))); have n1_ := Aside0.mk (blk_grown (g := gb235) (o := .cells #[.int .i64 ((rd_T46 l0 x17_1).f0), .int .i64 ((rd_T46 l0 x17_1).f1)] 46 (0, 0)) (by (with_reducible repeat (first | refine blk_drewN ?_ _ | refine blk_drew ?_ | refine blk_alloc ?_ _)); refine blk_put (cs := #[.int .i64 ((rd_T46 l0 x17_1).f0), .int .i64 0]) ?_ 1 _ rfl; (with_reducible repeat (first | refine blk_drewN ?_ _ | refine blk_drew ?_ | refine blk_alloc ?_ _)); refine blk_put (cs := #[.int .i64 0, .int .i64 0]) ?_ 0 _ rfl; (with_reducible repeat (first | refine blk_drewN ?_ _ | refine blk_drew ?_ | refine blk_alloc ?_ _)); exact BK235.out) hg (Kd.R_ne HO_5.out BK235.out (by decide))); have n2_ := Aside0.mk (hb); have n3_ := Aside0.mk (ho); clear BK233; clear BK235; clear HB; clear HO_5; have BK233 := n0_; have BK235 := n1_; have HB := n2_; have HO238 := n3_; clear n0_ n1_ n2_ n3_; clear ho hb hg hat)))
         go_roundg k1
         case measure => have := HK1.out; omega
         case rel => exact ⟨(y236), (wrap64 (x17_1 + 1)), (rS), H', ⟨by have := HK1.out; omega⟩, ⟨by (with_reducible repeat (first | apply Kd.R_alloc | apply Kd.R_drewN | apply Kd.R_drew)); exact HO238.out⟩, ⟨by (with_reducible repeat (first | refine blk_drewN ?_ _ | refine blk_drew ?_ | refine blk_alloc ?_ _)); exact BK233.out⟩, ⟨bB10⟩⟩
        ·rw [if_neg c11] at H
         exact absurd H (by simp)
       ·rw [if_neg c10] at H
        have c10b0 : (((rd_T46 l0 x17_1).f0) == 4) = false := beq_eq_false_iff_ne.mpr c10
        have c10b1 : (((rd_T46 l0 x17_1).f0) != 4) = true := bne_iff_ne.mpr c10
        have H' := Aside0.mk H
        clear H
        have p234 : 0 ≤ (x17_1 : Int) := of_decide_eq_true (by first | (with_reducible assumption) | assumption)
        have q234 : x17_1 < (l0.length : Int) := of_decide_eq_true (by first | (with_reducible assumption) | assumption)
        obtain ⟨ad234, e234, hx234_0, hx234_1⟩ := at_T46 HR0.out x17_1 p234 q234
        cases e234
        replace hx234_0 := (HB.out.cell (World.block_lt_of_cell? w _ hx234_0)).trans hx234_0
        replace hx234_1 := (HB.out.cell (World.block_lt_of_cell? w _ hx234_1)).trans hx234_1
        replace p234 := eq_true p234
        replace q234 := eq_true q234
        go_wp2_with (first | ((with_reducible refine gate_dst (N := 7) rfl ?_); refine box_event ?hg (N := 7) ?hd (cs := #[.int .i64 0, .int .i64 0]) (t := 46) ?hr ?_; (case hd => rfl); (case hg => rfl); (case hr => first | (go_simp; done) | (go_simp; rfl)); intro gb235 hg w16 hbox hb; have n0_ := Aside0.mk (Kd.R_below (kR HO_5.out) hb); have n1_ := Aside0.mk (blk_below (g := gb233) (o := .cells #[.int .i64 t231, .int .i64 t232] 86 (0, 0)) (bK BK233.out) hb); have n2_ := Aside0.mk (below_step (bB9) hb); have n3_ := Aside0.mk (hbox); have n4_ := Aside0.mk ((by rw [hg]; exact (below_size (bB9)) : w.heap.size ≤ gb235)); have n5_ := Aside0.mk ((by rw [hg]; exact (below_size (bB9)) : w.heap.size ≤ gb235)); have n6_ := Aside0.mk ((by rw [hg]; exact Nat.ne_of_lt (blk_lt (g := gb233) (o := .cells #[.int .i64 t231, .int .i64 t232] 86 (0, 0)) (bK BK233.out)) : gb233 ≠ gb235)); have n7_ := Aside0.mk ((by rw [hg]; exact Nat.ne_of_gt (blk_lt (g := gb233) (o := .cells #[.int .i64 t231, .int .i64 t232] 86 (0, 0)) (bK BK233.out)) : gb235 ≠ gb233)); clear HO_5; clear BK233; clear HB; have HO_5 := n0_; have BK233 := n1_; have HB := n2_; have BK235 := n3_; have GW235 := n4_; have GE235 := n5_; have NB233_235 := n6_; have NB235_233 := n7_; clear n0_ n1_ n2_ n3_ n4_ n5_ n6_ n7_; clear hb hbox hg; have hnb17 := NB235_233.out; have hnc17 := NB233_235.out; have hcz18_0 : w16.cell? ⟨gb235, 0, none⟩ = some (.int .i64 0) := (blk_cell BK235.out 0).trans rfl; have hcz18_1 : w16.cell? ⟨gb235, 1, none⟩ = some (.int .i64 0) := (blk_cell BK235.out 1).trans rfl; have hfz18_0 := blk_frozen BK235.out 0; have hfz18_1 := blk_frozen BK235.out 1))
        repeat (go_quiet (first | ((with_reducible refine gate_dst (N := 7) rfl ?_); refine box_event ?hg (N := 7) ?hd (cs := #[.int .i64 0, .int .i64 0]) (t := 46) ?hr ?_; (case hd => rfl); (case hg => rfl); (case hr => first | (go_simp; done) | (go_simp; rfl)); intro gb235 hg w16 hbox hb; have n0_ := Aside0.mk (Kd.R_below (kR HO_5.out) hb); have n1_ := Aside0.mk (blk_below (g := gb233) (o := .cells #[.int .i64 t231, .int .i64 t232] 86 (0, 0)) (bK BK233.out) hb); have n2_ := Aside0.mk (below_step (bB9) hb); have n3_ := Aside0.mk (hbox); have n4_ := Aside0.mk ((by rw [hg]; exact (below_size (bB9)) : w.heap.size ≤ gb235)); have n5_ := Aside0.mk ((by rw [hg]; exact (below_size (bB9)) : w.heap.size ≤ gb235)); have n6_ := Aside0.mk ((by rw [hg]; exact Nat.ne_of_lt (blk_lt (g := gb233) (o := .cells #[.int .i64 t231, .int .i64 t232] 86 (0, 0)) (bK BK233.out)) : gb233 ≠ gb235)); have n7_ := Aside0.mk ((by rw [hg]; exact Nat.ne_of_gt (blk_lt (g := gb233) (o := .cells #[.int .i64 t231, .int .i64 t232] 86 (0, 0)) (bK BK233.out)) : gb235 ≠ gb233)); clear HO_5; clear BK233; clear HB; have HO_5 := n0_; have BK233 := n1_; have HB := n2_; have BK235 := n3_; have GW235 := n4_; have GE235 := n5_; have NB233_235 := n6_; have NB235_233 := n7_; clear n0_ n1_ n2_ n3_ n4_ n5_ n6_ n7_; clear hb hbox hg; have hnb17 := NB235_233.out; have hnc17 := NB233_235.out; have hcz18_0 : w16.cell? ⟨gb235, 0, none⟩ = some (.int .i64 0) := (blk_cell BK235.out 0).trans rfl; have hcz18_1 : w16.cell? ⟨gb235, 1, none⟩ = some (.int .i64 0) := (blk_cell BK235.out 1).trans rfl; have hfz18_0 := blk_frozen BK235.out 0; have hfz18_1 := blk_frozen BK235.out 1)); try go_wp2_with (first | ((with_reducible refine gate_dst (N := 7) rfl ?_); refine box_event ?hg (N := 7) ?hd (cs := #[.int .i64 0, .int .i64 0]) (t := 46) ?hr ?_; (case hd => rfl); (case hg => rfl); (case hr => first | (go_simp; done) | (go_simp; rfl)); intro gb235 hg w16 hbox hb; have n0_ := Aside0.mk (Kd.R_below (kR HO_5.out) hb); have n1_ := Aside0.mk (blk_below (g := gb233) (o := .cells #[.int .i64 t231, .int .i64 t232] 86 (0, 0)) (bK BK233.out) hb); have n2_ := Aside0.mk (below_step (bB9) hb); have n3_ := Aside0.mk (hbox); have n4_ := Aside0.mk ((by rw [hg]; exact (below_size (bB9)) : w.heap.size ≤ gb235)); have n5_ := Aside0.mk ((by rw [hg]; exact (below_size (bB9)) : w.heap.size ≤ gb235)); have n6_ := Aside0.mk ((by rw [hg]; exact Nat.ne_of_lt (blk_lt (g := gb233) (o := .cells #[.int .i64 t231, .int .i64 t232] 86 (0, 0)) (bK BK233.out)) : gb233 ≠ gb235)); have n7_ := Aside0.mk ((by rw [hg]; exact Nat.ne_of_gt (blk_lt (g := gb233) (o := .cells #[.int .i64 t231, .int .i64 t232] 86 (0, 0)) (bK BK233.out)) : gb235 ≠ gb233)); clear HO_5; clear BK233; clear HB; have HO_5 := n0_; have BK233 := n1_; have HB := n2_; have BK235 := n3_; have GW235 := n4_; have GE235 := n5_; have NB233_235 := n6_; have NB235_233 := n7_; clear n0_ n1_ n2_ n3_ n4_ n5_ n6_ n7_; clear hb hbox hg; have hnb17 := NB235_233.out; have hnc17 := NB233_235.out; have hcz18_0 : w16.cell? ⟨gb235, 0, none⟩ = some (.int .i64 0) := (blk_cell BK235.out 0).trans rfl; have hcz18_1 : w16.cell? ⟨gb235, 1, none⟩ = some (.int .i64 0) := (blk_cell BK235.out 1).trans rfl; have hfz18_0 := blk_frozen BK235.out 0; have hfz18_1 := blk_frozen BK235.out 1)))
        go_roundg k1
        case measure => have := HK1.out; omega
        case rel => exact ⟨(x5_1), (wrap64 (x17_1 + 1)), (rS), H', ⟨by have := HK1.out; omega⟩, ⟨by (with_reducible repeat (first | apply Kd.R_alloc | apply Kd.R_drewN | apply Kd.R_drew)); exact Kd.R_mono (Kd.R_far (p := ⟨gb235, 1, none⟩) (Kd.R_far (p := ⟨gb235, 0, none⟩) (Kd.R_types HO_5.out BK235.out (by decide)) (fun _ hk => hk.2) (.int .i64 ((rd_T46 l0 x17_1).f0))) (fun _ hk => hk.2) (.int .i64 ((rd_T46 l0 x17_1).f1))) (fun _ hk => trivial)⟩, ⟨by (with_reducible repeat (first | refine blk_drewN ?_ _ | refine blk_drew ?_ | refine blk_alloc ?_ _)); refine blk_far ?_ NB233_235.out _; (with_reducible repeat (first | refine blk_drewN ?_ _ | refine blk_drew ?_ | refine blk_alloc ?_ _)); refine blk_far ?_ NB233_235.out _; (with_reducible repeat (first | refine blk_drewN ?_ _ | refine blk_drew ?_ | refine blk_alloc ?_ _)); exact BK233.out⟩, ⟨bB10⟩⟩
      ·rw [if_neg c9] at H
       exact absurd H (by simp)
     ·rw [if_neg c8] at H
      exact absurd H (by simp)
    ·rw [if_neg c7] at H
     have c7b0 : decide (x17_1 < (l0.length : Int)) = false := decide_eq_false c7
     clear c7
     simp only [Option.some.injEq, Prod.mk.injEq] at H
     obtain ⟨rfl, rfl⟩ := H
     go_wp2
     repeat (go_quiet (fail); try go_wp2)
     go_ret2
     exact ⟨_, rR, by (with_reducible repeat (first | apply Kd.R_alloc | apply Kd.R_drewN | apply Kd.R_drew)); exact HO_5.out, bB9⟩
 ·rw [if_neg c3] at H
  have c3b0 : (t231 == 0) = false := beq_eq_false_iff_ne.mpr c3
  have c3b1 : (t231 != 0) = true := bne_iff_ne.mpr c3
  simp only [Option.some.injEq, Prod.mk.injEq] at H
  obtain ⟨rfl, rfl⟩ := H
  go_enter Tryd.func17, Tryd.ntmps17
  go_wp2_with (first | (go_at_call 39; (with_reducible refine (races_Check.calls k _ _ l0 t231 t232 _ ?side1 ?side2 A2.out).mono ?_); (case side1 => repeat (first | exact HR0.out | (with_reducible refine Kd.C_alloc ?_ _) | (with_reducible refine Kd.C_drewN ?_ _) | (with_reducible refine Kd.C_drew ?_))); (case side2 => exact HC0.out); rintro e w19 ⟨rfl, hb⟩; have n0_ := Aside0.mk (below_step (bB) hb); clear HB; have HB := n0_; clear n0_; (try clear hb); (try clear hb2); (try clear hk); (try clear hi)) | ((with_reducible refine gate_dst (N := 4) rfl ?_); refine box_event ?hg (N := 4) ?hd (cs := #[.int .i64 0, .int .i64 0]) (t := 86) ?hr ?_; (case hd => rfl); (case hg => rfl); (case hr => first | (go_simp; done) | (go_simp; rfl)); intro gb233 hg w20 hbox hb; have n0_ := Aside0.mk (below_step (bB) hb); have n1_ := Aside0.mk (hbox); have n2_ := Aside0.mk ((by rw [hg]; exact (below_size (bB)) : w.heap.size ≤ gb233)); have n3_ := Aside0.mk ((by rw [hg]; exact (below_size (bB)) : w.heap.size ≤ gb233)); clear HB; have HB := n0_; have BK233 := n1_; have GW233 := n2_; have GE233 := n3_; clear n0_ n1_ n2_ n3_; clear hb hbox hg; have hcz21_0 : w20.cell? ⟨gb233, 0, none⟩ = some (.int .i64 0) := (blk_cell BK233.out 0).trans rfl; have hcz21_1 : w20.cell? ⟨gb233, 1, none⟩ = some (.int .i64 0) := (blk_cell BK233.out 1).trans rfl; have hfz21_0 := blk_frozen BK233.out 0; have hfz21_1 := blk_frozen BK233.out 1))
  repeat (go_quiet (first | (go_at_call 39; (with_reducible refine (races_Check.calls k _ _ l0 t231 t232 _ ?side1 ?side2 A2.out).mono ?_); (case side1 => repeat (first | exact HR0.out | (with_reducible refine Kd.C_alloc ?_ _) | (with_reducible refine Kd.C_drewN ?_ _) | (with_reducible refine Kd.C_drew ?_))); (case side2 => exact HC0.out); rintro e w19 ⟨rfl, hb⟩; have n0_ := Aside0.mk (below_step (bB) hb); clear HB; have HB := n0_; clear n0_; (try clear hb); (try clear hb2); (try clear hk); (try clear hi)) | ((with_reducible refine gate_dst (N := 4) rfl ?_); refine box_event ?hg (N := 4) ?hd (cs := #[.int .i64 0, .int .i64 0]) (t := 86) ?hr ?_; (case hd => rfl); (case hg => rfl); (case hr => first | (go_simp; done) | (go_simp; rfl)); intro gb233 hg w20 hbox hb; have n0_ := Aside0.mk (below_step (bB) hb); have n1_ := Aside0.mk (hbox); have n2_ := Aside0.mk ((by rw [hg]; exact (below_size (bB)) : w.heap.size ≤ gb233)); have n3_ := Aside0.mk ((by rw [hg]; exact (below_size (bB)) : w.heap.size ≤ gb233)); clear HB; have HB := n0_; have BK233 := n1_; have GW233 := n2_; have GE233 := n3_; clear n0_ n1_ n2_ n3_; clear hb hbox hg; have hcz21_0 : w20.cell? ⟨gb233, 0, none⟩ = some (.int .i64 0) := (blk_cell BK233.out 0).trans rfl; have hcz21_1 : w20.cell? ⟨gb233, 1, none⟩ = some (.int .i64 0) := (blk_cell BK233.out 1).trans rfl; have hfz21_0 := blk_frozen BK233.out 0; have hfz21_1 := blk_frozen BK233.out 1)); try go_wp2_with (first | (go_at_call 39; (with_reducible refine (races_Check.calls k _ _ l0 t231 t232 _ ?side1 ?side2 A2.out).mono ?_); (case side1 => repeat (first | exact HR0.out | (with_reducible refine Kd.C_alloc ?_ _) | (with_reducible refine Kd.C_drewN ?_ _) | (with_reducible refine Kd.C_drew ?_))); (case side2 => exact HC0.out); rintro e w19 ⟨rfl, hb⟩; have n0_ := Aside0.mk (below_step (bB) hb); clear HB; have HB := n0_; clear n0_; (try clear hb); (try clear hb2); (try clear hk); (try clear hi)) | ((with_reducible refine gate_dst (N := 4) rfl ?_); refine box_event ?hg (N := 4) ?hd (cs := #[.int .i64 0, .int .i64 0]) (t := 86) ?hr ?_; (case hd => rfl); (case hg => rfl); (case hr => first | (go_simp; done) | (go_simp; rfl)); intro gb233 hg w20 hbox hb; have n0_ := Aside0.mk (below_step (bB) hb); have n1_ := Aside0.mk (hbox); have n2_ := Aside0.mk ((by rw [hg]; exact (below_size (bB)) : w.heap.size ≤ gb233)); have n3_ := Aside0.mk ((by rw [hg]; exact (below_size (bB)) : w.heap.size ≤ gb233)); clear HB; have HB := n0_; have BK233 := n1_; have GW233 := n2_; have GE233 := n3_; clear n0_ n1_ n2_ n3_; clear hb hbox hg; have hcz21_0 : w20.cell? ⟨gb233, 0, none⟩ = some (.int .i64 0) := (blk_cell BK233.out 0).trans rfl; have hcz21_1 : w20.cell? ⟨gb233, 1, none⟩ = some (.int .i64 0) := (blk_cell BK233.out 1).trans rfl; have hfz21_0 := blk_frozen BK233.out 0; have hfz21_1 := blk_frozen BK233.out 1)))
  go_ret2
  exact ⟨_, rR, by first | exact Kd.R_nil _ _ _ _ _ | exact Kd.N_nil _ _ _ _ _ | exact Kd.V_nil _ _ _ _ _ | exact Kd.Q_nil _ _ _ _ _ | exact Kd.S_nil _ _ _ _ _, bB9⟩

end Go.Proofs.YtamfkglnejhjdaaDoor.PHyperFold
namespace Go.Proofs.YtamfkglnejhjdaaDoor.Refuse
open Go.Proofs.YtamfkglnejhjdaaDoorW.PrintLast (rR bB sI sZ sC)
open Go.Proofs.YtamfkglnejhjdaaDoor.PHyperFold
open Go.RowKit Go.Proofs.YtamfkglnejhjdaaDoorW.PrintWords Go.Proofs.YtamfkglnejhjdaaDoorW.PrintLast Go.Proofs.YtamfkglnejhjdaaDoorW.PrintMore
attribute [local go_sem] max2_int min2_int max_two min_two max_three min_three max_four min_four   -- for this text's walks alone
set_option linter.unusedVariables false
set_option linter.unusedSimpArgs false

def hyper_refuse.f (k : Nat) (l0 : List (S46)) (l1 : List Bool) (l2 : List Int) : Option (Int) := if (l0.length : Int) > 4096 then (some 2) else (if (l1.length : Int) > 4096 then (some 2) else (if (l2.length : Int) > 1048576 then (some 2) else ((races_Check.f k l0).bind fun bt114 => (some bt114.1))))
theorem hyper_refuse.mono : ∀ a0 a1 a2 k, LeO (hyper_refuse.f k a0 a1 a2) (hyper_refuse.f (k + 1) a0 a1 a2) := by
 intro a0 a1 a2 k
 unfold hyper_refuse.f
 repeat' first
   | (with_reducible exact races_Check.mono _ _)
   | (with_reducible exact LeO.refl _)
   | (with_reducible exact LeO.none _)
   | (with_reducible refine LeO.ite ?_ ?_)
   | (with_reducible refine LeO.bind ?_ (fun _ => ?_))
   | exact races_Check.mono _ _
   | exact LeO.none _
   | refine LeO.ite ?_ ?_
   | refine LeO.bind ?_ (fun _ => ?_)
set_option maxHeartbeats 8000000 in
set_option maxRecDepth 100000 in
theorem hyper_refuse.calls (k : Nat) (A0 : Option Addr) (c0 : Nat) (l0 : List (S46)) (A1 : Option Addr) (c1 : Nat) (l1 : List Bool) (A2 : Option Addr) (c2 : Nat) (l2 : List Int) (r : Int) (w : World) (hr0 : Kd.C k46 w A0 l0.length l0) (hc0 : l0.length ≤ c0) (hr1 : Kd.C Kd.bool w A1 l1.length l1) (hc1 : l1.length ≤ c1) (hr2 : Kd.C (Kd.int .i64) w A2 l2.length l2) (hc2 : l2.length ≤ c2) (h : hyper_refuse.f k l0 l1 l2 = some r) :
  Calls Tryd.prog 18 #[.slice A0 l0.length c0, .slice A1 l1.length c1, .slice A2 l2.length c2] w fun e w' => e = .returned (.int .i64 r) ∧ Below w.heap.size w w' := by
 have HR0 := Aside0.mk hr0
 have HC0 := Aside0.mk hc0
 clear hr0 hc0
 have HR1 := Aside0.mk hr1
 have HC1 := Aside0.mk hc1
 clear hr1 hc1
 have HR2 := Aside0.mk hr2
 have HC2 := Aside0.mk hc2
 clear hr2 hc2
 have HB := Aside0.mk (Below.refl w.heap.size w)
 have H : (if (l0.length : Int) > 4096 then (some 2) else (if (l1.length : Int) > 4096 then (some 2) else (if (l2.length : Int) > 1048576 then (some 2) else ((races_Check.f k l0).bind fun bt114 => (some bt114.1))))) = some r := h
 clear h
 by_cases c4 : (l0.length : Int) > 4096
 ·rw [if_pos c4] at H
  have c4b0 : decide (4096 < (l0.length : Int)) = true := decide_eq_true c4
  have c4b1 : decide (4096 < l0.length) = true := decide_eq_true (by omega)
  clear c4
  obtain rfl := Option.some.inj H
  go_enter Tryd.func18, Tryd.ntmps18
  go_wp2
  go_ret
  exact ⟨rR, bB⟩
 ·rw [if_neg c4] at H
  have c4b0 : decide (4096 < (l0.length : Int)) = false := decide_eq_false c4
  have c4b1 : decide (4096 < l0.length) = false := decide_eq_false (by omega)
  clear c4
  by_cases c5 : (l1.length : Int) > 4096
  ·rw [if_pos c5] at H
   have c5b0 : decide (4096 < (l1.length : Int)) = true := decide_eq_true c5
   have c5b1 : decide (4096 < l1.length) = true := decide_eq_true (by omega)
   clear c5
   obtain rfl := Option.some.inj H
   go_enter Tryd.func18, Tryd.ntmps18
   go_wp2
   go_ret
   exact ⟨rR, bB⟩
  ·rw [if_neg c5] at H
   have c5b0 : decide (4096 < (l1.length : Int)) = false := decide_eq_false c5
   have c5b1 : decide (4096 < l1.length) = false := decide_eq_false (by omega)
   clear c5
   by_cases c6 : (l2.length : Int) > 1048576
   ·rw [if_pos c6] at H
    have c6b0 : decide (1048576 < (l2.length : Int)) = true := decide_eq_true c6
    have c6b1 : decide (1048576 < l2.length) = true := decide_eq_true (by omega)
    clear c6
    obtain rfl := Option.some.inj H
    go_enter Tryd.func18, Tryd.ntmps18
    go_wp2
    go_ret
    exact ⟨rR, bB⟩
   ·rw [if_neg c6] at H
    have c6b0 : decide (1048576 < (l2.length : Int)) = false := decide_eq_false c6
    have c6b1 : decide (1048576 < l2.length) = false := decide_eq_false (by omega)
    clear c6
    replace H := Option.bind_eq_some_iff.mp H
    obtain ⟨⟨t114, t115⟩, A70, H⟩ := H
    replace H : (some t114) = some r := H
    have A7 := Aside0.mk A70
    clear A70
    obtain rfl := Option.some.inj H
    have hfd : ∀ W : World, (Instr.field 86 (.agg #[.int .i64 t114, .int .i64 t115]) 0).run Tryd.prog W = .ok (.int .i64 t114) W := fun _ => by kernel_rfl
    go_enter Tryd.func18, Tryd.ntmps18
    go_wp2_with fail
    refine (races_Check.calls k _ _ l0 t114 t115 _ HR0.out HC0.out A7.out).mono ?_
    rintro e w8 ⟨rfl, hb⟩
    have HB2 := Aside0.mk hb
    clear hb
    go_wp2
    go_ret
    exact ⟨rfl, HB2.out⟩

def refF (l0 : List S46) (l1 : List Bool) (l2 : List Int) : Int := if l0.length > 4096 ∨ l1.length > 4096 ∨ l2.length > 1048576 then 2 else (Base.chkF l0).1
theorem refuse_f (l0 : List S46) (l1 : List Bool) (l2 : List Int) (k : Nat) (hk : 8200 ≤ k) : hyper_refuse.f k l0 l1 l2 = some (refF l0 l1 l2) := by
 unfold hyper_refuse.f refF
 by_cases h0 : l0.length > 4096
 ·rw [if_pos (by omega), if_pos (.inl h0)]
 ·rw [if_neg (by omega)]
  by_cases h1 : l1.length > 4096
  ·rw [if_pos (by omega), if_pos (.inr (.inl h1))]
  ·rw [if_neg (by omega)]
   by_cases h2 : l2.length > 1048576
   ·rw [if_pos (by omega), if_pos (.inr (.inr h2))]
   ·rw [if_neg (by omega), if_neg (by omega), Base.check_f l0 k hk]
    rfl
theorem refF_cases (l0 : List S46) (l1 : List Bool) (l2 : List Int) : refF l0 l1 l2 = 0 ↔ (l0.length ≤ 4096 ∧ l1.length ≤ 4096 ∧ l2.length ≤ 1048576 ∧ Play.right 0 (l0.map Base.dd) = true) := by
 unfold refF
 by_cases h : l0.length > 4096 ∨ l1.length > 4096 ∨ l2.length > 1048576
 ·rw [if_pos h]
  constructor
  ·intro e; cases e
  ·rintro ⟨h0, h1, h2, _⟩; omega
 ·rw [if_neg h]
  unfold Base.chkF
  rw [if_pos (by omega), Base.chk_right]
  constructor
  ·intro e; exact ⟨by omega, by omega, by omega, e⟩
  ·rintro ⟨_, _, _, e⟩; exact e
end Go.Proofs.YtamfkglnejhjdaaDoor.Refuse
namespace Go.Proofs.YtamfkglnejhjdaaDoor.VPlayState
open Go.Proofs.YtamfkglnejhjdaaDoorW.PrintLast (pA pS tS lb sI sZ sC)
open Go.Proofs.YtamfkglnejhjdaaDoor.PHyperFold (S46 k46 z46 rd_T46 at_T46 k46_open)
open Go.Proofs.YtamfkglnejhjdaaDoor.PHyperFold (S103 k103)
open Go.RowKit Go.Proofs.YtamfkglnejhjdaaDoorW.PrintWords Go.Proofs.YtamfkglnejhjdaaDoorW.PrintLast Go.Proofs.YtamfkglnejhjdaaDoorW.PrintMore Go.Proofs.YtamfkglnejhjdaaDoor.Fam Go.Proofs.YtamfkglnejhjdaaDoor.Play Go.Proofs.YtamfkglnejhjdaaDoor.Base
set_option linter.unusedVariables false
def t00 : List Value := [.slice none 0 0, .int .i64 0, .slice none 0 0]
def g00 (pO : Sl) (ps : List Int) : Gh := { vs := [], ks := [], rs := [], sp := ((none, 0, 0), []), vo := (none, 0, 0), ko := (none, 0, 0), ro := (none, 0, 0), mo := (none, 0, 0), po := pO, ps := ps, ms := [], oh := [] }
theorem fam_nils {α : Type} {enc : α → Value} {e : Nat} {h1 : ∀ x : α, (enc x).oneCell' = true} {w : World} {base : Nat} (n : Nat) : Fam enc e w base (List.replicate n ((.slice none 0 0 : Value), ([] : List α))) := by
 induction n with
 | zero => exact Fam.nil w base
 | succ n ih =>
  rw [List.replicate_succ]
  exact fam_nil_mid (h1 := h1) (L1 := []) ih
theorem PS.start (w : World) (pA : Option Addr) (pc : Nat) (ps : List Int) (hC : Kd.C (Kd.int .i64) w pA ps.length ps) (hc : ps.length ≤ pc) :
  PS w ((w.alloc (.cells #[.slice none 0 0, .int .i64 0, .slice none 0 0, .slice none 0 0] 41)).alloc (.cells #[.func (.func 31) #[] #[], .func (.func 32) #[] #[], .func (.func 33) #[] #[], .func (.func 34) #[] #[.pointer (some ⟨w.heap.size, 0, none⟩)], .slice none 0 0, .slice none 0 0, .slice none 0 0, .slice pA ps.length pc, .slice none 0 0] 81))
   (w.heap.size + 1) w.heap.size (fF w.heap.size) t00 (g00 (pA, ps.length, pc) ps) := by
 have hs : (w.alloc (.cells #[.slice none 0 0, .int .i64 0, .slice none 0 0, .slice none 0 0] 41)).heap.size = w.heap.size + 1 := by simp
 have b1 := below_alloc (Below.refl _ w) (.cells #[.slice none 0 0, .int .i64 0, .slice none 0 0, .slice none 0 0] 41)
 generalize hW : w.alloc (.cells #[.slice none 0 0, .int .i64 0, .slice none 0 0, .slice none 0 0] 41) = W at hs b1 ⊢
 have hn1 : W.heap[w.heap.size]? = some (.cells #[.slice none 0 0, .int .i64 0, .slice none 0 0, .slice none 0 0] 41 (0, 0)) := by rw [← hW]; exact blk_new _ _
 refine ⟨b1.alloc (below_size b1) _, ?_, by omega, ?_, Nat.le_refl _, Fam.nil _ _, ?_, ?_, ?_, Kd.R_nil _ _ _ _ _, hC, rfl, hc⟩
 ·rw [← hs]
  exact blk_new _ _
 ·exact blk_below hn1 (below_alloc (Below.refl _ _) _)
 ·exact fam_nils (h1 := fun _ => rfl) 1
 ·exact fam_nils (h1 := slv_one) 2
 ·exact fam_nils (h1 := slv_one) 1
theorem PS.tell {w0 w : World} {gp gt : Nat} {f t0 t1 : List Value} {g : Gh} (h : PS w0 w gp gt f t0 g) (i : Nat) (u : Value) (hc : ((t0 ++ [slv g.ko]).toArray.setIfInBounds i u) = (t1 ++ [slv g.ko]).toArray) :
  PS w0 (w.setCell ⟨gt, i, none⟩ u) gp gt f t1 g := by
 have keep : ∀ b, b < w.heap.size → b ≠ gt → (w.setCell ⟨gt, i, none⟩ u).heap[b]? = w.heap[b]? := fun b hb hn =>
  ((Kept.refl w (fun k => k = gt)).setCell (p := ⟨gt, i, none⟩) (.inl rfl) u).2 b hb hn
 have hne : gp ≠ gt := blk_ne h.bp h.bt (by decide)
 exact ⟨h.hb.setCell (p := ⟨gt, i, none⟩) h.get _, (keep gp (blk_lt h.bp) hne).trans h.bp, h.gep, blk_put h.bt i u hc, h.get, h.f2.far h.bt (by decide) keep, h.f3.far h.bt (by decide) keep, h.f28.far h.bt (by decide) keep, h.f24.far h.bt (by decide) keep,
  mg_grown h.mg k3_E (row := some gt) ⟨rfl, rfl, rfl, by simp, fun b hb hn => keep b hb (fun e => hn (by rw [e]))⟩ (fun b hb => by injection hb with hb; subst hb; exact ⟨_, _, h.bt, by decide⟩), h.pk⟩
def mS (m : Mg) : S103 := ⟨m.1, m.2.1, m.2.2⟩
theorem merges_R {w : World} {base : Nat} {ok : Nat → Prop} {v : Value} {ms : List Mg} (h : Kd.R k3 103 w base ok v (mgs ms)) : Kd.R k103 103 w base ok v (ms.map mS) := by
 obtain ⟨h0, inner, ho, hr⟩ := h
 refine ⟨h0, inner, ?_, ?_, fun j p hj => ?_⟩
 ·rw [List.length_map]
  rw [show (mgs ms).length = ms.length by simp [mgs]] at ho
  exact ho
 ·have := hr.1
  rw [show (mgs ms).length = ms.length by simp [mgs]] at this
  rw [List.length_map]
  exact this
 ·rw [List.getElem?_map] at hj
  cases hm : ms[j]? with
  | none => rw [hm] at hj; cases hj
  | some m =>
   rw [hm] at hj
   injection hj with hj
   subst hj
   exact hr.2 j ((m.1 : Int), (m.2.1 : Int), (m.2.2 : Int)) (by simp [mgs, hm])
theorem looks_S {w : World} {base : Nat} {ks : List Hd} {ko : Sl} {v0 : Value} {x0 : List Int} {L0 : List (Value × List Int)} (h28 : Fam slv 36 w base [(slv ko, ks.map (·.1))]) (h2 : Fam (Value.int .i64) 2 w base (L0 ++ ks.map hv)) (h0 : (v0, x0) ∈ L0) :
  Kd.S (Kd.slice 2 (Kd.int .i64)) 36 w base (fun k => some k ≠ v0.ownBlock) (slv ko) (ks.map (·.2)) := by
 have hown := h28.own _ (List.mem_singleton.2 rfl)
 have hty : ∀ b, (slv ko).ownBlock = some b → ∃ cells, w.heap[b]? = some (.cells cells 36 (0, 0)) := own_typed hown
 have hap := List.pairwise_append.1 h2.apart
 have ty2 : ∀ p, p ∈ L0 ++ ks.map hv → ∀ b, p.1.ownBlock = some b → ∃ cells, w.heap[b]? = some (.cells cells 2 (0, 0)) := fun p hp b hb => own_typed (h2.own p hp) b hb
 have no : ∀ p, p ∈ L0 ++ ks.map hv → ∀ b, p.1.ownBlock = some b → some b ≠ (slv ko).ownBlock := fun p hp b hb e => by
  obtain ⟨c1, h1⟩ := ty2 p hp b hb
  obtain ⟨c2, h3⟩ := hty b e.symm
  rw [h1] at h3
  injection h3 with h3
  injection h3 with _ h3
  exact absurd h3 (by decide)
 refine ⟨fun k => ks.findIdx (fun h => (slv h.1).ownBlock == some k), fun k hk e => ?_, (ks.map (fun h => slv h.1)), ?_, ?_, fun j p hj => ?_⟩
 ·exact no _ (List.mem_append_left _ h0) k e.symm hk.symm
 ·have : (encs slv (ks.map (fun h : Hd => h.1))) = ks.map (fun h => slv h.1) := by simp [encs]
  rw [show (ks.map (fun h : Hd => h.2)).zipIdx.length = (ks.map (fun h : Hd => h.1)).length by simp, ← this]
  exact hown
 ·show (ks.map (fun h => slv h.1)).length = (ks.map (fun h : Hd => h.2)).zipIdx.length * 1
  simp
 ·rw [List.getElem?_zipIdx, List.getElem?_map] at hj
  cases hm : ks[j]? with
  | none => rw [hm] at hj; cases hj
  | some h =>
   rw [hm] at hj
   simp only [Option.map_some, Option.some.injEq, Nat.zero_add] at hj
   subst hj
   have hlt := (List.getElem?_eq_some_iff.1 hm).1
   have hmem : hv h ∈ ks.map hv := List.mem_map.2 ⟨h, List.mem_iff_getElem?.2 ⟨j, hm⟩, rfl⟩
   have hmem2 : (slv h.1, h.2) ∈ L0 ++ ks.map hv := List.mem_append_right _ hmem
   refine ⟨slv h.1, ?_, ?_⟩
   ·show ((ks.map (fun h => slv h.1)).drop (j * 1)).take 1 = [slv h.1]
    rw [Nat.mul_one, List.drop_eq_getElem_cons (by simpa using hlt)]
    simp [(List.getElem?_eq_some_iff.1 hm).2]
   ·refine Kd.R_mono (Fam.R (h1 := fun _ => rfl) h2 hmem2) (fun k hk => ?_)
    replace hk : (slv h.1).ownBlock = some k := hk
    refine ⟨⟨fun e => ?_, fun e => no _ hmem2 k hk e⟩, ?_⟩
    ·rcases hap.2.2 _ h0 _ hmem with h4 | h4
     ·rw [show (v0, x0).1 = v0 from rfl] at h4; rw [h4] at e; cases e
     ·exact h4 (by show v0.ownBlock = (slv h.1).ownBlock; rw [hk, e])
    ·show ks.findIdx (fun h => (slv h.1).ownBlock == some k) = j
     rw [List.findIdx_eq hlt]
     refine ⟨by rw [(List.getElem?_eq_some_iff.1 hm).2, hk]; simp, fun i hi => ?_⟩
     have hpw := List.pairwise_iff_getElem.1 hap.2.1 i j (by simp; omega) (by simpa using hlt) hi
     simp only [List.getElem_map] at hpw
     rw [(List.getElem?_eq_some_iff.1 hm).2] at hpw
     rcases hpw with h4 | h4
     ·replace h4 : (slv (ks[i]).1).ownBlock = none := h4
      rw [h4]; rfl
     ·replace h4 : (slv (ks[i]).1).ownBlock ≠ (slv h.1).ownBlock := h4
      rw [hk] at h4
      simpa using h4
end Go.Proofs.YtamfkglnejhjdaaDoor.VPlayState

namespace Go.Proofs.YtamfkglnejhjdaaDoor.VPlayState
open Go.Proofs.YtamfkglnejhjdaaDoorW.PrintLast (pA pS tS lb sI sZ sC)
open Go.Proofs.YtamfkglnejhjdaaDoor.PHyperFold (info3 S46 k46 z46 rd_T46 at_T46 k46_open)
open Go.Proofs.YtamfkglnejhjdaaDoor.PHyperFold (S103 k103)
open Go.Proofs.YtamfkglnejhjdaaDoor.Refuse
open Go.RowKit Go.Proofs.YtamfkglnejhjdaaDoorW.PrintWords Go.Proofs.YtamfkglnejhjdaaDoorW.PrintLast Go.Proofs.YtamfkglnejhjdaaDoorW.PrintMore Go.Proofs.YtamfkglnejhjdaaDoor.Fam Go.Proofs.YtamfkglnejhjdaaDoor.Play Go.Proofs.YtamfkglnejhjdaaDoor.Base
set_option linter.unusedSimpArgs false
set_option linter.unusedVariables false

def P15 : Bool × List (List Nat × List Nat) := (true, [([], []), ([0], [0]), ([1], [1]), ([2], [2]), ([3], [3]), ([4], [4]), ([5], [5]), ([], []), ([7], [7]), ([8], [8]), ([9], [9]), ([10], [10]), ([], []), ([12], [12]), ([13], [13]), ([14], [14]), ([0, 1, 2, 3, 4, 5, 6], []), ([16, 6, 6, 0, 1, 2, 3, 4, 5, 6], [6, 16]), ([0, 1, 2, 3, 4, 5, 6, 7, 8, 9, 10, 11, 16, 17], []), ([18, 11, 17, 0, 1, 2, 3, 4, 5, 6, 7, 8, 9, 10, 11, 16, 17], [11, 18]), ([0, 1, 2, 3, 4, 5, 6, 7, 8, 9, 10, 11, 12, 13, 14, 15, 16, 17, 18, 19], []), ([20, 15, 19, 0, 1, 2, 3, 4, 5, 6, 7, 8, 9, 10, 11, 12, 13, 14, 15, 16, 17, 18, 19], [15, 20])])
def P15B : List Nat := [0, 1, 3, 7, 15, 31, 63, 0, 128, 384, 896, 1920, 0, 4096, 12288, 28672, 127, 65663, 200703, 462847, 1048575, 2097151]
theorem P15_tab : rtab .any (opsOf Tryd.f14 7) = P15 := by kernel_rfl
theorem P15_bits : waitsOk P15.2 P15B = true := by kernel_rfl

theorem setCell_keep (w : World) (g i : Nat) (u : Value) : ∀ b, b < w.heap.size → b ≠ g → (w.setCell ⟨g, i, none⟩ u).heap[b]? = w.heap[b]? := fun b hb hn =>
 ((Kept.refl w (fun k => k = g)).setCell (p := ⟨g, i, none⟩) (.inl rfl) u).2 b hb hn
def playF (l0 : List S46) (l1 : List Bool) (l2 : List Int) : List Int × Int × List S103 × List (List Int) × Int :=
 if refF l0 l1 l2 = 0 then ((play red l1 l2 (l0.map dd)).views.getD 0 [], ((play red l1 l2 (l0.map dd)).views.length : Int), (play red l1 l2 (l0.map dd)).merges.map mS, (play red l1 l2 (l0.map dd)).looks, 0) else ([], 0, [], [], refF l0 l1 l2)
theorem play_inv {l1 : List Bool} {l2 : List Int} {ds : List (Int × Int)} (hr : right 0 ds = true) : Inv (play red l1 l2 ds) (puts ds) ∧ (play red l1 l2 ds).up = [] ∧ (play red l1 l2 ds).cur = [0] := by
 have h := Inv.run l1 ds 0 (Play.start red l2) [] (Inv.start l2) hr
 rw [List.nil_append] at h
 exact Inv.finish ds.length _ _ _ h rfl
theorem play_first {l1 : List Bool} {l2 : List Int} {ds : List (Int × Int)} (hr : right 0 ds = true) : (play red l1 l2 ds).views.getD 0 [] = puts ds ∧ 0 < (play red l1 l2 ds).views.length := by
 obtain ⟨h1, h2, h3⟩ := play_inv (l1 := l1) (l2 := l2) hr
 have hv := h1.value
 have hb := h1.bound
 rw [h2, h3] at hv hb
 exact ⟨by simpa [live, flat] using hv, hb 0 (by simp [live])⟩
theorem puts_le (ds : List (Int × Int)) : (puts ds).length ≤ ds.length := by unfold puts; rw [List.length_map]; exact List.length_filter_le _ _
theorem fam_lower {α : Type} {enc : α → Value} {e : Nat} (h1 : ∀ x : α, (enc x).oneCell' = true) {w : World} {base base' : Nat} {L : List (Value × List α)} (h : Fam enc e w base L) (hb : base' ≤ base) : Fam enc e w base' L :=
 ⟨fun p hp => Kd.own_of_R (Kd.R_lower (Fam.R (h1 := h1) h hp) hb), h.apart⟩
def PEnd (w w' : World) (e : Ending) (r : List Int × Int × List S103 × List (List Int) × Int) : Prop :=
 ∃ (v0_ v2_ : Value) (ko : Sl) (ks : List Hd), e = .returned (.tuple #[.agg #[v0_, .int .i64 r.2.1, v2_, slv ko], .int .i64 r.2.2.2.2]) ∧ Kd.R k103 103 w' w.heap.size (fun _ => True) v2_ r.2.2.1 ∧ Fam slv 36 w' w.heap.size [(slv ko, ks.map (·.1))] ∧ Fam (Value.int .i64) 2 w' w.heap.size ((v0_, r.1) :: ks.map hv) ∧ ks.map (·.2) = r.2.2.2.1 ∧ Below w.heap.size w w'
theorem PEnd.stores {w w' : World} {e : Ending} {r : List Int × Int × List S103 × List (List Int) × Int} {g : Nat} {cs : Array Value} (h : PEnd w w' e r) (hb : w'.heap[g]? = some (.cells cs 41 (0, 0))) (hg : w.heap.size ≤ g) (i : Nat) (u : Value) : PEnd w (w'.setCell ⟨g, i, none⟩ u) e r := by
 obtain ⟨v0, v2, ko, ks, h1, h3, h4, h6, h7, h5⟩ := h
 have k103_ : ∀ q, q ∈ (103 : Nat) :: k103.E → q ≠ 41 := by decide
 have hk : ∀ b, b < w'.heap.size → b ≠ g → (w'.setCell ⟨g, i, none⟩ u).heap[b]? = w'.heap[b]? := fun b _ hne => Below.heap_setCell w' ⟨g, i, none⟩ u b hne
 exact ⟨v0, v2, ko, ks, h1, Kd.R_set h3 hb k103_ i u, h4.far hb (by decide) hk, h6.far hb (by decide) hk, h7, h5.setCell (p := ⟨g, i, none⟩) hg u⟩
set_option maxHeartbeats 16000000 in
set_option maxRecDepth 100000 in
theorem play_walk (A0 : Option Addr) (c0 : Nat) (l0 : List S46) (A1_ : Option Addr) (c1_ : Nat) (l1 : List Bool) (A2_ : Option Addr) (c2_ : Nat) (l2 : List Int) (w : World) (hr0 : Kd.C k46 w A0 l0.length l0) (hc0 : l0.length ≤ c0) (hr1 : Kd.C Kd.bool w A1_ l1.length l1) (hc1 : l1.length ≤ c1_) (hr2 : Kd.C (Kd.int .i64) w A2_ l2.length l2) (hc2 : l2.length ≤ c2_) :
  Calls Tryd.prog 14 #[.slice A0 l0.length c0, .slice A1_ l1.length c1_, .slice A2_ l2.length c2_] w fun e w' => PEnd w w' e (playF l0 l1 l2) := by
 have hu39 := Tryd.underlying41
 have hmf : ∀ (fn : Fn) (first cap : Array Value) (w : World), (Instr.makeFunc fn first cap).run Tryd.prog w = .ok (.func fn first cap) w := fun _ _ _ _ => rfl
 have HR0 := Aside0.mk hr0
 have HC0 := Aside0.mk hc0
 have HR1 := Aside0.mk hr1
 have HC1 := Aside0.mk hc1
 have HR2 := Aside0.mk hr2
 have HC2 := Aside0.mk hc2
 have b1 := below_alloc (Below.refl w.heap.size w) (.cells #[.slice none 0 0, .int .i64 0, .slice none 0 0, .slice none 0 0] 41)
 have HB1 := Aside0.mk b1
 have HN1 := Aside0.mk (blk_new w (.cells #[.slice none 0 0, .int .i64 0, .slice none 0 0, .slice none 0 0] 41))
 obtain ⟨e, he⟩ : ∃ e, e = refF l0 l1 l2 := ⟨_, rfl⟩
 have HE := Aside0.mk he
 have HRef := Aside0.mk (hyper_refuse.calls 8200 A0 c0 l0 A1_ c1_ l1 A2_ c2_ l2 e (w.alloc (.cells #[.slice none 0 0, .int .i64 0, .slice none 0 0, .slice none 0 0] 41)) (Kd.C_below hr0 b1) hc0 (Kd.C_below hr1 b1) hc1 (Kd.C_below hr2 b1) hc2 (by rw [he]; exact refuse_f l0 l1 l2 8200 (Nat.le_refl _)))
 clear hr0 hc0 hr1 hc1 hr2 hc2 b1 he
 by_cases h0 : e = 0
 ·subst h0
  go_enter Tryd.func14, Tryd.ntmps14
  go_wp2_with fail
  refine HRef.out.mono ?_
  rintro e w1 ⟨rfl, hb⟩
  have HB2 := Aside0.mk (below_step HB1.out (by exact hb))
  have HN2 := Aside0.mk (blk_below HN1.out hb)
  clear hb HRef HB1 HN1
  have HRt := Aside0.mk ((refF_cases l0 l1 l2).1 HE.out.symm)
  have HPS := Aside0.mk (PS.start w1 A2_ c2_ l2 (Kd.C_below HR2.out HB2.out) HC2.out)
  have HRun := Aside0.mk (run_walk (gp := w1.heap.size + 1) (gt := w1.heap.size) (t0 := t00) rfl A0 c0 l0 A1_ c1_ l1 (Kd.C_below HR0.out HB2.out) HC0.out (Kd.C_below HR1.out HB2.out) HC1.out l2 (A2_, l2.length, c2_) HPS.out HRt.out.1 HRt.out.2.1 HRt.out.2.2.2)
  clear HPS
  go_wp2_with fail
  refine HRun.out.mono ?_
  rintro e w2 ⟨rfl, hat⟩
  clear HRun
  obtain ⟨s, hs⟩ : ∃ s, s = play red l1 l2 (l0.map dd) := ⟨_, rfl⟩
  rw [← hs] at hat
  obtain ⟨g, hp2, hr2⟩ := hat
  obtain ⟨hv0, hvpos⟩ := play_first (l1 := l1) (l2 := l2) HRt.out.2.2.2
  rw [← hs] at hv0 hvpos
  have hyl : (s.views.getD 0 []).length ≤ 4096 := by rw [hv0]; have := puts_le (l0.map dd); rw [List.length_map] at this; have := HRt.out.1; omega
  obtain ⟨gv, vn, vc, aA, an, ac, hvo, hvn, hvq, hF, hMem⟩ := view_facts hr2.toRep0 (fF_len _) (v := 0) hvpos hp2
  obtain ⟨ya, hya⟩ : ∃ y, y = s.views.getD 0 [] := ⟨_, rfl⟩
  rw [← hya] at hvq hF hMem hyl
  obtain ⟨⟨mA, mn, mc⟩, hmo⟩ : ∃ t : Sl, g.mo = t := ⟨_, rfl⟩
  generalize w1.heap.size + 1 = gp at *
  obtain ⟨gt, hgt⟩ : ∃ gt, w1.heap.size = gt := ⟨_, rfl⟩
  have hgtw : w1.heap.size ≤ gt := by omega
  have HGT := Aside0.mk hgt
  rw [hgt] at hp2 hF ⊢
  have han : an = ya.length := (Kd.R_reads' (hF g rfl rfl w2 hp2).2.2.2.2).1
  subst han
  have hC : ∀ (t' : List Value) w', PS w1 w' gp gt (fF gt) t' g → w'.cell? ⟨gp, 4, none⟩ = some (.slice (some ⟨gv, 0, none⟩) vn vc) ∧ w'.cell? ⟨gv, 0, none⟩ = some (.slice aA ya.length ac) ∧ w'.cell? ⟨gp, 8, none⟩ = some (.slice mA mn mc) := fun t' w' h => by
   have h1 := h.cell (fF_len gt)
   rw [hvo, hmo] at h1
   obtain ⟨g2, c2, e5, h5, _⟩ := fam_at (h1 := slv_one) h.f28 0 rfl (none, 0, 0) 0 (by rw [List.length_map, hr2.views_len]; exact hvpos)
   have e6 := slv_form e5
   rw [hvo] at e6
   obtain rfl := addr_inj e6
   rw [List.getD_eq_getElem?_getD, List.getElem?_map, hvq] at h5
   exact ⟨h1.1, h5, h1.2.2.2.2⟩
  have hY : ∀ w', PS w1 w' gp gt (fF gt) t00 g → Kd.C (Kd.int .i64) w' aA ya.length ya := fun w' h => (Kd.R_reads' (hF g rfl rfl w' h).2.2.2.2).2.2
  have HP2 := Aside0.mk hp2
  have HRp := Aside0.mk hr2
  have HC := Aside0.mk hC
  have HY := Aside0.mk (And.intro hY hyl)
  have HS := Aside0.mk hs
  have HV := Aside0.mk (And.intro hvn (And.intro hya hmo))
  have lv : (0 < vn) = True := eq_true (by omega)
  clear hp2 hr2 hC hY hs hvo hvn hvq hF hMem hya hyl hv0 hvpos hmo hgt hgtw
  go_upto_region 7 with fail
  refine start_ (n := 22) (S := (fun w' => w'.cell? ⟨gp, 4, none⟩ = some (.slice (some ⟨gv, 0, none⟩) vn vc) ∧ w'.cell? ⟨gv, 0, none⟩ = some (.slice aA ya.length ac) ∧ w'.cell? ⟨gp, 8, none⟩ = some (.slice mA mn mc))) (ds := [21]) (lb 22 0) (by kernel_rfl) rfl rfl (HC.out _ w2 HP2.out) (fun hHeld => ?_); refine with_tabW P15_tab P15_bits (fun HT_ HW_ => ?_)
  have HP3 := Aside0.mk (HP2.out.below (w1 := w2.drew) (Drawn0.below ⟨⟨1, rfl⟩⟩))
  clear HP2
  generalize w2.drew = w3 at HP3 hHeld ⊢
  refine pS 0 28 1 22 HT_.out ?_
  refine pS 1 29 3 22 HT_.out ?_
  refine pS 2 30 7 22 HT_.out ?_
  refine tS 3 31 15 22 HT_.out HW_.out hHeld ?_
  refine pS 4 32 31 22 HT_.out ?_
  refine tS 5 33 63 22 HT_.out HW_.out hHeld ?_
  refine pS 7 35 191 22 HT_.out ?_
  refine pS 8 36 447 22 HT_.out ?_
  refine pS 9 37 959 22 HT_.out ?_
  refine tS 10 38 1983 22 HT_.out HW_.out hHeld ?_
  refine pS 11 39 4031 22 HT_.out ?_
  refine pS 12 40 8127 22 HT_.out ?_
  refine pS 13 41 16319 22 HT_.out ?_
  refine pS 14 42 32703 22 HT_.out ?_
  refine tS 15 43 65471 22 HT_.out HW_.out hHeld ?_
  refine one_ (i := 6) (N := some 34) (lb 22 65535) rfl rfl (one_of HT_.out (by kernel_rfl)) (by decide) (fun K hK => ?_)
  refine Kd.R_append_rows_step (Kd.int .i64) (w0 := w1) w1.heap.size (by rfl) (.const (.slice none 0 0)) (.tmp 33) 36 2 (.int .i64 0) 8 rfl Tryd.underlying36 info2 rfl (by decide) (by omega) (.slice none 0 0) [] ya _ _ _ (fun _ => True) (fun _ => False) rfl rfl ?aO ?aR (fun _ _ h => h) (fun _ h => h.elim) ?aF ?aB ?aS ?aL ?_
  (case aR => exact HY.out.1 w3 HP3.out)
  (case aB => exact HP3.out.hb)
  (case aF => exact (fun _ _ => trivial))
  (case aO => exact Kd.R_nil _ _ _ _ _)
  (case aS => exact (below_size HP3.out.hb))
  (case aL => have := HY.out.2; simp; omega)
  intro v1 w5 ho hb hg hat
  obtain ⟨A1, c1, rfl, _, _⟩ := Kd.R_reads ho
  rw [List.nil_append] at ho hat ⊢
  have HG := Aside0.mk (HP3.out.look_row (t1 := (A1, ya.length, c1)) (xs1 := ya) ⟨ho, hb, hg, hat⟩)
  clear ho hb hg hat HP3
  refine hK.out _ _ (HC.out _ w5 HG.out.1) (fun hHeld => ?_)
  clear hK K
  refine norm_ (a' := ?_) ?_ ?_
  rotate_left
  ·show Act.put _ (some 34) _ = _
   simp only [Act.put, sI, sZ, sC, i64_w, i32_w]
   rfl
  refine pS 16 44 131071 22 HT_.out ?_
  refine one_ (i := 17) (N := none) (lb 22 262143) rfl rfl (one_of HT_.out (by kernel_rfl)) (by decide) (fun K hK => ?_)
  have hq0 := blk_cell HG.out.1.bt 0
  have hf0 := blk_frozen HG.out.1.bt 0
  replace hq0 : w5.cell? ⟨gt, 0, none⟩ = some (.slice none 0 0) := hq0
  have HP6 := Aside0.mk (HG.out.1.tell 0 (.slice A1 ya.length c1) (t1 := [.slice A1 ya.length c1, .int .i64 0, .slice none 0 0]) rfl)
  have HF6 := Aside0.mk (HG.out.2.far HG.out.1.bt (by decide) (setCell_keep w5 gt 0 (.slice A1 ya.length c1)))
  refine skip_ (w1 := ?_) (by rfl) rfl ?_ ?_
  rotate_left
  ·go_simp
   rfl
  refine hK.out _ _ (HC.out _ _ HP6.out) (fun hHeld => ?_)
  clear hK K
  clear hq0 hf0 HG
  replace HF6 : Aside0 (Fam (Value.int .i64) 2 (w5.setCell ⟨gt, 0, none⟩ (.slice A1 ya.length c1)) w1.heap.size ((g.vs.map hv ++ g.ks.map hv) ++ [(.slice A1 ya.length c1, ya)])) := HF6
  generalize w5.setCell ⟨gt, 0, none⟩ (.slice A1 ya.length c1) = w6 at HP6 HF6 hHeld ⊢
  refine pS 18 45 524287 22 HT_.out ?_
  refine one_ (i := 19) (N := none) (lb 22 1048575) rfl rfl (one_of HT_.out (by kernel_rfl)) (by decide) (fun K hK => ?_)
  have hq0 := blk_cell HP6.out.bt 1
  have hf0 := blk_frozen HP6.out.bt 1
  replace hq0 : w6.cell? ⟨gt, 1, none⟩ = some (.int .i64 0) := hq0
  have HP7 := Aside0.mk (HP6.out.tell 1 (.int .i64 (vn : Int)) (t1 := [.slice A1 ya.length c1, .int .i64 (vn : Int), .slice none 0 0]) rfl)
  have HF7 := Aside0.mk (HF6.out.far HP6.out.bt (by decide) (setCell_keep w6 gt 1 (.int .i64 (vn : Int))))
  refine skip_ (w1 := ?_) (by rfl) rfl ?_ ?_
  rotate_left
  ·go_simp
   rfl
  refine hK.out _ _ (HC.out _ _ HP7.out) (fun hHeld => ?_)
  clear hK K
  clear hq0 hf0 HP6 HF6
  generalize w6.setCell ⟨gt, 1, none⟩ (.int .i64 (vn : Int)) = w7 at HP7 HF7 hHeld ⊢
  refine pS 20 46 2097151 22 HT_.out ?_
  refine last_ (i := 21) (N := none) (lb 22 4194303) rfl rfl (one_of HT_.out (by kernel_rfl)) (by decide) (fun K hK => ?_)
  have hq0 := blk_cell HP7.out.bt 2
  have hf0 := blk_frozen HP7.out.bt 2
  replace hq0 : w7.cell? ⟨gt, 2, none⟩ = some (.slice none 0 0) := hq0
  have HP8 := Aside0.mk (HP7.out.tell 2 (.slice mA mn mc) (t1 := [.slice A1 ya.length c1, .int .i64 (vn : Int), .slice mA mn mc]) rfl)
  have HF8 := Aside0.mk (HF7.out.far HP7.out.bt (by decide) (setCell_keep w7 gt 2 (.slice mA mn mc)))
  refine skip_ (w1 := ?_) (by rfl) rfl ?_ ?_
  rotate_left
  ·go_simp
   rfl
  refine hK.out _ _ ?_
  clear hK K
  refine done_ (done_of HT_.out (by kernel_rfl)) ?_
  clear HT_ HW_ hHeld

  clear hq0 hf0
  generalize w7.setCell ⟨gt, 2, none⟩ (.slice mA mn mc) = w9 at HP8 HF8 ⊢
  clear HP7 HF7
  obtain ⟨⟨kA, kn, kc⟩, hko⟩ : ∃ t : Sl, g.ko = t := ⟨_, rfl⟩
  have hbt := HP8.out.bt
  rw [hko] at hbt
  have hx0 : w9.cell? ⟨gt, 0, none⟩ = some (.slice A1 ya.length c1) := (blk_cell hbt 0).trans rfl
  have hx1 : w9.cell? ⟨gt, 1, none⟩ = some (.int .i64 (vn : Int)) := (blk_cell hbt 1).trans rfl
  have hx2 : w9.cell? ⟨gt, 2, none⟩ = some (.slice mA mn mc) := (blk_cell hbt 2).trans rfl
  have hx3 : w9.cell? ⟨gt, 3, none⟩ = some (.slice kA kn kc) := (blk_cell hbt 3).trans rfl
  obtain ⟨gr, hgr⟩ : ∃ gr, w.heap.size = gr := ⟨_, rfl⟩
  have hbr := blk_below (show w1.heap[w.heap.size]? = _ from HN2.out) HP8.out.hb
  have hBw := below_step HB2.out HP8.out.hb
  rw [hgr] at hbr ⊢
  have hy0 : w9.cell? ⟨gr, 0, none⟩ = some (.slice none 0 0) := (blk_cell hbr 0).trans rfl
  have hy1 : w9.cell? ⟨gr, 1, none⟩ = some (.int .i64 0) := (blk_cell hbr 1).trans rfl
  have hy2 : w9.cell? ⟨gr, 2, none⟩ = some (.slice none 0 0) := (blk_cell hbr 2).trans rfl
  have hy3 : w9.cell? ⟨gr, 3, none⟩ = some (.slice none 0 0) := (blk_cell hbr 3).trans rfl
  have hz0 := blk_frozen hbr 0
  have hz1 := blk_frozen hbr 1
  have hz2 := blk_frozen hbr 2
  have hz3 := blk_frozen hbr 3
  have HEnd : Aside0 (PEnd w w9 (.returned (.tuple #[.agg #[.slice A1 ya.length c1, .int .i64 (vn : Int), .slice mA mn mc, .slice kA kn kc], .int .i64 0])) (playF l0 l1 l2)) := by
   have e1 : playF l0 l1 l2 = (ya, (vn : Int), s.merges.map mS, s.looks, 0) := by
    unfold playF
    rw [if_pos HE.out.symm, ← HS.out, HV.out.1, HV.out.2.1]
   rw [e1]
   have hle : w.heap.size ≤ w1.heap.size := below_size HB2.out
   have f28 := fam_less HP8.out.f28 (L2 := [(slv g.ko, g.ks.map (·.1))]) (List.sublist_cons_self _ _)
   rw [hko] at f28
   have f2 : Fam (Value.int .i64) 2 w9 w1.heap.size ([(Value.slice A1 ya.length c1, ya)] ++ g.ks.map hv) := fam_less (fam_perm HF8.out (L2 := [(Value.slice A1 ya.length c1, ya)] ++ (g.vs.map hv ++ g.ks.map hv)) List.perm_append_comm) ((List.Sublist.refl _).append (List.sublist_append_right _ _))
   have hM := HP8.out.mg
   rw [HV.out.2.2, HRp.out.ms] at hM
   exact ⟨_, _, g.ko, g.ks, by rw [hko]; rfl, Kd.R_lower (merges_R hM) hle, fam_lower slv_one (by rw [hko]; exact f28) hle, fam_lower (fun _ => rfl) f2 hle, HRp.out.ks, hBw⟩
  have HBR := Aside0.mk hbr
  have HGR := Aside0.mk hgr
  clear HP8 HF8 hbt hbr hBw hko hgr HC HY HS HV HRp HGT lv HN2
  go_wp2
  refine bodyPost_ret (results_ct rfl _ _ gr 41 #[.slice A1 ya.length c1, .int .i64 (vn : Int), .slice mA mn mc, .slice kA kn kc] (0, 0) _ rfl (blk_put (cs := #[.slice A1 ya.length c1, .int .i64 (vn : Int), .slice mA mn mc, .slice none 0 0]) (blk_put (cs := #[.slice A1 ya.length c1, .int .i64 (vn : Int), .slice none 0 0, .slice none 0 0]) (blk_put (cs := #[.slice A1 ya.length c1, .int .i64 0, .slice none 0 0, .slice none 0 0]) (blk_put HBR.out 0 _ rfl) 1 _ rfl) 2 _ rfl) 3 _ rfl) Tryd.underlying41 rfl (by kernel_rfl)) rfl ?_
  have hge : w.heap.size ≤ gr := by rw [HGR.out]; exact Nat.le_refl _
  have k1 := HEnd.out.stores HBR.out hge 0 (.slice A1 ya.length c1)
  have k2 := k1.stores (blk_set HBR.out 0 _) hge 1 (.int .i64 (vn : Int))
  have k3 := k2.stores (blk_set (blk_set HBR.out 0 _) 1 _) hge 2 (.slice mA mn mc)
  exact k3.stores (blk_set (blk_set (blk_set HBR.out 0 _) 1 _) 2 _) hge 3 (.slice kA kn kc)
 ·have h0b : (e == 0) = false := beq_eq_false_iff_ne.mpr h0
  have h0c : (e != 0) = true := bne_iff_ne.mpr h0
  have HNE := Aside0.mk h0
  clear h0
  go_enter Tryd.func14, Tryd.ntmps14
  go_wp2_with fail
  refine HRef.out.mono ?_
  rintro e_ w1 ⟨rfl, hb⟩
  have HB2 := Aside0.mk (below_step HB1.out (by exact hb))
  have hbr := blk_below HN1.out hb
  clear hb HRef HB1 HN1
  obtain ⟨gr, hgr⟩ : ∃ gr, w.heap.size = gr := ⟨_, rfl⟩
  rw [hgr] at hbr ⊢
  have hy0 : w1.cell? ⟨gr, 0, none⟩ = some (.slice none 0 0) := (blk_cell hbr 0).trans rfl
  have hy1 : w1.cell? ⟨gr, 1, none⟩ = some (.int .i64 0) := (blk_cell hbr 1).trans rfl
  have hy2 : w1.cell? ⟨gr, 2, none⟩ = some (.slice none 0 0) := (blk_cell hbr 2).trans rfl
  have hy3 : w1.cell? ⟨gr, 3, none⟩ = some (.slice none 0 0) := (blk_cell hbr 3).trans rfl
  have hz0 := blk_frozen hbr 0
  have hz1 := blk_frozen hbr 1
  have hz2 := blk_frozen hbr 2
  have hz3 := blk_frozen hbr 3
  have HEnd : Aside0 (PEnd w w1 (.returned (.tuple #[.agg #[.slice none 0 0, .int .i64 0, .slice none 0 0, .slice none 0 0], .int .i64 e])) (playF l0 l1 l2)) := by
   have e1 : playF l0 l1 l2 = ([], 0, [], [], e) := by
    unfold playF
    rw [← HE.out, if_neg HNE.out]
   rw [e1]
   exact ⟨_, _, (none, 0, 0), [], rfl, Kd.R_nil _ _ _ _ _, fam_nils (h1 := slv_one) 1, fam_nils (h1 := fun _ => rfl) 1, rfl, HB2.out⟩
  have HBR := Aside0.mk hbr
  have HGR := Aside0.mk hgr
  clear hbr hgr
  go_wp2
  refine bodyPost_ret (results_ct rfl _ _ gr 41 #[.slice none 0 0, .int .i64 0, .slice none 0 0, .slice none 0 0] (0, 0) _ rfl (blk_put (cs := #[.slice none 0 0, .int .i64 0, .slice none 0 0, .slice none 0 0]) (blk_put (cs := #[.slice none 0 0, .int .i64 0, .slice none 0 0, .slice none 0 0]) (blk_put (cs := #[.slice none 0 0, .int .i64 0, .slice none 0 0, .slice none 0 0]) (blk_put HBR.out 0 _ rfl) 1 _ rfl) 2 _ rfl) 3 _ rfl) Tryd.underlying41 rfl (by kernel_rfl)) rfl ?_
  have hge : w.heap.size ≤ gr := by rw [HGR.out]; exact Nat.le_refl _
  have k1 := HEnd.out.stores HBR.out hge 0 (.slice none 0 0)
  have k2 := k1.stores (blk_set HBR.out 0 _) hge 1 (.int .i64 0)
  have k3 := k2.stores (blk_set (blk_set HBR.out 0 _) 1 _) hge 2 (.slice none 0 0)
  exact k3.stores (blk_set (blk_set (blk_set HBR.out 0 _) 1 _) 2 _) hge 3 (.slice none 0 0)
def hyper_Play.f (l0 : List (S46)) (l1 : List Bool) (l2 : List Int) : Option (List Int × Int × (List (S103)) × (List (List Int)) × Int) := some (playF l0 l1 l2)
theorem hyper_Play.calls (A0 : Option Addr) (c0 : Nat) (l0 : List (S46)) (A1 : Option Addr) (c1 : Nat) (l1 : List Bool) (A2 : Option Addr) (c2 : Nat) (l2 : List Int) (r1 : List Int) (r2 : Int) (r3 : List (S103)) (r4 : List (List Int)) (r5 : Int) (w : World) (hr0 : Kd.C k46 w A0 l0.length l0) (hc0 : l0.length ≤ c0) (hr1 : Kd.C Kd.bool w A1 l1.length l1) (hc1 : l1.length ≤ c1) (hr2 : Kd.C (Kd.int .i64) w A2 l2.length l2) (hc2 : l2.length ≤ c2) (h : hyper_Play.f l0 l1 l2 = some (r1, r2, r3, r4, r5)) :
  Calls Tryd.prog 14 #[.slice A0 l0.length c0, .slice A1 l1.length c1, .slice A2 l2.length c2] w fun e w' => ∃ v0_ v2_ v3_ : Value, e = .returned (.tuple #[.agg #[v0_, .int .i64 r2, v2_, v3_], .int .i64 r5]) ∧ Kd.R (Kd.int .i64) 2 w' w.heap.size (fun _ => True) v0_ r1 ∧ Kd.R k103 103 w' w.heap.size (fun _ => True) v2_ r3 ∧ Kd.S (Kd.slice 2 (Kd.int .i64)) 36 w' w.heap.size (fun k_ => some k_ ≠ (v0_ : Value).ownBlock) v3_ r4 ∧ Below w.heap.size w w' := by
 have h1 := play_walk A0 c0 l0 A1 c1 l1 A2 c2 l2 w hr0 hc0 hr1 hc1 hr2 hc2
 rw [Option.some.inj h] at h1
 refine h1.mono fun e w' ⟨v0, v2, ko, ks, he, h3, h4, h5, h6, hb⟩ => ⟨v0, v2, slv ko, he, Kd.R_mono (Fam.R (h1 := fun _ => rfl) h5 (List.mem_cons_self ..)) (fun _ _ => trivial), h3, ?_, hb⟩
 have := looks_S (L0 := [(v0, r1)]) h4 h5 (List.mem_singleton.2 rfl)
 rw [h6] at this
 exact this
end Go.Proofs.YtamfkglnejhjdaaDoor.VPlayState
namespace Go.Proofs.YtamfkglnejhjdaaDoor.FoldLaw
open Go.Proofs.YtamfkglnejhjdaaDoorW.PrintLast (sI sZ sC)
open Go.Proofs.YtamfkglnejhjdaaDoor.Tab
open Go.RowKit Go.Proofs.YtamfkglnejhjdaaDoor.PHyperFold Go.Proofs.YtamfkglnejhjdaaDoorW.PrintWords Go.Proofs.YtamfkglnejhjdaaDoorW.PrintLast Go.Proofs.YtamfkglnejhjdaaDoor.BitMath Go.Proofs.YtamfkglnejhjdaaDoor.Mon
set_option maxHeartbeats 800000 in
theorem ready_calls (op n : Int) (w : World) (hU : UnitsAt w) :
  Calls Tryd.prog 29 #[.int .i64 op, .int .i64 n] w fun e w' => e = .returned (.tuple #[.int .i64 (readyP op n).1, .int .i64 (readyP op n).2]) ∧ Below w.heap.size w w' := by
 have HU := Aside0.mk hU
 clear hU
 by_cases h : 0 ≤ op ∧ op < 16
 ·have HO := Aside0.mk (isOp_yes h)
  have e1 : readyP op n = if (unitOf op).2 = true then (if n > 65536 then (0, 2) else ((unitOf op).1, 0)) else (0, 11) := by unfold readyP; rw [if_pos h]
  rw [e1]
  have HC := Aside0.mk (fun w => unit_calls op w)
  generalize (unitOf op).1 = u at *
  generalize (unitOf op).2 = v at *
  clear e1 h
  cases v
  ·go_enter Tryd.func29, Tryd.ntmps29
   go_wp2_with fail
   refine (ops_isOp.calls op true _ HO.out).mono ?_
   rintro e w1 ⟨rfl, hd⟩
   have HB := Aside0.mk hd.below
   clear hd
   go_wp2_with fail
   refine (HC.out _ (HU.out.below HB.out)).mono ?_
   rintro e w2 ⟨rfl, hb⟩
   have HB2 := Aside0.mk (below_step HB.out hb)
   clear HB hb
   go_wp2
   go_ret2
   exact ⟨rfl, HB2.out⟩
  ·by_cases hn : n > 65536
   ·have hn1 : 65536 < n := hn
    rw [if_pos rfl, if_pos hn]
    clear hn
    go_enter Tryd.func29, Tryd.ntmps29
    go_wp2_with fail
    refine (ops_isOp.calls op true _ HO.out).mono ?_
    rintro e w1 ⟨rfl, hd⟩
    have HB := Aside0.mk hd.below
    clear hd
    go_wp2_with fail
    refine (HC.out _ (HU.out.below HB.out)).mono ?_
    rintro e w2 ⟨rfl, hb⟩
    have HB2 := Aside0.mk (below_step HB.out hb)
    clear HB hb
    go_wp2
    go_ret2
    exact ⟨rfl, HB2.out⟩
   ·have hn1 : n ≤ 65536 := by omega
    rw [if_pos rfl, if_neg hn]
    clear hn
    go_enter Tryd.func29, Tryd.ntmps29
    go_wp2_with fail
    refine (ops_isOp.calls op true _ HO.out).mono ?_
    rintro e w1 ⟨rfl, hd⟩
    have HB := Aside0.mk hd.below
    clear hd
    go_wp2_with fail
    refine (HC.out _ (HU.out.below HB.out)).mono ?_
    rintro e w2 ⟨rfl, hb⟩
    have HB2 := Aside0.mk (below_step HB.out hb)
    clear HB hb
    go_wp2
    go_ret2
    exact ⟨rfl, HB2.out⟩
 ·have HO := Aside0.mk (isOp_no h)
  have e1 : readyP op n = (0, 10) := by unfold readyP; rw [if_neg h]
  rw [e1]
  clear e1 h
  go_enter Tryd.func29, Tryd.ntmps29
  go_wp2_with fail
  refine (ops_isOp.calls op false _ HO.out).mono ?_
  rintro e w1 ⟨rfl, hd⟩
  have HB := Aside0.mk hd.below
  clear hd
  go_wp2
  go_ret2
  exact ⟨rfl, HB.out⟩

set_option maxHeartbeats 1000000 in
set_option maxRecDepth 100000 in
theorem fold_calls (op : Int) (A0 : Option Addr) (c0 : Nat) (l : List Int) (w : World) (hr : Kd.C (Kd.int .i64) w A0 l.length l) (hl : l.length ≤ 9223372036854775807) (hU : UnitsAt w) :
  Calls Tryd.prog 11 #[.int .i64 op, .slice A0 l.length c0] w fun e w' => e = .returned (.tuple #[.int .i64 (foldP op l).1, .int .i64 (foldP op l).2]) ∧ Below w.heap.size w w' := by
 have HR0 := Aside0.mk hr
 have HC := Aside0.mk (ready_calls op l.length w hU)
 have HF := Aside0.mk (show ∀ u e, readyP op l.length = (u, e) → foldP op l = if e = 0 then (l.foldl (wkA op) u, 0) else (0, e) from fun u e h => by unfold foldP; rw [h])
 clear hr hU
 have HP := Aside0.mk (show readyP op l.length = ((readyP op l.length).1, (readyP op l.length).2) from rfl)
 generalize (readyP op l.length).1 = u at *
 generalize (readyP op l.length).2 = er at *
 have hf := HF.out u er HP.out
 rw [hf]
 clear hf HF HP
 by_cases he : er = 0
 ·subst he
  rw [if_pos rfl]
  go_enter Tryd.func11, Tryd.ntmps11
  go_wp2_with fail
  refine HC.out.mono ?_
  rintro e w1 ⟨rfl, hb⟩
  have HB := Aside0.mk hb
  clear hb HC
  go_wp2_with fail
  go_loopw [6, 22] (fun v i wr => ∃ k : Nat, k ≤ l.length ∧ i = .int .i64 k ∧ v = .int .i64 ((l.take k).foldl (wkA op) u) ∧ Aside0 (Below w.heap.size w wr)) (fun _ i _ => l.length - (intOf i).toNat)
  case atStart => exact ⟨0, Nat.zero_le _, rfl, by simp, HB⟩
  case round =>
   clear HB
   obtain ⟨k, hk, rfl, rfl, HB⟩ := hrel
   by_cases hlt : k < l.length
   ·have p101 : (0 : Int) ≤ (k : Int) := by omega
    have q101 : (k : Int) < (l.length : Int) := by omega
    obtain ⟨ad, e101, hx⟩ := Kd.at_int HR0.out (k : Int) p101 q101
    cases e101
    replace hx := (HB.out.cell (World.block_lt_of_cell? w _ hx)).trans hx
    rw [Int.toNat_natCast] at hx
    have HT := Aside0.mk (show wkA op ((l.take k).foldl (wkA op) u) (rd l k) = (l.take (k + 1)).foldl (wkA op) u by
     rw [List.take_succ_eq_append_getElem hlt, List.foldl_append]
     simp [rd, List.getD_eq_getElem?_getD, hlt])
    generalize (l.take k).foldl (wkA op) u = v at *
    generalize rd l k = x at *
    have HW := Aside0.mk (work_some op v x)
    go_wp2_with fail
    refine (ops_work.calls op v x (wkA op v x) _ HW.out).mono ?_
    rintro e w2 ⟨rfl, hd⟩
    have HB2 := Aside0.mk (below_step HB.out (by first | exact hd | exact hd.below))
    clear HB hd
    go_wp2
    go_roundw
    case rel => exact ⟨k + 1, by omega, by go_num, by rw [HT.out], HB2⟩
    case measure => simp [intOf]; omega
   ·obtain rfl : k = l.length := by omega
    go_wp2
    go_ret2
    exact ⟨by simp, HB.out⟩
 ·have hne : (er != 0) = true := by simpa using he
  rw [if_neg he]
  clear he
  go_enter Tryd.func11, Tryd.ntmps11
  go_wp2_with fail
  refine HC.out.mono ?_
  rintro e w1 ⟨rfl, hb⟩
  have HB := Aside0.mk hb
  clear hb HC
  go_wp2
  go_ret2
  exact ⟨rfl, HB.out⟩
end Go.Proofs.YtamfkglnejhjdaaDoor.FoldLaw
namespace Go.Proofs.YtamfkglnejhjdaaDoor.HalvesLaw
open Go.Proofs.YtamfkglnejhjdaaDoorW.PrintLast (sI sZ sC)
open Go.RowKit Go.Proofs.YtamfkglnejhjdaaDoor.BitMath Go.Proofs.YtamfkglnejhjdaaDoor.Mon
def F (op : Int) (l : List Int) : Int := l.foldl (wk op) (un op)
theorem fold_in (op : Int) (l : List Int) (hl : ∀ x ∈ l, In64 x) : ∀ a, In64 a → In64 (l.foldl (wk op) a) := by
 induction l with
 | nil => intro a h; exact h
 | cons x r ih => intro a h; exact ih (fun y hy => hl y (by simp [hy])) _ (wk_in op h (hl x (by simp)))
theorem F_in (op : Int) (l : List Int) (hl : ∀ x ∈ l, In64 x) : In64 (F op l) := fold_in op l hl _ (un_in op)
theorem fold_F (op : Int) (hop : HasUnit op) (l : List Int) (hl : ∀ x ∈ l, In64 x) : ∀ a, In64 a → l.foldl (wk op) a = wk op a (F op l) := by
 induction l with
 | nil => intro a h; exact (wk_unit' op hop h).symm
 | cons x r ih =>
  intro a h
  have hx := hl x (by simp)
  have hr : ∀ y ∈ r, In64 y := fun y hy => hl y (by simp [hy])
  have e1 := ih hr _ (wk_in op h hx)
  have e2 := ih hr _ (wk_in op (un_in op) hx)
  show r.foldl (wk op) (wk op a x) = wk op a (r.foldl (wk op) (wk op (un op) x))
  rw [e1, e2, wk_unit op hop hx, wk_assoc]
theorem F_app (op : Int) (hop : HasUnit op) (l r : List Int) (hl : ∀ x ∈ l, In64 x) (hr : ∀ x ∈ r, In64 x) : F op (l ++ r) = wk op (F op l) (F op r) := by
 unfold F
 rw [List.foldl_append]
 exact fold_F op hop r hr _ (F_in op l hl)
end Go.Proofs.YtamfkglnejhjdaaDoor.HalvesLaw
namespace Go.Proofs.YtamfkglnejhjdaaDoor.Ref
open Go.Proofs.YtamfkglnejhjdaaDoorW.PrintLast (sI sZ sC)
open Go.RowKit Go.Proofs.YtamfkglnejhjdaaDoorW.PrintWords Go.Proofs.YtamfkglnejhjdaaDoorW.PrintLast Go.Proofs.YtamfkglnejhjdaaDoorW.PrintMore Go.Proofs.YtamfkglnejhjdaaDoor.PHyperFold
open Go.Proofs.YtamfkglnejhjdaaDoor.Play Go.Proofs.YtamfkglnejhjdaaDoor.Base Go.Proofs.YtamfkglnejhjdaaDoor.Refuse Go.Proofs.YtamfkglnejhjdaaDoor.Mon Go.Proofs.YtamfkglnejhjdaaDoor.FoldLaw Go.Proofs.YtamfkglnejhjdaaDoor.Tab Go.Proofs.YtamfkglnejhjdaaDoor.BitMath
set_option linter.unusedVariables false
set_option linter.unusedSimpArgs false
def foldV (op : Int) (l0 : List S46) (l1 : List Bool) (l2 : List Int) : Int × Int :=
 if (readyP op 0).2 = 0 then (if refF l0 l1 l2 = 0 then (HalvesLaw.F op ((play red l1 l2 (l0.map dd)).views.getD 0 []), 0) else (0, refF l0 l1 l2)) else (0, (readyP op 0).2)
theorem ready_unit0 {op : Int} (h : (readyP op 0).2 = 0) : HasUnit op ∧ unitOf op = (un op, true) := by
 have hu : HasUnit op := by
  unfold readyP at h
  split at h
  ·split at h
   ·rename_i h2; exact hasUnit_of h2
   ·exact absurd h (by decide)
  ·exact absurd h (by decide)
 exact ⟨hu, unitOf_un hu⟩
end Go.Proofs.YtamfkglnejhjdaaDoor.Ref
namespace Go.Proofs.YtamfkglnejhjdaaDoor.PlayState
open Go.Proofs.YtamfkglnejhjdaaDoorW.PrintLast (sI sZ sC)
open Go.RowKit Go.Proofs.YtamfkglnejhjdaaDoorW.PrintWords Go.Proofs.YtamfkglnejhjdaaDoorW.PrintLast Go.Proofs.YtamfkglnejhjdaaDoorW.PrintMore Go.Proofs.YtamfkglnejhjdaaDoor.Fam Go.Proofs.YtamfkglnejhjdaaDoor.PHyperFold Go.Proofs.YtamfkglnejhjdaaDoor.Play Go.Proofs.YtamfkglnejhjdaaDoor.Base Go.Proofs.YtamfkglnejhjdaaDoor.Refuse Go.Proofs.YtamfkglnejhjdaaDoor.Mon Go.Proofs.YtamfkglnejhjdaaDoor.FoldLaw Go.Proofs.YtamfkglnejhjdaaDoor.Tab Go.Proofs.YtamfkglnejhjdaaDoor.BitMath
open Go.Proofs.YtamfkglnejhjdaaDoor.Ref (foldV ready_unit0)
set_option linter.unusedVariables false
set_option linter.unusedSimpArgs false
theorem fnOk_of (w0 : World) (gU gO : Nat) {op : Int} (hop : HasUnit op) (hU : gU < w0.heap.size ∧ w0.cell? ⟨gU, 0, none⟩ = some (.int .i64 (un op))) (hO : gO < w0.heap.size ∧ w0.cell? ⟨gO, 0, none⟩ = some (.int .i64 op)) : FnOk w0 gU gO (HalvesLaw.F op) In64 := by
 refine ⟨hU, fun w' a b hb ha hb2 => ?_, fun w' a x hb ha hx => ?_⟩
 ·have := both_calls gO hop (HalvesLaw.F op a) (HalvesLaw.F op b) w' ((hb.cell (p := ⟨gO, 0, none⟩) hO.1).trans hO.2)
  rw [← HalvesLaw.F_app op hop a b ha hb2] at this
  exact this
 ·have := both_calls gO hop (HalvesLaw.F op a) x w' ((hb.cell (p := ⟨gO, 0, none⟩) hO.1).trans hO.2)
  rw [show wk op (HalvesLaw.F op a) x = HalvesLaw.F op (a ++ [x]) by unfold HalvesLaw.F; rw [List.foldl_append]; rfl] at this
  exact this
theorem PS.start (w : World) (gU gO : Nat) (pA : Option Addr) (pc : Nat) (ps : List Int) (hC : Kd.C (Kd.int .i64) w pA ps.length ps) (hc : ps.length ≤ pc) {gp : Nat} {w1 : World} (hgp : gp = w.heap.size) (hb : Below w.heap.size w w1)
  (hbox : w1.heap[gp]? = some (.cells #[.func (.func 22) #[] #[.pointer (some ⟨gU, 0, none⟩)], .func (.func 20) #[] #[.pointer (some ⟨gO, 0, none⟩)], .func (.func 20) #[] #[.pointer (some ⟨gO, 0, none⟩)], .func (.func 23) #[] #[], .slice none 0 0, .slice none 0 0, .slice none 0 0, .slice pA ps.length pc, .slice none 0 0] 61 (0, 0))) :
  PS w w1 gp (fF gU gO) { vs := [], rs := [], sp := ((none, 0, 0), []), vo := (none, 0, 0), ro := (none, 0, 0), mo := (none, 0, 0), po := (pA, ps.length, pc), ps := ps, ms := [], oh := [] } := by
 have nil : ∀ {α : Type} {enc : α → Value} {e : Nat} (h1 : ∀ x : α, (enc x).oneCell' = true), Fam enc e w1 w.heap.size [((.slice none 0 0 : Value), ([] : List α))] := fun h1 => fam_nil_mid (h1 := h1) (L1 := []) (Fam.nil _ _)
 exact ⟨hb, hbox, by omega, nil (fun _ => rfl), nil (fun _ => rfl), nil slv_one, Kd.R_nil _ _ _ _ _, hC, rfl, hc⟩
set_option maxHeartbeats 16000000 in
set_option maxRecDepth 100000 in
theorem hfold_calls (op : Int) (A0 : Option Addr) (c0 : Nat) (l0 : List S46) (A1_ : Option Addr) (c1_ : Nat) (l1 : List Bool) (A2_ : Option Addr) (c2_ : Nat) (l2 : List Int) (w : World) (hr0 : Kd.C k46 w A0 l0.length l0) (hc0 : l0.length ≤ c0) (hr1 : Kd.C Kd.bool w A1_ l1.length l1) (hc1 : l1.length ≤ c1_) (hr2 : Kd.C (Kd.int .i64) w A2_ l2.length l2) (hc2 : l2.length ≤ c2_) (hI : ∀ d, d ∈ l0 → In64 d.f1) (hUn : UnitsAt w) :
  Calls Tryd.prog 7 #[.int .i64 op, .slice A0 l0.length c0, .slice A1_ l1.length c1_, .slice A2_ l2.length c2_] w fun e w' => e = .returned (.tuple #[.int .i64 (foldV op l0 l1 l2).1, .int .i64 (foldV op l0 l1 l2).2]) ∧ Below w.heap.size w w' := by
 have hmf : ∀ (fn : Fn) (first cap : Array Value) (w : World), (Instr.makeFunc fn first cap).run Tryd.prog w = .ok (.func fn first cap) w := fun _ _ _ _ => rfl
 have hu58 := Tryd.underlying58
 have hu61 := Tryd.underlying61
 have HR0 := Aside0.mk hr0
 have HC0 := Aside0.mk hc0
 have HR1 := Aside0.mk hr1
 have HC1 := Aside0.mk hc1
 have HR2 := Aside0.mk hr2
 have HC2 := Aside0.mk hc2
 have HI := Aside0.mk hI
 have HUn := Aside0.mk hUn
 obtain ⟨fv, hfv⟩ : ∃ fv, (foldP op []).1 = fv := ⟨_, rfl⟩
 obtain ⟨er, her⟩ : ∃ er, (readyP op 0).2 = er := ⟨_, rfl⟩
 have hfe : (foldP op []).2 = er := by
  unfold foldP
  rw [show (([] : List Int).length : Int) = 0 from rfl, her]
  split
  ·rename_i h; exact h.symm
  ·rfl
 have HFold := Aside0.mk (show ∀ w1, Below w.heap.size w w1 → Calls Tryd.prog 11 #[.int .i64 op, .slice none 0 0] w1 fun e w' => e = .returned (.tuple #[.int .i64 fv, .int .i64 er]) ∧ Below w1.heap.size w1 w' from fun w1 hb => by
  have h := fold_calls op none 0 [] w1 (Kd.R_reads' (Kd.R_nil (Kd.int .i64) 2 w1 0 (fun _ => True))).2.2 (by simp) (hUn.below hb)
  rw [hfv, hfe] at h
  exact h)
 have HRef := Aside0.mk (fun w1 (hb : Below w.heap.size w w1) => hyper_refuse.calls 8200 A0 c0 l0 A1_ c1_ l1 A2_ c2_ l2 (refF l0 l1 l2) w1 (Kd.C_below hr0 hb) hc0 (Kd.C_below hr1 hb) hc1 (Kd.C_below hr2 hb) hc2 (refuse_f l0 l1 l2 8200 (Nat.le_refl _)))
 clear hr0 hc0 hr1 hc1 hr2 hc2 hI hfe hfv hUn
 by_cases h0 : er = 0
 ·subst h0
  obtain ⟨hop, hun⟩ := ready_unit0 her
  obtain ⟨e2, he2⟩ : ∃ e2, refF l0 l1 l2 = e2 := ⟨_, rfl⟩
  have HE2 := Aside0.mk he2
  rw [he2] at HRef
  have hfold : foldV op l0 l1 l2 = if e2 = 0 then (HalvesLaw.F op ((play red l1 l2 (l0.map dd)).views.getD 0 []), 0) else (0, e2) := by
   unfold foldV
   rw [if_pos her, he2]
  rw [hfold]
  clear hfold
  have HU := Aside0.mk (show ∀ w1, Below w.heap.size w w1 → Calls Tryd.prog 19 #[.int .i64 op] w1 fun e w' => e = .returned (.tuple #[.int .i64 (un op), .bool true]) ∧ Below w1.heap.size w1 w' from fun w1 hb => by
   have h := unit_calls op w1 (HUn.out.below hb)
   rw [hun] at h
   exact h)
  have HOp := Aside0.mk hop
  clear hun her he2 hop
  by_cases h2 : e2 = 0
  ·subst h2
   rw [if_pos rfl]
   go_enter Tryd.func7, Tryd.ntmps7
   go_wp2_with ((with_reducible refine gate_dst (N := 4) rfl ?_); refine box_event ?hg (N := 4) ?hd (cs := #[.int .i64 op]) (t := 3) ?hr ?_; (case hd => rfl); (case hg => rfl); (case hr => first | (go_simp; done) | (go_simp; rfl)); intro gO hg w1 hbox hb; have HB1 := Aside0.mk hb; have BO := Aside0.mk hbox; have HGO := Aside0.mk hg; clear hb hbox hg; have xo : w1.cell? ⟨gO, 0, none⟩ = some (.int .i64 op) := (blk_cell BO.out 0).trans rfl)
   refine (HFold.out w1 HB1.out).mono ?_
   rintro e_ w2 ⟨rfl, hb⟩
   have HB2 := Aside0.mk (below_step HB1.out hb)
   have BO2 := Aside0.mk (blk_below BO.out hb)
   clear hb HFold xo BO
   go_wp2_with fail
   refine (HRef.out w2 HB2.out).mono ?_
   rintro e_ w3 ⟨rfl, hb⟩
   have HB3 := Aside0.mk (below_step HB2.out hb)
   have BO3 := Aside0.mk (blk_below BO2.out hb)
   clear hb HRef HB2 BO2
   have xo : w3.cell? ⟨gO, 0, none⟩ = some (.int .i64 op) := (blk_cell BO3.out 0).trans rfl
   go_wp2_with fail
   refine (HU.out w3 HB3.out).mono ?_
   rintro e_ w4 ⟨rfl, hb⟩
   have HB4 := Aside0.mk (below_step HB3.out hb)
   have BO4 := Aside0.mk (blk_below BO3.out hb)
   clear hb HU HB3 BO3 xo
   have xo : w4.cell? ⟨gO, 0, none⟩ = some (.int .i64 op) := (blk_cell BO4.out 0).trans rfl
   go_wp2_with (first | ((with_reducible refine gate_dst (N := 13) rfl ?_); refine box_event ?hg (N := 13) ?hd (cs := #[.int .i64 0]) (t := 2) ?hr ?_; (case hd => rfl); (case hg => rfl); (case hr => first | (go_simp; done) | (go_simp; rfl)); intro gU hg w5 hbox hb; have HB5 := Aside0.mk hb; have BU := Aside0.mk hbox; have HGU := Aside0.mk hg; clear hb hbox hg; have xu : w5.cell? ⟨gU, 0, none⟩ = some (.int .i64 0) := (blk_cell BU.out 0).trans rfl; have zu := blk_frozen BU.out 0) | ((with_reducible refine gate_dst (N := 44) rfl ?_); refine box_event ?hg (N := 44) ?hd (cs := #[.func (.func 22) #[] #[.pointer (some ⟨gU, 0, none⟩)], .func (.func 20) #[] #[.pointer (some ⟨gO, 0, none⟩)], .func (.func 20) #[] #[.pointer (some ⟨gO, 0, none⟩)], .func (.func 23) #[] #[], .slice none 0 0, .slice none 0 0, .slice none 0 0, .slice A2_ l2.length c2_, .slice none 0 0]) (t := 61) ?hr ?_; (case hd => rfl); (case hg => rfl); (case hr => first | (go_simp; done) | (go_simp; rfl)); intro gp hg w7 hbox hb; have HB7 := Aside0.mk hb; have BP := Aside0.mk hbox; have HGP := Aside0.mk hg; clear hb hbox hg))
   have HGU2 := Aside0.mk (show w4.heap.size ≤ gU from by rw [HGU.out]; exact Nat.le_refl _)
   have HB6 := Aside0.mk (show Below w4.heap.size w4 (w5.setCell ⟨gU, 0, none⟩ (.int .i64 (un op))) from HB5.out.setCell (p := ⟨gU, 0, none⟩) HGU2.out _)
   have BU6 := Aside0.mk (show (w5.setCell ⟨gU, 0, none⟩ (.int .i64 (un op))).heap[gU]? = some (.cells #[.int .i64 (un op)] 2 (0, 0)) from blk_put BU.out 0 _ rfl)
   generalize w5.setCell ⟨gU, 0, none⟩ (.int .i64 (un op)) = w6 at HB6 BU6 HB7 HGP
   have BO6 := Aside0.mk (blk_below BO4.out HB6.out)
   have HBw := Aside0.mk (below_step HB4.out HB6.out)
   obtain ⟨q0, q1, q2, q3⟩ := (refF_cases l0 l1 l2).1 HE2.out
   have hFn := fnOk_of w6 gU gO HOp.out ⟨blk_lt BU6.out, (blk_cell BU6.out 0).trans rfl⟩ ⟨blk_lt BO6.out, (blk_cell BO6.out 0).trans rfl⟩
   have hps := PS.start w6 gU gO A2_ c2_ l2 (Kd.C_below HR2.out HBw.out) HC2.out HGP.out HB7.out BP.out
   refine (run_walk hFn A0 c0 l0 A1_ c1_ l1 (Kd.C_below HR0.out HBw.out) HC0.out (Kd.C_below HR1.out HBw.out) HC1.out l2 _ hps q0 q1 q3 HI.out).mono ?_
   rintro e_ w8 ⟨rfl, g, hp, hrep⟩
   have HB8 := Aside0.mk (below_step HBw.out hp.hb)
   obtain ⟨s4, hs4⟩ : ∃ s4, play red l1 l2 (l0.map dd) = s4 := ⟨_, rfl⟩
   rw [hs4] at hrep
   have HS4 := Aside0.mk hs4
   have hvl : 0 < s4.views.length := by
    have h := Inv.run l1 (l0.map dd) 0 (Play.start red l2) [] (Inv.start l2) q3
    rw [List.nil_append] at h
    obtain ⟨i1, i2, i3⟩ := Inv.finish (l0.map dd).length _ _ _ h rfl
    have hb := i1.bound
    rw [i2, i3] at hb
    have := hb 0 (by simp [live])
    rw [← hs4]
    exact this
   obtain ⟨gv, vc, _, hF⟩ := view_facts hrep.toRep0 (fF_len gU gO) hvl hp
   obtain ⟨⟨x4, y0⟩, _⟩ := hF w8 hp
   obtain ⟨vn, hvn⟩ : ∃ vn, s4.views.length = vn := ⟨_, rfl⟩
   rw [hvn] at x4
   obtain ⟨fx, hfx⟩ : ∃ fx, HalvesLaw.F op (s4.views.getD 0 []) = fx := ⟨_, rfl⟩
   rw [hfx] at y0
   have HFx := Aside0.mk hfx
   have vn1 : ((0 : Int) < (vn : Int)) = True := eq_true (by omega)
   have vn2 : (0 < vn) = True := eq_true (by omega)
   clear hF hp hrep hs4 hvl hvn hfx q0 q1 q2 q3 hFn hps HB7 BP HGP BU6 BO6 BO4 xo xu zu
   go_wp2
   go_ret2
   exact ⟨by rw [HS4.out, HFx.out]; rfl, HB8.out⟩
  ·rw [if_neg h2]
   have h2b : (e2 == 0) = false := beq_eq_false_iff_ne.mpr h2
   have h2c : (e2 != 0) = true := bne_iff_ne.mpr h2
   clear h2
   go_enter Tryd.func7, Tryd.ntmps7
   go_wp2_with ((with_reducible refine gate_dst (N := 4) rfl ?_); refine box_event ?hg (N := 4) ?hd (cs := #[.int .i64 op]) (t := 3) ?hr ?_; (case hd => rfl); (case hg => rfl); (case hr => first | (go_simp; done) | (go_simp; rfl)); intro gO hg w1 hbox hb; have HB1 := Aside0.mk hb; have BO := Aside0.mk hbox; have HGO := Aside0.mk hg; clear hb hbox hg; have xo : w1.cell? ⟨gO, 0, none⟩ = some (.int .i64 op) := (blk_cell BO.out 0).trans rfl)
   refine (HFold.out w1 HB1.out).mono ?_
   rintro e_ w2 ⟨rfl, hb⟩
   have HB2 := Aside0.mk (below_step HB1.out hb)
   have BO2 := Aside0.mk (blk_below BO.out hb)
   clear hb HFold xo BO
   go_wp2_with fail
   refine (HRef.out w2 HB2.out).mono ?_
   rintro e_ w3 ⟨rfl, hb⟩
   have HB3 := Aside0.mk (below_step HB2.out hb)
   clear hb HRef HB2
   go_wp2
   go_ret2
   exact ⟨rfl, HB3.out⟩
 ·have hfold : foldV op l0 l1 l2 = (0, er) := by
   unfold foldV
   rw [her, if_neg h0]
  rw [hfold]
  have h2b : (er == 0) = false := beq_eq_false_iff_ne.mpr h0
  have h2c : (er != 0) = true := bne_iff_ne.mpr h0
  clear hfold her h0
  go_enter Tryd.func7, Tryd.ntmps7
  go_wp2_with ((with_reducible refine gate_dst (N := 4) rfl ?_); refine box_event ?hg (N := 4) ?hd (cs := #[.int .i64 op]) (t := 3) ?hr ?_; (case hd => rfl); (case hg => rfl); (case hr => first | (go_simp; done) | (go_simp; rfl)); intro gO hg w1 hbox hb; have HB1 := Aside0.mk hb; have BO := Aside0.mk hbox; have HGO := Aside0.mk hg; clear hb hbox hg; have xo : w1.cell? ⟨gO, 0, none⟩ = some (.int .i64 op) := (blk_cell BO.out 0).trans rfl)
  refine (HFold.out w1 HB1.out).mono ?_
  rintro e_ w2 ⟨rfl, hb⟩
  have HB2 := Aside0.mk (below_step HB1.out hb)
  have BO2 := Aside0.mk (blk_below BO.out hb)
  clear hb HFold xo BO
  go_wp2
  go_ret2
  exact ⟨rfl, HB2.out⟩
end Go.Proofs.YtamfkglnejhjdaaDoor.PlayState
namespace Go.Proofs.YtamfkglnejhjdaaDoor.Play
open Go.Proofs.YtamfkglnejhjdaaDoorW.PrintLast (sI sZ sC)
def madeC (b : List Bool) : Nat → List Nat → List (Int × Int) → Nat
 | _, _, [] => 0
 | c, o, d :: ds => if d.1 = 0 then madeC b (c + 1) (c :: o) ds else if d.1 = 1 then (match o with | [] => madeC b c [] ds | k :: o => (if b.getD k false = true then 1 else 0) + madeC b c o ds) else madeC b c o ds
theorem mergeGo_len {V : Type} (R : Red V) (t : Nat) : ∀ (n : Nat) (row : List Nat) (vs : List V) (ps : List Int) (ms : List Mg), (mergeGo R t n row vs ps ms).2.1.length = vs.length := by
 intro n
 induction n with
 | zero => intro row vs ps ms; rfl
 | succ n ih => intro row vs ps ms; simp only [mergeGo]; rw [ih, List.length_set]
theorem run_views (b : List Bool) (ds : List (Int × Int)) : ∀ (t : Nat) (s : St (List Int)) (L : List Int), Inv s L → right s.up.length ds = true → (run red b t ds s).views.length = s.views.length + madeC b s.count s.spawns ds := by
 induction ds with
 | nil => intro t s L _ _; rfl
 | cons d ds ih =>
  intro t s L h hr
  have hd : d.1 = 1 → s.up ≠ [] := fun h1 e => by
   rw [e] at hr
   simp [right, h1] at hr
  have hr' : right (Play.step red b t d s).up.length ds = true := by
   rw [step_up]
   simp only [right] at hr
   by_cases h0 : d.1 = 0
   ·rw [if_pos h0] at hr ⊢; exact hr
   ·rw [if_neg h0] at hr ⊢
    by_cases h1 : d.1 = 1
    ·rw [if_pos h1] at hr ⊢
     cases hu : s.up.length with
     | zero => rw [hu] at hr; simp at hr
     | succ m => rw [hu] at hr; simpa using hr
    ·rw [if_neg h1] at hr ⊢
     split at hr
     ·exact hr
     ·exact absurd hr (by simp)
  simp only [run]
  rw [ih (t + 1) _ _ (h.step b t d hd) hr']
  simp only [madeC]
  have hml : (s.merge red t).views.length = s.views.length := mergeGo_len red t _ _ _ _ _
  unfold Play.step
  by_cases h4 : d.1 = 4
  ·rw [if_pos h4, if_neg (by omega), if_neg (by omega)]; simp [St.write]
  ·rw [if_neg h4]
   by_cases h3 : d.1 = 3
   ·rw [if_pos h3, if_neg (by omega), if_neg (by omega)]; simp [St.read]
   ·rw [if_neg h3]
    by_cases h0 : d.1 = 0
    ·rw [if_pos h0, if_pos h0]; simp [St.spawn]
    ·rw [if_neg h0, if_neg h0]
     by_cases h2 : d.1 = 2
     ·rw [if_pos h2, if_neg (by omega), hml]; rfl
     ·rw [if_neg h2]
      by_cases h1 : d.1 = 1
      ·rw [if_pos h1, if_pos h1]
       have hsp := h.spawns
       have hup := List.length_pos_iff.2 (hd h1)
       cases hs : s.spawns with
       | nil =>
        rw [hs] at hsp
        exact absurd hup (by simp at hsp; simp [hsp])
       | cons k o =>
        unfold St.back
        rw [show (s.merge red t).spawns = s.spawns from rfl, hs]
        simp only [List.headD_cons, List.tail_cons]
        by_cases hk : b.getD k false = true
        ·simp only [hk, if_true]
         show ((s.merge red t).views ++ [red.fresh]).length + madeC b s.count o ds = _
         rw [List.length_append, hml]; simp; omega
        ·simp only [hk]
         show (s.merge red t).views.length + madeC b s.count o ds = _
         rw [hml]; simp
      ·rw [if_neg h1, if_neg h1]
theorem finish_views (t : Nat) : ∀ (n : Nat) (s : St (List Int)), (finish red t n s).views.length = s.views.length := by
 intro n
 induction n with
 | zero => intro s; exact mergeGo_len red t _ _ _ _ _
 | succ n ih => intro s; simp only [finish]; rw [ih]; exact mergeGo_len red t _ _ _ _ _
theorem play_views (b : List Bool) (ps : List Int) (ds : List (Int × Int)) (hr : right 0 ds = true) : (play red b ps ds).views.length = 1 + madeC b 0 [] ds := by
 unfold play
 rw [finish_views, run_views b ds 0 (start red ps) [] (Inv.start ps) hr]
 rfl
def MO (ds : List (Int × Int)) (n : Nat) (ms : List Mg) : Prop := ms.Pairwise (fun a b => a.1 ≤ b.1) ∧ ∀ m, m ∈ ms → m.1 ≤ n ∧ ∀ d, ds[m.1]? = some d → d.1 = 2 ∨ d.1 = 1
theorem MO.more {ds : List (Int × Int)} {n t : Nat} {ms new : List Mg} (h : MO ds n ms) (hn : ∀ m, m ∈ new → m.1 = t) (ht : n ≤ t) (hd : ∀ d, ds[t]? = some d → d.1 = 2 ∨ d.1 = 1) : MO ds t (ms ++ new) := by
 refine ⟨?_, fun m hm => ?_⟩
 ·rw [List.pairwise_append]
  refine ⟨h.1, ?_, fun a ha b hb => by rw [hn b hb]; have := (h.2 a ha).1; omega⟩
  refine List.Pairwise.imp_of_mem (R := fun _ _ => True) (fun ha hb _ => by rw [hn _ ha, hn _ hb]; exact Nat.le_refl _) ?_
  induction new with
  | nil => exact .nil
  | cons a l ih => exact List.pairwise_cons.2 ⟨fun _ _ => trivial, ih (fun m hm => hn m (List.mem_cons_of_mem _ hm))⟩
 ·rcases List.mem_append.1 hm with hm | hm
  ·obtain ⟨h1, h2⟩ := h.2 m hm
   exact ⟨by omega, h2⟩
  ·rw [hn m hm]
   exact ⟨Nat.le_refl _, hd⟩
end Go.Proofs.YtamfkglnejhjdaaDoor.Play
namespace Go.Proofs.YtamfkglnejhjdaaDoor.Play
open Go.Proofs.YtamfkglnejhjdaaDoorW.PrintLast (sI sZ sC)
def outs (s : St (List Int)) : List Nat := (s.up.reverse ++ [s.cur]).map (fun r => r.length - 1)
theorem live_len (up : List (List Nat)) : ∀ cur : List Nat, linked cur up → (live cur up).length = 1 + (up.map (fun r => r.length - 1)).sum + (cur.length - 1) := by
 induction up with
 | nil =>
  intro cur h
  have : 0 < cur.length := List.length_pos_iff.2 h
  simp [live]; omega
 | cons r up ih =>
  intro cur h
  simp only [live, List.length_append, List.length_tail, List.map_cons, List.sum_cons]
  rw [ih r h.2.2]
  omega
theorem sum_zero (l : List Nat) (h : ∀ x, x ∈ l → x = 0) : l.sum = 0 := by
 induction l with
 | nil => rfl
 | cons a l ih => rw [List.sum_cons, h a (List.mem_cons_self ..), ih (fun x hx => h x (List.mem_cons_of_mem _ hx))]
theorem hand_suffix {s : St (List Int)} {L : List Int} (h : Inv s L) : (s.views.getD s.hand []).length ≤ L.length ∧ L.drop (L.length - (s.views.getD s.hand []).length) = s.views.getD s.hand [] ∧ ((∀ o, o ∈ outs s → o = 0) → (s.views.getD s.hand []).length = L.length) := by
 have hne := linked_ne h.linked
 have hl := live_last h.linked
 have hh : s.cur.getLast? = some s.hand := by
  unfold St.hand
  rw [List.getLastD_eq_getLast?, List.getLast?_eq_some_getLast hne]
  rfl
 rw [hh] at hl
 have hnl : live s.cur s.up ≠ [] := fun e => by rw [e] at hl; cases hl
 have e1 : live s.cur s.up = (live s.cur s.up).dropLast ++ [s.hand] := by
  rw [List.getLast?_eq_some_getLast hnl] at hl
  have h3 := Option.some.inj hl
  conv => lhs; rw [← List.dropLast_concat_getLast hnl, h3]
 have hv := h.value
 rw [e1, flat_append, flat_cons, flat_nil, List.append_nil] at hv
 refine ⟨by rw [← hv]; simp, ?_, fun hz => ?_⟩
 ·rw [← hv, List.length_append, Nat.add_sub_cancel]
  exact List.drop_left
 ·have h4 := live_len s.up s.cur h.linked
  have hc : s.cur.length - 1 = 0 := hz _ (by simp [outs])
  have hu : (s.up.map (fun r => r.length - 1)).sum = 0 := sum_zero _ (fun x hx => by
   obtain ⟨r, hr, rfl⟩ := List.mem_map.1 hx
   exact hz _ (by unfold outs; rw [List.map_append]; exact List.mem_append_left _ (List.mem_map.2 ⟨r, List.mem_reverse.2 hr, rfl⟩)))
  rw [hc, hu] at h4
  have h5 : (live s.cur s.up).dropLast = [] := List.eq_nil_of_length_eq_zero (by rw [List.length_dropLast]; omega)
  rw [← hv, h5]
  simp [flat]
def rl (b : List Bool) : Nat → List (Int × Int) → St (List Int) → List (List Int)
 | _, [], _ => []
 | t, d :: ds, s => (if d.1 = 3 then [s.views.getD s.hand []] else []) ++ rl b (t + 1) ds (step red b t d s)
theorem step_looks (b : List Bool) (t : Nat) (d : Int × Int) (s : St (List Int)) : (step red b t d s).looks = s.looks ++ (if d.1 = 3 then [s.views.getD s.hand []] else []) := by
 unfold step
 by_cases h4 : d.1 = 4
 ·rw [if_pos h4, if_neg (by omega), List.append_nil]; rfl
 ·rw [if_neg h4]
  by_cases h3 : d.1 = 3
  ·rw [if_pos h3, if_pos h3]; rfl
  ·rw [if_neg h3, if_neg h3, List.append_nil]
   split
   ·rfl
   ·split
    ·rfl
    ·split
     ·unfold St.back; split <;> rfl
     ·rfl
theorem run_looks (b : List Bool) (ds : List (Int × Int)) : ∀ (t : Nat) (s : St (List Int)), (run red b t ds s).looks = s.looks ++ rl b t ds s := by
 induction ds with
 | nil => intro t s; simp [run, rl]
 | cons d ds ih => intro t s; simp only [run, rl]; rw [ih, step_looks, List.append_assoc]
theorem finish_looks (t : Nat) : ∀ (n : Nat) (s : St (List Int)), (finish red t n s).looks = s.looks := by
 intro n
 induction n with
 | zero => intro s; rfl
 | succ n ih => intro s; simp only [finish]; rw [ih]; rfl
theorem play_looks (b : List Bool) (ps : List Int) (ds : List (Int × Int)) : (play red b ps ds).looks = rl b 0 ds (start red ps) := by
 unfold play
 rw [finish_looks, run_looks]
 rfl
theorem rl_le (b : List Bool) (ds : List (Int × Int)) : ∀ (t : Nat) (s : St (List Int)), (rl b t ds s).length ≤ ds.length := by
 induction ds with
 | nil => intro t s; exact Nat.le_refl _
 | cons d ds ih =>
  intro t s
  have := ih (t + 1) (step red b t d s)
  simp only [rl, List.length_append, List.length_cons]
  split <;> simp <;> omega
end Go.Proofs.YtamfkglnejhjdaaDoor.Play
namespace Go.Proofs.YtamfkglnejhjdaaDoor.HLaw
open Go.Proofs.YtamfkglnejhjdaaDoorW.PrintLast (sI sZ sC)
open Go.RowKit Go.Proofs.YtamfkglnejhjdaaDoorW.PrintWords Go.Proofs.YtamfkglnejhjdaaDoor.BitMath Go.Proofs.YtamfkglnejhjdaaDoor.PHyperFold Go.Proofs.YtamfkglnejhjdaaDoor.Play Go.Proofs.YtamfkglnejhjdaaDoor.Base
open Go.Proofs.YtamfkglnejhjdaaDoor.VPlayState (playF play_first play_inv mS)
open Go.Proofs.YtamfkglnejhjdaaDoor.Refuse (refF refF_cases)
set_option linter.unusedVariables false
theorem puts_le' (ds : List (Int × Int)) : (puts ds).length ≤ ds.length := by unfold puts; rw [List.length_map]; exact List.length_filter_le _ _
theorem sameInts_loop (l : List Int) (hm : l.length ≤ 9223372036854775806) (d : Nat) : ∀ (i k : Nat), i + d = l.length → d < k → plunderlaw23_sameInts.l0 k l l (i : Int) = some true := by
 induction d with
 | zero =>
  intro i k hi hk
  obtain ⟨k, rfl⟩ : ∃ m, k = m + 1 := ⟨k - 1, by omega⟩
  simp only [plunderlaw23_sameInts.l0]
  rw [if_neg (by omega)]
 | succ d ih =>
  intro i k hi hk
  obtain ⟨k, rfl⟩ : ∃ m, k = m + 1 := ⟨k - 1, by omega⟩
  simp only [plunderlaw23_sameInts.l0]
  rw [if_pos (by omega), if_pos (by omega), if_pos (by omega), if_pos trivial, wrap_id (a := (i : Int) + 1) (by unfold In64; omega)]
  exact ih (i + 1) k (by omega) (by omega)
theorem sameInts_f (l m : List Int) (h : l = m) (hm : l.length ≤ 9223372036854775806) (k : Nat) (hk : l.length < k) : plunderlaw23_sameInts.f k l m = some true := by
 subst h
 unfold plunderlaw23_sameInts.f
 rw [if_pos rfl]
 exact sameInts_loop l hm l.length 0 _ (by omega) (by omega)
theorem madeC_le (b : List Bool) (ds : List (Int × Int)) : ∀ (c : Nat) (o : List Nat), madeC b c o ds ≤ ds.length := by
 induction ds with
 | nil => intro c o; exact Nat.le_refl _
 | cons d ds ih =>
  intro c o
  simp only [madeC, List.length_cons]
  split
  ·have := ih (c + 1) (c :: o); omega
  ·split
   ·cases o with
    | nil => have := ih c []; simp only; omega
    | cons k o => have := ih c o; simp only; split <;> omega
   ·have := ih c o; omega
theorem rl_rows (b : List Bool) (ds : List (Int × Int)) : ∀ (t : Nat) (s : St (List Int)) (L : List Int), Play.Inv s L → right s.up.length ds = true → ∀ x, x ∈ rl b t ds s → x.length ≤ L.length + ds.length := by
 induction ds with
 | nil => intro t s L h hr x hx; cases hx
 | cons d ds ih =>
  intro t s L h hr x hx
  have hd : d.1 = 1 → s.up ≠ [] := fun h1 e => by
   rw [e] at hr
   simp [right, h1] at hr
  have hs := h.step b t d hd
  have hr' : right (Play.step red b t d s).up.length ds = true := by
   rw [step_up]
   simp only [right] at hr
   by_cases h0 : d.1 = 0
   ·rw [if_pos h0] at hr ⊢; exact hr
   ·rw [if_neg h0] at hr ⊢
    by_cases h1 : d.1 = 1
    ·rw [if_pos h1] at hr ⊢
     cases hu : s.up.length with
     | zero => rw [hu] at hr; simp at hr
     | succ m => rw [hu] at hr; simpa using hr
    ·rw [if_neg h1] at hr ⊢
     split at hr
     ·exact hr
     ·exact absurd hr (by simp)
  simp only [rl] at hx
  rcases List.mem_append.1 hx with h5 | h5
  ·split at h5
   ·rw [List.mem_singleton] at h5
    have := (hand_suffix h).1
    rw [h5]
    omega
   ·cases h5
  ·have h6 := ih (t + 1) _ _ hs hr' x h5
   have h7 : (puts [d]).length ≤ 1 := puts_le' [d]
   rw [List.length_append] at h6
   rw [List.length_cons]
   omega
theorem looks_same (K : List (List Int)) (hK : K.length ≤ 4096) (hx : ∀ x, x ∈ K → x.length ≤ 4096) (d : Nat) : ∀ (i k : Nat), i + d = K.length → 5000 + d < k → plunderlaw23_sameLooks.l0 k K K (i : Int) = some true := by
 induction d with
 | zero =>
  intro i k hd hk
  obtain ⟨k, rfl⟩ : ∃ m, k = m + 1 := ⟨k - 1, by omega⟩
  simp only [plunderlaw23_sameLooks.l0]
  rw [if_neg (by omega)]
 | succ d ih =>
  intro i k hd hk
  obtain ⟨k, rfl⟩ : ∃ m, k = m + 1 := ⟨k - 1, by omega⟩
  have hil : i < K.length := by omega
  have hrk : rd_L3 K (i : Int) = K[i] := by unfold rd_L3; rw [Int.toNat_natCast, List.getD_eq_getElem?_getD, List.getElem?_eq_getElem hil]; rfl
  have h1 := hx K[i] (List.getElem_mem hil)
  simp only [plunderlaw23_sameLooks.l0]
  rw [if_pos (by omega), if_pos (by omega), if_pos (by omega), hrk, sameInts_f _ _ rfl (by omega) k (by omega), Option.bind_some, if_pos rfl, wrap_id (by unfold In64; omega)]
  have := ih (i + 1) k (by omega) (by omega)
  rw [show ((i + 1 : Nat) : Int) = (i : Int) + 1 by omega] at this
  exact this
theorem looks_same_f (K : List (List Int)) (hK : K.length ≤ 4096) (hx : ∀ x, x ∈ K → x.length ≤ 4096) (k : Nat) (hk : 10000 ≤ k) : plunderlaw23_sameLooks.f k K K = some true := by
 unfold plunderlaw23_sameLooks.f
 rw [if_pos rfl]
 exact looks_same K hK hx K.length 0 k (by omega) (by omega)
theorem merges_same (M : List S103) (hM : M.length ≤ 9000000) (d : Nat) : ∀ (i k : Nat), i + d = M.length → d < k → plunderlaw23_sameMerges.l0 k M M (i : Int) = some true := by
 induction d with
 | zero =>
  intro i k hd hk
  obtain ⟨k, rfl⟩ : ∃ m, k = m + 1 := ⟨k - 1, by omega⟩
  simp only [plunderlaw23_sameMerges.l0]
  rw [if_neg (by omega)]
 | succ d ih =>
  intro i k hd hk
  obtain ⟨k, rfl⟩ : ∃ m, k = m + 1 := ⟨k - 1, by omega⟩
  simp only [plunderlaw23_sameMerges.l0]
  rw [if_pos (by omega), if_pos (by omega), if_pos (by omega), if_neg (by simp), wrap_id (by unfold In64; omega)]
  have := ih (i + 1) k (by omega) (by omega)
  rw [show ((i + 1 : Nat) : Int) = (i : Int) + 1 by omega] at this
  exact this
theorem merges_same_f (M : List S103) (hM : M.length ≤ 9000000) (k : Nat) (hk : M.length < k) : plunderlaw23_sameMerges.f k M M = some true := by
 unfold plunderlaw23_sameMerges.f
 rw [if_pos rfl]
 exact merges_same M hM M.length 0 k (by omega) hk
theorem views_same (r1 : List Int) (r2 : Int) (r3 : List S103) (r4 : List (List Int)) (h1 : r1.length ≤ 4096) (h3 : r3.length ≤ 4097) (h4 : r4.length ≤ 4096) (hx : ∀ x, x ∈ r4 → x.length ≤ 4096) : plunderlaw23_sameViews.f 40000 r1 r2 r3 r4 r1 r2 r3 r4 = some true := by
 unfold plunderlaw23_sameViews.f
 rw [sameInts_f _ _ rfl (by omega) 40000 (by omega), Option.bind_some, if_pos rfl, if_pos rfl, merges_same_f _ (by omega) 40000 (by omega), Option.bind_some, if_pos rfl, looks_same_f _ h4 hx 40000 (by omega), Option.bind_some]
theorem play_lens (a : List S46) (b : List Bool) (c : List Int) : (playF a b c).1.length ≤ 4096 ∧ (playF a b c).2.2.1.length ≤ 4097 ∧ (playF a b c).2.2.2.1.length ≤ 4096 ∧ ∀ x, x ∈ (playF a b c).2.2.2.1 → x.length ≤ 4096 := by
 unfold playF
 by_cases h0 : refF a b c = 0
 ·obtain ⟨h1, h2, h3, h4⟩ := (refF_cases a b c).1 h0
  rw [if_pos h0]
  dsimp only
  rw [(play_first h4).1]
  have hpl := puts_le' (a.map dd)
  rw [List.length_map] at hpl
  have hl := rl_le b (a.map dd) 0 (Play.start red c)
  rw [List.length_map] at hl
  have hrows := rl_rows b (a.map dd) 0 (Play.start red c) [] (Inv.start c) h4
  rw [List.length_map, List.length_nil] at hrows
  have hm := (play_inv (l1 := b) (l2 := c) h4).1.count
  have hv := play_views b c (a.map dd) h4
  have hml := madeC_le b (a.map dd) 0 []
  rw [List.length_map] at hml
  refine ⟨by omega, by rw [List.length_map]; omega, by rw [play_looks]; omega, fun x hx => ?_⟩
  rw [play_looks] at hx
  have := hrows x hx
  omega
 ·rw [if_neg h0]
  exact ⟨by simp, by simp, by simp, by simp⟩
theorem play_same (a : List S46) (b : List Bool) (c : List Int) : plunderlaw23_sameViews.f 40000 (playF a b c).1 (playF a b c).2.1 (playF a b c).2.2.1 (playF a b c).2.2.2.1 (playF a b c).1 (playF a b c).2.1 (playF a b c).2.2.1 (playF a b c).2.2.2.1 = some true := by
 obtain ⟨h1, h2, h3, h4⟩ := play_lens a b c
 exact views_same _ _ _ _ h1 h2 h3 h4
end Go.Proofs.YtamfkglnejhjdaaDoor.HLaw
namespace Go.Proofs.YtamfkglnejhjdaaDoor.Base
open Go.Proofs.YtamfkglnejhjdaaDoorW.PrintLast (sI sZ sC)
open Go.RowKit Go.Proofs.YtamfkglnejhjdaaDoorW.PrintWords Go.Proofs.YtamfkglnejhjdaaDoor.BitMath Go.Proofs.YtamfkglnejhjdaaDoor.PHyperFold Go.Proofs.YtamfkglnejhjdaaDoor.Play
theorem refcheck_loop (l : List S46) (hm : l.length ≤ 4096) (ds : List S46) : ∀ (n i k : Nat), l.drop i = ds → n ≤ i → i ≤ l.length → 2 * ds.length + 1 < k → plunderref19_Check.l0 k l (n : Int) (i : Int) = some (chk n i ds) := by
 induction ds with
 | nil =>
  intro n i k hd hn hi hk
  obtain ⟨k, rfl⟩ : ∃ m, k = m + 1 := ⟨k - 1, by omega⟩
  have := nil_drop hd
  simp only [plunderref19_Check.l0]
  rw [if_neg (by omega)]; rfl
 | cons d ds ih =>
  intro n i k hd hn hi hk
  obtain ⟨hr, hl, hd2⟩ := rd_drop hd
  simp only [List.length_cons] at hk
  obtain ⟨k, rfl⟩ : ∃ m, k = m + 2 := ⟨k - 2, by omega⟩
  simp only [plunderref19_Check.l0, plunderref19_Check.j1, chk]
  rw [if_pos (by omega), if_pos (by omega), hr, wrap_id (a := (n : Int) + 1) (by unfold In64; omega), wrap_id (a := (n : Int) - 1) (by unfold In64; omega), wrap_id (a := (i : Int) + 1) (by unfold In64; omega)]
  by_cases h0 : d.f0 = 0
  ·rw [if_neg (by omega), if_neg (by omega), if_neg (by omega), if_neg (by decide), if_pos h0, if_neg (by omega), if_pos h0]
   exact ih (n + 1) (i + 1) k hd2 (by omega) (by omega) (by omega)
  ·by_cases h1 : d.f0 = 1
   ·rw [if_neg (by omega), if_neg (by omega), if_pos h1, if_neg h0, if_pos h1]
    cases n with
    | zero => rw [if_pos (by simp), if_neg h0, if_pos h1]
    | succ m =>
     rw [if_neg (by simp; omega), if_neg h0, if_pos h1, show ((m + 1 : Nat) : Int) - 1 = (m : Int) by omega]
     exact ih m (i + 1) k hd2 (by omega) (by omega) (by omega)
   ·by_cases h2 : d.f0 = 2 ∨ d.f0 = 3 ∨ d.f0 = 4
    ·rw [if_neg (by omega), if_neg (by omega), if_neg h1, if_neg (by decide), if_neg h0, if_neg h1, if_neg h0, if_neg h1, if_pos h2]
     exact ih n (i + 1) k hd2 (by omega) (by omega) (by omega)
    ·by_cases h5 : d.f0 < 0
     ·rw [if_pos h5, if_pos trivial, if_neg h0, if_neg h1, if_neg h2]
     ·rw [if_neg h5, if_pos (show d.f0 > 4 by omega), if_pos trivial, if_neg h0, if_neg h1, if_neg h2]
theorem refcheck_f (l : List S46) (k : Nat) (hk : 8200 ≤ k) : plunderref19_Check.f k l = some (chkF l) := by
 unfold plunderref19_Check.f chkF
 by_cases h : l.length ≤ 4096
 ·rw [if_neg (by omega), if_pos h]
  exact refcheck_loop l h l 0 0 k (by simp) (by omega) (by omega) (by omega)
 ·rw [if_pos (by omega), if_neg h]
end Go.Proofs.YtamfkglnejhjdaaDoor.Base
namespace Go.Proofs.YtamfkglnejhjdaaDoor.Ref
open Go.Proofs.YtamfkglnejhjdaaDoorW.PrintLast (sI sZ sC)
open Go.RowKit Go.Proofs.YtamfkglnejhjdaaDoorW.PrintWords Go.Proofs.YtamfkglnejhjdaaDoorW.PrintLast Go.Proofs.YtamfkglnejhjdaaDoorW.PrintMore Go.Proofs.YtamfkglnejhjdaaDoor.PHyperFold
open Go.Proofs.YtamfkglnejhjdaaDoor.Play Go.Proofs.YtamfkglnejhjdaaDoor.Base Go.Proofs.YtamfkglnejhjdaaDoor.Refuse
open Go.Proofs.YtamfkglnejhjdaaDoor.VPlayState (playF puts_le play_first play_inv)
set_option linter.unusedVariables false
set_option linter.unusedSimpArgs false
theorem apply_calls {w0 w : World} {gr : Nat} {g : Gr} (h : RS w0 w gr g) (hop : g.op = -1) (a b : Int) :
  Calls Tryd.prog 66 #[.pointer (some ⟨gr, 0, none⟩), .int .i64 a, .int .i64 b] w fun e w' => e = .returned (.int .i64 0) ∧ w' = w := by
 have x0 := h.cell.1
 rw [hop] at x0
 clear h hop
 go_enter Tryd.func66, Tryd.ntmps66
 go_wp2
 go_ret
 exact ⟨rfl, rfl⟩
theorem join_none (w0 : World) (gr : Nat) : JoinOk w0 gr (-1) (fun _ => 0) (fun _ => True) := fun w g a b h hop _ _ =>
 (apply_calls h hop 0 0).mono fun e w' ⟨h1, h2⟩ => ⟨h1, by rw [h2]; exact Below.refl _ _⟩
theorem put_none (w0 : World) (gr : Nat) : PutOk w0 gr (-1) (fun _ => 0) (fun _ => True) := fun w g a x h hop _ _ =>
 (apply_calls h hop 0 x).mono fun e w' ⟨h1, h2⟩ => ⟨h1, by rw [h2]; exact Below.refl _ _⟩
theorem refused_f (l0 : List S46) (l1 : List Bool) (l2 : List Int) (k : Nat) (hk : 8200 ≤ k) : plunderref23_Refused.f k l0 l1 l2 = some (refF l0 l1 l2) := by
 unfold plunderref23_Refused.f refF
 by_cases h0 : l0.length > 4096
 ·rw [if_pos (by omega), if_pos (.inl h0)]
 ·rw [if_neg (by omega)]
  by_cases h1 : l1.length > 4096
  ·rw [if_pos (by omega), if_pos (.inr (.inl h1))]
  ·rw [if_neg (by omega)]
   by_cases h2 : l2.length > 1048576
   ·rw [if_pos (by omega), if_pos (.inr (.inr h2))]
   ·rw [if_neg (by omega), if_neg (by omega), Base.refcheck_f l0 k hk]
    rfl
def REnd (w w' : World) (e : Ending) (r : List Int × Int × List S103 × List (List Int) × Int) : Prop :=
 ∃ v0_ v2_ v3_ : Value, e = .returned (.tuple #[.agg #[v0_, .int .i64 r.2.1, v2_, v3_], .int .i64 r.2.2.2.2]) ∧ Kd.R (Kd.int .i64) 2 w' w.heap.size (fun _ => True) v0_ r.1 ∧ Kd.R k103 103 w' w.heap.size (fun _ => True) v2_ r.2.2.1 ∧ Kd.R kL 36 w' w.heap.size (fun _ => True) v3_ r.2.2.2.1 ∧ Below w.heap.size w w'
theorem REnd.stores {w w' : World} {e : Ending} {r : List Int × Int × List S103 × List (List Int) × Int} {g : Nat} {cs : Array Value} (h : REnd w w' e r) (hb : w'.heap[g]? = some (.cells cs 41 (0, 0))) (hg : w.heap.size ≤ g) (i : Nat) (u : Value) : REnd w (w'.setCell ⟨g, i, none⟩ u) e r := by
 obtain ⟨v0, v2, v3, h1, h2, h3, h4, h5⟩ := h
 exact ⟨v0, v2, v3, h1, R_only h2 (by decide) (Only.set hb), R_only h3 (fun q hq => by rw [E_m q hq]; decide) (Only.set hb), R_only h4 (fun q hq => by rcases E_l q hq with rfl | rfl <;> decide) (Only.set hb), h5.setCell (p := ⟨g, i, none⟩) hg u⟩
set_option maxHeartbeats 16000000 in
set_option maxRecDepth 100000 in
theorem refplay_calls (A0 : Option Addr) (c0 : Nat) (l0 : List S46) (A1_ : Option Addr) (c1_ : Nat) (l1 : List Bool) (A2_ : Option Addr) (c2_ : Nat) (l2 : List Int) (w : World) (hr0 : Kd.C k46 w A0 l0.length l0) (hc0 : l0.length ≤ c0) (hr1 : Kd.C Kd.bool w A1_ l1.length l1) (hc1 : l1.length ≤ c1_) (hr2 : Kd.C (Kd.int .i64) w A2_ l2.length l2) (hc2 : l2.length ≤ c2_) :
  Calls Tryd.prog 15 #[.slice A0 l0.length c0, .slice A1_ l1.length c1_, .slice A2_ l2.length c2_] w fun e w' => REnd w w' e (playF l0 l1 l2) := by
 have hu39 := Tryd.underlying41
 have HR0 := Aside0.mk hr0
 have HC0 := Aside0.mk hc0
 have HR1 := Aside0.mk hr1
 have HC1 := Aside0.mk hc1
 have HR2 := Aside0.mk hr2
 have HC2 := Aside0.mk hc2
 have b1 := below_alloc (Below.refl w.heap.size w) (.cells #[.slice none 0 0, .int .i64 0, .slice none 0 0, .slice none 0 0] 41)
 have HB1 := Aside0.mk b1
 have HN1 := Aside0.mk (blk_new w (.cells #[.slice none 0 0, .int .i64 0, .slice none 0 0, .slice none 0 0] 41))
 obtain ⟨e, he⟩ : ∃ e, e = refF l0 l1 l2 := ⟨_, rfl⟩
 have HE := Aside0.mk he
 have HRef := Aside0.mk (plunderref23_Refused.calls 8200 A0 c0 l0 A1_ c1_ l1 A2_ c2_ l2 e (w.alloc (.cells #[.slice none 0 0, .int .i64 0, .slice none 0 0, .slice none 0 0] 41)) (Kd.C_below hr0 b1) hc0 (Kd.C_below hr1 b1) hc1 (Kd.C_below hr2 b1) hc2 (by rw [he]; exact refused_f l0 l1 l2 8200 (Nat.le_refl _)))
 clear hr0 hc0 hr1 hc1 hr2 hc2 b1 he
 by_cases h0 : e = 0
 ·subst h0
  go_enter Tryd.func15, Tryd.ntmps15
  go_wp2_with fail
  refine HRef.out.mono ?_
  rintro e_ w1 ⟨rfl, hb⟩
  have HB2 := Aside0.mk (below_step HB1.out (by exact hb))
  have HBR := Aside0.mk (blk_below HN1.out hb)
  clear hb HRef HB1 HN1
  go_wp2_with fail
  obtain ⟨q0, q1, q2, q3⟩ := (refF_cases l0 l1 l2).1 HE.out.symm
  refine (whole_calls A0 c0 l0 A1_ c1_ l1 A2_ c2_ l2 w1 (fun _ => 0) (-1) 0 (fun _ => True) (Kd.C_below HR0.out HB2.out) HC0.out (Kd.C_below HR1.out HB2.out) (Kd.C_below HR2.out HB2.out) HC2.out q0 q1 q2 q3 (fun gr => join_none w1 gr) (fun gr => put_none w1 gr) (fun _ _ => trivial) rfl).mono ?_
  rintro e_ w2 ⟨gp, g, rfl, hrs, hrep, hmd, hfo⟩
  have hle : w.heap.size ≤ w1.heap.size := below_size HB2.out
  have hBw := below_step HB2.out hrs.hb
  obtain ⟨⟨fA, fn, fc⟩, hfoe⟩ : ∃ t : Sl, g.fo = t := ⟨_, rfl⟩
  obtain ⟨⟨mA, mn, mc⟩, hmoe⟩ : ∃ t : Sl, g.mo = t := ⟨_, rfl⟩
  obtain ⟨⟨kA, kn, kc⟩, hloe⟩ : ∃ t : Sl, g.lo = t := ⟨_, rfl⟩
  obtain ⟨md, hmde⟩ : ∃ md, g.md = md := ⟨_, rfl⟩
  have hx0 : w2.cell? ⟨gp, 7, none⟩ = some (.slice fA fn fc) := (blk_cell hrs.bp 7).trans (by show some (slv g.fo) = _; rw [hfoe]; rfl)
  have hx1 : w2.cell? ⟨gp, 8, none⟩ = some (.int .i64 md) := (blk_cell hrs.bp 8).trans (by show some (Value.int .i64 g.md) = _; rw [hmde])
  have hx2 : w2.cell? ⟨gp, 9, none⟩ = some (.slice mA mn mc) := (blk_cell hrs.bp 9).trans (by show some (slv g.mo) = _; rw [hmoe]; rfl)
  have hx3 : w2.cell? ⟨gp, 10, none⟩ = some (.slice kA kn kc) := (blk_cell hrs.bp 10).trans (by show some (slv g.lo) = _; rw [hloe]; rfl)
  obtain ⟨gr, hgr⟩ : ∃ gr, w.heap.size = gr := ⟨_, rfl⟩
  have hbr := blk_below (show w1.heap[w.heap.size]? = _ from HBR.out) hrs.hb
  rw [hgr] at hbr ⊢
  have hy0 : w2.cell? ⟨gr, 0, none⟩ = some (.slice none 0 0) := (blk_cell hbr 0).trans rfl
  have hy1 : w2.cell? ⟨gr, 1, none⟩ = some (.int .i64 0) := (blk_cell hbr 1).trans rfl
  have hy2 : w2.cell? ⟨gr, 2, none⟩ = some (.slice none 0 0) := (blk_cell hbr 2).trans rfl
  have hy3 : w2.cell? ⟨gr, 3, none⟩ = some (.slice none 0 0) := (blk_cell hbr 3).trans rfl
  have hz0 := blk_frozen hbr 0
  have hz1 := blk_frozen hbr 1
  have hz2 := blk_frozen hbr 2
  have hz3 := blk_frozen hbr 3
  have HEnd : Aside0 (REnd w w2 (.returned (.tuple #[.agg #[.slice fA fn fc, .int .i64 md, .slice mA mn mc, .slice kA kn kc], .int .i64 0])) (playF l0 l1 l2)) := by
   have hv := (play_first (l1 := l1) (l2 := l2) q3).1
   have e1 : playF l0 l1 l2 = ((play red l1 l2 (l0.map dd)).views.getD 0 [], ((play red l1 l2 (l0.map dd)).views.length : Int), (play red l1 l2 (l0.map dd)).merges.map VPlayState.mS, (play red l1 l2 (l0.map dd)).looks, 0) := by
    unfold playF
    rw [if_pos HE.out.symm]
   rw [e1]
   have r1 := hfo
   have r2 := hrs.rw.m
   have r3 := hrs.rw.l
   rw [hfoe] at r1
   rw [hmoe, hrep.ms] at r2
   rw [hloe, hrep.ls] at r3
   refine ⟨⟨_, _, _, ?_, Kd.R_lower r1 hle, Kd.R_lower (show Kd.R k103 103 w2 w1.heap.size (fun _ => True) (.slice mA mn mc) _ from r2) hle, Kd.R_lower r3 hle, hBw⟩⟩
   rw [← hmde, hmd]
   rfl
  have HGR := Aside0.mk hgr
  have HBr := Aside0.mk hbr
  clear hrs hrep hmd hfo hle hBw hfoe hmoe hloe hmde hbr hgr q0 q1 q2 q3 HBR
  go_wp2
  refine bodyPost_ret (results_ct rfl _ _ gr 41 #[.slice fA fn fc, .int .i64 md, .slice mA mn mc, .slice kA kn kc] (0, 0) _ rfl (blk_put (cs := #[.slice fA fn fc, .int .i64 md, .slice mA mn mc, .slice none 0 0]) (blk_put (cs := #[.slice fA fn fc, .int .i64 md, .slice none 0 0, .slice none 0 0]) (blk_put (cs := #[.slice fA fn fc, .int .i64 0, .slice none 0 0, .slice none 0 0]) (blk_put HBr.out 0 _ rfl) 1 _ rfl) 2 _ rfl) 3 _ rfl) Tryd.underlying41 rfl (by kernel_rfl)) rfl ?_
  have hge : w.heap.size ≤ gr := by rw [HGR.out]; exact Nat.le_refl _
  have k1 := HEnd.out.stores HBr.out hge 0 (.slice fA fn fc)
  have k2 := k1.stores (blk_set HBr.out 0 _) hge 1 (.int .i64 md)
  have k3 := k2.stores (blk_set (blk_set HBr.out 0 _) 1 _) hge 2 (.slice mA mn mc)
  exact k3.stores (blk_set (blk_set (blk_set HBr.out 0 _) 1 _) 2 _) hge 3 (.slice kA kn kc)
 ·have h0b : (e == 0) = false := beq_eq_false_iff_ne.mpr h0
  have h0c : (e != 0) = true := bne_iff_ne.mpr h0
  have HNE := Aside0.mk h0
  clear h0
  go_enter Tryd.func15, Tryd.ntmps15
  go_wp2_with fail
  refine HRef.out.mono ?_
  rintro e_ w1 ⟨rfl, hb⟩
  have HB2 := Aside0.mk (below_step HB1.out (by exact hb))
  have hbr := blk_below HN1.out hb
  clear hb HRef HB1 HN1
  obtain ⟨gr, hgr⟩ : ∃ gr, w.heap.size = gr := ⟨_, rfl⟩
  rw [hgr] at hbr ⊢
  have hy0 : w1.cell? ⟨gr, 0, none⟩ = some (.slice none 0 0) := (blk_cell hbr 0).trans rfl
  have hy1 : w1.cell? ⟨gr, 1, none⟩ = some (.int .i64 0) := (blk_cell hbr 1).trans rfl
  have hy2 : w1.cell? ⟨gr, 2, none⟩ = some (.slice none 0 0) := (blk_cell hbr 2).trans rfl
  have hy3 : w1.cell? ⟨gr, 3, none⟩ = some (.slice none 0 0) := (blk_cell hbr 3).trans rfl
  have hz0 := blk_frozen hbr 0
  have hz1 := blk_frozen hbr 1
  have hz2 := blk_frozen hbr 2
  have hz3 := blk_frozen hbr 3
  have HEnd : Aside0 (REnd w w1 (.returned (.tuple #[.agg #[.slice none 0 0, .int .i64 0, .slice none 0 0, .slice none 0 0], .int .i64 e])) (playF l0 l1 l2)) := by
   have e1 : playF l0 l1 l2 = ([], 0, [], [], e) := by
    unfold playF
    rw [← HE.out, if_neg HNE.out]
   rw [e1]
   exact ⟨⟨_, _, _, rfl, Kd.R_nil _ _ _ _ _, Kd.R_nil _ _ _ _ _, Kd.R_nil _ _ _ _ _, HB2.out⟩⟩
  have HBR := Aside0.mk hbr
  have HGR := Aside0.mk hgr
  clear hbr hgr
  go_wp2
  refine bodyPost_ret (results_ct rfl _ _ gr 41 #[.slice none 0 0, .int .i64 0, .slice none 0 0, .slice none 0 0] (0, 0) _ rfl (blk_put (cs := #[.slice none 0 0, .int .i64 0, .slice none 0 0, .slice none 0 0]) (blk_put (cs := #[.slice none 0 0, .int .i64 0, .slice none 0 0, .slice none 0 0]) (blk_put (cs := #[.slice none 0 0, .int .i64 0, .slice none 0 0, .slice none 0 0]) (blk_put HBR.out 0 _ rfl) 1 _ rfl) 2 _ rfl) 3 _ rfl) Tryd.underlying41 rfl (by kernel_rfl)) rfl ?_
  have hge : w.heap.size ≤ gr := by rw [HGR.out]; exact Nat.le_refl _
  have k1 := HEnd.out.stores HBR.out hge 0 (.slice none 0 0)
  have k2 := k1.stores (blk_set HBR.out 0 _) hge 1 (.int .i64 0)
  have k3 := k2.stores (blk_set (blk_set HBR.out 0 _) 1 _) hge 2 (.slice none 0 0)
  exact k3.stores (blk_set (blk_set (blk_set HBR.out 0 _) 1 _) 2 _) hge 3 (.slice none 0 0)
end Go.Proofs.YtamfkglnejhjdaaDoor.Ref
namespace Go.Proofs.YtamfkglnejhjdaaDoor.Base
open Go.Proofs.YtamfkglnejhjdaaDoorW.PrintLast (sI sZ sC)
open Go.RowKit Go.Proofs.YtamfkglnejhjdaaDoorW.PrintWords Go.Proofs.YtamfkglnejhjdaaDoor.BitMath Go.Proofs.YtamfkglnejhjdaaDoor.PHyperFold Go.Proofs.YtamfkglnejhjdaaDoor.Play

theorem same2_loop (a : List S46) (b : List Bool) (c : List Int) (hm : c.length ≤ 9223372036854775806) (d : Nat) : ∀ (i k : Nat), i + d = c.length → d < k → plunderlaw23_same.l2 k (i : Int) a b c a b c = some true := by
 induction d with
 | zero =>
  intro i k hi hk
  obtain ⟨k, rfl⟩ : ∃ m, k = m + 1 := ⟨k - 1, by omega⟩
  simp only [plunderlaw23_same.l2]
  rw [if_neg (by omega)]
 | succ d ih =>
  intro i k hi hk
  obtain ⟨k, rfl⟩ : ∃ m, k = m + 1 := ⟨k - 1, by omega⟩
  simp only [plunderlaw23_same.l2]
  rw [if_pos (by omega), if_pos (by omega), if_pos (by omega), if_pos trivial, wrap_id (a := (i : Int) + 1) (by unfold In64; omega)]
  exact ih (i + 1) k (by omega) (by omega)
theorem same1_loop (a : List S46) (b : List Bool) (c : List Int) (hb : b.length ≤ 9223372036854775806) (hm : c.length ≤ 9223372036854775806) (d : Nat) : ∀ (i k : Nat), i + d = b.length → d + c.length + 1 < k → plunderlaw23_same.l1 k (i : Int) a b c a b c = some true := by
 induction d with
 | zero =>
  intro i k hi hk
  obtain ⟨k, rfl⟩ : ∃ m, k = m + 1 := ⟨k - 1, by omega⟩
  simp only [plunderlaw23_same.l1]
  rw [if_neg (by omega)]
  exact same2_loop a b c hm c.length 0 k (by omega) (by omega)
 | succ d ih =>
  intro i k hi hk
  obtain ⟨k, rfl⟩ : ∃ m, k = m + 1 := ⟨k - 1, by omega⟩
  simp only [plunderlaw23_same.l1]
  rw [if_pos (by omega), if_pos (by omega), if_pos (by omega), if_neg (by simp), wrap_id (a := (i : Int) + 1) (by unfold In64; omega)]
  exact ih (i + 1) k (by omega) (by omega)
theorem same0_loop (a : List S46) (b : List Bool) (c : List Int) (ha : a.length ≤ 9223372036854775806) (hb : b.length ≤ 9223372036854775806) (hm : c.length ≤ 9223372036854775806) (d : Nat) : ∀ (i k : Nat), i + d = a.length → d + b.length + c.length + 2 < k → plunderlaw23_same.l0 k (i : Int) a b c a b c = some true := by
 induction d with
 | zero =>
  intro i k hi hk
  obtain ⟨k, rfl⟩ : ∃ m, k = m + 1 := ⟨k - 1, by omega⟩
  simp only [plunderlaw23_same.l0]
  rw [if_neg (by omega)]
  exact same1_loop a b c hb hm b.length 0 k (by omega) (by omega)
 | succ d ih =>
  intro i k hi hk
  obtain ⟨k, rfl⟩ : ∃ m, k = m + 1 := ⟨k - 1, by omega⟩
  simp only [plunderlaw23_same.l0]
  rw [if_pos (by omega), if_pos (by omega), if_pos (by omega), if_neg (by simp), wrap_id (a := (i : Int) + 1) (by unfold In64; omega)]
  exact ih (i + 1) k (by omega) (by omega)
theorem same_f (a : List S46) (b : List Bool) (c : List Int) (ha : a.length ≤ 9223372036854775806) (hb : b.length ≤ 9223372036854775806) (hm : c.length ≤ 9223372036854775806) (k : Nat) (hk : a.length + b.length + c.length + 3 < k) : plunderlaw23_same.f k a b c a b c = some true := by
 unfold plunderlaw23_same.f
 obtain ⟨k, rfl⟩ : ∃ m, k = m + 1 := ⟨k - 1, by omega⟩
 rw [if_pos rfl, if_pos rfl, show ((c.length : Int) != (c.length : Int)) = false from bne_self_eq_false _]
 simp only [plunderlaw23_same.j0, Bool.false_eq_true, if_false]
 exact same0_loop a b c ha hb hm a.length 0 k (by omega) (by omega)
theorem copied_f (a : List S46) (b : List Bool) (c : List Int) (ha : a.length < 8796093022208) (hb : b.length < 140737488355328) (hc : c.length < 17592186044416) : plunderlaw23_copied.f a b c = some (a, b, c) := by
 unfold plunderlaw23_copied.f
 rw [Option.bind_some, if_pos (by simpa using ha), Option.bind_some, if_pos (by simpa using hb), Option.bind_some, if_pos (by simpa using hc)]
 rfl
theorem over2_loop (a : List S46) (b : List Bool) (d : Nat) : ∀ (c : List Int) (i k : Nat), c.length ≤ 9223372036854775806 → i + d = c.length → d < k → ∃ n c', plunderlaw23_over.l2 k (i : Int) a b c = some (n, a, b, c') ∧ c'.length = c.length := by
 induction d with
 | zero =>
  intro c i k hm hi hk
  obtain ⟨k, rfl⟩ : ∃ m, k = m + 1 := ⟨k - 1, by omega⟩
  simp only [plunderlaw23_over.l2]
  rw [if_neg (by omega)]
  exact ⟨_, _, rfl, rfl⟩
 | succ d ih =>
  intro c i k hm hi hk
  obtain ⟨k, rfl⟩ : ∃ m, k = m + 1 := ⟨k - 1, by omega⟩
  simp only [plunderlaw23_over.l2]
  rw [if_pos (by omega), if_pos (by omega), wrap_id (a := (i : Int) + 1) (by unfold In64; omega)]
  obtain ⟨n, c', h1, h2⟩ := ih (c.set (i : Int).toNat (Go.bits .xor .i64 (rd c (i : Int)) 1)) (i + 1) k (by rw [List.length_set]; exact hm) (by rw [List.length_set]; omega) (by omega)
  exact ⟨n, c', h1, by rw [h2, List.length_set]⟩
theorem over1_loop (a : List S46) (c : List Int) (hc : c.length ≤ 9223372036854775806) (d : Nat) : ∀ (b : List Bool) (i k : Nat), b.length ≤ 9223372036854775806 → i + d = b.length → d + c.length + 1 < k → ∃ n b' c', plunderlaw23_over.l1 k (i : Int) a b c = some (n, a, b', c') ∧ b'.length = b.length ∧ c'.length = c.length := by
 induction d with
 | zero =>
  intro b i k hm hi hk
  obtain ⟨k, rfl⟩ : ∃ m, k = m + 1 := ⟨k - 1, by omega⟩
  simp only [plunderlaw23_over.l1]
  rw [if_neg (by omega)]
  obtain ⟨n, c', h1, h2⟩ := over2_loop a b c.length c 0 k hc (by omega) (by omega)
  exact ⟨n, b, c', h1, rfl, h2⟩
 | succ d ih =>
  intro b i k hm hi hk
  obtain ⟨k, rfl⟩ : ∃ m, k = m + 1 := ⟨k - 1, by omega⟩
  simp only [plunderlaw23_over.l1]
  rw [if_pos (by omega), if_pos (by omega), wrap_id (a := (i : Int) + 1) (by unfold In64; omega)]
  obtain ⟨n, b', c', h1, h2, h3⟩ := ih (b.set (i : Int).toNat (!(rdOf false b (i : Int)))) (i + 1) k (by rw [List.length_set]; exact hm) (by rw [List.length_set]; omega) (by omega)
  exact ⟨n, b', c', h1, by rw [h2, List.length_set], h3⟩
theorem over0_loop (b : List Bool) (c : List Int) (hb : b.length ≤ 9223372036854775806) (hc : c.length ≤ 9223372036854775806) (d : Nat) : ∀ (a : List S46) (i k : Nat), a.length ≤ 9223372036854775806 → i + d = a.length → d + b.length + c.length + 2 < k → ∃ n a' b' c', plunderlaw23_over.l0 k (i : Int) a b c = some (n, a', b', c') ∧ a'.length = a.length ∧ b'.length = b.length ∧ c'.length = c.length := by
 induction d with
 | zero =>
  intro a i k hm hi hk
  obtain ⟨k, rfl⟩ : ∃ m, k = m + 1 := ⟨k - 1, by omega⟩
  simp only [plunderlaw23_over.l0]
  rw [if_neg (by omega)]
  obtain ⟨n, b', c', h1, h2, h3⟩ := over1_loop a c hc b.length b 0 k hb (by omega) (by omega)
  exact ⟨n, a, b', c', h1, rfl, h2, h3⟩
 | succ d ih =>
  intro a i k hm hi hk
  obtain ⟨k, rfl⟩ : ∃ m, k = m + 1 := ⟨k - 1, by omega⟩
  simp only [plunderlaw23_over.l0]
  rw [if_pos (by omega), if_pos (by omega), wrap_id (a := (i : Int) + 1) (by unfold In64; omega)]
  obtain ⟨n, a', b', c', h1, h2, h3, h4⟩ := ih (a.set (i : Int).toNat (⟨(rd_T46 a (i : Int)).f0, Go.bits .xor .i64 ((rd_T46 a (i : Int)).f1) 1⟩ : S46)) (i + 1) k (by rw [List.length_set]; exact hm) (by rw [List.length_set]; omega) (by omega)
  exact ⟨n, a', b', c', h1, by rw [h2, List.length_set], h3, h4⟩
theorem over_f (a : List S46) (b : List Bool) (c : List Int) (ha : a.length ≤ 9223372036854775806) (hb : b.length ≤ 9223372036854775806) (hc : c.length ≤ 9223372036854775806) (k : Nat) (hk : a.length + b.length + c.length + 2 < k) :
  ∃ n a' b' c', plunderlaw23_over.f k a b c = some (n, a', b', c') ∧ a'.length = a.length ∧ b'.length = b.length ∧ c'.length = c.length :=
 over0_loop b c hb hc a.length a 0 k ha (by omega) (by omega)

end Go.Proofs.YtamfkglnejhjdaaDoor.Base
namespace Go.Proofs.YtamfkglnejhjdaaDoor.Fresh
open Go.Proofs.YtamfkglnejhjdaaDoorW.PrintLast (sI sZ sC)
open Go.RowKit Go.Proofs.YtamfkglnejhjdaaDoorW.PrintWords Go.Proofs.YtamfkglnejhjdaaDoorW.PrintLast Go.Proofs.YtamfkglnejhjdaaDoorW.PrintMore Go.Proofs.YtamfkglnejhjdaaDoor.PHyperFold
open Go.Proofs.YtamfkglnejhjdaaDoor.Ref (kL Only R_only E_m E_l REnd refplay_calls)
open Go.Proofs.YtamfkglnejhjdaaDoor.VPlayState (playF hyper_Play.f hyper_Play.calls PEnd Sl slv slv_one Hd hv play_walk)
open Go.Proofs.YtamfkglnejhjdaaDoor.Fam (Fam)
open Go.Proofs.YtamfkglnejhjdaaDoor.HLaw
set_option linter.unusedVariables false
noncomputable def spine : Nat → Code → Code
 | 0, c => c
 | n + 1, .seq _ b => spine n b
 | _ + 1, c => c
noncomputable def headOf : Code → Code
 | .seq a _ => a
 | c => c
noncomputable def f5t (n : Nat) : Code := spine n (Tryd.f5.body.getD .skip)
noncomputable def el (n : Nat) : Code := headOf (f5t n)
def lit (u : Nat → Value) : Array Value := #[u 0, u 1, u 2, u 3, u 4, u 5, u 6, u 7, u 8, u 9, u 10, u 11, u 12, u 13, u 14, u 15, u 16, u 17, u 18, u 19, u 20, u 21, u 22, u 23, u 24, u 25, u 26, u 27, u 28, u 29, u 30, u 31, u 32, u 33, u 34, u 35, u 36, u 37, u 38, u 39, u 40, u 41, u 42, u 43, u 44, u 45, u 46, u 47, u 48, u 49, u 50, u 51, u 52, u 53, u 54, u 55, u 56, u 57, u 58, u 59, u 60, u 61, u 62, u 63, u 64, u 65, u 66, u 67, u 68, u 69, u 70, u 71, u 72, u 73, u 74, u 75, u 76, u 77, u 78, u 79, u 80, u 81, u 82, u 83, u 84, u 85, u 86, u 87, u 88, u 89, u 90, u 91, u 92, u 93, u 94, u 95, u 96, u 97, u 98, u 99, u 100, u 101, u 102, u 103, u 104, u 105, u 106, u 107, u 108, u 109, u 110, u 111, u 112, u 113, u 114, u 115, u 116, u 117, u 118, u 119, u 120, u 121, u 122, u 123, u 124, u 125, u 126, u 127, u 128, u 129, u 130, u 131, u 132, u 133, u 134, u 135, u 136, u 137, u 138, u 139, u 140, u 141, u 142, u 143, u 144, u 145, u 146, u 147, u 148, u 149, u 150, u 151, u 152, u 153, u 154, u 155, u 156, u 157, u 158, u 159, u 160, u 161, u 162, u 163, u 164, u 165, u 166, u 167, u 168, u 169, u 170, u 171, u 172, u 173, u 174, u 175, u 176, u 177, u 178, u 179, u 180, u 181, u 182, u 183, u 184, u 185, u 186, u 187, u 188, u 189, u 190, u 191, u 192, u 193, u 194, u 195, u 196, u 197, u 198, u 199, u 200, u 201, u 202, u 203, u 204, u 205, u 206, u 207, u 208, u 209, u 210, u 211, u 212, u 213, u 214, u 215, u 216, u 217, u 218, u 219, u 220, u 221, u 222, u 223, u 224, u 225, u 226, u 227, u 228, u 229, u 230, u 231, u 232, u 233, u 234, u 235, u 236, u 237, u 238, u 239, u 240, u 241, u 242, u 243, u 244, u 245, u 246, u 247, u 248, u 249, u 250, u 251, u 252, u 253, u 254, u 255, u 256, u 257, u 258, u 259, u 260, u 261, u 262, u 263, u 264, u 265, u 266, u 267, u 268, u 269, u 270, u 271, u 272, u 273, u 274, u 275, u 276, u 277, u 278, u 279, u 280, u 281, u 282, u 283, u 284, u 285, u 286, u 287, u 288, u 289, u 290, u 291, u 292, u 293, u 294, u 295, u 296, u 297, u 298, u 299, u 300, u 301, u 302, u 303, u 304, u 305, u 306, u 307, u 308, u 309, u 310, u 311, u 312, u 313, u 314, u 315, u 316, u 317, u 318, u 319, u 320, u 321, u 322, u 323, u 324, u 325, u 326, u 327, u 328, u 329, u 330, u 331, u 332, u 333, u 334, u 335, u 336, u 337, u 338, u 339, u 340, u 341]
theorem list_of (l : List Value) (n : Nat) (h : l.length = n) : l = (List.range n).map (fun i => l.getD i undef) := by
 subst h
 apply List.ext_getElem
 ·simp
 ·intro i h1 h2
  simp [h1]
set_option maxRecDepth 100000 in
theorem lit_list (u : Nat → Value) : (lit u).toList = (List.range 342).map u := rfl
theorem lit_of (t : Array Value) (h : t.size = 342) : t = lit (fun i => t.getD i undef) := by
 apply Array.ext'
 rw [lit_list]
 have := list_of t.toList 342 (by simpa using h)
 rw [this]
 apply List.map_congr_left
 intro i hi
 have hlt : i < t.size := by rw [h]; simpa using hi
 simp [Array.getD, hlt, List.getD_eq_getElem?_getD]
def Ans (W : World) (lo g : Nat) (F : List Int) (m : Int) (M : List S103) (L : List (List Int)) : Prop :=
 ∃ (A0 : Option Addr) (c0 : Nat) (A2 : Option Addr) (c2 : Nat) (A3 : Option Addr) (c3 : Nat), W.heap[g]? = some (.cells #[.slice A0 F.length c0, .int .i64 m, .slice A2 M.length c2, .slice A3 L.length c3] 41 (0, 0)) ∧ lo ≤ g ∧
  Kd.R (Kd.int .i64) 2 W lo (fun _ => True) (.slice A0 F.length c0) F ∧ Kd.R k103 103 W lo (fun _ => True) (.slice A2 M.length c2) M ∧ Kd.R kL 36 W lo (fun _ => True) (.slice A3 L.length c3) L
def AnsP (W : World) (lo g : Nat) (r : List Int × Int × List S103 × List (List Int) × Int) : Prop := Ans W lo g r.1 r.2.1 r.2.2.1 r.2.2.2.1
theorem Ans.step {W W' : World} {lo g : Nat} {F : List Int} {m : Int} {M : List S103} {L : List (List Int)} (h : Ans W lo g F m M L) (hm : ∀ k, lo ≤ k → k < W.heap.size → W'.heap[k]? = W.heap[k]?) : Ans W' lo g F m M L := by
 obtain ⟨A0, c0, A2, c2, A3, c3, h1, h2, h3, h4, h5⟩ := h
 exact ⟨A0, c0, A2, c2, A3, c3, (hm g h2 (blk_lt h1)).trans h1, h2, Kd.R_mono (Kd.R_step (Kd.R_bound h3) (fun k hk hlt => hm k hk.2.1 hlt)) (fun _ _ => trivial), Kd.R_mono (Kd.R_step (Kd.R_bound h4) (fun k hk hlt => hm k hk.2.1 hlt)) (fun _ _ => trivial), Kd.R_mono (Kd.R_step (Kd.R_bound h5) (fun k hk hlt => hm k hk.2.1 hlt)) (fun _ _ => trivial)⟩
theorem Ans.below {W W' : World} {lo g : Nat} {F : List Int} {m : Int} {M : List S103} {L : List (List Int)} (h : Ans W lo g F m M L) (hb : Below W.heap.size W W') : Ans W' lo g F m M L := h.step (fun k _ hlt => hb.block k hlt)
theorem Ans.kept {W W' : World} {lo g a b : Nat} {F : List Int} {m : Int} {M : List S103} {L : List (List Int)} (h : Ans W lo g F m M L) (hk : Kept W W' (fun k => a ≤ k ∧ k < b)) (hb : b ≤ lo) : Ans W' lo g F m M L :=
 h.step (fun k hl hlt => hk.2 k hlt (by omega))
def Gam (W : World) (lo up g : Nat) (l0 : List S46) (l1 : List Bool) (l2 : List Int) : Prop :=
 ∃ (A0 : Option Addr) (c0 : Nat) (A1 : Option Addr) (c1 : Nat) (A2 : Option Addr) (c2 : Nat), W.heap[g]? = some (.cells #[.slice A0 l0.length c0, .slice A1 l1.length c1, .slice A2 l2.length c2] 26 (0, 0)) ∧ lo ≤ g ∧ g < up ∧
  Kd.R k46 46 W lo (fun k => k < up) (.slice A0 l0.length c0) l0 ∧ Kd.R Kd.bool 4 W lo (fun k => k < up) (.slice A1 l1.length c1) l1 ∧ Kd.R (Kd.int .i64) 3 W lo (fun k => k < up) (.slice A2 l2.length c2) l2
theorem Gam.step {W W' : World} {lo up g : Nat} {l0 : List S46} {l1 : List Bool} {l2 : List Int} (h : Gam W lo up g l0 l1 l2) (hm : ∀ k, lo ≤ k → k < up → k < W.heap.size → W'.heap[k]? = W.heap[k]?) : Gam W' lo up g l0 l1 l2 := by
 obtain ⟨A0, c0, A2, c2, A3, c3, h1, h2, h2b, h3, h4, h5⟩ := h
 exact ⟨A0, c0, A2, c2, A3, c3, (hm g h2 h2b (blk_lt h1)).trans h1, h2, h2b, Kd.R_mono (Kd.R_step (Kd.R_bound h3) (fun k hk hlt => hm k hk.2.1 hk.1 hlt)) (fun _ hk => hk.1), Kd.R_mono (Kd.R_step (Kd.R_bound h4) (fun k hk hlt => hm k hk.2.1 hk.1 hlt)) (fun _ hk => hk.1), Kd.R_mono (Kd.R_step (Kd.R_bound h5) (fun k hk hlt => hm k hk.2.1 hk.1 hlt)) (fun _ hk => hk.1)⟩
theorem Gam.below {W W' : World} {lo up g : Nat} {l0 : List S46} {l1 : List Bool} {l2 : List Int} (h : Gam W lo up g l0 l1 l2) (hb : Below W.heap.size W W') : Gam W' lo up g l0 l1 l2 := h.step (fun k _ _ hlt => hb.block k hlt)
theorem play_end {w w' : World} {e : Ending} {r : List Int × Int × List S103 × List (List Int) × Int} (h : REnd w w' e r) : ∃ (A0 : Option Addr) (c0 : Nat) (A2 : Option Addr) (c2 : Nat) (A3 : Option Addr) (c3 : Nat), e = .returned (.tuple #[.agg #[.slice A0 r.1.length c0, .int .i64 r.2.1, .slice A2 r.2.2.1.length c2, .slice A3 r.2.2.2.1.length c3], .int .i64 r.2.2.2.2]) ∧
  Kd.R (Kd.int .i64) 2 w' w.heap.size (fun _ => True) (.slice A0 r.1.length c0) r.1 ∧ Kd.R k103 103 w' w.heap.size (fun _ => True) (.slice A2 r.2.2.1.length c2) r.2.2.1 ∧ Kd.R kL 36 w' w.heap.size (fun _ => True) (.slice A3 r.2.2.2.1.length c3) r.2.2.2.1 ∧ Below w.heap.size w w' := by
 obtain ⟨v0, v2, v3, he, h1, h2, h3, hb⟩ := h
 obtain ⟨A0, c0, rfl⟩ := Kd.R_slice h1
 obtain ⟨A2, c2, rfl⟩ := Kd.R_slice h2
 obtain ⟨A3, c3, rfl⟩ := Kd.R_slice h3
 exact ⟨A0, c0, A2, c2, A3, c3, he, h1, h2, h3, hb⟩
theorem hplay_calls (A0 : Option Addr) (c0 : Nat) (l0 : List S46) (A1 : Option Addr) (c1 : Nat) (l1 : List Bool) (A2 : Option Addr) (c2 : Nat) (l2 : List Int) (w : World) (hr0 : Kd.C k46 w A0 l0.length l0) (hc0 : l0.length ≤ c0) (hr1 : Kd.C Kd.bool w A1 l1.length l1) (hc1 : l1.length ≤ c1) (hr2 : Kd.C (Kd.int .i64) w A2 l2.length l2) (hc2 : l2.length ≤ c2) :
  Calls Tryd.prog 14 #[.slice A0 l0.length c0, .slice A1 l1.length c1, .slice A2 l2.length c2] w fun e w' => REnd w w' e (playF l0 l1 l2) :=
 (hyper_Play.calls A0 c0 l0 A1 c1 l1 A2 c2 l2 _ _ _ _ _ w hr0 hc0 hr1 hc1 hr2 hc2 rfl).mono fun e w' ⟨v0, v2, v3, he, h1, h2, h3, hb⟩ => ⟨v0, v2, v3, he, h1, h2, Kd.R_mono (Kd.S_R h3) (fun _ _ => trivial), hb⟩
theorem same_calls {w : World} {lo1 lo2 : Nat} {l0 : List S46} {l1 : List Bool} {l2 : List Int} {A0 : Option Addr} {c0 : Nat} {A2 : Option Addr} {c2 : Nat} {A3 : Option Addr} {c3 : Nat} {B0 : Option Addr} {d0 : Nat} {B2 : Option Addr} {d2 : Nat} {B3 : Option Addr} {d3 : Nat} {r : List Int × Int × List S103 × List (List Int) × Int} (hr : r = playF l0 l1 l2)
  (h0 : Kd.R (Kd.int .i64) 2 w lo1 (fun _ => True) (.slice A0 r.1.length c0) r.1) (h2 : Kd.R k103 103 w lo1 (fun _ => True) (.slice A2 r.2.2.1.length c2) r.2.2.1) (h3 : Kd.R kL 36 w lo1 (fun _ => True) (.slice A3 r.2.2.2.1.length c3) r.2.2.2.1)
  (k0 : Kd.R (Kd.int .i64) 2 w lo2 (fun _ => True) (.slice B0 r.1.length d0) r.1) (k2 : Kd.R k103 103 w lo2 (fun _ => True) (.slice B2 r.2.2.1.length d2) r.2.2.1) (k3 : Kd.R kL 36 w lo2 (fun _ => True) (.slice B3 r.2.2.2.1.length d3) r.2.2.2.1) :
  Calls Tryd.prog 16 #[.agg #[.slice A0 r.1.length c0, .int .i64 r.2.1, .slice A2 r.2.2.1.length c2, .slice A3 r.2.2.2.1.length c3], .agg #[.slice B0 r.1.length d0, .int .i64 r.2.1, .slice B2 r.2.2.1.length d2, .slice B3 r.2.2.2.1.length d3]] w fun e w' => e = .returned (.bool true) ∧ Below w.heap.size w w' :=
 plunderlaw23_sameViews.calls 40000 A0 c0 r.1 r.2.1 A2 c2 r.2.2.1 A3 c3 r.2.2.2.1 B0 d0 r.1 r.2.1 B2 d2 r.2.2.1 B3 d3 r.2.2.2.1 true w (Kd.R_reads' h0).2.2 (Kd.R_reads' h0).2.1 (Kd.R_reads' h2).2.2 (Kd.R_reads' h2).2.1 (Kd.R_reads' h3).2.2 (Kd.R_reads' h3).2.1 (Kd.R_reads' k0).2.2 (Kd.R_reads' k0).2.1 (Kd.R_reads' k2).2.2 (Kd.R_reads' k2).2.1 (Kd.R_reads' k3).2.2 (Kd.R_reads' k3).2.1 (by rw [hr]; exact play_same l0 l1 l2)
structure Env where
 w0 : World
 gB : Nat
 gh : Nat
 gv : Nat
 gw : Nat
 gx : Nat
 up : Nat
 lo : Nat
 hi : Nat
 low : Nat
 lox : Nat
 A0 : Option Addr
 c0 : Nat
 A1 : Option Addr
 c1 : Nat
 A2 : Option Addr
 c2 : Nat
 l0 : List S46
 l1 : List Bool
 l2 : List Int
 v2 : Value
 vF : Value
 ko : Sl
def Env.r (E : Env) : List Int × Int × List S103 × List (List Int) × Int := playF E.l0 E.l1 E.l2
abbrev Env.touch (E : Env) (W W' : World) : Prop := Kept W W' (fun k => E.lo ≤ k ∧ k < E.hi)
structure St (E : Env) (W : World) (F : List Int) (ks : List Hd) : Prop where
 hb : Below E.w0.heap.size E.w0 W
 bB : W.heap[E.gB]? = some (.cells #[.slice E.A0 E.l0.length E.c0, .slice E.A1 E.l1.length E.c1, .slice E.A2 E.l2.length E.c2] 26 (0, 0))
 gB : E.gB < E.lo
 C0 : Kd.C k46 E.w0 E.A0 E.l0.length E.l0 ∧ E.l0.length ≤ E.c0
 C1 : Kd.C Kd.bool E.w0 E.A1 E.l1.length E.l1 ∧ E.l1.length ≤ E.c1
 C2 : Kd.C (Kd.int .i64) E.w0 E.A2 E.l2.length E.l2 ∧ E.l2.length ≤ E.c2
 hh : Gam W E.w0.heap.size E.up E.gh E.l0 E.l1 E.l2
 up : E.up ≤ E.lo
 lo : E.w0.heap.size ≤ E.lo ∧ E.lo ≤ E.hi ∧ E.hi ≤ W.heap.size
 bv : W.heap[E.gv]? = some (.cells #[E.vF, .int .i64 E.r.2.1, E.v2, slv E.ko] 41 (0, 0))
 gv : E.hi ≤ E.gv
 fk : Fam slv 36 W E.lo [(slv E.ko, ks.map (·.1))]
 fv : Fam (Value.int .i64) 2 W E.lo ((E.vF, F) :: ks.map hv)
 lt : ∀ p, p ∈ (E.vF, F) :: ks.map hv → ∀ b, p.1.ownBlock = some b → b < E.hi
 aw : AnsP W E.low E.gw E.r
 ax : AnsP W E.lox E.gx E.r
 low : E.hi ≤ E.low ∧ E.hi ≤ E.lox
 len : E.l0.length ≤ 1048576 ∧ E.l1.length ≤ 1048576 ∧ E.l2.length ≤ 1048576
 n : F.length = E.r.1.length ∧ ks.length = E.r.2.2.2.1.length ∧ ∀ x, x ∈ ks → x.2.length ≤ 4096
theorem St.cell {E : Env} {W : World} {F : List Int} {ks : List Hd} (h : St E W F ks) : W.cell? ⟨E.gv, 0, none⟩ = some E.vF ∧ W.cell? ⟨E.gv, 3, none⟩ = some (slv E.ko) := ⟨(blk_cell h.bv 0).trans rfl, (blk_cell h.bv 3).trans rfl⟩
theorem St.next {E : Env} {W W' : World} {F F' : List Int} {ks ks' : List Hd} (h : St E W F ks) (hb : Below E.w0.heap.size E.w0 W') (ht : E.touch W W') (hfk : Fam slv 36 W' E.lo [(slv E.ko, ks'.map (·.1))]) (hf : Fam (Value.int .i64) 2 W' E.lo ((E.vF, F') :: ks'.map hv)) (hlt : ∀ p, p ∈ (E.vF, F') :: ks'.map hv → ∀ b, p.1.ownBlock = some b → b < E.hi)
  (hn : F'.length = E.r.1.length ∧ ks'.length = E.r.2.2.2.1.length ∧ ∀ x, x ∈ ks' → x.2.length ≤ 4096) : St E W' F' ks' :=
 ⟨hb, (ht.2 _ (blk_lt h.bB) (fun k => absurd k.1 (Nat.not_le_of_lt h.gB))).trans h.bB, h.gB, h.C0, h.C1, h.C2, h.hh.step (fun k _ hk hlt => ht.2 k hlt (fun q => by have := h.up; omega)), h.up, ⟨h.lo.1, h.lo.2.1, Nat.le_trans h.lo.2.2 ht.1⟩,
  (ht.2 _ (blk_lt h.bv) (fun k => by have := h.gv; omega)).trans h.bv, h.gv, hfk, hf, hlt, h.aw.kept ht h.low.1, h.ax.kept ht h.low.2, h.low, h.len, hn⟩
theorem St.below {E : Env} {W W' : World} {F : List Int} {ks : List Hd} (h : St E W F ks) (hb : Below W.heap.size W W') : St E W' F ks :=
 h.next (below_step h.hb hb) (Kept.of_below hb _) (h.fk.below hb) (h.fv.below hb) h.lt h.n
end Go.Proofs.YtamfkglnejhjdaaDoor.Fresh
