/- What a play is refused for: the contract (began as a printed text). -/
import Derived.Test.YtamfkglnejhjdaaDoorSerA
import Derived.Test.YtamfkglnejhjdaaDoorBaseA
namespace Go.Proofs.YtamfkglnejhjdaaDoor.Refuse
open Go.Proofs.YtamfkglnejhjdaaDoor.PHyperFold
open Go.RowKit Go.Proofs.YtamfkglnejhjdaaDoorW.PrintWords Go.Proofs.YtamfkglnejhjdaaDoorW.PrintLast Go.Proofs.YtamfkglnejhjdaaDoorW.PrintMore
attribute [local go_sem] max2_int min2_int max_two min_two max_three min_three max_four min_four   -- for this text's walks alone
set_option linter.unusedVariables false
set_option linter.unusedSimpArgs false

def hyper_refuse.f (k : Nat) (l0 : List (S46)) (l1 : List Bool) (l2 : List Int) : Option (Int) := if (l0.length : Int) > 4096 then (some 2) else (if (l1.length : Int) > 4096 then (some 2) else (if (l2.length : Int) > 1048576 then (some 2) else ((races_Check.f k l0).bind fun bt114 => (some bt114.1))))
theorem hyper_refuse.mono : ∀ a0 a1 a2 k, LeO (hyper_refuse.f k a0 a1 a2) (hyper_refuse.f (k + 1) a0 a1 a2) := by
  intro a0 a1 a2 k
  unfold hyper_refuse.f
  repeat' first
      | (with_reducible exact races_Check.mono _ _)
      | (with_reducible exact LeO.refl _)
      | (with_reducible exact LeO.none _)
      | (with_reducible refine LeO.ite ?_ ?_)
      | (with_reducible refine LeO.bind ?_ (fun _ => ?_))
      | exact races_Check.mono _ _
      | exact LeO.none _
      | refine LeO.ite ?_ ?_
      | refine LeO.bind ?_ (fun _ => ?_)
set_option maxHeartbeats 8000000 in
set_option maxRecDepth 100000 in
theorem hyper_refuse.calls (k : Nat) (A0 : Option Addr) (c0 : Nat) (l0 : List (S46)) (A1 : Option Addr) (c1 : Nat) (l1 : List Bool) (A2 : Option Addr) (c2 : Nat) (l2 : List Int) (r : Int) (w : World) (hr0 : Kd.C k46 w A0 l0.length l0) (hc0 : l0.length ≤ c0) (hr1 : Kd.C Kd.bool w A1 l1.length l1) (hc1 : l1.length ≤ c1) (hr2 : Kd.C (Kd.int .i64) w A2 l2.length l2) (hc2 : l2.length ≤ c2) (h : hyper_refuse.f k l0 l1 l2 = some r) :
    Calls Tryd.prog 18 #[.slice A0 l0.length c0, .slice A1 l1.length c1, .slice A2 l2.length c2] w fun e w' => e = .returned (.int .i64 r) ∧ Below w.heap.size w w' := by
  have HR0 := Aside0.mk hr0
  have HC0 := Aside0.mk hc0
  clear hr0 hc0
  have HR1 := Aside0.mk hr1
  have HC1 := Aside0.mk hc1
  clear hr1 hc1
  have HR2 := Aside0.mk hr2
  have HC2 := Aside0.mk hc2
  clear hr2 hc2
  have HB := Aside0.mk (Below.refl w.heap.size w)
  have H : (if (l0.length : Int) > 4096 then (some 2) else (if (l1.length : Int) > 4096 then (some 2) else (if (l2.length : Int) > 1048576 then (some 2) else ((races_Check.f k l0).bind fun bt114 => (some bt114.1))))) = some r := h
  clear h
  by_cases c4 : (l0.length : Int) > 4096
  · rw [if_pos c4] at H
    have c4b0 : decide (4096 < (l0.length : Int)) = true := decide_eq_true c4
    have c4b1 : decide (4096 < l0.length) = true := decide_eq_true (by omega)
    clear c4
    obtain rfl := Option.some.inj H
    go_enter Tryd.func18, Tryd.ntmps18
    go_wp2
    go_ret
    exact ⟨by first | rfl | (simp [errW_none, errW_some] <;> rfl) | (simp [*, errW_none, errW_some] <;> rfl), by repeat (first | (with_reducible first | exact HB.out | apply below_alloc | apply pw_below_drewN | apply below_drew1) | exact HB.out)⟩
  · rw [if_neg c4] at H
    have c4b0 : decide (4096 < (l0.length : Int)) = false := decide_eq_false c4
    have c4b1 : decide (4096 < l0.length) = false := decide_eq_false (by omega)
    clear c4
    by_cases c5 : (l1.length : Int) > 4096
    · rw [if_pos c5] at H
      have c5b0 : decide (4096 < (l1.length : Int)) = true := decide_eq_true c5
      have c5b1 : decide (4096 < l1.length) = true := decide_eq_true (by omega)
      clear c5
      obtain rfl := Option.some.inj H
      go_enter Tryd.func18, Tryd.ntmps18
      go_wp2
      go_ret
      exact ⟨by first | rfl | (simp [errW_none, errW_some] <;> rfl) | (simp [*, errW_none, errW_some] <;> rfl), by repeat (first | (with_reducible first | exact HB.out | apply below_alloc | apply pw_below_drewN | apply below_drew1) | exact HB.out)⟩
    · rw [if_neg c5] at H
      have c5b0 : decide (4096 < (l1.length : Int)) = false := decide_eq_false c5
      have c5b1 : decide (4096 < l1.length) = false := decide_eq_false (by omega)
      clear c5
      by_cases c6 : (l2.length : Int) > 1048576
      · rw [if_pos c6] at H
        have c6b0 : decide (1048576 < (l2.length : Int)) = true := decide_eq_true c6
        have c6b1 : decide (1048576 < l2.length) = true := decide_eq_true (by omega)
        clear c6
        obtain rfl := Option.some.inj H
        go_enter Tryd.func18, Tryd.ntmps18
        go_wp2
        go_ret
        exact ⟨by first | rfl | (simp [errW_none, errW_some] <;> rfl) | (simp [*, errW_none, errW_some] <;> rfl), by repeat (first | (with_reducible first | exact HB.out | apply below_alloc | apply pw_below_drewN | apply below_drew1) | exact HB.out)⟩
      · rw [if_neg c6] at H
        have c6b0 : decide (1048576 < (l2.length : Int)) = false := decide_eq_false c6
        have c6b1 : decide (1048576 < l2.length) = false := decide_eq_false (by omega)
        clear c6
        replace H := Option.bind_eq_some_iff.mp H
        obtain ⟨⟨t114, t115⟩, A70, H⟩ := H
        replace H : (some t114) = some r := H
        have A7 := Aside0.mk A70
        clear A70
        obtain rfl := Option.some.inj H
        have hfd : ∀ W : World, (Instr.field 86 (.agg #[.int .i64 t114, .int .i64 t115]) 0).run Tryd.prog W = .ok (.int .i64 t114) W := fun _ => by kernel_rfl
        go_enter Tryd.func18, Tryd.ntmps18
        go_wp2_with fail
        refine (races_Check.calls k _ _ l0 t114 t115 _ HR0.out HC0.out A7.out).mono ?_
        rintro e w8 ⟨rfl, hb⟩
        have HB2 := Aside0.mk hb
        clear hb
        go_wp2
        go_ret
        exact ⟨rfl, HB2.out⟩

/-- The refusal, told. -/
def refF (l0 : List S46) (l1 : List Bool) (l2 : List Int) : Int := if l0.length > 4096 ∨ l1.length > 4096 ∨ l2.length > 1048576 then 2 else (Base.chkF l0).1
theorem refuse_f (l0 : List S46) (l1 : List Bool) (l2 : List Int) (k : Nat) (hk : 8200 ≤ k) : hyper_refuse.f k l0 l1 l2 = some (refF l0 l1 l2) := by
  unfold hyper_refuse.f refF
  by_cases h0 : l0.length > 4096
  · rw [if_pos (by omega), if_pos (.inl h0)]
  · rw [if_neg (by omega)]
    by_cases h1 : l1.length > 4096
    · rw [if_pos (by omega), if_pos (.inr (.inl h1))]
    · rw [if_neg (by omega)]
      by_cases h2 : l2.length > 1048576
      · rw [if_pos (by omega), if_pos (.inr (.inr h2))]
      · rw [if_neg (by omega), if_neg (by omega), Base.check_f l0 k hk]
        rfl
theorem refF_cases (l0 : List S46) (l1 : List Bool) (l2 : List Int) : refF l0 l1 l2 = 0 ↔ (l0.length ≤ 4096 ∧ l1.length ≤ 4096 ∧ l2.length ≤ 1048576 ∧ Play.right 0 (l0.map Base.dd) = true) := by
  unfold refF
  by_cases h : l0.length > 4096 ∨ l1.length > 4096 ∨ l2.length > 1048576
  · rw [if_pos h]
    constructor
    · intro e; cases e
    · rintro ⟨h0, h1, h2, _⟩; omega
  · rw [if_neg h]
    unfold Base.chkF
    rw [if_pos (by omega), Base.chk_right]
    constructor
    · intro e; exact ⟨by omega, by omega, by omega, e⟩
    · rintro ⟨_, _, _, e⟩; exact e
end Go.Proofs.YtamfkglnejhjdaaDoor.Refuse
