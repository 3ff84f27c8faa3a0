/- What the document's operations answer: contracts (began as printed texts). -/
import Derived.Test.YtamfkglnejhjdaaDoorPHyperFoldx0
import Derived.Test.YtamfkglnejhjdaaDoorRefOpsB
namespace Go.Proofs.YtamfkglnejhjdaaDoor.PHyperFold
open Go.RowKit Go.Proofs.YtamfkglnejhjdaaDoorW.PrintWords Go.Proofs.YtamfkglnejhjdaaDoorW.PrintLast Go.Proofs.YtamfkglnejhjdaaDoorW.PrintMore
attribute [local go_sem] max2_int min2_int max_two min_two max_three min_three max_four min_four   -- for this text's walks alone
set_option linter.unusedVariables false
set_option linter.unusedSimpArgs false

/-- A state of type 70 at block g of W; what its slices lead to came in by w0. -/
def IsS70 (w0 W : World) (g : Nat) (f0 : Int) (f1 : Int) (f2 : List (S66)) (f3 : List (S96)) (f4 : List Int) (f5 : Int) (f6 : Int) (f7 : List Int) (f8 : Int) (f9 : List (S103)) (f10 : List (List Int)) : Prop := ∃ A2 c2, ∃ A3 c3, ∃ A4 c4, ∃ A7 c7, ∃ A9 c9, ∃ A10 c10, W.heap[g]? = some (.cells #[.int .i64 f0, .int .i64 f1, .slice A2 f2.length c2, .slice A3 f3.length c3, .slice A4 f4.length c4, .int .i64 f5, .int .i64 f6, .slice A7 f7.length c7, .int .i64 f8, .slice A9 f9.length c9, .slice A10 f10.length c10] 70 (0, 0)) ∧ w0.heap.size ≤ g ∧ Kd.C k66 w0 A2 f2.length f2 ∧ Kd.C k96 w0 A3 f3.length f3 ∧ Kd.C (Kd.int .i64) w0 A4 f4.length f4 ∧ Kd.C (Kd.int .i64) w0 A7 f7.length f7 ∧ Kd.C k103 w0 A9 f9.length f9 ∧ Kd.C (Kd.slice 2 (Kd.int .i64)) w0 A10 f10.length f10
theorem IsS70.grown {w0 W : World} {g : Nat} {f0 : Int} {f1 : Int} {f2 : List (S66)} {f3 : List (S96)} {f4 : List Int} {f5 : Int} {f6 : Int} {f7 : List Int} {f8 : Int} {f9 : List (S103)} {f10 : List (List Int)} {W1 : World} {row : Option Nat} (h : IsS70 w0 W g f0 f1 f2 f3 f4 f5 f6 f7 f8 f9 f10) (hw : W.grownBy W1 row) (hne : some g ≠ row) : IsS70 w0 W1 g f0 f1 f2 f3 f4 f5 f6 f7 f8 f9 f10 := by
  obtain ⟨A2, c2, A3, c3, A4, c4, A7, c7, A9, c9, A10, c10, hb, hg, hr2, hr3, hr4, hr7, hr9, hr10⟩ := h
  exact ⟨A2, c2, A3, c3, A4, c4, A7, c7, A9, c9, A10, c10, blk_grown hb hw hne, hg, hr2, hr3, hr4, hr7, hr9, hr10⟩
theorem IsS70.fresh {w0 W : World} {g : Nat} {f0 : Int} {f1 : Int} {f2 : List (S66)} {f3 : List (S96)} {f4 : List Int} {f5 : Int} {f6 : Int} {f7 : List Int} {f8 : Int} {f9 : List (S103)} {f10 : List (List Int)} (h : IsS70 w0 W g f0 f1 f2 f3 f4 f5 f6 f7 f8 f9 f10) : ∀ k, W.heap.size ≤ k → k ≠ g := by
  obtain ⟨A2, c2, A3, c3, A4, c4, A7, c7, A9, c9, A10, c10, hb, hg, hr2, hr3, hr4, hr7, hr9, hr10⟩ := h
  exact Kd.freshB hb
theorem IsS70.below {w0 W : World} {g : Nat} {f0 : Int} {f1 : Int} {f2 : List (S66)} {f3 : List (S96)} {f4 : List Int} {f5 : Int} {f6 : Int} {f7 : List Int} {f8 : Int} {f9 : List (S103)} {f10 : List (List Int)} {W1 : World} (h : IsS70 w0 W g f0 f1 f2 f3 f4 f5 f6 f7 f8 f9 f10) (hw : Below W.heap.size W W1) : IsS70 w0 W1 g f0 f1 f2 f3 f4 f5 f6 f7 f8 f9 f10 := h.grown (grown_of_below hw none) (by simp)
theorem IsS70.drewN {w0 W : World} {g : Nat} {f0 : Int} {f1 : Int} {f2 : List (S66)} {f3 : List (S96)} {f4 : List Int} {f5 : Int} {f6 : Int} {f7 : List Int} {f8 : Int} {f9 : List (S103)} {f10 : List (List Int)} (h : IsS70 w0 W g f0 f1 f2 f3 f4 f5 f6 f7 f8 f9 f10) (m : Nat) : IsS70 w0 (W.drewN m) g f0 f1 f2 f3 f4 f5 f6 f7 f8 f9 f10 := h
theorem IsS70.at_ {w0 W : World} {g : Nat} {f0 : Int} {f1 : Int} {f2 : List (S66)} {f3 : List (S96)} {f4 : List Int} {f5 : Int} {f6 : Int} {f7 : List Int} {f8 : Int} {f9 : List (S103)} {f10 : List (List Int)} {w' : World} {m : Nat} (hq : W.drewN m = w') (h : IsS70 w0 W g f0 f1 f2 f3 f4 f5 f6 f7 f8 f9 f10) : IsS70 w0 w' g f0 f1 f2 f3 f4 f5 f6 f7 f8 f9 f10 := by subst hq; exact IsS70.drewN h m
theorem IsS70.apart {w0 W : World} {g : Nat} {f0 : Int} {f1 : Int} {f2 : List (S66)} {f3 : List (S96)} {f4 : List Int} {f5 : Int} {f6 : Int} {f7 : List Int} {f8 : Int} {f9 : List (S103)} {f10 : List (List Int)} {α : Type} {d : Kd α} {e : Nat} {base : Nat} {ok : Nat → Prop} {v : Value} {xs : List α} (h : IsS70 w0 W g f0 f1 f2 f3 f4 f5 f6 f7 f8 f9 f10) (ho : d.R e W base ok v xs) (ht : ∀ q, q ∈ e :: d.E → q ≠ 70) : d.R e W base (fun k => ok k ∧ k ≠ g) v xs := by
  obtain ⟨A2, c2, A3, c3, A4, c4, A7, c7, A9, c9, A10, c10, hb, hg, hr2, hr3, hr4, hr7, hr9, hr10⟩ := h
  exact Kd.R_types ho hb ht
theorem IsS70.own_ne {w0 W : World} {g : Nat} {f0 : Int} {f1 : Int} {f2 : List (S66)} {f3 : List (S96)} {f4 : List Int} {f5 : Int} {f6 : Int} {f7 : List Int} {f8 : Int} {f9 : List (S103)} {f10 : List (List Int)} {α : Type} {d : Kd α} {e : Nat} {base : Nat} {ok : Nat → Prop} {v : Value} {xs : List α} (h : IsS70 w0 W g f0 f1 f2 f3 f4 f5 f6 f7 f8 f9 f10) (ho : d.R e W base ok v xs) (ht : e ≠ 70) : some g ≠ v.ownBlock := by
  obtain ⟨A2, c2, A3, c3, A4, c4, A7, c7, A9, c9, A10, c10, hb, hg, hr2, hr3, hr4, hr7, hr9, hr10⟩ := h
  exact Kd.R_ne ho hb ht
theorem IsS70.ge {w0 W : World} {g : Nat} {f0 : Int} {f1 : Int} {f2 : List (S66)} {f3 : List (S96)} {f4 : List Int} {f5 : Int} {f6 : Int} {f7 : List Int} {f8 : Int} {f9 : List (S103)} {f10 : List (List Int)} (h : IsS70 w0 W g f0 f1 f2 f3 f4 f5 f6 f7 f8 f9 f10) : w0.heap.size ≤ g := by
  obtain ⟨A2, c2, A3, c3, A4, c4, A7, c7, A9, c9, A10, c10, hb, hg, hr2, hr3, hr4, hr7, hr9, hr10⟩ := h
  exact hg
theorem IsS70.new (w0 W : World) (A2 : Option Addr) (c2 : Nat) (A3 : Option Addr) (c3 : Nat) (A4 : Option Addr) (c4 : Nat) (A7 : Option Addr) (c7 : Nat) (A9 : Option Addr) (c9 : Nat) (A10 : Option Addr) (c10 : Nat) (f0 : Int) (f1 : Int) (f2 : List (S66)) (f3 : List (S96)) (f4 : List Int) (f5 : Int) (f6 : Int) (f7 : List Int) (f8 : Int) (f9 : List (S103)) (f10 : List (List Int)) (hB : Below w0.heap.size w0 W) (hr2 : Kd.C k66 w0 A2 f2.length f2) (hr3 : Kd.C k96 w0 A3 f3.length f3) (hr4 : Kd.C (Kd.int .i64) w0 A4 f4.length f4) (hr7 : Kd.C (Kd.int .i64) w0 A7 f7.length f7) (hr9 : Kd.C k103 w0 A9 f9.length f9) (hr10 : Kd.C (Kd.slice 2 (Kd.int .i64)) w0 A10 f10.length f10) : IsS70 w0 (W.alloc (.cells #[.int .i64 f0, .int .i64 f1, .slice A2 f2.length c2, .slice A3 f3.length c3, .slice A4 f4.length c4, .int .i64 f5, .int .i64 f6, .slice A7 f7.length c7, .int .i64 f8, .slice A9 f9.length c9, .slice A10 f10.length c10] 70)) W.heap.size f0 f1 f2 f3 f4 f5 f6 f7 f8 f9 f10 := ⟨A2, c2, A3, c3, A4, c4, A7, c7, A9, c9, A10, c10, by simpa using heap_alloc_new W _, hB.size, hr2, hr3, hr4, hr7, hr9, hr10⟩

def plunderref1_Apply.f (k : Nat) (a0 : Int) (a1 : Int) (a2 : Int) : Option (Int × Int) := if a0 < 0 then (some (0, 10)) else (if a0 ≥ 16 then (some (0, 10)) else ((plunderref1_work.f k a0 a1 a2).bind fun t168 => (some (t168, 0))))
theorem plunderref1_Apply.mono : ∀ a0 a1 a2 k, LeO (plunderref1_Apply.f k a0 a1 a2) (plunderref1_Apply.f (k + 1) a0 a1 a2) := by
  intro a0 a1 a2 k
  unfold plunderref1_Apply.f
  repeat' first
      | (with_reducible exact plunderref1_work.mono _ _ _ _)
      | (with_reducible exact LeO.refl _)
      | (with_reducible exact LeO.none _)
      | (with_reducible refine LeO.ite ?_ ?_)
      | (with_reducible refine LeO.bind ?_ (fun _ => ?_))
      | exact plunderref1_work.mono _ _ _ _
      | exact LeO.none _
      | refine LeO.ite ?_ ?_
      | refine LeO.bind ?_ (fun _ => ?_)
set_option maxHeartbeats 8000000 in
set_option maxRecDepth 100000 in
theorem plunderref1_Apply.calls (k : Nat) (a0 : Int) (a1 : Int) (a2 : Int) (r1 : Int) (r2 : Int) (w : World) (h : plunderref1_Apply.f k a0 a1 a2 = some (r1, r2)) :
    Calls Tryd.prog 72 #[.int .i64 a0, .int .i64 a1, .int .i64 a2] w fun e w' => e = .returned (.tuple #[.int .i64 r1, .int .i64 r2]) ∧ Drawn0 w w' := by
  have H : (if a0 < 0 then (some (0, 10)) else (if a0 ≥ 16 then (some (0, 10)) else ((plunderref1_work.f k a0 a1 a2).bind fun t168 => (some (t168, 0))))) = some (r1, r2) := h
  clear h
  by_cases c4 : a0 < 0
  · rw [if_pos c4] at H
    have c4b0 : decide (a0 < 0) = true := decide_eq_true c4
    clear c4
    simp only [Option.some.injEq, Prod.mk.injEq] at H
    obtain ⟨rfl, rfl⟩ := H
    go_enter Tryd.func72, Tryd.ntmps72
    go_wp2
    go_ret2
    exact ⟨by first | rfl | (simp; done) | (simp [*]; done), by repeat (first | exact Drawn0.refl _ | apply Drawn0.step)⟩
  · rw [if_neg c4] at H
    have c4b0 : decide (a0 < 0) = false := decide_eq_false c4
    clear c4
    by_cases c5 : a0 ≥ 16
    · rw [if_pos c5] at H
      have c5b0 : decide (16 ≤ a0) = true := decide_eq_true c5
      clear c5
      simp only [Option.some.injEq, Prod.mk.injEq] at H
      obtain ⟨rfl, rfl⟩ := H
      go_enter Tryd.func72, Tryd.ntmps72
      go_wp2
      go_ret2
      exact ⟨by first | rfl | (simp; done) | (simp [*]; done), by repeat (first | exact Drawn0.refl _ | apply Drawn0.step)⟩
    · rw [if_neg c5] at H
      have c5b0 : decide (16 ≤ a0) = false := decide_eq_false c5
      clear c5
      replace H := Option.bind_eq_some_iff.mp H
      obtain ⟨t168, A60, H⟩ := H
      replace H : (some (t168, 0)) = some (r1, r2) := H
      have A6 := Aside0.mk A60
      clear A60
      simp only [Option.some.injEq, Prod.mk.injEq] at H
      obtain ⟨rfl, rfl⟩ := H
      go_enter Tryd.func72, Tryd.ntmps72
      go_wp2_with (first | ((with_reducible refine gate_callee (f := 46) rfl ?_); refine goesL_ (some 17) rfl rfl Tryd.func46 (by kernel_rfl) rfl #[.int .i64 a0, .int .i64 a1, .int .i64 a2] rfl (by (try simp only [List.map_toArray, List.map_cons, List.map_nil]); first | done | rfl | (simp only [List.length_drop, List.length_take]; rfl)) ?_; (with_reducible refine (plunderref1_work.calls k a0 a1 a2 t168 _ A6.out).mono ?_); rintro e w' ⟨rfl, ⟨nd, rfl⟩⟩; refine ⟨_, rfl, ?_⟩))
      go_ret2
      exact ⟨by first | rfl | (simp; done) | (simp [*]; done), by repeat (first | exact Drawn0.refl _ | apply Drawn0.step)⟩

end Go.Proofs.YtamfkglnejhjdaaDoor.PHyperFold
