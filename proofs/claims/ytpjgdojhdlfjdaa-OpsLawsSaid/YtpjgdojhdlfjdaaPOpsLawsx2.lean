-- PRINTED BY print.sh 35421559b90ae4d0a3588c463048766b98c2df88dd9212a6774a882060cdf62d: not written by this session
import Derived.Test.YtpjgdojhdlfjdaaPOpsLawsx0
import Derived.Test.YtpjgdojhdlfjdaaPOpsLawsx1
namespace Go.Proofs.Ytpjgdojhdlfjdaa.POpsLaws
open Go.RowKit Go.Proofs.YtpjgdojhdlfjdaaW.PrintWords Go.Proofs.YtpjgdojhdlfjdaaW.PrintLast Go.Proofs.YtpjgdojhdlfjdaaW.PrintMore
attribute [local go_sem] max2_int min2_int max_two min_two max_three min_three max_four min_four   -- for this text's walks alone
set_option linter.unusedVariables false
set_option linter.unusedSimpArgs false

/-! ### plunderlaw1_Sum_parts: function 11 -/
mutual
def plunderlaw1_Sum_parts.j0 : Nat → Int → Int → Int → Bool → Bool → Option (Bool × Bool)
  | 0, _, _, _, _, _ => none
  | k + 1, x1, x2, x8, x66, x1000 => if x66 = true then (some (false, x1000)) else (if x1 ≥ 0 then (if x8 < 0 then (plunderlaw1_Sum_parts.j1 k x1 x2 x8 true x1000) else (if x1 ≤ 0 then (plunderlaw1_Sum_parts.j1 k x1 x2 x8 (decide (x8 > 0)) x1000) else (plunderlaw1_Sum_parts.j1 k x1 x2 x8 false x1000))) else (if x1 ≤ 0 then (plunderlaw1_Sum_parts.j1 k x1 x2 x8 (decide (x8 > 0)) x1000) else (plunderlaw1_Sum_parts.j1 k x1 x2 x8 false x1000)))
def plunderlaw1_Sum_parts.j1 : Nat → Int → Int → Int → Bool → Bool → Option (Bool × Bool)
  | 0, _, _, _, _, _ => none
  | k + 1, x1, x2, x8, x80, x1000 => if x80 = true then (some (false, x1000)) else (if x2 > 0 then (if x8 < x2 then (some (decide ((wrap64 (-x8)) < x2), x1000)) else (some (false, x1000))) else (if x2 < 0 then (if x8 > x2 then (some (decide ((wrap64 (-x8)) > x2), x1000)) else (some (false, x1000))) else (some ((x8 == x1), x1000))))
end
def plunderlaw1_Sum_parts.f (k : Nat) (s0_0 : Bool) (a1 : Int) (a2 : Int) : Option (Bool × Bool) := (plunderlaw1_Sum_of.f s0_0 3 a1 a2).bind fun bt133 => ((plunderlaw1_Sum_of.f bt133.2 4 a1 a2).bind fun bt135 => ((plunderlaw1_Sum_of.f bt135.2 2 bt133.1 a2).bind fun bt137 => ((plunderlaw1_Sum_of.f bt137.2 0 bt137.1 bt135.1).bind fun bt139 => ((plunderlaw1_Sum_of.f bt139.2 5 a1 a2).bind fun bt141 => ((plunderlaw1_Sum_of.f bt141.2 6 a1 a2).bind fun bt143 => ((plunderlaw1_Sum_of.f bt143.2 7 a1 a2).bind fun bt145 => ((plunderlaw1_Sum_of.f bt145.2 0 bt141.1 bt143.1).bind fun bt147 => ((plunderlaw1_Sum_of.f bt147.2 1 bt143.1 bt141.1).bind fun bt149 => (if bt147.1 = (wrap64 (a1 + a2)) then (if bt149.1 = bt145.1 then (plunderlaw1_Sum_parts.j0 k a1 a2 bt135.1 (bt139.1 != a1) bt149.2) else (plunderlaw1_Sum_parts.j0 k a1 a2 bt135.1 true bt149.2)) else (plunderlaw1_Sum_parts.j0 k a1 a2 bt135.1 true bt149.2))))))))))
theorem plunderlaw1_Sum_parts.mono_l : ∀ k, (∀ y0 y1 y2 y3 y4, LeO (plunderlaw1_Sum_parts.j0 k y0 y1 y2 y3 y4) (plunderlaw1_Sum_parts.j0 (k + 1) y0 y1 y2 y3 y4)) ∧ (∀ y0 y1 y2 y3 y4, LeO (plunderlaw1_Sum_parts.j1 k y0 y1 y2 y3 y4) (plunderlaw1_Sum_parts.j1 (k + 1) y0 y1 y2 y3 y4))
  | 0 => ⟨fun _ _ _ _ _ r h => by simp [plunderlaw1_Sum_parts.j0] at h, fun _ _ _ _ _ r h => by simp [plunderlaw1_Sum_parts.j1] at h⟩
  | k + 1 => by
    obtain ⟨ih0, ih1⟩ := plunderlaw1_Sum_parts.mono_l k
    refine ⟨?_, ?_⟩
    · intro y0 y1 y2 y3 y4
      unfold plunderlaw1_Sum_parts.j0
      repeat' first
      | (with_reducible exact ih0 _ _ _ _ _)
      | (with_reducible exact ih1 _ _ _ _ _)
      | (with_reducible exact LeO.refl _)
      | (with_reducible exact LeO.none _)
      | (with_reducible refine LeO.ite ?_ ?_)
      | (with_reducible refine LeO.bind ?_ (fun _ => ?_))
      | exact ih0 _ _ _ _ _
      | exact ih1 _ _ _ _ _
      | exact LeO.none _
      | refine LeO.ite ?_ ?_
      | refine LeO.bind ?_ (fun _ => ?_)
    · intro y0 y1 y2 y3 y4
      unfold plunderlaw1_Sum_parts.j1
      repeat' first
      | (with_reducible exact ih0 _ _ _ _ _)
      | (with_reducible exact ih1 _ _ _ _ _)
      | (with_reducible exact LeO.refl _)
      | (with_reducible exact LeO.none _)
      | (with_reducible refine LeO.ite ?_ ?_)
      | (with_reducible refine LeO.bind ?_ (fun _ => ?_))
      | exact ih0 _ _ _ _ _
      | exact ih1 _ _ _ _ _
      | exact LeO.none _
      | refine LeO.ite ?_ ?_
      | refine LeO.bind ?_ (fun _ => ?_)
theorem plunderlaw1_Sum_parts.mono : ∀ a0 a1 a2 k, LeO (plunderlaw1_Sum_parts.f k a0 a1 a2) (plunderlaw1_Sum_parts.f (k + 1) a0 a1 a2) := by
  intro a0 a1 a2 k
  obtain ⟨ih0, ih1⟩ := plunderlaw1_Sum_parts.mono_l k
  unfold plunderlaw1_Sum_parts.f
  repeat' first
      | (with_reducible exact ih0 _ _ _ _ _)
      | (with_reducible exact ih1 _ _ _ _ _)
      | (with_reducible exact LeO.refl _)
      | (with_reducible exact LeO.none _)
      | (with_reducible refine LeO.ite ?_ ?_)
      | (with_reducible refine LeO.bind ?_ (fun _ => ?_))
      | exact ih0 _ _ _ _ _
      | exact ih1 _ _ _ _ _
      | exact LeO.none _
      | refine LeO.ite ?_ ?_
      | refine LeO.bind ?_ (fun _ => ?_)
set_option maxHeartbeats 8000000 in
set_option maxRecDepth 100000 in
theorem plunderlaw1_Sum_parts.calls (k : Nat) (g : Nat) (s0_0 : Bool) (a1 : Int) (a2 : Int) (r1 : Bool) (r2 : Bool) (w0 w : World) (hI : IsS30 w0 w g s0_0) (hB : Below w0.heap.size w0 w) (h : plunderlaw1_Sum_parts.f k s0_0 a1 a2 = some (r1, r2)) :
    Calls Try.prog 11 #[.pointer (some ⟨g, 0, none⟩), .int .i64 a1, .int .i64 a2] w fun e w' => e = .returned (.bool r1) ∧ IsS30 w0 w' g r2 ∧ Below w0.heap.size w0 w' ∧ KeepBut w w' g none := by
  have HI0 := Aside0.mk hI
  have HK := Aside0.mk (KeepBut.refl w g none)
  have HL := Aside0.mk hB.size
  clear hI
  have HW0 := Aside0.mk hB.size
  have HB := Aside0.mk hB
  clear hB
  have H : ((plunderlaw1_Sum_of.f s0_0 3 a1 a2).bind fun bt133 => ((plunderlaw1_Sum_of.f bt133.2 4 a1 a2).bind fun bt135 => ((plunderlaw1_Sum_of.f bt135.2 2 bt133.1 a2).bind fun bt137 => ((plunderlaw1_Sum_of.f bt137.2 0 bt137.1 bt135.1).bind fun bt139 => ((plunderlaw1_Sum_of.f bt139.2 5 a1 a2).bind fun bt141 => ((plunderlaw1_Sum_of.f bt141.2 6 a1 a2).bind fun bt143 => ((plunderlaw1_Sum_of.f bt143.2 7 a1 a2).bind fun bt145 => ((plunderlaw1_Sum_of.f bt145.2 0 bt141.1 bt143.1).bind fun bt147 => ((plunderlaw1_Sum_of.f bt147.2 1 bt143.1 bt141.1).bind fun bt149 => (if bt147.1 = (wrap64 (a1 + a2)) then (if bt149.1 = bt145.1 then (plunderlaw1_Sum_parts.j0 k a1 a2 bt135.1 (bt139.1 != a1) bt149.2) else (plunderlaw1_Sum_parts.j0 k a1 a2 bt135.1 true bt149.2)) else (plunderlaw1_Sum_parts.j0 k a1 a2 bt135.1 true bt149.2))))))))))) = some (r1, r2) := h
  clear h
  replace H := Option.bind_eq_some_iff.mp H
  obtain ⟨⟨t133, t134⟩, A40, H⟩ := H
  replace H : ((plunderlaw1_Sum_of.f t134 4 a1 a2).bind fun bt135 => ((plunderlaw1_Sum_of.f bt135.2 2 t133 a2).bind fun bt137 => ((plunderlaw1_Sum_of.f bt137.2 0 bt137.1 bt135.1).bind fun bt139 => ((plunderlaw1_Sum_of.f bt139.2 5 a1 a2).bind fun bt141 => ((plunderlaw1_Sum_of.f bt141.2 6 a1 a2).bind fun bt143 => ((plunderlaw1_Sum_of.f bt143.2 7 a1 a2).bind fun bt145 => ((plunderlaw1_Sum_of.f bt145.2 0 bt141.1 bt143.1).bind fun bt147 => ((plunderlaw1_Sum_of.f bt147.2 1 bt143.1 bt141.1).bind fun bt149 => (if bt147.1 = (wrap64 (a1 + a2)) then (if bt149.1 = bt145.1 then (plunderlaw1_Sum_parts.j0 k a1 a2 bt135.1 (bt139.1 != a1) bt149.2) else (plunderlaw1_Sum_parts.j0 k a1 a2 bt135.1 true bt149.2)) else (plunderlaw1_Sum_parts.j0 k a1 a2 bt135.1 true bt149.2)))))))))) = some (r1, r2) := H
  have A4 := Aside0.mk A40
  clear A40
  replace H := Option.bind_eq_some_iff.mp H
  obtain ⟨⟨t135, t136⟩, A50, H⟩ := H
  replace H : ((plunderlaw1_Sum_of.f t136 2 t133 a2).bind fun bt137 => ((plunderlaw1_Sum_of.f bt137.2 0 bt137.1 t135).bind fun bt139 => ((plunderlaw1_Sum_of.f bt139.2 5 a1 a2).bind fun bt141 => ((plunderlaw1_Sum_of.f bt141.2 6 a1 a2).bind fun bt143 => ((plunderlaw1_Sum_of.f bt143.2 7 a1 a2).bind fun bt145 => ((plunderlaw1_Sum_of.f bt145.2 0 bt141.1 bt143.1).bind fun bt147 => ((plunderlaw1_Sum_of.f bt147.2 1 bt143.1 bt141.1).bind fun bt149 => (if bt147.1 = (wrap64 (a1 + a2)) then (if bt149.1 = bt145.1 then (plunderlaw1_Sum_parts.j0 k a1 a2 t135 (bt139.1 != a1) bt149.2) else (plunderlaw1_Sum_parts.j0 k a1 a2 t135 true bt149.2)) else (plunderlaw1_Sum_parts.j0 k a1 a2 t135 true bt149.2))))))))) = some (r1, r2) := H
  have A5 := Aside0.mk A50
  clear A50
  replace H := Option.bind_eq_some_iff.mp H
  obtain ⟨⟨t137, t138⟩, A60, H⟩ := H
  replace H : ((plunderlaw1_Sum_of.f t138 0 t137 t135).bind fun bt139 => ((plunderlaw1_Sum_of.f bt139.2 5 a1 a2).bind fun bt141 => ((plunderlaw1_Sum_of.f bt141.2 6 a1 a2).bind fun bt143 => ((plunderlaw1_Sum_of.f bt143.2 7 a1 a2).bind fun bt145 => ((plunderlaw1_Sum_of.f bt145.2 0 bt141.1 bt143.1).bind fun bt147 => ((plunderlaw1_Sum_of.f bt147.2 1 bt143.1 bt141.1).bind fun bt149 => (if bt147.1 = (wrap64 (a1 + a2)) then (if bt149.1 = bt145.1 then (plunderlaw1_Sum_parts.j0 k a1 a2 t135 (bt139.1 != a1) bt149.2) else (plunderlaw1_Sum_parts.j0 k a1 a2 t135 true bt149.2)) else (plunderlaw1_Sum_parts.j0 k a1 a2 t135 true bt149.2)))))))) = some (r1, r2) := H
  have A6 := Aside0.mk A60
  clear A60
  replace H := Option.bind_eq_some_iff.mp H
  obtain ⟨⟨t139, t140⟩, A70, H⟩ := H
  replace H : ((plunderlaw1_Sum_of.f t140 5 a1 a2).bind fun bt141 => ((plunderlaw1_Sum_of.f bt141.2 6 a1 a2).bind fun bt143 => ((plunderlaw1_Sum_of.f bt143.2 7 a1 a2).bind fun bt145 => ((plunderlaw1_Sum_of.f bt145.2 0 bt141.1 bt143.1).bind fun bt147 => ((plunderlaw1_Sum_of.f bt147.2 1 bt143.1 bt141.1).bind fun bt149 => (if bt147.1 = (wrap64 (a1 + a2)) then (if bt149.1 = bt145.1 then (plunderlaw1_Sum_parts.j0 k a1 a2 t135 (t139 != a1) bt149.2) else (plunderlaw1_Sum_parts.j0 k a1 a2 t135 true bt149.2)) else (plunderlaw1_Sum_parts.j0 k a1 a2 t135 true bt149.2))))))) = some (r1, r2) := H
  have A7 := Aside0.mk A70
  clear A70
  replace H := Option.bind_eq_some_iff.mp H
  obtain ⟨⟨t141, t142⟩, A80, H⟩ := H
  replace H : ((plunderlaw1_Sum_of.f t142 6 a1 a2).bind fun bt143 => ((plunderlaw1_Sum_of.f bt143.2 7 a1 a2).bind fun bt145 => ((plunderlaw1_Sum_of.f bt145.2 0 t141 bt143.1).bind fun bt147 => ((plunderlaw1_Sum_of.f bt147.2 1 bt143.1 t141).bind fun bt149 => (if bt147.1 = (wrap64 (a1 + a2)) then (if bt149.1 = bt145.1 then (plunderlaw1_Sum_parts.j0 k a1 a2 t135 (t139 != a1) bt149.2) else (plunderlaw1_Sum_parts.j0 k a1 a2 t135 true bt149.2)) else (plunderlaw1_Sum_parts.j0 k a1 a2 t135 true bt149.2)))))) = some (r1, r2) := H
  have A8 := Aside0.mk A80
  clear A80
  replace H := Option.bind_eq_some_iff.mp H
  obtain ⟨⟨t143, t144⟩, A90, H⟩ := H
  replace H : ((plunderlaw1_Sum_of.f t144 7 a1 a2).bind fun bt145 => ((plunderlaw1_Sum_of.f bt145.2 0 t141 t143).bind fun bt147 => ((plunderlaw1_Sum_of.f bt147.2 1 t143 t141).bind fun bt149 => (if bt147.1 = (wrap64 (a1 + a2)) then (if bt149.1 = bt145.1 then (plunderlaw1_Sum_parts.j0 k a1 a2 t135 (t139 != a1) bt149.2) else (plunderlaw1_Sum_parts.j0 k a1 a2 t135 true bt149.2)) else (plunderlaw1_Sum_parts.j0 k a1 a2 t135 true bt149.2))))) = some (r1, r2) := H
  have A9 := Aside0.mk A90
  clear A90
  replace H := Option.bind_eq_some_iff.mp H
  obtain ⟨⟨t145, t146⟩, A100, H⟩ := H
  replace H : ((plunderlaw1_Sum_of.f t146 0 t141 t143).bind fun bt147 => ((plunderlaw1_Sum_of.f bt147.2 1 t143 t141).bind fun bt149 => (if bt147.1 = (wrap64 (a1 + a2)) then (if bt149.1 = t145 then (plunderlaw1_Sum_parts.j0 k a1 a2 t135 (t139 != a1) bt149.2) else (plunderlaw1_Sum_parts.j0 k a1 a2 t135 true bt149.2)) else (plunderlaw1_Sum_parts.j0 k a1 a2 t135 true bt149.2)))) = some (r1, r2) := H
  have A10 := Aside0.mk A100
  clear A100
  replace H := Option.bind_eq_some_iff.mp H
  obtain ⟨⟨t147, t148⟩, A110, H⟩ := H
  replace H : ((plunderlaw1_Sum_of.f t148 1 t143 t141).bind fun bt149 => (if t147 = (wrap64 (a1 + a2)) then (if bt149.1 = t145 then (plunderlaw1_Sum_parts.j0 k a1 a2 t135 (t139 != a1) bt149.2) else (plunderlaw1_Sum_parts.j0 k a1 a2 t135 true bt149.2)) else (plunderlaw1_Sum_parts.j0 k a1 a2 t135 true bt149.2))) = some (r1, r2) := H
  have A11 := Aside0.mk A110
  clear A110
  replace H := Option.bind_eq_some_iff.mp H
  obtain ⟨⟨t149, t150⟩, A120, H⟩ := H
  replace H : (if t147 = (wrap64 (a1 + a2)) then (if t149 = t145 then (plunderlaw1_Sum_parts.j0 k a1 a2 t135 (t139 != a1) t150) else (plunderlaw1_Sum_parts.j0 k a1 a2 t135 true t150)) else (plunderlaw1_Sum_parts.j0 k a1 a2 t135 true t150)) = some (r1, r2) := H
  have A12 := Aside0.mk A120
  clear A120
  have HC13 := Aside0.mk H
  clear H
  go_enter Try.func11, Try.ntmps11
  go_upto_region 10 with (first | ((with_reducible refine gate_callee (f := 16) rfl ?_); refine goesL_ (some 19) rfl rfl Try.func16 (by kernel_rfl) rfl #[.pointer (some ⟨g, 0, none⟩), .int .i64 3, .int .i64 a1, .int .i64 a2] rfl (by (try simp only [List.map_toArray, List.map_cons, List.map_nil]); first | done | rfl | (simp only [List.length_drop, List.length_take]; rfl)) ?_; (with_reducible refine (plunderlaw1_Sum_of.calls g s0_0 3 a1 a2 t133 t134 w0 _ ?side1 ?side2 A4.out).mono ?_); (case side1 => repeat (first | (with_reducible first | exact HI0.out | apply IsS30.alloc | apply IsS30.drewN | apply IsS30.drew | apply IsS30.set_0) | exact HI0.out)); (case side2 => repeat (first | (with_reducible first | exact HB.out | apply below_alloc | apply pw_below_drewN | apply below_drew1 | refine below_set ?_ (IsS30.ge HI0.out)) | exact HB.out)); rintro e w14 ⟨rfl, hi, hb, hk⟩; refine ⟨_, rfl, ?_⟩; have n0_ := Aside0.mk (KeepBut.trans (by repeat (first | (with_reducible first | exact HK.out | apply KeepBut.set_ | apply keep_drewN | apply keep_drew | apply keep_alloc) | exact HK.out)) hk (.inl rfl)); have n1_ := Aside0.mk (hb); have n2_ := Aside0.mk (hi); clear HK; clear HB; clear HI0; have HK := n0_; have HB := n1_; have HI0 := n2_; clear n0_ n1_ n2_; (try clear hb); (try clear hb2); (try clear hk); (try clear hi)) | ((with_reducible refine gate_callee (f := 16) rfl ?_); refine goesL_ (some 23) rfl rfl Try.func16 (by kernel_rfl) rfl #[.pointer (some ⟨g, 0, none⟩), .int .i64 4, .int .i64 a1, .int .i64 a2] rfl (by (try simp only [List.map_toArray, List.map_cons, List.map_nil]); first | done | rfl | (simp only [List.length_drop, List.length_take]; rfl)) ?_; (with_reducible refine (plunderlaw1_Sum_of.calls g t134 4 a1 a2 t135 t136 w0 _ ?side1 ?side2 A5.out).mono ?_); (case side1 => repeat (first | (with_reducible first | exact HI0.out | apply IsS30.alloc | apply IsS30.drewN | apply IsS30.drew | apply IsS30.set_0) | exact HI0.out)); (case side2 => repeat (first | (with_reducible first | exact HB.out | apply below_alloc | apply pw_below_drewN | apply below_drew1 | refine below_set ?_ (IsS30.ge HI0.out)) | exact HB.out)); rintro e w15 ⟨rfl, hi, hb, hk⟩; refine ⟨_, rfl, ?_⟩; have n0_ := Aside0.mk (KeepBut.trans (by repeat (first | (with_reducible first | exact HK.out | apply KeepBut.set_ | apply keep_drewN | apply keep_drew | apply keep_alloc) | exact HK.out)) hk (.inl rfl)); have n1_ := Aside0.mk (hb); have n2_ := Aside0.mk (hi); clear HK; clear HB; clear HI0; have HK := n0_; have HB := n1_; have HI0 := n2_; clear n0_ n1_ n2_; (try clear hb); (try clear hb2); (try clear hk); (try clear hi)) | ((with_reducible refine gate_callee (f := 16) rfl ?_); refine goesL_ (some 27) rfl rfl Try.func16 (by kernel_rfl) rfl #[.pointer (some ⟨g, 0, none⟩), .int .i64 2, .int .i64 t133, .int .i64 a2] rfl (by (try simp only [List.map_toArray, List.map_cons, List.map_nil]); first | done | rfl | (simp only [List.length_drop, List.length_take]; rfl)) ?_; (with_reducible refine (plunderlaw1_Sum_of.calls g t136 2 t133 a2 t137 t138 w0 _ ?side1 ?side2 A6.out).mono ?_); (case side1 => repeat (first | (with_reducible first | exact HI0.out | apply IsS30.alloc | apply IsS30.drewN | apply IsS30.drew | apply IsS30.set_0) | exact HI0.out)); (case side2 => repeat (first | (with_reducible first | exact HB.out | apply below_alloc | apply pw_below_drewN | apply below_drew1 | refine below_set ?_ (IsS30.ge HI0.out)) | exact HB.out)); rintro e w16 ⟨rfl, hi, hb, hk⟩; refine ⟨_, rfl, ?_⟩; have n0_ := Aside0.mk (KeepBut.trans (by repeat (first | (with_reducible first | exact HK.out | apply KeepBut.set_ | apply keep_drewN | apply keep_drew | apply keep_alloc) | exact HK.out)) hk (.inl rfl)); have n1_ := Aside0.mk (hb); have n2_ := Aside0.mk (hi); clear HK; clear HB; clear HI0; have HK := n0_; have HB := n1_; have HI0 := n2_; clear n0_ n1_ n2_; (try clear hb); (try clear hb2); (try clear hk); (try clear hi)) | ((with_reducible refine gate_callee (f := 16) rfl ?_); refine goesL_ (some 31) rfl rfl Try.func16 (by kernel_rfl) rfl #[.pointer (some ⟨g, 0, none⟩), .int .i64 0, .int .i64 t137, .int .i64 t135] rfl (by (try simp only [List.map_toArray, List.map_cons, List.map_nil]); first | done | rfl | (simp only [List.length_drop, List.length_take]; rfl)) ?_; (with_reducible refine (plunderlaw1_Sum_of.calls g t138 0 t137 t135 t139 t140 w0 _ ?side1 ?side2 A7.out).mono ?_); (case side1 => repeat (first | (with_reducible first | exact HI0.out | apply IsS30.alloc | apply IsS30.drewN | apply IsS30.drew | apply IsS30.set_0) | exact HI0.out)); (case side2 => repeat (first | (with_reducible first | exact HB.out | apply below_alloc | apply pw_below_drewN | apply below_drew1 | refine below_set ?_ (IsS30.ge HI0.out)) | exact HB.out)); rintro e w17 ⟨rfl, hi, hb, hk⟩; refine ⟨_, rfl, ?_⟩; have n0_ := Aside0.mk (KeepBut.trans (by repeat (first | (with_reducible first | exact HK.out | apply KeepBut.set_ | apply keep_drewN | apply keep_drew | apply keep_alloc) | exact HK.out)) hk (.inl rfl)); have n1_ := Aside0.mk (hb); have n2_ := Aside0.mk (hi); clear HK; clear HB; clear HI0; have HK := n0_; have HB := n1_; have HI0 := n2_; clear n0_ n1_ n2_; (try clear hb); (try clear hb2); (try clear hk); (try clear hi)) | ((with_reducible refine gate_callee (f := 16) rfl ?_); refine goesL_ (some 35) rfl rfl Try.func16 (by kernel_rfl) rfl #[.pointer (some ⟨g, 0, none⟩), .int .i64 5, .int .i64 a1, .int .i64 a2] rfl (by (try simp only [List.map_toArray, List.map_cons, List.map_nil]); first | done | rfl | (simp only [List.length_drop, List.length_take]; rfl)) ?_; (with_reducible refine (plunderlaw1_Sum_of.calls g t140 5 a1 a2 t141 t142 w0 _ ?side1 ?side2 A8.out).mono ?_); (case side1 => repeat (first | (with_reducible first | exact HI0.out | apply IsS30.alloc | apply IsS30.drewN | apply IsS30.drew | apply IsS30.set_0) | exact HI0.out)); (case side2 => repeat (first | (with_reducible first | exact HB.out | apply below_alloc | apply pw_below_drewN | apply below_drew1 | refine below_set ?_ (IsS30.ge HI0.out)) | exact HB.out)); rintro e w18 ⟨rfl, hi, hb, hk⟩; refine ⟨_, rfl, ?_⟩; have n0_ := Aside0.mk (KeepBut.trans (by repeat (first | (with_reducible first | exact HK.out | apply KeepBut.set_ | apply keep_drewN | apply keep_drew | apply keep_alloc) | exact HK.out)) hk (.inl rfl)); have n1_ := Aside0.mk (hb); have n2_ := Aside0.mk (hi); clear HK; clear HB; clear HI0; have HK := n0_; have HB := n1_; have HI0 := n2_; clear n0_ n1_ n2_; (try clear hb); (try clear hb2); (try clear hk); (try clear hi)) | ((with_reducible refine gate_callee (f := 16) rfl ?_); refine goesL_ (some 39) rfl rfl Try.func16 (by kernel_rfl) rfl #[.pointer (some ⟨g, 0, none⟩), .int .i64 6, .int .i64 a1, .int .i64 a2] rfl (by (try simp only [List.map_toArray, List.map_cons, List.map_nil]); first | done | rfl | (simp only [List.length_drop, List.length_take]; rfl)) ?_; (with_reducible refine (plunderlaw1_Sum_of.calls g t142 6 a1 a2 t143 t144 w0 _ ?side1 ?side2 A9.out).mono ?_); (case side1 => repeat (first | (with_reducible first | exact HI0.out | apply IsS30.alloc | apply IsS30.drewN | apply IsS30.drew | apply IsS30.set_0) | exact HI0.out)); (case side2 => repeat (first | (with_reducible first | exact HB.out | apply below_alloc | apply pw_below_drewN | apply below_drew1 | refine below_set ?_ (IsS30.ge HI0.out)) | exact HB.out)); rintro e w19 ⟨rfl, hi, hb, hk⟩; refine ⟨_, rfl, ?_⟩; have n0_ := Aside0.mk (KeepBut.trans (by repeat (first | (with_reducible first | exact HK.out | apply KeepBut.set_ | apply keep_drewN | apply keep_drew | apply keep_alloc) | exact HK.out)) hk (.inl rfl)); have n1_ := Aside0.mk (hb); have n2_ := Aside0.mk (hi); clear HK; clear HB; clear HI0; have HK := n0_; have HB := n1_; have HI0 := n2_; clear n0_ n1_ n2_; (try clear hb); (try clear hb2); (try clear hk); (try clear hi)) | ((with_reducible refine gate_callee (f := 16) rfl ?_); refine goesL_ (some 43) rfl rfl Try.func16 (by kernel_rfl) rfl #[.pointer (some ⟨g, 0, none⟩), .int .i64 7, .int .i64 a1, .int .i64 a2] rfl (by (try simp only [List.map_toArray, List.map_cons, List.map_nil]); first | done | rfl | (simp only [List.length_drop, List.length_take]; rfl)) ?_; (with_reducible refine (plunderlaw1_Sum_of.calls g t144 7 a1 a2 t145 t146 w0 _ ?side1 ?side2 A10.out).mono ?_); (case side1 => repeat (first | (with_reducible first | exact HI0.out | apply IsS30.alloc | apply IsS30.drewN | apply IsS30.drew | apply IsS30.set_0) | exact HI0.out)); (case side2 => repeat (first | (with_reducible first | exact HB.out | apply below_alloc | apply pw_below_drewN | apply below_drew1 | refine below_set ?_ (IsS30.ge HI0.out)) | exact HB.out)); rintro e w20 ⟨rfl, hi, hb, hk⟩; refine ⟨_, rfl, ?_⟩; have n0_ := Aside0.mk (KeepBut.trans (by repeat (first | (with_reducible first | exact HK.out | apply KeepBut.set_ | apply keep_drewN | apply keep_drew | apply keep_alloc) | exact HK.out)) hk (.inl rfl)); have n1_ := Aside0.mk (hb); have n2_ := Aside0.mk (hi); clear HK; clear HB; clear HI0; have HK := n0_; have HB := n1_; have HI0 := n2_; clear n0_ n1_ n2_; (try clear hb); (try clear hb2); (try clear hk); (try clear hi)) | ((with_reducible refine gate_callee (f := 16) rfl ?_); refine goesL_ (some 47) rfl rfl Try.func16 (by kernel_rfl) rfl #[.pointer (some ⟨g, 0, none⟩), .int .i64 0, .int .i64 t141, .int .i64 t143] rfl (by (try simp only [List.map_toArray, List.map_cons, List.map_nil]); first | done | rfl | (simp only [List.length_drop, List.length_take]; rfl)) ?_; (with_reducible refine (plunderlaw1_Sum_of.calls g t146 0 t141 t143 t147 t148 w0 _ ?side1 ?side2 A11.out).mono ?_); (case side1 => repeat (first | (with_reducible first | exact HI0.out | apply IsS30.alloc | apply IsS30.drewN | apply IsS30.drew | apply IsS30.set_0) | exact HI0.out)); (case side2 => repeat (first | (with_reducible first | exact HB.out | apply below_alloc | apply pw_below_drewN | apply below_drew1 | refine below_set ?_ (IsS30.ge HI0.out)) | exact HB.out)); rintro e w21 ⟨rfl, hi, hb, hk⟩; refine ⟨_, rfl, ?_⟩; have n0_ := Aside0.mk (KeepBut.trans (by repeat (first | (with_reducible first | exact HK.out | apply KeepBut.set_ | apply keep_drewN | apply keep_drew | apply keep_alloc) | exact HK.out)) hk (.inl rfl)); have n1_ := Aside0.mk (hb); have n2_ := Aside0.mk (hi); clear HK; clear HB; clear HI0; have HK := n0_; have HB := n1_; have HI0 := n2_; clear n0_ n1_ n2_; (try clear hb); (try clear hb2); (try clear hk); (try clear hi)) | ((with_reducible refine gate_callee (f := 16) rfl ?_); refine goesL_ (some 51) rfl rfl Try.func16 (by kernel_rfl) rfl #[.pointer (some ⟨g, 0, none⟩), .int .i64 1, .int .i64 t143, .int .i64 t141] rfl (by (try simp only [List.map_toArray, List.map_cons, List.map_nil]); first | done | rfl | (simp only [List.length_drop, List.length_take]; rfl)) ?_; (with_reducible refine (plunderlaw1_Sum_of.calls g t148 1 t143 t141 t149 t150 w0 _ ?side1 ?side2 A12.out).mono ?_); (case side1 => repeat (first | (with_reducible first | exact HI0.out | apply IsS30.alloc | apply IsS30.drewN | apply IsS30.drew | apply IsS30.set_0) | exact HI0.out)); (case side2 => repeat (first | (with_reducible first | exact HB.out | apply below_alloc | apply pw_below_drewN | apply below_drew1 | refine below_set ?_ (IsS30.ge HI0.out)) | exact HB.out)); rintro e w22 ⟨rfl, hi, hb, hk⟩; refine ⟨_, rfl, ?_⟩; have n0_ := Aside0.mk (KeepBut.trans (by repeat (first | (with_reducible first | exact HK.out | apply KeepBut.set_ | apply keep_drewN | apply keep_drew | apply keep_alloc) | exact HK.out)) hk (.inl rfl)); have n1_ := Aside0.mk (hb); have n2_ := Aside0.mk (hi); clear HK; clear HB; clear HI0; have HK := n0_; have HB := n1_; have HI0 := n2_; clear n0_ n1_ n2_; (try clear hb); (try clear hb2); (try clear hk); (try clear hi)))
  (try simp only [Act.put, List.setIfInBounds_toArray, List.set_cons_zero, List.set_cons_succ])
  go_cut [66] (fun v66 wc => ∃ (kq : Nat) (x66_12 : Bool), v66 = .bool x66_12 ∧ Aside0 (plunderlaw1_Sum_parts.j0 kq a1 a2 t135 x66_12 t150 = some (r1, r2)) ∧ Aside0 (kq ≤ k) ∧ Aside0 (IsS30 w0 wc g t150) ∧ Aside0 (KeepBut w wc g none) ∧ Aside0 (Below w0.heap.size w0 wc))
  case first =>
    have H := HC13.out
    clear HC13
    by_cases c23 : t147 = (wrap64 (a1 + a2))
    · rw [if_pos c23] at H
      have c23b0 : (t147 == (wrap64 (a1 + a2))) = true := beq_iff_eq.mpr c23
      have c23b1 : (t147 != (wrap64 (a1 + a2))) = false := bne_eq_false_iff_eq.mpr c23
      clear c23
      (first | rw [c23b0] | (simp only [i64_w, i32_w]; rw [c23b0]) | skip)
      by_cases c24 : t149 = t145
      · rw [if_pos c24] at H
        have c24b0 : (t149 == t145) = true := beq_iff_eq.mpr c24
        have c24b1 : (t149 != t145) = false := bne_eq_false_iff_eq.mpr c24
        clear c24
        have H' := Aside0.mk H
        clear H
        go_wp2
        go_meet
        case rel => exact ⟨_, ((t139 != a1)), (by first | rfl | (simp; done) | (simp [*]; done)), H', ⟨by first | omega | exact Nat.le_refl _⟩, ⟨by repeat (first | (with_reducible first | exact HI0.out | apply IsS30.alloc | apply IsS30.drewN | apply IsS30.drew | apply IsS30.set_0) | exact HI0.out)⟩, ⟨by repeat (first | (with_reducible first | exact HK.out | apply KeepBut.set_ | apply keep_drewN | apply keep_drew | apply keep_alloc) | exact HK.out)⟩, ⟨by repeat (first | (with_reducible first | exact HB.out | apply below_alloc | apply pw_below_drewN | apply below_drew1 | refine below_set ?_ (IsS30.ge HI0.out)) | exact HB.out)⟩⟩
      · rw [if_neg c24] at H
        have c24b0 : (t149 == t145) = false := beq_eq_false_iff_ne.mpr c24
        have c24b1 : (t149 != t145) = true := bne_iff_ne.mpr c24
        have H' := Aside0.mk H
        clear H
        go_wp2
        go_meet
        case rel => exact ⟨_, (true), (by first | rfl | (simp; done) | (simp [*]; done)), H', ⟨by first | omega | exact Nat.le_refl _⟩, ⟨by repeat (first | (with_reducible first | exact HI0.out | apply IsS30.alloc | apply IsS30.drewN | apply IsS30.drew | apply IsS30.set_0) | exact HI0.out)⟩, ⟨by repeat (first | (with_reducible first | exact HK.out | apply KeepBut.set_ | apply keep_drewN | apply keep_drew | apply keep_alloc) | exact HK.out)⟩, ⟨by repeat (first | (with_reducible first | exact HB.out | apply below_alloc | apply pw_below_drewN | apply below_drew1 | refine below_set ?_ (IsS30.ge HI0.out)) | exact HB.out)⟩⟩
    · rw [if_neg c23] at H
      have c23b0 : (t147 == (wrap64 (a1 + a2))) = false := beq_eq_false_iff_ne.mpr c23
      have c23b1 : (t147 != (wrap64 (a1 + a2))) = true := bne_iff_ne.mpr c23
      (first | rw [c23b0] | (simp only [i64_w, i32_w]; rw [c23b0]) | skip)
      have H' := Aside0.mk H
      clear H
      go_wp2
      go_meet
      case rel => exact ⟨_, (true), (by first | rfl | (simp; done) | (simp [*]; done)), H', ⟨by first | omega | exact Nat.le_refl _⟩, ⟨by repeat (first | (with_reducible first | exact HI0.out | apply IsS30.alloc | apply IsS30.drewN | apply IsS30.drew | apply IsS30.set_0) | exact HI0.out)⟩, ⟨by repeat (first | (with_reducible first | exact HK.out | apply KeepBut.set_ | apply keep_drewN | apply keep_drew | apply keep_alloc) | exact HK.out)⟩, ⟨by repeat (first | (with_reducible first | exact HB.out | apply below_alloc | apply pw_below_drewN | apply below_drew1 | refine below_set ?_ (IsS30.ge HI0.out)) | exact HB.out)⟩⟩
  case rest =>
    clear HC13
    try clear c1
    try clear c2
    try clear p2
    try clear p6
    try clear c11
    try clear c16
    try clear c23
    try clear c23b0
    try clear c23b1
    try clear c24
    try clear c24b0
    try clear c24b1
    obtain ⟨kq, x66_12, rfl, HA, HJ12, HI0, HK, HB⟩ := hcut
    cases kq with
    | zero => exact absurd HA.out (by simp [plunderlaw1_Sum_parts.j0])
    | succ kj12 =>
      have H := HA.out
      clear HA
      simp only [plunderlaw1_Sum_parts.j0] at H
      by_cases c25 : x66_12 = true
      · subst c25
        have H1 : (some (false, t150)) = some (r1, r2) := by rw [if_pos rfl] at H; exact H
        clear H
        have H := H1
        clear H1
        simp only [Option.some.injEq, Prod.mk.injEq] at H
        obtain ⟨rfl, rfl⟩ := H
        go_wp2
        go_ret
        exact ⟨by first | rfl | (simp [errW_none, errW_some] <;> rfl) | (simp [*, errW_none, errW_some] <;> rfl), by repeat (first | (with_reducible first | exact HI0.out | apply IsS30.alloc | apply IsS30.drewN | apply IsS30.drew | apply IsS30.set_0) | exact HI0.out), by repeat (first | (with_reducible first | exact HB.out | apply below_alloc | apply pw_below_drewN | apply below_drew1 | refine below_set ?_ (IsS30.ge HI0.out)) | exact HB.out), by repeat (first | (with_reducible first | exact HK.out | apply KeepBut.set_ | apply keep_drewN | apply keep_drew | apply keep_alloc) | exact HK.out)⟩
      · replace c25 := Bool.eq_false_iff.mpr c25
        subst c25
        have H1 : (if a1 ≥ 0 then (if t135 < 0 then (plunderlaw1_Sum_parts.j1 kj12 a1 a2 t135 true t150) else (if a1 ≤ 0 then (plunderlaw1_Sum_parts.j1 kj12 a1 a2 t135 (decide (t135 > 0)) t150) else (plunderlaw1_Sum_parts.j1 kj12 a1 a2 t135 false t150))) else (if a1 ≤ 0 then (plunderlaw1_Sum_parts.j1 kj12 a1 a2 t135 (decide (t135 > 0)) t150) else (plunderlaw1_Sum_parts.j1 kj12 a1 a2 t135 false t150))) = some (r1, r2) := by rw [if_neg (show ¬ (false = true) by decide)] at H; exact H
        clear H
        have H := H1
        clear H1
        have HC26 := Aside0.mk H
        clear H
        go_upto_region 12 with (fail)
        go_cut [80] (fun v80 wc => ∃ (kq : Nat) (x80_25 : Bool), v80 = .bool x80_25 ∧ Aside0 (plunderlaw1_Sum_parts.j1 kq a1 a2 t135 x80_25 t150 = some (r1, r2)) ∧ Aside0 (kq ≤ kj12) ∧ Aside0 (IsS30 w0 wc g t150) ∧ Aside0 (KeepBut w wc g none) ∧ Aside0 (Below w0.heap.size w0 wc))
        case first =>
          have H := HC26.out
          clear HC26
          by_cases c27 : a1 ≥ 0
          · rw [if_pos c27] at H
            have c27b0 : decide (0 ≤ a1) = true := decide_eq_true c27
            clear c27
            (first | rw [c27b0] | (simp only [i64_w, i32_w]; rw [c27b0]) | skip)
            by_cases c28 : t135 < 0
            · rw [if_pos c28] at H
              have c28b0 : decide (t135 < 0) = true := decide_eq_true c28
              clear c28
              have H' := Aside0.mk H
              clear H
              go_wp2
              go_meet
              case rel => exact ⟨_, (true), (by first | rfl | (simp; done) | (simp [*]; done)), H', ⟨by have := HJ12.out; first | omega | exact Nat.le_refl _⟩, ⟨by repeat (first | (with_reducible first | exact HI0.out | apply IsS30.alloc | apply IsS30.drewN | apply IsS30.drew | apply IsS30.set_0) | exact HI0.out)⟩, ⟨by repeat (first | (with_reducible first | exact HK.out | apply KeepBut.set_ | apply keep_drewN | apply keep_drew | apply keep_alloc) | exact HK.out)⟩, ⟨by repeat (first | (with_reducible first | exact HB.out | apply below_alloc | apply pw_below_drewN | apply below_drew1 | refine below_set ?_ (IsS30.ge HI0.out)) | exact HB.out)⟩⟩
            · rw [if_neg c28] at H
              have c28b0 : decide (t135 < 0) = false := decide_eq_false c28
              clear c28
              by_cases c29 : a1 ≤ 0
              · rw [if_pos c29] at H
                have c29b0 : decide (a1 ≤ 0) = true := decide_eq_true c29
                clear c29
                have H' := Aside0.mk H
                clear H
                go_wp2
                go_meet
                case rel => exact ⟨_, (decide (t135 > 0)), (by first | rfl | (simp; done) | (simp [*]; done)), H', ⟨by have := HJ12.out; first | omega | exact Nat.le_refl _⟩, ⟨by repeat (first | (with_reducible first | exact HI0.out | apply IsS30.alloc | apply IsS30.drewN | apply IsS30.drew | apply IsS30.set_0) | exact HI0.out)⟩, ⟨by repeat (first | (with_reducible first | exact HK.out | apply KeepBut.set_ | apply keep_drewN | apply keep_drew | apply keep_alloc) | exact HK.out)⟩, ⟨by repeat (first | (with_reducible first | exact HB.out | apply below_alloc | apply pw_below_drewN | apply below_drew1 | refine below_set ?_ (IsS30.ge HI0.out)) | exact HB.out)⟩⟩
              · rw [if_neg c29] at H
                have c29b0 : decide (a1 ≤ 0) = false := decide_eq_false c29
                clear c29
                have H' := Aside0.mk H
                clear H
                go_wp2
                go_meet
                case rel => exact ⟨_, (false), (by first | rfl | (simp; done) | (simp [*]; done)), H', ⟨by have := HJ12.out; first | omega | exact Nat.le_refl _⟩, ⟨by repeat (first | (with_reducible first | exact HI0.out | apply IsS30.alloc | apply IsS30.drewN | apply IsS30.drew | apply IsS30.set_0) | exact HI0.out)⟩, ⟨by repeat (first | (with_reducible first | exact HK.out | apply KeepBut.set_ | apply keep_drewN | apply keep_drew | apply keep_alloc) | exact HK.out)⟩, ⟨by repeat (first | (with_reducible first | exact HB.out | apply below_alloc | apply pw_below_drewN | apply below_drew1 | refine below_set ?_ (IsS30.ge HI0.out)) | exact HB.out)⟩⟩
          · rw [if_neg c27] at H
            have c27b0 : decide (0 ≤ a1) = false := decide_eq_false c27
            clear c27
            (first | rw [c27b0] | (simp only [i64_w, i32_w]; rw [c27b0]) | skip)
            by_cases c30 : a1 ≤ 0
            · rw [if_pos c30] at H
              have c30b0 : decide (a1 ≤ 0) = true := decide_eq_true c30
              clear c30
              have H' := Aside0.mk H
              clear H
              go_wp2
              go_meet
              case rel => exact ⟨_, (decide (t135 > 0)), (by first | rfl | (simp; done) | (simp [*]; done)), H', ⟨by have := HJ12.out; first | omega | exact Nat.le_refl _⟩, ⟨by repeat (first | (with_reducible first | exact HI0.out | apply IsS30.alloc | apply IsS30.drewN | apply IsS30.drew | apply IsS30.set_0) | exact HI0.out)⟩, ⟨by repeat (first | (with_reducible first | exact HK.out | apply KeepBut.set_ | apply keep_drewN | apply keep_drew | apply keep_alloc) | exact HK.out)⟩, ⟨by repeat (first | (with_reducible first | exact HB.out | apply below_alloc | apply pw_below_drewN | apply below_drew1 | refine below_set ?_ (IsS30.ge HI0.out)) | exact HB.out)⟩⟩
            · rw [if_neg c30] at H
              have c30b0 : decide (a1 ≤ 0) = false := decide_eq_false c30
              clear c30
              have H' := Aside0.mk H
              clear H
              go_wp2
              go_meet
              case rel => exact ⟨_, (false), (by first | rfl | (simp; done) | (simp [*]; done)), H', ⟨by have := HJ12.out; first | omega | exact Nat.le_refl _⟩, ⟨by repeat (first | (with_reducible first | exact HI0.out | apply IsS30.alloc | apply IsS30.drewN | apply IsS30.drew | apply IsS30.set_0) | exact HI0.out)⟩, ⟨by repeat (first | (with_reducible first | exact HK.out | apply KeepBut.set_ | apply keep_drewN | apply keep_drew | apply keep_alloc) | exact HK.out)⟩, ⟨by repeat (first | (with_reducible first | exact HB.out | apply below_alloc | apply pw_below_drewN | apply below_drew1 | refine below_set ?_ (IsS30.ge HI0.out)) | exact HB.out)⟩⟩
        case rest =>
          clear HC26
          try clear c1
          try clear c2
          try clear p2
          try clear c3
          try clear p6
          try clear c11
          try clear c16
          try clear c23
          try clear c23b0
          try clear c23b1
          try clear c24
          try clear c24b0
          try clear c24b1
          try clear c25
          try clear c27
          try clear c27b0
          try clear c28
          try clear c28b0
          try clear c29
          try clear c29b0
          try clear c30
          try clear c30b0
          try clear p2
          try clear p6
          obtain ⟨kq, x80_25, rfl, HA, HJ25, HI0, HK, HB⟩ := hcut
          cases kq with
          | zero => exact absurd HA.out (by simp [plunderlaw1_Sum_parts.j1])
          | succ kj25 =>
            have H := HA.out
            clear HA
            simp only [plunderlaw1_Sum_parts.j1] at H
            by_cases c31 : x80_25 = true
            · subst c31
              have H1 : (some (false, t150)) = some (r1, r2) := by rw [if_pos rfl] at H; exact H
              clear H
              have H := H1
              clear H1
              simp only [Option.some.injEq, Prod.mk.injEq] at H
              obtain ⟨rfl, rfl⟩ := H
              go_wp2
              go_ret
              exact ⟨by first | rfl | (simp [errW_none, errW_some] <;> rfl) | (simp [*, errW_none, errW_some] <;> rfl), by repeat (first | (with_reducible first | exact HI0.out | apply IsS30.alloc | apply IsS30.drewN | apply IsS30.drew | apply IsS30.set_0) | exact HI0.out), by repeat (first | (with_reducible first | exact HB.out | apply below_alloc | apply pw_below_drewN | apply below_drew1 | refine below_set ?_ (IsS30.ge HI0.out)) | exact HB.out), by repeat (first | (with_reducible first | exact HK.out | apply KeepBut.set_ | apply keep_drewN | apply keep_drew | apply keep_alloc) | exact HK.out)⟩
            · replace c31 := Bool.eq_false_iff.mpr c31
              subst c31
              have H1 : (if a2 > 0 then (if t135 < a2 then (some (decide ((wrap64 (-t135)) < a2), t150)) else (some (false, t150))) else (if a2 < 0 then (if t135 > a2 then (some (decide ((wrap64 (-t135)) > a2), t150)) else (some (false, t150))) else (some ((t135 == a1), t150)))) = some (r1, r2) := by rw [if_neg (show ¬ (false = true) by decide)] at H; exact H
              clear H
              have H := H1
              clear H1
              by_cases c32 : a2 > 0
              · rw [if_pos c32] at H
                have c32b0 : decide (0 < a2) = true := decide_eq_true c32
                clear c32
                by_cases c33 : t135 < a2
                · rw [if_pos c33] at H
                  have c33b0 : decide (t135 < a2) = true := decide_eq_true c33
                  clear c33
                  simp only [Option.some.injEq, Prod.mk.injEq] at H
                  obtain ⟨rfl, rfl⟩ := H
                  go_wp2
                  go_ret
                  exact ⟨by first | rfl | (simp [errW_none, errW_some] <;> rfl) | (simp [*, errW_none, errW_some] <;> rfl), by repeat (first | (with_reducible first | exact HI0.out | apply IsS30.alloc | apply IsS30.drewN | apply IsS30.drew | apply IsS30.set_0) | exact HI0.out), by repeat (first | (with_reducible first | exact HB.out | apply below_alloc | apply pw_below_drewN | apply below_drew1 | refine below_set ?_ (IsS30.ge HI0.out)) | exact HB.out), by repeat (first | (with_reducible first | exact HK.out | apply KeepBut.set_ | apply keep_drewN | apply keep_drew | apply keep_alloc) | exact HK.out)⟩
                · rw [if_neg c33] at H
                  have c33b0 : decide (t135 < a2) = false := decide_eq_false c33
                  clear c33
                  simp only [Option.some.injEq, Prod.mk.injEq] at H
                  obtain ⟨rfl, rfl⟩ := H
                  go_wp2
                  go_ret
                  exact ⟨by first | rfl | (simp [errW_none, errW_some] <;> rfl) | (simp [*, errW_none, errW_some] <;> rfl), by repeat (first | (with_reducible first | exact HI0.out | apply IsS30.alloc | apply IsS30.drewN | apply IsS30.drew | apply IsS30.set_0) | exact HI0.out), by repeat (first | (with_reducible first | exact HB.out | apply below_alloc | apply pw_below_drewN | apply below_drew1 | refine below_set ?_ (IsS30.ge HI0.out)) | exact HB.out), by repeat (first | (with_reducible first | exact HK.out | apply KeepBut.set_ | apply keep_drewN | apply keep_drew | apply keep_alloc) | exact HK.out)⟩
              · rw [if_neg c32] at H
                have c32b0 : decide (0 < a2) = false := decide_eq_false c32
                clear c32
                by_cases c34 : a2 < 0
                · rw [if_pos c34] at H
                  have c34b0 : decide (a2 < 0) = true := decide_eq_true c34
                  clear c34
                  by_cases c35 : t135 > a2
                  · rw [if_pos c35] at H
                    have c35b0 : decide (a2 < t135) = true := decide_eq_true c35
                    clear c35
                    simp only [Option.some.injEq, Prod.mk.injEq] at H
                    obtain ⟨rfl, rfl⟩ := H
                    go_wp2
                    go_ret
                    exact ⟨by first | rfl | (simp [errW_none, errW_some] <;> rfl) | (simp [*, errW_none, errW_some] <;> rfl), by repeat (first | (with_reducible first | exact HI0.out | apply IsS30.alloc | apply IsS30.drewN | apply IsS30.drew | apply IsS30.set_0) | exact HI0.out), by repeat (first | (with_reducible first | exact HB.out | apply below_alloc | apply pw_below_drewN | apply below_drew1 | refine below_set ?_ (IsS30.ge HI0.out)) | exact HB.out), by repeat (first | (with_reducible first | exact HK.out | apply KeepBut.set_ | apply keep_drewN | apply keep_drew | apply keep_alloc) | exact HK.out)⟩
                  · rw [if_neg c35] at H
                    have c35b0 : decide (a2 < t135) = false := decide_eq_false c35
                    clear c35
                    simp only [Option.some.injEq, Prod.mk.injEq] at H
                    obtain ⟨rfl, rfl⟩ := H
                    go_wp2
                    go_ret
                    exact ⟨by first | rfl | (simp [errW_none, errW_some] <;> rfl) | (simp [*, errW_none, errW_some] <;> rfl), by repeat (first | (with_reducible first | exact HI0.out | apply IsS30.alloc | apply IsS30.drewN | apply IsS30.drew | apply IsS30.set_0) | exact HI0.out), by repeat (first | (with_reducible first | exact HB.out | apply below_alloc | apply pw_below_drewN | apply below_drew1 | refine below_set ?_ (IsS30.ge HI0.out)) | exact HB.out), by repeat (first | (with_reducible first | exact HK.out | apply KeepBut.set_ | apply keep_drewN | apply keep_drew | apply keep_alloc) | exact HK.out)⟩
                · rw [if_neg c34] at H
                  have c34b0 : decide (a2 < 0) = false := decide_eq_false c34
                  clear c34
                  simp only [Option.some.injEq, Prod.mk.injEq] at H
                  obtain ⟨rfl, rfl⟩ := H
                  go_wp2
                  go_ret
                  exact ⟨by first | rfl | (simp [errW_none, errW_some] <;> rfl) | (simp [*, errW_none, errW_some] <;> rfl), by repeat (first | (with_reducible first | exact HI0.out | apply IsS30.alloc | apply IsS30.drewN | apply IsS30.drew | apply IsS30.set_0) | exact HI0.out), by repeat (first | (with_reducible first | exact HB.out | apply below_alloc | apply pw_below_drewN | apply below_drew1 | refine below_set ?_ (IsS30.ge HI0.out)) | exact HB.out), by repeat (first | (with_reducible first | exact HK.out | apply KeepBut.set_ | apply keep_drewN | apply keep_drew | apply keep_alloc) | exact HK.out)⟩

/-! ### plunderlaw1_Sum_orders: function 12 -/
def plunderlaw1_Sum_orders.j0 : Nat → Int → Int → Int → Int → Int → Bool → Bool → Option (Bool × Bool)
  | 0, _, _, _, _, _, _, _ => none
  | k + 1, x1, x2, x7, x12, x13, x81, x1000 => if x81 = true then (some (false, x1000)) else (if x7 = 1 then (if x12 = x1 then (some ((x13 == x2), x1000)) else (some (false, x1000))) else (if x12 = x2 then (some ((x13 == x1), x1000)) else (some (false, x1000))))
def plunderlaw1_Sum_orders.f (k : Nat) (s0_0 : Bool) (a1 : Int) (a2 : Int) : Option (Bool × Bool) := (plunderlaw1_Sum_of.f s0_0 12 a1 a2).bind fun bt151 => ((plunderlaw1_Sum_of.f bt151.2 12 a2 a1).bind fun bt153 => ((plunderlaw1_Sum_of.f bt153.2 14 a1 a2).bind fun bt155 => ((plunderlaw1_Sum_of.f bt155.2 13 a1 a2).bind fun bt157 => ((plunderlaw1_Sum_of.f bt157.2 15 a1 a2).bind fun bt159 => ((plunderlaw1_Sum_of.f bt159.2 10 a1 a2).bind fun bt161 => ((plunderlaw1_Sum_of.f bt161.2 11 a1 a2).bind fun bt163 => ((plunderlaw1_Sum_of.f bt163.2 13 bt161.1 bt163.1).bind fun bt165 => (if bt151.1 < 0 then (plunderlaw1_Sum_orders.j0 k a1 a2 bt151.1 bt161.1 bt163.1 true bt165.2) else (if bt153.1 < 0 then (plunderlaw1_Sum_orders.j0 k a1 a2 bt151.1 bt161.1 bt163.1 true bt165.2) else (if bt155.1 < 0 then (plunderlaw1_Sum_orders.j0 k a1 a2 bt151.1 bt161.1 bt163.1 true bt165.2) else (if (wrap64 ((wrap64 (bt151.1 + bt153.1)) + bt155.1)) = 1 then (if bt157.1 = (wrap64 (bt151.1 + bt155.1)) then (if bt159.1 = (wrap64 (1 - bt155.1)) then (plunderlaw1_Sum_orders.j0 k a1 a2 bt151.1 bt161.1 bt163.1 (bt165.1 != 1) bt165.2) else (plunderlaw1_Sum_orders.j0 k a1 a2 bt151.1 bt161.1 bt163.1 true bt165.2)) else (plunderlaw1_Sum_orders.j0 k a1 a2 bt151.1 bt161.1 bt163.1 true bt165.2)) else (plunderlaw1_Sum_orders.j0 k a1 a2 bt151.1 bt161.1 bt163.1 true bt165.2))))))))))))
theorem plunderlaw1_Sum_orders.mono_l : ∀ k, (∀ y0 y1 y2 y3 y4 y5 y6, LeO (plunderlaw1_Sum_orders.j0 k y0 y1 y2 y3 y4 y5 y6) (plunderlaw1_Sum_orders.j0 (k + 1) y0 y1 y2 y3 y4 y5 y6))
  | 0 => fun _ _ _ _ _ _ _ r h => by simp [plunderlaw1_Sum_orders.j0] at h
  | k + 1 => by
    have ih0 := plunderlaw1_Sum_orders.mono_l k
    · intro y0 y1 y2 y3 y4 y5 y6
      unfold plunderlaw1_Sum_orders.j0
      repeat' first
      | (with_reducible exact ih0 _ _ _ _ _ _ _)
      | (with_reducible exact LeO.refl _)
      | (with_reducible exact LeO.none _)
      | (with_reducible refine LeO.ite ?_ ?_)
      | (with_reducible refine LeO.bind ?_ (fun _ => ?_))
      | exact ih0 _ _ _ _ _ _ _
      | exact LeO.none _
      | refine LeO.ite ?_ ?_
      | refine LeO.bind ?_ (fun _ => ?_)
theorem plunderlaw1_Sum_orders.mono : ∀ a0 a1 a2 k, LeO (plunderlaw1_Sum_orders.f k a0 a1 a2) (plunderlaw1_Sum_orders.f (k + 1) a0 a1 a2) := by
  intro a0 a1 a2 k
  have ih0 := plunderlaw1_Sum_orders.mono_l k
  unfold plunderlaw1_Sum_orders.f
  repeat' first
      | (with_reducible exact ih0 _ _ _ _ _ _ _)
      | (with_reducible exact LeO.refl _)
      | (with_reducible exact LeO.none _)
      | (with_reducible refine LeO.ite ?_ ?_)
      | (with_reducible refine LeO.bind ?_ (fun _ => ?_))
      | exact ih0 _ _ _ _ _ _ _
      | exact LeO.none _
      | refine LeO.ite ?_ ?_
      | refine LeO.bind ?_ (fun _ => ?_)
set_option maxHeartbeats 8000000 in
set_option maxRecDepth 100000 in
theorem plunderlaw1_Sum_orders.calls (k : Nat) (g : Nat) (s0_0 : Bool) (a1 : Int) (a2 : Int) (r1 : Bool) (r2 : Bool) (w0 w : World) (hI : IsS30 w0 w g s0_0) (hB : Below w0.heap.size w0 w) (h : plunderlaw1_Sum_orders.f k s0_0 a1 a2 = some (r1, r2)) :
    Calls Try.prog 12 #[.pointer (some ⟨g, 0, none⟩), .int .i64 a1, .int .i64 a2] w fun e w' => e = .returned (.bool r1) ∧ IsS30 w0 w' g r2 ∧ Below w0.heap.size w0 w' ∧ KeepBut w w' g none := by
  have HI0 := Aside0.mk hI
  have HK := Aside0.mk (KeepBut.refl w g none)
  have HL := Aside0.mk hB.size
  clear hI
  have HW0 := Aside0.mk hB.size
  have HB := Aside0.mk hB
  clear hB
  have H : ((plunderlaw1_Sum_of.f s0_0 12 a1 a2).bind fun bt151 => ((plunderlaw1_Sum_of.f bt151.2 12 a2 a1).bind fun bt153 => ((plunderlaw1_Sum_of.f bt153.2 14 a1 a2).bind fun bt155 => ((plunderlaw1_Sum_of.f bt155.2 13 a1 a2).bind fun bt157 => ((plunderlaw1_Sum_of.f bt157.2 15 a1 a2).bind fun bt159 => ((plunderlaw1_Sum_of.f bt159.2 10 a1 a2).bind fun bt161 => ((plunderlaw1_Sum_of.f bt161.2 11 a1 a2).bind fun bt163 => ((plunderlaw1_Sum_of.f bt163.2 13 bt161.1 bt163.1).bind fun bt165 => (if bt151.1 < 0 then (plunderlaw1_Sum_orders.j0 k a1 a2 bt151.1 bt161.1 bt163.1 true bt165.2) else (if bt153.1 < 0 then (plunderlaw1_Sum_orders.j0 k a1 a2 bt151.1 bt161.1 bt163.1 true bt165.2) else (if bt155.1 < 0 then (plunderlaw1_Sum_orders.j0 k a1 a2 bt151.1 bt161.1 bt163.1 true bt165.2) else (if (wrap64 ((wrap64 (bt151.1 + bt153.1)) + bt155.1)) = 1 then (if bt157.1 = (wrap64 (bt151.1 + bt155.1)) then (if bt159.1 = (wrap64 (1 - bt155.1)) then (plunderlaw1_Sum_orders.j0 k a1 a2 bt151.1 bt161.1 bt163.1 (bt165.1 != 1) bt165.2) else (plunderlaw1_Sum_orders.j0 k a1 a2 bt151.1 bt161.1 bt163.1 true bt165.2)) else (plunderlaw1_Sum_orders.j0 k a1 a2 bt151.1 bt161.1 bt163.1 true bt165.2)) else (plunderlaw1_Sum_orders.j0 k a1 a2 bt151.1 bt161.1 bt163.1 true bt165.2))))))))))))) = some (r1, r2) := h
  clear h
  replace H := Option.bind_eq_some_iff.mp H
  obtain ⟨⟨t151, t152⟩, A40, H⟩ := H
  replace H : ((plunderlaw1_Sum_of.f t152 12 a2 a1).bind fun bt153 => ((plunderlaw1_Sum_of.f bt153.2 14 a1 a2).bind fun bt155 => ((plunderlaw1_Sum_of.f bt155.2 13 a1 a2).bind fun bt157 => ((plunderlaw1_Sum_of.f bt157.2 15 a1 a2).bind fun bt159 => ((plunderlaw1_Sum_of.f bt159.2 10 a1 a2).bind fun bt161 => ((plunderlaw1_Sum_of.f bt161.2 11 a1 a2).bind fun bt163 => ((plunderlaw1_Sum_of.f bt163.2 13 bt161.1 bt163.1).bind fun bt165 => (if t151 < 0 then (plunderlaw1_Sum_orders.j0 k a1 a2 t151 bt161.1 bt163.1 true bt165.2) else (if bt153.1 < 0 then (plunderlaw1_Sum_orders.j0 k a1 a2 t151 bt161.1 bt163.1 true bt165.2) else (if bt155.1 < 0 then (plunderlaw1_Sum_orders.j0 k a1 a2 t151 bt161.1 bt163.1 true bt165.2) else (if (wrap64 ((wrap64 (t151 + bt153.1)) + bt155.1)) = 1 then (if bt157.1 = (wrap64 (t151 + bt155.1)) then (if bt159.1 = (wrap64 (1 - bt155.1)) then (plunderlaw1_Sum_orders.j0 k a1 a2 t151 bt161.1 bt163.1 (bt165.1 != 1) bt165.2) else (plunderlaw1_Sum_orders.j0 k a1 a2 t151 bt161.1 bt163.1 true bt165.2)) else (plunderlaw1_Sum_orders.j0 k a1 a2 t151 bt161.1 bt163.1 true bt165.2)) else (plunderlaw1_Sum_orders.j0 k a1 a2 t151 bt161.1 bt163.1 true bt165.2)))))))))))) = some (r1, r2) := H
  have A4 := Aside0.mk A40
  clear A40
  replace H := Option.bind_eq_some_iff.mp H
  obtain ⟨⟨t153, t154⟩, A50, H⟩ := H
  replace H : ((plunderlaw1_Sum_of.f t154 14 a1 a2).bind fun bt155 => ((plunderlaw1_Sum_of.f bt155.2 13 a1 a2).bind fun bt157 => ((plunderlaw1_Sum_of.f bt157.2 15 a1 a2).bind fun bt159 => ((plunderlaw1_Sum_of.f bt159.2 10 a1 a2).bind fun bt161 => ((plunderlaw1_Sum_of.f bt161.2 11 a1 a2).bind fun bt163 => ((plunderlaw1_Sum_of.f bt163.2 13 bt161.1 bt163.1).bind fun bt165 => (if t151 < 0 then (plunderlaw1_Sum_orders.j0 k a1 a2 t151 bt161.1 bt163.1 true bt165.2) else (if t153 < 0 then (plunderlaw1_Sum_orders.j0 k a1 a2 t151 bt161.1 bt163.1 true bt165.2) else (if bt155.1 < 0 then (plunderlaw1_Sum_orders.j0 k a1 a2 t151 bt161.1 bt163.1 true bt165.2) else (if (wrap64 ((wrap64 (t151 + t153)) + bt155.1)) = 1 then (if bt157.1 = (wrap64 (t151 + bt155.1)) then (if bt159.1 = (wrap64 (1 - bt155.1)) then (plunderlaw1_Sum_orders.j0 k a1 a2 t151 bt161.1 bt163.1 (bt165.1 != 1) bt165.2) else (plunderlaw1_Sum_orders.j0 k a1 a2 t151 bt161.1 bt163.1 true bt165.2)) else (plunderlaw1_Sum_orders.j0 k a1 a2 t151 bt161.1 bt163.1 true bt165.2)) else (plunderlaw1_Sum_orders.j0 k a1 a2 t151 bt161.1 bt163.1 true bt165.2))))))))))) = some (r1, r2) := H
  have A5 := Aside0.mk A50
  clear A50
  replace H := Option.bind_eq_some_iff.mp H
  obtain ⟨⟨t155, t156⟩, A60, H⟩ := H
  replace H : ((plunderlaw1_Sum_of.f t156 13 a1 a2).bind fun bt157 => ((plunderlaw1_Sum_of.f bt157.2 15 a1 a2).bind fun bt159 => ((plunderlaw1_Sum_of.f bt159.2 10 a1 a2).bind fun bt161 => ((plunderlaw1_Sum_of.f bt161.2 11 a1 a2).bind fun bt163 => ((plunderlaw1_Sum_of.f bt163.2 13 bt161.1 bt163.1).bind fun bt165 => (if t151 < 0 then (plunderlaw1_Sum_orders.j0 k a1 a2 t151 bt161.1 bt163.1 true bt165.2) else (if t153 < 0 then (plunderlaw1_Sum_orders.j0 k a1 a2 t151 bt161.1 bt163.1 true bt165.2) else (if t155 < 0 then (plunderlaw1_Sum_orders.j0 k a1 a2 t151 bt161.1 bt163.1 true bt165.2) else (if (wrap64 ((wrap64 (t151 + t153)) + t155)) = 1 then (if bt157.1 = (wrap64 (t151 + t155)) then (if bt159.1 = (wrap64 (1 - t155)) then (plunderlaw1_Sum_orders.j0 k a1 a2 t151 bt161.1 bt163.1 (bt165.1 != 1) bt165.2) else (plunderlaw1_Sum_orders.j0 k a1 a2 t151 bt161.1 bt163.1 true bt165.2)) else (plunderlaw1_Sum_orders.j0 k a1 a2 t151 bt161.1 bt163.1 true bt165.2)) else (plunderlaw1_Sum_orders.j0 k a1 a2 t151 bt161.1 bt163.1 true bt165.2)))))))))) = some (r1, r2) := H
  have A6 := Aside0.mk A60
  clear A60
  replace H := Option.bind_eq_some_iff.mp H
  obtain ⟨⟨t157, t158⟩, A70, H⟩ := H
  replace H : ((plunderlaw1_Sum_of.f t158 15 a1 a2).bind fun bt159 => ((plunderlaw1_Sum_of.f bt159.2 10 a1 a2).bind fun bt161 => ((plunderlaw1_Sum_of.f bt161.2 11 a1 a2).bind fun bt163 => ((plunderlaw1_Sum_of.f bt163.2 13 bt161.1 bt163.1).bind fun bt165 => (if t151 < 0 then (plunderlaw1_Sum_orders.j0 k a1 a2 t151 bt161.1 bt163.1 true bt165.2) else (if t153 < 0 then (plunderlaw1_Sum_orders.j0 k a1 a2 t151 bt161.1 bt163.1 true bt165.2) else (if t155 < 0 then (plunderlaw1_Sum_orders.j0 k a1 a2 t151 bt161.1 bt163.1 true bt165.2) else (if (wrap64 ((wrap64 (t151 + t153)) + t155)) = 1 then (if t157 = (wrap64 (t151 + t155)) then (if bt159.1 = (wrap64 (1 - t155)) then (plunderlaw1_Sum_orders.j0 k a1 a2 t151 bt161.1 bt163.1 (bt165.1 != 1) bt165.2) else (plunderlaw1_Sum_orders.j0 k a1 a2 t151 bt161.1 bt163.1 true bt165.2)) else (plunderlaw1_Sum_orders.j0 k a1 a2 t151 bt161.1 bt163.1 true bt165.2)) else (plunderlaw1_Sum_orders.j0 k a1 a2 t151 bt161.1 bt163.1 true bt165.2))))))))) = some (r1, r2) := H
  have A7 := Aside0.mk A70
  clear A70
  replace H := Option.bind_eq_some_iff.mp H
  obtain ⟨⟨t159, t160⟩, A80, H⟩ := H
  replace H : ((plunderlaw1_Sum_of.f t160 10 a1 a2).bind fun bt161 => ((plunderlaw1_Sum_of.f bt161.2 11 a1 a2).bind fun bt163 => ((plunderlaw1_Sum_of.f bt163.2 13 bt161.1 bt163.1).bind fun bt165 => (if t151 < 0 then (plunderlaw1_Sum_orders.j0 k a1 a2 t151 bt161.1 bt163.1 true bt165.2) else (if t153 < 0 then (plunderlaw1_Sum_orders.j0 k a1 a2 t151 bt161.1 bt163.1 true bt165.2) else (if t155 < 0 then (plunderlaw1_Sum_orders.j0 k a1 a2 t151 bt161.1 bt163.1 true bt165.2) else (if (wrap64 ((wrap64 (t151 + t153)) + t155)) = 1 then (if t157 = (wrap64 (t151 + t155)) then (if t159 = (wrap64 (1 - t155)) then (plunderlaw1_Sum_orders.j0 k a1 a2 t151 bt161.1 bt163.1 (bt165.1 != 1) bt165.2) else (plunderlaw1_Sum_orders.j0 k a1 a2 t151 bt161.1 bt163.1 true bt165.2)) else (plunderlaw1_Sum_orders.j0 k a1 a2 t151 bt161.1 bt163.1 true bt165.2)) else (plunderlaw1_Sum_orders.j0 k a1 a2 t151 bt161.1 bt163.1 true bt165.2)))))))) = some (r1, r2) := H
  have A8 := Aside0.mk A80
  clear A80
  replace H := Option.bind_eq_some_iff.mp H
  obtain ⟨⟨t161, t162⟩, A90, H⟩ := H
  replace H : ((plunderlaw1_Sum_of.f t162 11 a1 a2).bind fun bt163 => ((plunderlaw1_Sum_of.f bt163.2 13 t161 bt163.1).bind fun bt165 => (if t151 < 0 then (plunderlaw1_Sum_orders.j0 k a1 a2 t151 t161 bt163.1 true bt165.2) else (if t153 < 0 then (plunderlaw1_Sum_orders.j0 k a1 a2 t151 t161 bt163.1 true bt165.2) else (if t155 < 0 then (plunderlaw1_Sum_orders.j0 k a1 a2 t151 t161 bt163.1 true bt165.2) else (if (wrap64 ((wrap64 (t151 + t153)) + t155)) = 1 then (if t157 = (wrap64 (t151 + t155)) then (if t159 = (wrap64 (1 - t155)) then (plunderlaw1_Sum_orders.j0 k a1 a2 t151 t161 bt163.1 (bt165.1 != 1) bt165.2) else (plunderlaw1_Sum_orders.j0 k a1 a2 t151 t161 bt163.1 true bt165.2)) else (plunderlaw1_Sum_orders.j0 k a1 a2 t151 t161 bt163.1 true bt165.2)) else (plunderlaw1_Sum_orders.j0 k a1 a2 t151 t161 bt163.1 true bt165.2))))))) = some (r1, r2) := H
  have A9 := Aside0.mk A90
  clear A90
  replace H := Option.bind_eq_some_iff.mp H
  obtain ⟨⟨t163, t164⟩, A100, H⟩ := H
  replace H : ((plunderlaw1_Sum_of.f t164 13 t161 t163).bind fun bt165 => (if t151 < 0 then (plunderlaw1_Sum_orders.j0 k a1 a2 t151 t161 t163 true bt165.2) else (if t153 < 0 then (plunderlaw1_Sum_orders.j0 k a1 a2 t151 t161 t163 true bt165.2) else (if t155 < 0 then (plunderlaw1_Sum_orders.j0 k a1 a2 t151 t161 t163 true bt165.2) else (if (wrap64 ((wrap64 (t151 + t153)) + t155)) = 1 then (if t157 = (wrap64 (t151 + t155)) then (if t159 = (wrap64 (1 - t155)) then (plunderlaw1_Sum_orders.j0 k a1 a2 t151 t161 t163 (bt165.1 != 1) bt165.2) else (plunderlaw1_Sum_orders.j0 k a1 a2 t151 t161 t163 true bt165.2)) else (plunderlaw1_Sum_orders.j0 k a1 a2 t151 t161 t163 true bt165.2)) else (plunderlaw1_Sum_orders.j0 k a1 a2 t151 t161 t163 true bt165.2)))))) = some (r1, r2) := H
  have A10 := Aside0.mk A100
  clear A100
  replace H := Option.bind_eq_some_iff.mp H
  obtain ⟨⟨t165, t166⟩, A110, H⟩ := H
  replace H : (if t151 < 0 then (plunderlaw1_Sum_orders.j0 k a1 a2 t151 t161 t163 true t166) else (if t153 < 0 then (plunderlaw1_Sum_orders.j0 k a1 a2 t151 t161 t163 true t166) else (if t155 < 0 then (plunderlaw1_Sum_orders.j0 k a1 a2 t151 t161 t163 true t166) else (if (wrap64 ((wrap64 (t151 + t153)) + t155)) = 1 then (if t157 = (wrap64 (t151 + t155)) then (if t159 = (wrap64 (1 - t155)) then (plunderlaw1_Sum_orders.j0 k a1 a2 t151 t161 t163 (t165 != 1) t166) else (plunderlaw1_Sum_orders.j0 k a1 a2 t151 t161 t163 true t166)) else (plunderlaw1_Sum_orders.j0 k a1 a2 t151 t161 t163 true t166)) else (plunderlaw1_Sum_orders.j0 k a1 a2 t151 t161 t163 true t166))))) = some (r1, r2) := H
  have A11 := Aside0.mk A110
  clear A110
  have HC12 := Aside0.mk H
  clear H
  go_enter Try.func12, Try.ntmps12
  go_upto_region 9 with (first | ((with_reducible refine gate_callee (f := 16) rfl ?_); refine goesL_ (some 18) rfl rfl Try.func16 (by kernel_rfl) rfl #[.pointer (some ⟨g, 0, none⟩), .int .i64 12, .int .i64 a1, .int .i64 a2] rfl (by (try simp only [List.map_toArray, List.map_cons, List.map_nil]); first | done | rfl | (simp only [List.length_drop, List.length_take]; rfl)) ?_; (with_reducible refine (plunderlaw1_Sum_of.calls g s0_0 12 a1 a2 t151 t152 w0 _ ?side1 ?side2 A4.out).mono ?_); (case side1 => repeat (first | (with_reducible first | exact HI0.out | apply IsS30.alloc | apply IsS30.drewN | apply IsS30.drew | apply IsS30.set_0) | exact HI0.out)); (case side2 => repeat (first | (with_reducible first | exact HB.out | apply below_alloc | apply pw_below_drewN | apply below_drew1 | refine below_set ?_ (IsS30.ge HI0.out)) | exact HB.out)); rintro e w13 ⟨rfl, hi, hb, hk⟩; refine ⟨_, rfl, ?_⟩; have n0_ := Aside0.mk (KeepBut.trans (by repeat (first | (with_reducible first | exact HK.out | apply KeepBut.set_ | apply keep_drewN | apply keep_drew | apply keep_alloc) | exact HK.out)) hk (.inl rfl)); have n1_ := Aside0.mk (hb); have n2_ := Aside0.mk (hi); clear HK; clear HB; clear HI0; have HK := n0_; have HB := n1_; have HI0 := n2_; clear n0_ n1_ n2_; (try clear hb); (try clear hb2); (try clear hk); (try clear hi)) | ((with_reducible refine gate_callee (f := 16) rfl ?_); refine goesL_ (some 22) rfl rfl Try.func16 (by kernel_rfl) rfl #[.pointer (some ⟨g, 0, none⟩), .int .i64 12, .int .i64 a2, .int .i64 a1] rfl (by (try simp only [List.map_toArray, List.map_cons, List.map_nil]); first | done | rfl | (simp only [List.length_drop, List.length_take]; rfl)) ?_; (with_reducible refine (plunderlaw1_Sum_of.calls g t152 12 a2 a1 t153 t154 w0 _ ?side1 ?side2 A5.out).mono ?_); (case side1 => repeat (first | (with_reducible first | exact HI0.out | apply IsS30.alloc | apply IsS30.drewN | apply IsS30.drew | apply IsS30.set_0) | exact HI0.out)); (case side2 => repeat (first | (with_reducible first | exact HB.out | apply below_alloc | apply pw_below_drewN | apply below_drew1 | refine below_set ?_ (IsS30.ge HI0.out)) | exact HB.out)); rintro e w14 ⟨rfl, hi, hb, hk⟩; refine ⟨_, rfl, ?_⟩; have n0_ := Aside0.mk (KeepBut.trans (by repeat (first | (with_reducible first | exact HK.out | apply KeepBut.set_ | apply keep_drewN | apply keep_drew | apply keep_alloc) | exact HK.out)) hk (.inl rfl)); have n1_ := Aside0.mk (hb); have n2_ := Aside0.mk (hi); clear HK; clear HB; clear HI0; have HK := n0_; have HB := n1_; have HI0 := n2_; clear n0_ n1_ n2_; (try clear hb); (try clear hb2); (try clear hk); (try clear hi)) | ((with_reducible refine gate_callee (f := 16) rfl ?_); refine goesL_ (some 26) rfl rfl Try.func16 (by kernel_rfl) rfl #[.pointer (some ⟨g, 0, none⟩), .int .i64 14, .int .i64 a1, .int .i64 a2] rfl (by (try simp only [List.map_toArray, List.map_cons, List.map_nil]); first | done | rfl | (simp only [List.length_drop, List.length_take]; rfl)) ?_; (with_reducible refine (plunderlaw1_Sum_of.calls g t154 14 a1 a2 t155 t156 w0 _ ?side1 ?side2 A6.out).mono ?_); (case side1 => repeat (first | (with_reducible first | exact HI0.out | apply IsS30.alloc | apply IsS30.drewN | apply IsS30.drew | apply IsS30.set_0) | exact HI0.out)); (case side2 => repeat (first | (with_reducible first | exact HB.out | apply below_alloc | apply pw_below_drewN | apply below_drew1 | refine below_set ?_ (IsS30.ge HI0.out)) | exact HB.out)); rintro e w15 ⟨rfl, hi, hb, hk⟩; refine ⟨_, rfl, ?_⟩; have n0_ := Aside0.mk (KeepBut.trans (by repeat (first | (with_reducible first | exact HK.out | apply KeepBut.set_ | apply keep_drewN | apply keep_drew | apply keep_alloc) | exact HK.out)) hk (.inl rfl)); have n1_ := Aside0.mk (hb); have n2_ := Aside0.mk (hi); clear HK; clear HB; clear HI0; have HK := n0_; have HB := n1_; have HI0 := n2_; clear n0_ n1_ n2_; (try clear hb); (try clear hb2); (try clear hk); (try clear hi)) | ((with_reducible refine gate_callee (f := 16) rfl ?_); refine goesL_ (some 30) rfl rfl Try.func16 (by kernel_rfl) rfl #[.pointer (some ⟨g, 0, none⟩), .int .i64 13, .int .i64 a1, .int .i64 a2] rfl (by (try simp only [List.map_toArray, List.map_cons, List.map_nil]); first | done | rfl | (simp only [List.length_drop, List.length_take]; rfl)) ?_; (with_reducible refine (plunderlaw1_Sum_of.calls g t156 13 a1 a2 t157 t158 w0 _ ?side1 ?side2 A7.out).mono ?_); (case side1 => repeat (first | (with_reducible first | exact HI0.out | apply IsS30.alloc | apply IsS30.drewN | apply IsS30.drew | apply IsS30.set_0) | exact HI0.out)); (case side2 => repeat (first | (with_reducible first | exact HB.out | apply below_alloc | apply pw_below_drewN | apply below_drew1 | refine below_set ?_ (IsS30.ge HI0.out)) | exact HB.out)); rintro e w16 ⟨rfl, hi, hb, hk⟩; refine ⟨_, rfl, ?_⟩; have n0_ := Aside0.mk (KeepBut.trans (by repeat (first | (with_reducible first | exact HK.out | apply KeepBut.set_ | apply keep_drewN | apply keep_drew | apply keep_alloc) | exact HK.out)) hk (.inl rfl)); have n1_ := Aside0.mk (hb); have n2_ := Aside0.mk (hi); clear HK; clear HB; clear HI0; have HK := n0_; have HB := n1_; have HI0 := n2_; clear n0_ n1_ n2_; (try clear hb); (try clear hb2); (try clear hk); (try clear hi)) | ((with_reducible refine gate_callee (f := 16) rfl ?_); refine goesL_ (some 34) rfl rfl Try.func16 (by kernel_rfl) rfl #[.pointer (some ⟨g, 0, none⟩), .int .i64 15, .int .i64 a1, .int .i64 a2] rfl (by (try simp only [List.map_toArray, List.map_cons, List.map_nil]); first | done | rfl | (simp only [List.length_drop, List.length_take]; rfl)) ?_; (with_reducible refine (plunderlaw1_Sum_of.calls g t158 15 a1 a2 t159 t160 w0 _ ?side1 ?side2 A8.out).mono ?_); (case side1 => repeat (first | (with_reducible first | exact HI0.out | apply IsS30.alloc | apply IsS30.drewN | apply IsS30.drew | apply IsS30.set_0) | exact HI0.out)); (case side2 => repeat (first | (with_reducible first | exact HB.out | apply below_alloc | apply pw_below_drewN | apply below_drew1 | refine below_set ?_ (IsS30.ge HI0.out)) | exact HB.out)); rintro e w17 ⟨rfl, hi, hb, hk⟩; refine ⟨_, rfl, ?_⟩; have n0_ := Aside0.mk (KeepBut.trans (by repeat (first | (with_reducible first | exact HK.out | apply KeepBut.set_ | apply keep_drewN | apply keep_drew | apply keep_alloc) | exact HK.out)) hk (.inl rfl)); have n1_ := Aside0.mk (hb); have n2_ := Aside0.mk (hi); clear HK; clear HB; clear HI0; have HK := n0_; have HB := n1_; have HI0 := n2_; clear n0_ n1_ n2_; (try clear hb); (try clear hb2); (try clear hk); (try clear hi)) | ((with_reducible refine gate_callee (f := 16) rfl ?_); refine goesL_ (some 38) rfl rfl Try.func16 (by kernel_rfl) rfl #[.pointer (some ⟨g, 0, none⟩), .int .i64 10, .int .i64 a1, .int .i64 a2] rfl (by (try simp only [List.map_toArray, List.map_cons, List.map_nil]); first | done | rfl | (simp only [List.length_drop, List.length_take]; rfl)) ?_; (with_reducible refine (plunderlaw1_Sum_of.calls g t160 10 a1 a2 t161 t162 w0 _ ?side1 ?side2 A9.out).mono ?_); (case side1 => repeat (first | (with_reducible first | exact HI0.out | apply IsS30.alloc | apply IsS30.drewN | apply IsS30.drew | apply IsS30.set_0) | exact HI0.out)); (case side2 => repeat (first | (with_reducible first | exact HB.out | apply below_alloc | apply pw_below_drewN | apply below_drew1 | refine below_set ?_ (IsS30.ge HI0.out)) | exact HB.out)); rintro e w18 ⟨rfl, hi, hb, hk⟩; refine ⟨_, rfl, ?_⟩; have n0_ := Aside0.mk (KeepBut.trans (by repeat (first | (with_reducible first | exact HK.out | apply KeepBut.set_ | apply keep_drewN | apply keep_drew | apply keep_alloc) | exact HK.out)) hk (.inl rfl)); have n1_ := Aside0.mk (hb); have n2_ := Aside0.mk (hi); clear HK; clear HB; clear HI0; have HK := n0_; have HB := n1_; have HI0 := n2_; clear n0_ n1_ n2_; (try clear hb); (try clear hb2); (try clear hk); (try clear hi)) | ((with_reducible refine gate_callee (f := 16) rfl ?_); refine goesL_ (some 42) rfl rfl Try.func16 (by kernel_rfl) rfl #[.pointer (some ⟨g, 0, none⟩), .int .i64 11, .int .i64 a1, .int .i64 a2] rfl (by (try simp only [List.map_toArray, List.map_cons, List.map_nil]); first | done | rfl | (simp only [List.length_drop, List.length_take]; rfl)) ?_; (with_reducible refine (plunderlaw1_Sum_of.calls g t162 11 a1 a2 t163 t164 w0 _ ?side1 ?side2 A10.out).mono ?_); (case side1 => repeat (first | (with_reducible first | exact HI0.out | apply IsS30.alloc | apply IsS30.drewN | apply IsS30.drew | apply IsS30.set_0) | exact HI0.out)); (case side2 => repeat (first | (with_reducible first | exact HB.out | apply below_alloc | apply pw_below_drewN | apply below_drew1 | refine below_set ?_ (IsS30.ge HI0.out)) | exact HB.out)); rintro e w19 ⟨rfl, hi, hb, hk⟩; refine ⟨_, rfl, ?_⟩; have n0_ := Aside0.mk (KeepBut.trans (by repeat (first | (with_reducible first | exact HK.out | apply KeepBut.set_ | apply keep_drewN | apply keep_drew | apply keep_alloc) | exact HK.out)) hk (.inl rfl)); have n1_ := Aside0.mk (hb); have n2_ := Aside0.mk (hi); clear HK; clear HB; clear HI0; have HK := n0_; have HB := n1_; have HI0 := n2_; clear n0_ n1_ n2_; (try clear hb); (try clear hb2); (try clear hk); (try clear hi)) | ((with_reducible refine gate_callee (f := 16) rfl ?_); refine goesL_ (some 46) rfl rfl Try.func16 (by kernel_rfl) rfl #[.pointer (some ⟨g, 0, none⟩), .int .i64 13, .int .i64 t161, .int .i64 t163] rfl (by (try simp only [List.map_toArray, List.map_cons, List.map_nil]); first | done | rfl | (simp only [List.length_drop, List.length_take]; rfl)) ?_; (with_reducible refine (plunderlaw1_Sum_of.calls g t164 13 t161 t163 t165 t166 w0 _ ?side1 ?side2 A11.out).mono ?_); (case side1 => repeat (first | (with_reducible first | exact HI0.out | apply IsS30.alloc | apply IsS30.drewN | apply IsS30.drew | apply IsS30.set_0) | exact HI0.out)); (case side2 => repeat (first | (with_reducible first | exact HB.out | apply below_alloc | apply pw_below_drewN | apply below_drew1 | refine below_set ?_ (IsS30.ge HI0.out)) | exact HB.out)); rintro e w20 ⟨rfl, hi, hb, hk⟩; refine ⟨_, rfl, ?_⟩; have n0_ := Aside0.mk (KeepBut.trans (by repeat (first | (with_reducible first | exact HK.out | apply KeepBut.set_ | apply keep_drewN | apply keep_drew | apply keep_alloc) | exact HK.out)) hk (.inl rfl)); have n1_ := Aside0.mk (hb); have n2_ := Aside0.mk (hi); clear HK; clear HB; clear HI0; have HK := n0_; have HB := n1_; have HI0 := n2_; clear n0_ n1_ n2_; (try clear hb); (try clear hb2); (try clear hk); (try clear hi)))
  (try simp only [Act.put, List.setIfInBounds_toArray, List.set_cons_zero, List.set_cons_succ])
  go_cut [81] (fun v81 wc => ∃ (kq : Nat) (x81_11 : Bool), v81 = .bool x81_11 ∧ Aside0 (plunderlaw1_Sum_orders.j0 kq a1 a2 t151 t161 t163 x81_11 t166 = some (r1, r2)) ∧ Aside0 (kq ≤ k) ∧ Aside0 (IsS30 w0 wc g t166) ∧ Aside0 (KeepBut w wc g none) ∧ Aside0 (Below w0.heap.size w0 wc))
  case first =>
    have H := HC12.out
    clear HC12
    by_cases c21 : t151 < 0
    · rw [if_pos c21] at H
      have c21b0 : decide (t151 < 0) = true := decide_eq_true c21
      clear c21
      (first | rw [c21b0] | (simp only [i64_w, i32_w]; rw [c21b0]) | skip)
      have H' := Aside0.mk H
      clear H
      go_wp2
      go_meet
      case rel => exact ⟨_, (true), (by first | rfl | (simp; done) | (simp [*]; done)), H', ⟨by first | omega | exact Nat.le_refl _⟩, ⟨by repeat (first | (with_reducible first | exact HI0.out | apply IsS30.alloc | apply IsS30.drewN | apply IsS30.drew | apply IsS30.set_0) | exact HI0.out)⟩, ⟨by repeat (first | (with_reducible first | exact HK.out | apply KeepBut.set_ | apply keep_drewN | apply keep_drew | apply keep_alloc) | exact HK.out)⟩, ⟨by repeat (first | (with_reducible first | exact HB.out | apply below_alloc | apply pw_below_drewN | apply below_drew1 | refine below_set ?_ (IsS30.ge HI0.out)) | exact HB.out)⟩⟩
    · rw [if_neg c21] at H
      have c21b0 : decide (t151 < 0) = false := decide_eq_false c21
      clear c21
      (first | rw [c21b0] | (simp only [i64_w, i32_w]; rw [c21b0]) | skip)
      by_cases c22 : t153 < 0
      · rw [if_pos c22] at H
        have c22b0 : decide (t153 < 0) = true := decide_eq_true c22
        clear c22
        have H' := Aside0.mk H
        clear H
        go_wp2
        go_meet
        case rel => exact ⟨_, (true), (by first | rfl | (simp; done) | (simp [*]; done)), H', ⟨by first | omega | exact Nat.le_refl _⟩, ⟨by repeat (first | (with_reducible first | exact HI0.out | apply IsS30.alloc | apply IsS30.drewN | apply IsS30.drew | apply IsS30.set_0) | exact HI0.out)⟩, ⟨by repeat (first | (with_reducible first | exact HK.out | apply KeepBut.set_ | apply keep_drewN | apply keep_drew | apply keep_alloc) | exact HK.out)⟩, ⟨by repeat (first | (with_reducible first | exact HB.out | apply below_alloc | apply pw_below_drewN | apply below_drew1 | refine below_set ?_ (IsS30.ge HI0.out)) | exact HB.out)⟩⟩
      · rw [if_neg c22] at H
        have c22b0 : decide (t153 < 0) = false := decide_eq_false c22
        clear c22
        by_cases c23 : t155 < 0
        · rw [if_pos c23] at H
          have c23b0 : decide (t155 < 0) = true := decide_eq_true c23
          clear c23
          have H' := Aside0.mk H
          clear H
          go_wp2
          go_meet
          case rel => exact ⟨_, (true), (by first | rfl | (simp; done) | (simp [*]; done)), H', ⟨by first | omega | exact Nat.le_refl _⟩, ⟨by repeat (first | (with_reducible first | exact HI0.out | apply IsS30.alloc | apply IsS30.drewN | apply IsS30.drew | apply IsS30.set_0) | exact HI0.out)⟩, ⟨by repeat (first | (with_reducible first | exact HK.out | apply KeepBut.set_ | apply keep_drewN | apply keep_drew | apply keep_alloc) | exact HK.out)⟩, ⟨by repeat (first | (with_reducible first | exact HB.out | apply below_alloc | apply pw_below_drewN | apply below_drew1 | refine below_set ?_ (IsS30.ge HI0.out)) | exact HB.out)⟩⟩
        · rw [if_neg c23] at H
          have c23b0 : decide (t155 < 0) = false := decide_eq_false c23
          clear c23
          by_cases c24 : (wrap64 ((wrap64 (t151 + t153)) + t155)) = 1
          · rw [if_pos c24] at H
            have c24b0 : ((wrap64 ((wrap64 (t151 + t153)) + t155)) == 1) = true := beq_iff_eq.mpr c24
            have c24b1 : ((wrap64 ((wrap64 (t151 + t153)) + t155)) != 1) = false := bne_eq_false_iff_eq.mpr c24
            clear c24
            by_cases c25 : t157 = (wrap64 (t151 + t155))
            · rw [if_pos c25] at H
              have c25b0 : (t157 == (wrap64 (t151 + t155))) = true := beq_iff_eq.mpr c25
              have c25b1 : (t157 != (wrap64 (t151 + t155))) = false := bne_eq_false_iff_eq.mpr c25
              clear c25
              by_cases c26 : t159 = (wrap64 (1 - t155))
              · rw [if_pos c26] at H
                have c26b0 : (t159 == (wrap64 (1 - t155))) = true := beq_iff_eq.mpr c26
                have c26b1 : (t159 != (wrap64 (1 - t155))) = false := bne_eq_false_iff_eq.mpr c26
                clear c26
                have H' := Aside0.mk H
                clear H
                go_wp2
                go_meet
                case rel => exact ⟨_, ((t165 != 1)), (by first | rfl | (simp; done) | (simp [*]; done)), H', ⟨by first | omega | exact Nat.le_refl _⟩, ⟨by repeat (first | (with_reducible first | exact HI0.out | apply IsS30.alloc | apply IsS30.drewN | apply IsS30.drew | apply IsS30.set_0) | exact HI0.out)⟩, ⟨by repeat (first | (with_reducible first | exact HK.out | apply KeepBut.set_ | apply keep_drewN | apply keep_drew | apply keep_alloc) | exact HK.out)⟩, ⟨by repeat (first | (with_reducible first | exact HB.out | apply below_alloc | apply pw_below_drewN | apply below_drew1 | refine below_set ?_ (IsS30.ge HI0.out)) | exact HB.out)⟩⟩
              · rw [if_neg c26] at H
                have c26b0 : (t159 == (wrap64 (1 - t155))) = false := beq_eq_false_iff_ne.mpr c26
                have c26b1 : (t159 != (wrap64 (1 - t155))) = true := bne_iff_ne.mpr c26
                have H' := Aside0.mk H
                clear H
                go_wp2
                go_meet
                case rel => exact ⟨_, (true), (by first | rfl | (simp; done) | (simp [*]; done)), H', ⟨by first | omega | exact Nat.le_refl _⟩, ⟨by repeat (first | (with_reducible first | exact HI0.out | apply IsS30.alloc | apply IsS30.drewN | apply IsS30.drew | apply IsS30.set_0) | exact HI0.out)⟩, ⟨by repeat (first | (with_reducible first | exact HK.out | apply KeepBut.set_ | apply keep_drewN | apply keep_drew | apply keep_alloc) | exact HK.out)⟩, ⟨by repeat (first | (with_reducible first | exact HB.out | apply below_alloc | apply pw_below_drewN | apply below_drew1 | refine below_set ?_ (IsS30.ge HI0.out)) | exact HB.out)⟩⟩
            · rw [if_neg c25] at H
              have c25b0 : (t157 == (wrap64 (t151 + t155))) = false := beq_eq_false_iff_ne.mpr c25
              have c25b1 : (t157 != (wrap64 (t151 + t155))) = true := bne_iff_ne.mpr c25
              have H' := Aside0.mk H
              clear H
              go_wp2
              go_meet
              case rel => exact ⟨_, (true), (by first | rfl | (simp; done) | (simp [*]; done)), H', ⟨by first | omega | exact Nat.le_refl _⟩, ⟨by repeat (first | (with_reducible first | exact HI0.out | apply IsS30.alloc | apply IsS30.drewN | apply IsS30.drew | apply IsS30.set_0) | exact HI0.out)⟩, ⟨by repeat (first | (with_reducible first | exact HK.out | apply KeepBut.set_ | apply keep_drewN | apply keep_drew | apply keep_alloc) | exact HK.out)⟩, ⟨by repeat (first | (with_reducible first | exact HB.out | apply below_alloc | apply pw_below_drewN | apply below_drew1 | refine below_set ?_ (IsS30.ge HI0.out)) | exact HB.out)⟩⟩
          · rw [if_neg c24] at H
            have c24b0 : ((wrap64 ((wrap64 (t151 + t153)) + t155)) == 1) = false := beq_eq_false_iff_ne.mpr c24
            have c24b1 : ((wrap64 ((wrap64 (t151 + t153)) + t155)) != 1) = true := bne_iff_ne.mpr c24
            have H' := Aside0.mk H
            clear H
            go_wp2
            go_meet
            case rel => exact ⟨_, (true), (by first | rfl | (simp; done) | (simp [*]; done)), H', ⟨by first | omega | exact Nat.le_refl _⟩, ⟨by repeat (first | (with_reducible first | exact HI0.out | apply IsS30.alloc | apply IsS30.drewN | apply IsS30.drew | apply IsS30.set_0) | exact HI0.out)⟩, ⟨by repeat (first | (with_reducible first | exact HK.out | apply KeepBut.set_ | apply keep_drewN | apply keep_drew | apply keep_alloc) | exact HK.out)⟩, ⟨by repeat (first | (with_reducible first | exact HB.out | apply below_alloc | apply pw_below_drewN | apply below_drew1 | refine below_set ?_ (IsS30.ge HI0.out)) | exact HB.out)⟩⟩
  case rest =>
    clear HC12
    try clear c1
    try clear c2
    try clear p2
    try clear p6
    try clear c12
    try clear c16
    try clear c21
    try clear c21b0
    try clear c22
    try clear c22b0
    try clear c23
    try clear c23b0
    try clear c24
    try clear c24b0
    try clear c24b1
    try clear c25
    try clear c25b0
    try clear c25b1
    try clear c26
    try clear c26b0
    try clear c26b1
    obtain ⟨kq, x81_11, rfl, HA, HJ11, HI0, HK, HB⟩ := hcut
    cases kq with
    | zero => exact absurd HA.out (by simp [plunderlaw1_Sum_orders.j0])
    | succ kj11 =>
      have H := HA.out
      clear HA
      simp only [plunderlaw1_Sum_orders.j0] at H
      by_cases c27 : x81_11 = true
      · subst c27
        have H1 : (some (false, t166)) = some (r1, r2) := by rw [if_pos rfl] at H; exact H
        clear H
        have H := H1
        clear H1
        simp only [Option.some.injEq, Prod.mk.injEq] at H
        obtain ⟨rfl, rfl⟩ := H
        go_wp2
        go_ret
        exact ⟨by first | rfl | (simp [errW_none, errW_some] <;> rfl) | (simp [*, errW_none, errW_some] <;> rfl), by repeat (first | (with_reducible first | exact HI0.out | apply IsS30.alloc | apply IsS30.drewN | apply IsS30.drew | apply IsS30.set_0) | exact HI0.out), by repeat (first | (with_reducible first | exact HB.out | apply below_alloc | apply pw_below_drewN | apply below_drew1 | refine below_set ?_ (IsS30.ge HI0.out)) | exact HB.out), by repeat (first | (with_reducible first | exact HK.out | apply KeepBut.set_ | apply keep_drewN | apply keep_drew | apply keep_alloc) | exact HK.out)⟩
      · replace c27 := Bool.eq_false_iff.mpr c27
        subst c27
        have H1 : (if t151 = 1 then (if t161 = a1 then (some ((t163 == a2), t166)) else (some (false, t166))) else (if t161 = a2 then (some ((t163 == a1), t166)) else (some (false, t166)))) = some (r1, r2) := by rw [if_neg (show ¬ (false = true) by decide)] at H; exact H
        clear H
        have H := H1
        clear H1
        by_cases c28 : t151 = 1
        · rw [if_pos c28] at H
          have c28b0 : (t151 == 1) = true := beq_iff_eq.mpr c28
          have c28b1 : (t151 != 1) = false := bne_eq_false_iff_eq.mpr c28
          clear c28
          by_cases c29 : t161 = a1
          · rw [if_pos c29] at H
            have c29b0 : (t161 == a1) = true := beq_iff_eq.mpr c29
            have c29b1 : (t161 != a1) = false := bne_eq_false_iff_eq.mpr c29
            clear c29
            simp only [Option.some.injEq, Prod.mk.injEq] at H
            obtain ⟨rfl, rfl⟩ := H
            go_wp2
            go_ret
            exact ⟨by first | rfl | (simp [errW_none, errW_some] <;> rfl) | (simp [*, errW_none, errW_some] <;> rfl), by repeat (first | (with_reducible first | exact HI0.out | apply IsS30.alloc | apply IsS30.drewN | apply IsS30.drew | apply IsS30.set_0) | exact HI0.out), by repeat (first | (with_reducible first | exact HB.out | apply below_alloc | apply pw_below_drewN | apply below_drew1 | refine below_set ?_ (IsS30.ge HI0.out)) | exact HB.out), by repeat (first | (with_reducible first | exact HK.out | apply KeepBut.set_ | apply keep_drewN | apply keep_drew | apply keep_alloc) | exact HK.out)⟩
          · rw [if_neg c29] at H
            have c29b0 : (t161 == a1) = false := beq_eq_false_iff_ne.mpr c29
            have c29b1 : (t161 != a1) = true := bne_iff_ne.mpr c29
            simp only [Option.some.injEq, Prod.mk.injEq] at H
            obtain ⟨rfl, rfl⟩ := H
            go_wp2
            go_ret
            exact ⟨by first | rfl | (simp [errW_none, errW_some] <;> rfl) | (simp [*, errW_none, errW_some] <;> rfl), by repeat (first | (with_reducible first | exact HI0.out | apply IsS30.alloc | apply IsS30.drewN | apply IsS30.drew | apply IsS30.set_0) | exact HI0.out), by repeat (first | (with_reducible first | exact HB.out | apply below_alloc | apply pw_below_drewN | apply below_drew1 | refine below_set ?_ (IsS30.ge HI0.out)) | exact HB.out), by repeat (first | (with_reducible first | exact HK.out | apply KeepBut.set_ | apply keep_drewN | apply keep_drew | apply keep_alloc) | exact HK.out)⟩
        · rw [if_neg c28] at H
          have c28b0 : (t151 == 1) = false := beq_eq_false_iff_ne.mpr c28
          have c28b1 : (t151 != 1) = true := bne_iff_ne.mpr c28
          by_cases c30 : t161 = a2
          · rw [if_pos c30] at H
            have c30b0 : (t161 == a2) = true := beq_iff_eq.mpr c30
            have c30b1 : (t161 != a2) = false := bne_eq_false_iff_eq.mpr c30
            clear c30
            simp only [Option.some.injEq, Prod.mk.injEq] at H
            obtain ⟨rfl, rfl⟩ := H
            go_wp2
            go_ret
            exact ⟨by first | rfl | (simp [errW_none, errW_some] <;> rfl) | (simp [*, errW_none, errW_some] <;> rfl), by repeat (first | (with_reducible first | exact HI0.out | apply IsS30.alloc | apply IsS30.drewN | apply IsS30.drew | apply IsS30.set_0) | exact HI0.out), by repeat (first | (with_reducible first | exact HB.out | apply below_alloc | apply pw_below_drewN | apply below_drew1 | refine below_set ?_ (IsS30.ge HI0.out)) | exact HB.out), by repeat (first | (with_reducible first | exact HK.out | apply KeepBut.set_ | apply keep_drewN | apply keep_drew | apply keep_alloc) | exact HK.out)⟩
          · rw [if_neg c30] at H
            have c30b0 : (t161 == a2) = false := beq_eq_false_iff_ne.mpr c30
            have c30b1 : (t161 != a2) = true := bne_iff_ne.mpr c30
            simp only [Option.some.injEq, Prod.mk.injEq] at H
            obtain ⟨rfl, rfl⟩ := H
            go_wp2
            go_ret
            exact ⟨by first | rfl | (simp [errW_none, errW_some] <;> rfl) | (simp [*, errW_none, errW_some] <;> rfl), by repeat (first | (with_reducible first | exact HI0.out | apply IsS30.alloc | apply IsS30.drewN | apply IsS30.drew | apply IsS30.set_0) | exact HI0.out), by repeat (first | (with_reducible first | exact HB.out | apply below_alloc | apply pw_below_drewN | apply below_drew1 | refine below_set ?_ (IsS30.ge HI0.out)) | exact HB.out), by repeat (first | (with_reducible first | exact HK.out | apply KeepBut.set_ | apply keep_drewN | apply keep_drew | apply keep_alloc) | exact HK.out)⟩

-- NOT PRINTED: function 5 (plunderlaw1_OpsLaws)

end Go.Proofs.Ytpjgdojhdlfjdaa.POpsLaws
