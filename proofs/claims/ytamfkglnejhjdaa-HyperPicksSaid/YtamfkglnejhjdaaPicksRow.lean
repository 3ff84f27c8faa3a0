/- Other picks: the same puts, as many views, the same looks. -/
import Derived.Test.YtamfkglnejhjdaaRows
import Derived.WalkKit
import Derived.ProofKit
import Derived.OpenShut
import Derived.ShutString
import Derived.ChangeOld
import Derived.Below
import Derived.SizedLaws
import Derived.Test.YtamfkglnejhjdaaWSized
import Derived.Test.YtamfkglnejhjdaaPurePicks
import Derived.Test.YtamfkglnejhjdaaGameOpen
namespace Go.Proofs.Ytamfkglnejhjdaa.hyperPicks
open Go.Proofs.YtamfkglnejhjdaaW
open Go.ChangeShapes Go.WideShapes Go.ChangeAt Go.RowKit
open Go.ChangeMaps (open_string shut_string)
set_option linter.unusedVariables false
theorem own : ownKnob Try.prog.godebug = none := by kernel_rfl
theorem laidOut : laidOutB Try.prog = true := by kernel_rfl
set_option maxRecDepth 100000 in
theorem lifted (os : Os) (started : os.Started) (H : Type) (enc : TypeId × Value → H) :
    ReturnsInHanded {} Try.checked os 7 .any (Rows.hyperPicksSpec.pre6 enc Try.prog Try.f7 Rows.hyperPicksRow.domain false) (Rows.hyperPicksSpec.post enc Try.prog Try.f7 false true false false) := by
  refine returnsInHanded_of_change_sized (C := Try.checked) own started (by kernel_rfl) Try.func7
    (ChangeSpec.witness6 (enc := enc) (C := Try.checked) false ⟨#[], #[.agg #[.slice none 0 0, .slice none 0 0, .slice none 0 0], .slice none 0 0], []⟩ 8 (by kernel_rfl) (by kernel_rfl) (by kernel_rfl) (by kernel_rfl)) ?_
  intro W base args ds gs before hval0 hW hcnd hsz0 _
  have hsz : (DataW.weightsEach Try.prog (Try.f7.params.toList ++ Rows.hyperPicksSpec.plain.varTypes Try.prog) (ds ++ gs)).all (· ≤ reachBytes) = true := hsz0
  have hval : ∀ (j : Nat) t v, Try.f7.params[j]? = some t → args[j]? = some v → Value.okWide Try.prog W .any base t v := hval0
  have hW' := hW
  obtain ⟨p, q, hA0, hV, rfl, hfz, hnd⟩ := hW
  have hA : DataW.TrodAll enc Try.prog W 0 (fun _ => true) true Try.f7.params.toList args.toList ds p := hA0
  rw [Try.params7] at hA hval hsz
  obtain ⟨v0, vs0, d0, ds0, p0, q0, hargs, rfl, rfl, h0, r0⟩ := trodAll_cons hA
  obtain ⟨v1, vs1, d1', ds1, p1, q1, rfl, rfl, rfl, h1, r1⟩ := trodAll_cons r0
  obtain ⟨rfl, rfl, rfl⟩ := trodAll_nil r1
  obtain rfl : args = #[v0, v1] := by cases args; simp_all
  obtain ⟨rfl, rfl⟩ := trodVars_none hV
  have k0 := h0
  have lt0 : ∀ x ∈ p0, x.block < W.heap.size := by obtain ⟨m, hm⟩ := k0; exact DataW.trod_lt m _ _ _ hm
  obtain ⟨A3, len3, c3, rfl⟩ := okWide_slice Try.underlying24 (hval 1 24 v1 rfl rfl)
  have k1 := h1
  have lt1 : ∀ x ∈ p1, x.block < W.heap.size := by obtain ⟨m, hm⟩ := k1; exact DataW.trod_lt m _ _ _ hm
  obtain ⟨l3, hl3, h31, h30, _⟩ : ∃ l : List Int, l.length = len3 ∧ len3 ≤ c3 ∧ PrintWords.Kd.C (PrintWords.Kd.int .i64) W A3 l.length l ∧ GameOpen.Long d1' len3 := by
    obtain ⟨fuel, hf⟩ := h1
    exact Open.open_row (d := PrintWords.Kd.int .i64) Try.underlying24 (by kernel_rfl) (Open.open_int_el Try.underlying3) (by simpa [Value.cells] using hf)
  subst hl3
  obtain ⟨A0, c0, l0, A1, c1, l1, A2, c2, l2, rfl, h00, h01, h10, h11, h20, h21, d0, d1, d2, rfl, hx0, hx1, hx2⟩ := GameOpen.open_game (hval 0 26 v0 rfl rfl) h0
  clear hA0 hval0 hsz0 hsz
  obtain ⟨k, hf⟩ := HLaw.picks_law l0 l1 l2 l3
  refine (HLaw.pPicks.calls k A0 c0 l0 A1 c1 l1 A2 c2 l2 A3 c3 l3 true W h00 h01 h10 h11 h20 h21 h30 h31 rfl hf).mono fun e W' ⟨he, bel⟩ => ?_
  subst he
  exact ⟨_, rfl, _, _, _, [], _, [], hW', trodAll_mk1 (shut_bool Try.underlying4 _), (trodAll_cons_mk (Below.trod laidOut (by kernel_rfl) (of_decide_eq_true (by kernel_rfl)) k0 bel lt0) (trodAll_cons_mk (Below.trod laidOut (by kernel_rfl) (of_decide_eq_true (by kernel_rfl)) k1 bel lt1) trodAll_mk0)), rfl, bel.frame _, fun h => by cases h⟩
theorem over : Rows.hyperPicksRow.holds Try.pinned (OpenSpec.ofChange Rows.hyperPicksSpec) :=
  OpenClaim.holds_of_wide 7 Try.f7 rfl rfl rfl rfl rfl rfl rfl ⟨rfl, rfl, rfl, rfl, rfl⟩ rfl rfl rfl rfl rfl (by kernel_rfl) Try.func7 (by kernel_rfl)
    (of_decide_eq_true (by kernel_rfl)) (by unfold Func.isWrapper; first | (rw [if_pos (by decide +kernel)]; kernel_rfl) | (rw [if_neg (by decide +kernel)]; exact ⟨rfl, rfl⟩))
    (fun os started H enc _ => lifted os started H enc)
theorem proved : Rows.HyperPicksSaid := over
#print axioms proved
end Go.Proofs.Ytamfkglnejhjdaa.hyperPicks
namespace Go.Proofs.Ytamfkglnejhjdaa
/-- The row, under a short name, for the claim. -/
theorem hyperPicks_holds : Rows.HyperPicksSaid := hyperPicks.proved
end Go.Proofs.Ytamfkglnejhjdaa
