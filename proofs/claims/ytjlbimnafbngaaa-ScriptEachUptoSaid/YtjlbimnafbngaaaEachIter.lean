/- script.Each: its iterator's contract: what it hands to the loop's body, pick by pick. -/
import Derived.RangeFuncNested
import Derived.RangeFuncBound
import Derived.RangeFuncCalls
import Derived.RangeFuncLeaves
import Derived.Shelf.Abstract
import Derived.Shelf.RegionOpen
import Derived.WalkKit
import Derived.OwnWalkIn
import Derived.TacticsInMore
import Derived.LoopNIn
import Derived.LoopIn
import Derived.Test.YtjlbimnafbngaaaEachMod
namespace Go.Proofs.Ytjlbimnafbngaaa.Each
open Go.RowKit Go.Shelf Go.Proofs.Ytjlbimnafbngaaa.PScriptEach
attribute [local go_sem] Oper.semAt_some
set_option linter.unusedVariables false
set_option linter.unusedSimpArgs false
theorem good_calls (a : Int) (h : 1 ≤ a ∧ a ≤ 64) (w : World) : Calls Try.prog 46 #[.int .i64 a] w fun e w' => e = .returned (.bool true) ∧ w' = w := by
  have h1 := h.1
  have h2 := h.2
  go_enter Try.func46, Try.ntmps46
  go_wp2
  go_ret
  exact ⟨by simp [h1, h2], rfl⟩
theorem bad_calls (a : Int) (h : ¬ (1 ≤ a ∧ a ≤ 64)) (w : World) : Calls Try.prog 46 #[.int .i64 a] w fun e w' => e = .returned (.bool false) ∧ w' = w := by
  go_enter Try.func46, Try.ntmps46
  go_wp2
  all_goals go_ret
  all_goals exact ⟨by simp <;> omega, rfl⟩
def modF (v a : Int) : Int := if v.tmod a < 0 then wrap64 (v.tmod a + a) else v.tmod a
theorem mod_calls (v a : Int) (h : 1 ≤ a ∧ a ≤ 64) (w : World) : Calls Try.prog 52 #[.int .i64 v, .int .i64 a] w fun e w' => e = .returned (.int .i64 (modF v a)) ∧ w' = w := by
  go_enter Try.func52, Try.ntmps52
  go_wp2
  · rename_i h2
    go_ret
    exact ⟨by unfold modF; rw [if_pos h2]; rfl, rfl⟩
  · rename_i h2
    go_ret
    exact ⟨by unfold modF; rw [if_neg (by omega)]; rfl, rfl⟩
def upto {α : Type} (f : Nat → α) (k : Nat) : List α := (List.range k).map f
theorem upto_succ {α : Type} (f : Nat → α) (k : Nat) : upto f (k + 1) = upto f k ++ [f k] := by simp [upto, List.range_succ]
theorem upto_length {α : Type} (f : Nat → α) (k : Nat) : (upto f k).length = k := by simp [upto]
/-- What comes at the pick number j. -/
def gives (zs : List Int) (a : Int) (j : Nat) : Nat × Int := (j, modF (zs[j]?.getD 0) a)
set_option maxRecDepth 100000 in
set_option maxHeartbeats 4000000 in
/-- The closure: every pick's number and worker, in order, until the body says 'no more'. -/
theorem each1_in (n : Nat) (hn : 1 ≤ n) (l Bw Bs n₀ b off len cap : Nat) (zs : List Int) (a : Int) (ha : 1 ≤ a ∧ a ≤ 64) (hreach : len * 8 ≤ 140737488351232) (hb : b < n₀) (hBw : Bw < n₀) (J Jx : List (Nat × Int) → World → Prop)
    (hY : ∀ pre x W, J pre W → pre.length < len → YieldAt Fence.wide (n - 1) Try.prog l #[.int .i64 (x.1 : Int), .int .i64 x.2] W fun e W' =>
      (e = .returned (.bool true) ∧ J (pre ++ [x]) W' ∧ Below n₀ W W') ∨ (e = .returned (.bool false) ∧ Jx (pre ++ [x]) W'))
    (W : World) (hw : W.cell? ⟨Bw, 0, none⟩ = some (.int .i64 a)) (hBs : W.cell? ⟨Bs, 0, none⟩ = some (.slice (some ⟨b, off, none⟩) len cap)) (hc : ∀ j, j < len → W.cell? ⟨b, off + j, none⟩ = some (.int .i64 (zs[j]?.getD 0))) (h0 : J [] W) :
    CallsIn Fence.wide n Try.prog 51 #[.func (.yield l) #[] #[], .pointer (some ⟨Bw, 0, none⟩), .pointer (some ⟨Bs, 0, none⟩)] W fun e W' => (∃ v, e = .returned v) ∧
      ((∃ ys, ys = upto (gives zs a) len ∧ J ys W') ∨ (∃ pre, (∃ k, k ≤ len ∧ pre = upto (gives zs a) k) ∧ Jx pre W')) := by
  refine callsIn_of_wp Try.func51 rfl trivial ?_ rfl
  simp only [Try.ntmps51, List.size_toArray, List.length_cons, List.length_nil, Nat.reduceAdd, Nat.reduceSub, Array.replicate_succ, Array.replicate_zero, List.push_toArray, List.append_toArray, List.nil_append, List.cons_append]
  gi_wp2_with (first | (refine ⟨trivial, ?_⟩; gi_at_call 46; refine (callsIn_wide.2 (good_calls a ha _)).mono ?_; rintro e w' ⟨rfl, rfl⟩) | (gi_at_call 46; refine (callsIn_wide.2 (good_calls a ha _)).mono ?_; rintro e w' ⟨rfl, rfl⟩))
  gi_loopw [11] (fun i wr => ∃ k : Nat, k ≤ len ∧ i = .int .i64 k ∧ J (upto (gives zs a) k) wr ∧ Below n₀ w' wr)
    (fun i _ => len - (intOf i).toNat)
  case atStart => exact ⟨0, Nat.zero_le _, rfl, h0, Below.refl _ _⟩
  case round =>
    obtain ⟨k, hk, rfl, hJs, hnx⟩ := hrel
    have hcx : k < len → wr.cell? ⟨b, off + k, none⟩ = some (.int .i64 (zs[k]?.getD 0)) := fun h => (hnx.cell (p := ⟨b, off + k, none⟩) hb).trans (hc k h)
    have hwx : wr.cell? ⟨Bw, 0, none⟩ = some (.int .i64 a) := (hnx.cell (p := ⟨Bw, 0, none⟩) hBw).trans hw
    by_cases hlt : k < len
    · obtain ⟨fn, tmps, assign, body, hy, hR⟩ := hY _ (gives zs a k) wr hJs (by rw [upto_length]; exact hlt)
      simp only [gives] at hy
      have hcx' := hcx hlt
      gi_wp2_with (first | (refine ⟨trivial, ?_⟩; gi_at_call 52; refine (callsIn_wide.2 (mod_calls _ a ha _)).mono ?_; rintro e w2 ⟨rfl, rfl⟩) | (gi_at_call 52; refine (callsIn_wide.2 (mod_calls _ a ha _)).mono ?_; rintro e w2 ⟨rfl, rfl⟩))
      refine hR.mono ?_
      rintro e W3 (⟨rfl, hJ3, hk3⟩ | ⟨rfl, hJx3⟩)
      · gi_wp2
        go_roundw
        case rel => exact ⟨k + 1, by omega, by simp, by rw [upto_succ]; exact hJ3, hnx.trans hk3⟩
        case measure => simp [intOf]; omega
      · gi_wp2
        refine bodyPost_ret (results_none rfl _ _ _) rfl ?_
        exact ⟨⟨_, rfl⟩, .inr ⟨_, ⟨k + 1, by omega, (upto_succ _ _).symm⟩, hJx3⟩⟩
    · obtain rfl : k = len := by omega
      gi_wp2
      go_end0
      exact ⟨⟨_, rfl⟩, .inl ⟨_, rfl, hJs⟩⟩
set_option maxRecDepth 100000 in
set_option maxHeartbeats 2000000 in
theorem each1_nil_in (n : Nat) (hn : 1 ≤ n) (l Bw Bs : Nat) (a : Int) (ha : 1 ≤ a ∧ a ≤ 64) (J : List (Nat × Int) → World → Prop) (W : World) (hw : W.cell? ⟨Bw, 0, none⟩ = some (.int .i64 a)) (hBs : W.cell? ⟨Bs, 0, none⟩ = some (.slice none 0 0)) (h0 : J [] W) :
    CallsIn Fence.wide n Try.prog 51 #[.func (.yield l) #[] #[], .pointer (some ⟨Bw, 0, none⟩), .pointer (some ⟨Bs, 0, none⟩)] W fun e W' => (∃ v, e = .returned v) ∧ J [] W' := by
  refine callsIn_of_wp Try.func51 rfl trivial ?_ rfl
  simp only [Try.ntmps51, List.size_toArray, List.length_cons, List.length_nil, Nat.reduceAdd, Nat.reduceSub, Array.replicate_succ, Array.replicate_zero, List.push_toArray, List.append_toArray, List.nil_append, List.cons_append]
  gi_wp2_with (first | (refine ⟨trivial, ?_⟩; gi_at_call 46; refine (callsIn_wide.2 (good_calls a ha _)).mono ?_; rintro e w' ⟨rfl, rfl⟩) | (gi_at_call 46; refine (callsIn_wide.2 (good_calls a ha _)).mono ?_; rintro e w' ⟨rfl, rfl⟩))
  gi_loopw [11] (fun i wr => i = .int .i64 0 ∧ J [] wr) (fun _ _ => 0)
  case atStart => exact ⟨rfl, h0⟩
  case round =>
    obtain ⟨rfl, hJs⟩ := hrel
    gi_wp2
    go_end0
    exact ⟨⟨_, rfl⟩, hJs⟩
set_option maxRecDepth 100000 in
set_option maxHeartbeats 2000000 in
theorem each1_bad_in (n : Nat) (hn : 1 ≤ n) (l Bw Bs : Nat) (a : Int) (ha : ¬ (1 ≤ a ∧ a ≤ 64)) (J : List (Nat × Int) → World → Prop) (W : World) (hw : W.cell? ⟨Bw, 0, none⟩ = some (.int .i64 a)) (h0 : J [] W) :
    CallsIn Fence.wide n Try.prog 51 #[.func (.yield l) #[] #[], .pointer (some ⟨Bw, 0, none⟩), .pointer (some ⟨Bs, 0, none⟩)] W fun e W' => (∃ v, e = .returned v) ∧ J [] W' := by
  refine callsIn_of_wp Try.func51 rfl trivial ?_ rfl
  simp only [Try.ntmps51, List.size_toArray, List.length_cons, List.length_nil, Nat.reduceAdd, Nat.reduceSub, Array.replicate_succ, Array.replicate_zero, List.push_toArray, List.append_toArray, List.nil_append, List.cons_append]
  gi_wp2_with (first | (refine ⟨trivial, ?_⟩; gi_at_call 46; refine (callsIn_wide.2 (bad_calls a ha _)).mono ?_; rintro e w' ⟨rfl, rfl⟩) | (gi_at_call 46; refine (callsIn_wide.2 (bad_calls a ha _)).mono ?_; rintro e w' ⟨rfl, rfl⟩))
  refine bodyPost_ret (results_none rfl _ _ _) rfl ?_
  exact ⟨⟨_, rfl⟩, h0⟩
/-- A slice of numbers that lies below n₀. -/
def Ints (n₀ : Nat) (w : World) (sv : Value) (zs : List Int) : Prop :=
  (sv = .slice none 0 0 ∧ zs = []) ∨ ∃ b off cap, sv = .slice (some ⟨b, off, none⟩) zs.length cap ∧ b < n₀ ∧ ∀ j, j < zs.length → w.cell? ⟨b, off + j, none⟩ = some (.int .i64 (zs[j]?.getD 0))
theorem Ints.below {n₀ : Nat} {A B : World} (h : Below n₀ A B) {sv : Value} {zs : List Int} : Ints n₀ A sv zs → Ints n₀ B sv zs
  | .inl h1 => .inl h1
  | .inr ⟨b, off, cap, h1, h2, h3⟩ => .inr ⟨b, off, cap, h1, h2, fun j hj => (h.cell (p := ⟨b, off + j, none⟩) h2).trans (h3 j hj)⟩
/-- How many picks are gone through. -/
def many (zs : List Int) (a : Int) : Nat := if 1 ≤ a ∧ a ≤ 64 then zs.length else 0
theorem each_stops (n : Nat) (hn : 1 ≤ n) (Bw Bs n₀ : Nat) (sv : Value) (zs : List Int) (a : Int) (hreach : zs.length * 8 ≤ 140737488351232) (w : World) (hBw : Bw < n₀) (hBs : Bs < n₀) (hn₀ : n₀ ≤ w.heap.size)
    (hw : w.cell? ⟨Bw, 0, none⟩ = some (.int .i64 a)) (hc : w.cell? ⟨Bs, 0, none⟩ = some sv) (hI : Ints n₀ w sv zs) :
    SeqStopsK Fence.wide n Try.prog 51 #[.pointer (some ⟨Bw, 0, none⟩), .pointer (some ⟨Bs, 0, none⟩)] (fun x : Nat × Int => #[Value.int .i64 (x.1 : Int), Value.int .i64 x.2]) (Below n₀) (fun ys => ys = upto (gives zs a) (many zs a))
      (fun pre => ∃ k, k ≤ many zs a ∧ pre = upto (gives zs a) k) (many zs a) w := fun l J Jx W hW _ _ hY h0 => by
  have hc' := (hW.cell (p := ⟨Bs, 0, none⟩) (Nat.lt_of_lt_of_le hBs hn₀)).trans hc
  have hw' := (hW.cell (p := ⟨Bw, 0, none⟩) (Nat.lt_of_lt_of_le hBw hn₀)).trans hw
  by_cases ha : 1 ≤ a ∧ a ≤ 64
  · have hm : many zs a = zs.length := by unfold many; rw [if_pos ha]
    rw [hm] at hY ⊢
    rcases hI.below (hW.mono hn₀) with ⟨rfl, rfl⟩ | ⟨b, off, cap, rfl, hb, hcs⟩
    · exact (each1_nil_in n hn l Bw Bs a ha J W hw' hc' h0).mono fun e W' ⟨he, hj⟩ => ⟨he, .inl ⟨_, rfl, hj⟩⟩
    · exact each1_in n hn l Bw Bs n₀ b off zs.length cap zs a ha hreach hb hBw J Jx hY W hw' hc' hcs h0
  · have hm : many zs a = 0 := by unfold many; rw [if_neg ha]
    rw [hm] at hY ⊢
    exact (each1_bad_in n hn l Bw Bs a ha J W hw' h0).mono fun e W' ⟨he, hj⟩ => ⟨he, .inl ⟨_, rfl, hj⟩⟩
end Go.Proofs.Ytjlbimnafbngaaa.Each
