/- The contracts of the law's own helpers moved, back and marked (a list as long, with a mark in the room behind it): what each call leaves in memory, for every list that can be read. -/
import Derived.Test.YtjlbimnafbngaaaDoorRows
import Derived.Test.YtjlbimnafbngaaaDoorWMore
import Derived.WalkKit
import Derived.Deep.LoopGhost
import Derived.Lib.Hide
namespace Go.Proofs.YtjlbimnafbngaaaDoor.Mark
open Go.RowKit Go.Proofs.YtjlbimnafbngaaaDoorW.PrintWords

theorem infoE : (Tryd.prog.info? 3).map (fun i => (i.zero, i.size, i.bytes)) = some (some (.int .i64 0), 1, 8) := by kernel_rfl

/-- A slice of n numbers at the head of a row of the call's own that holds one number more. -/
def Marked (W : World) (base g n cap : Nat) (ys : List Int) : Prop := ys.length = n + 1 ∧ W.ownsRow base 3 1 (.slice (some ⟨g, 0, none⟩) (n + 1) cap) (n + 1) (nums .i64 ys)
theorem Marked.block {W : World} {base g n cap : Nat} {ys : List Int} (h : Marked W base g n cap ys) : base ≤ g ∧ g < W.heap.size := h.2.lt g rfl
theorem Marked.cap {W : World} {base g n cap : Nat} {ys : List Int} (h : Marked W base g n cap ys) : n + 1 ≤ cap ∧ cap ≤ maxLen := by
  rcases h.2.2 with ⟨_, h0⟩ | ⟨g', cap', cur, he, _, _, h1, h2, _⟩
  · omega
  · injection he with _ _ he
    omega
theorem Marked.below {W W' : World} {base g n cap : Nat} {ys : List Int} (h : Marked W base g n cap ys) (hb : Below W.heap.size W W') : Marked W' base g n cap ys := ⟨h.1, pw_own_below h.2 hb⟩
theorem Marked.cell {W : World} {base g n cap : Nat} {ys : List Int} (h : Marked W base g n cap ys) (i : Nat) (hi : i < n + 1) : W.cell? ⟨g, i, none⟩ = some (.int .i64 (ys.getD i 0)) ∧ W.frozen? ⟨g, i, none⟩ = false := by
  have := own_at h.2 (i : Int) (by omega) (by omega)
  simpa [rd] using this
/-- What is read of it as a slice of n. -/
theorem Marked.reads {W : World} {base g n cap : Nat} {ys : List Int} (h : Marked W base g n cap ys) : Kd.C (Kd.int .i64) W (some ⟨g, 0, none⟩) (ys.take n).length (ys.take n) := by
  have hl : (ys.take n).length = n := by rw [List.length_take, h.1]; omega
  have hm : n ≤ 9223372036854775807 := by have := h.cap; unfold maxLen at this; omega
  refine Kd.C_of_reads (d := 0) ⟨rfl, by omega, fun _ => ⟨_, rfl, fun j hj => ?_⟩⟩
  rw [hl] at hj
  rw [add_plain, (h.cell j (by omega)).1]
  simp [List.getD_eq_getElem?_getD, hj]

set_option maxHeartbeats 1000000 in
set_option maxRecDepth 100000 in
theorem moved_calls (A0 : Option Addr) (c0 : Nat) (l : List Int) (w : World) (hr : Kd.C (Kd.int .i64) w A0 l.length l) (_hc0 : l.length ≤ c0) (hl : l.length * 8 ≤ 140737488351232) :
    Calls Tryd.prog 6 #[.slice A0 l.length c0] w fun e w' => ∃ g cap, e = .returned (.slice (some ⟨g, 0, none⟩) l.length cap) ∧ Marked w' w.heap.size g l.length cap (l.map (fun x => wrap64 (x + 1)) ++ [-77]) ∧ Below w.heap.size w w' := by
  have HR0 := Aside0.mk hr
  clear hr
  have HB := Aside0.mk (Below.refl w.heap.size w)
  go_enter Tryd.func6, Tryd.ntmps6
  go_wp2
  go_loopw [3, 4] (fun v3 v4 w' => ∃ k : Nat, k ≤ l.length ∧ v4 = .int .i64 k ∧ Aside0 (Kd.R (Kd.int .i64) 3 w' w.heap.size (fun _ => True) v3 ((l.take k).map (fun x => wrap64 (x + 1)))) ∧ Aside0 (Below w.heap.size w w')) (fun _ i _ => l.length - (intOf i).toNat)
  case atStart => exact ⟨0, Nat.zero_le _, rfl, ⟨Kd.R_nil _ _ _ _ _⟩, HB⟩
  case round =>
    clear HB
    obtain ⟨k, hk, rfl, HO, HB⟩ := hrel
    by_cases hlt : k < l.length
    · have p101 : (0 : Int) ≤ (k : Int) := by omega
      have q101 : (k : Int) < (l.length : Int) := by omega
      obtain ⟨ad, e101, hx⟩ := Kd.at_int HR0.out (k : Int) p101 q101
      cases e101
      replace hx := (HB.out.cell (World.block_lt_of_cell? w _ hx)).trans hx
      rw [Int.toNat_natCast] at hx
      have HT := Aside0.mk (show (l.take k).map (fun x => wrap64 (x + 1)) ++ [wrap64 (rd l k + 1)] = (l.take (k + 1)).map (fun x => wrap64 (x + 1)) by
        rw [List.take_succ_eq_append_getElem hlt, List.map_append]
        simp [rd, List.getD_eq_getElem?_getD, hlt])
      have HL := Aside0.mk (show (((l.take k).map (fun x => wrap64 (x + 1))).length + 1) * 8 ≤ 140737488355328 by simp; omega)
      generalize (l.take k).map (fun x => wrap64 (x + 1)) = x3_1 at *
      generalize rd l k = x at *
      go_wp2_with (first | ((with_reducible refine gate_builtin (b := .append) (xs := #[.tmp 11, .tmp 17]) rfl ?_); at_builtin; refine Kd.R_append (Kd.int .i64) (w0 := w) w.heap.size rfl (.tmp 11) (.tmp 17) 22 3 (.int .i64 0) 8 rfl Tryd.underlying22 infoE rfl (by decide) (by omega) u3 x3_1 (wrap64 (x + 1)) [.int .i64 (wrap64 (x + 1))] (fun _ => True) (fun _ => False) rfl rfl ?aP (fun _ hk => hk.elim) ?aF ?aO ?aB ?aS ?aL ?_; (case aP => exact rfl); (case aB => exact HB.out); (case aF => exact (fun _ _ => trivial)); (case aO => exact HO.out); (case aS => exact (below_size HB.out)); (case aL => exact HL.out); intro v103 w5 ho hb hg hat; have n0_ := Aside0.mk (hb); have n1_ := Aside0.mk (ho); clear HB; clear HO; have HB := n0_; have HO104 := n1_; clear n0_ n1_; clear ho hb hg hat))
      go_roundw
      case measure => simp [intOf]; omega
      case rel => exact ⟨k + 1, by omega, by go_num, ⟨by rw [← HT.out]; exact HO104.out⟩, HB⟩
    · obtain rfl : k = l.length := by omega
      have HT := Aside0.mk (show (l.take l.length).map (fun x => wrap64 (x + 1)) = l.map (fun x => wrap64 (x + 1)) by rw [List.take_length])
      have HL := Aside0.mk (show (((l.take l.length).map (fun x => wrap64 (x + 1))).length + 1) * 8 ≤ 140737488355328 by simp; omega)
      have HN := Aside0.mk (show ((l.take l.length).map (fun x => wrap64 (x + 1))).length = l.length by simp)
      generalize (l.take l.length).map (fun x => wrap64 (x + 1)) = x3_1 at *
      go_wp2_with (first | ((with_reducible refine gate_builtin (b := .append) (xs := #[.tmp 19, .tmp 20]) rfl ?_); at_builtin; refine Kd.R_append (Kd.int .i64) (w0 := w) w.heap.size rfl (.tmp 19) (.tmp 20) 22 3 (.int .i64 0) 8 rfl Tryd.underlying22 infoE rfl (by decide) (by omega) u3 x3_1 (-77) [.int .i64 (-77)] (fun _ => True) (fun _ => False) rfl rfl ?aP (fun _ hk => hk.elim) ?aF ?aO ?aB ?aS ?aL ?_; (case aP => exact rfl); (case aB => exact HB.out); (case aF => exact (fun _ _ => trivial)); (case aO => exact HO.out); (case aS => exact (below_size HB.out)); (case aL => exact HL.out); intro v106 w9 ho hb hg hat; have hown := Kd.own_of_R ho; have hlen : (x3_1 ++ [(-77 : Int)]).length = l.length + 1 := (by rw [List.length_append, HN.out]; rfl); rw [hlen] at hown; obtain ⟨g, cap, rfl, hgb, hgl⟩ := hown.form (by omega); have HO := Aside0.mk (show Marked w9 w.heap.size g l.length cap (x3_1 ++ [(-77 : Int)]) from ⟨hlen, hown⟩); have HB1 := Aside0.mk hb; have hcap := HO.out.cap; have hle : (l.length : Int) ≤ (cap : Int) := (by omega); clear HB hown hlen hgb hgl ho hb hg hat hcap))
      go_ret
      exact ⟨g, cap, rfl, by rw [← HT.out]; exact HO.out, HB1.out⟩

set_option maxHeartbeats 1000000 in
set_option maxRecDepth 100000 in
/-- Written over: the n numbers are the other list's; the mark stays. -/
theorem back_calls (g n cap base : Nat) (ys : List Int) (A1 : Option Addr) (c1 : Nat) (l : List Int) (w0 w : World) (hM : Marked w base g n cap ys) (hr : Kd.C (Kd.int .i64) w0 A1 l.length l) (hb0 : w0.heap.size ≤ base) (hB : Below w0.heap.size w0 w) (hn : l.length = n) :
    Calls Tryd.prog 8 #[.slice (some ⟨g, 0, none⟩) n cap, .slice A1 l.length c1] w fun e w' => e = .returned (.tuple #[]) ∧ Marked w' base g n cap (l ++ [ys.getD n 0]) ∧ Below w0.heap.size w0 w' ∧ KeepBut w w' g none := by
  subst hn
  have HR0 := Aside0.mk hr
  have HM := Aside0.mk hM
  have HB := Aside0.mk hB
  have HK := Aside0.mk (KeepBut.refl w g none)
  have HG := Aside0.mk hM.block
  have HC := Aside0.mk hM.cap
  clear hr hM hB
  have hcap : (l.length : Int) ≤ (cap : Int) := by have := HC.out; omega
  have hlen : (l.length : Int) ≤ 9223372036854775807 := by have := HC.out; unfold maxLen at this; omega
  go_enter Tryd.func8, Tryd.ntmps8
  go_wp2
  go_loopw [4] (fun v4 w' => ∃ k : Nat, k ≤ l.length ∧ v4 = .int .i64 k ∧ Aside0 (Marked w' base g l.length cap (l.take k ++ ys.drop k)) ∧ Aside0 (Below w0.heap.size w0 w') ∧ Aside0 (KeepBut w w' g none)) (fun i _ => l.length - (intOf i).toNat)
  case atStart => exact ⟨0, Nat.zero_le _, rfl, ⟨by simpa using HM.out⟩, HB, HK⟩
  case round =>
    have HY := Aside0.mk HM.out.1
    clear HB HM HK
    obtain ⟨k, hk, rfl, HM, HB, HK⟩ := hrel
    by_cases hlt : k < l.length
    · have p101 : (0 : Int) ≤ (k : Int) := by omega
      have q101 : (k : Int) < (l.length : Int) := by omega
      obtain ⟨ad, e101, hx⟩ := Kd.at_int HR0.out (k : Int) p101 q101
      cases e101
      replace hx := (HB.out.cell (World.block_lt_of_cell? w0 _ hx)).trans hx
      rw [Int.toNat_natCast] at hx
      have hcell := (HM.out.cell k (by omega)).1
      have hfr := (HM.out.cell k (by omega)).2
      have HT := Aside0.mk (show (l.take k ++ ys.drop k).set k (rd l k) = l.take (k + 1) ++ ys.drop (k + 1) by
        have hky : k < ys.length := by have := HY.out; omega
        have hd : ys.drop k = ys[k] :: ys.drop (k + 1) := List.drop_eq_getElem_cons hky
        have hv : rd l k = l[k] := by simp [rd, List.getD_eq_getElem?_getD, hlt]
        have ht : l.take (k + 1) = l.take k ++ [l[k]] := List.take_succ_eq_append_getElem hlt
        have hz : (l.take k).length = k := by rw [List.length_take]; omega
        rw [hd, hv, ht, List.set_append_right _ _ (by omega), hz, Nat.sub_self, List.set_cons_zero, List.append_assoc]
        rfl)
      have HMl := Aside0.mk HM.out.1
      have HS := Aside0.mk (own_store HM.out.2 (k : Int) (rd l k)).1
      generalize rd l k = x at *
      generalize hz : (l.take k ++ ys.drop k).getD k 0 = z at *
      clear hz
      go_wp2
      go_roundw
      case measure => simp [intOf]; omega
      case rel =>
        refine ⟨k + 1, by omega, by go_num, ⟨?_⟩, ⟨?_⟩, ⟨?_⟩⟩
        · have h2 := HS.out
          rw [Int.toNat_natCast, HT.out] at h2
          exact ⟨by rw [← HT.out, List.length_set]; exact HMl.out, h2⟩
        · exact HB.out.setCell (p := ⟨g, k, none⟩) (by have := HG.out; show w0.heap.size ≤ g; omega) _
        · exact HK.out.set_ k _
    · obtain rfl : k = l.length := by omega
      go_wp2
      go_end0
      refine ⟨rfl, ?_, HB.out, HK.out⟩
      have h := HM.out
      have hd : ys.drop l.length = [ys.getD l.length 0] := by
        have hy := HY.out
        rw [List.drop_eq_getElem_cons (by omega), List.drop_eq_nil_of_le (by omega)]
        simp [List.getD_eq_getElem?_getD, hy]
      rw [List.take_length, hd] at h
      exact h

set_option maxHeartbeats 1000000 in
set_option maxRecDepth 100000 in
/-- The mark stands there still. -/
theorem marked_calls (g n cap base : Nat) (ys : List Int) (w : World) (hM : Marked w base g n cap ys) (hy : ys.getD n 0 = -77) :
    Calls Tryd.prog 11 #[.slice (some ⟨g, 0, none⟩) n cap] w fun e w' => e = .returned (.bool true) ∧ Drawn0 w w' := by
  have hcell := (hM.cell n (by omega)).1
  have hcap := hM.cap
  have hle : (n : Int) + 1 ≤ (cap : Int) := by omega
  have hm : (n : Int) + 1 ≤ 9223372036854775807 := by unfold maxLen at hcap; omega
  rw [hy] at hcell
  clear hM hy hcap
  go_enter Tryd.func11, Tryd.ntmps11
  go_wp2
  go_ret
  exact ⟨by simp, by repeat (first | exact Drawn0.refl _ | apply Drawn0.step)⟩
end Go.Proofs.YtjlbimnafbngaaaDoor.Mark
