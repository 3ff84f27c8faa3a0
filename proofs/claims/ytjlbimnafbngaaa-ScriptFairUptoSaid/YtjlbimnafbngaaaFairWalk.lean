/- The law ScriptFair answers true for every list that can be read and every two numbers, where the list isn't beyond all room. -/
import Derived.Test.YtjlbimnafbngaaaFairRef
import Derived.Test.YtjlbimnafbngaaaMark
namespace Go.Proofs.Ytjlbimnafbngaaa.FairLaw
open Go.RowKit Go.Proofs.YtjlbimnafbngaaaW.PrintWords Go.Proofs.YtjlbimnafbngaaaW.PrintLast Go.Proofs.Ytjlbimnafbngaaa.BitMath Go.Proofs.Ytjlbimnafbngaaa.PScriptFair Go.Proofs.Ytjlbimnafbngaaa.FairPure Go.Proofs.Ytjlbimnafbngaaa.Mark

theorem same_loop (l : List Int) (hm : l.length ≤ 9223372036854775806) (d : Nat) : ∀ (i k : Nat), i + d = l.length → d < k → plunderlaw10_same.l0 k l l (i : Int) = some true := by
  induction d with
  | zero =>
    intro i k hi hk
    obtain ⟨k, rfl⟩ : ∃ m, k = m + 1 := ⟨k - 1, by omega⟩
    simp only [plunderlaw10_same.l0]
    rw [if_neg (by omega)]
  | succ d ih =>
    intro i k hi hk
    obtain ⟨k, rfl⟩ : ∃ m, k = m + 1 := ⟨k - 1, by omega⟩
    simp only [plunderlaw10_same.l0]
    rw [if_pos (by omega), if_pos (by omega), if_pos (by omega), if_pos trivial, wrap_id (a := (i : Int) + 1) (by unfold In64; omega)]
    exact ih (i + 1) k (by omega) (by omega)
theorem same_f (l : List Int) (hm : l.length ≤ 9223372036854775806) : plunderlaw10_same.f (l.length + 1) l l = some true := by
  unfold plunderlaw10_same.f
  rw [if_pos rfl]
  exact same_loop l hm l.length 0 _ (by omega) (by omega)

/-- The program's Fair and Window, where the memory holds the list. -/
theorem fair_calls (A : Option Addr) (c : Nat) (l : List Int) (a n : Int) (w : World) (hr : Kd.C (Kd.int .i64) w A l.length l) (hc : l.length ≤ c) (hm : l.length ≤ 9223372036854775806) :
    Calls Try.prog 32 #[.slice A l.length c, .int .i64 a, .int .i64 n] w fun e w' => e = .returned (.bool (fairB l a n)) ∧ Below w.heap.size w w' :=
  script_Fair.calls _ A c l a n _ w hr hc (scriptFair_f l a n hm _ (Nat.lt_succ_self _))
theorem window_calls (A : Option Addr) (c : Nat) (l : List Int) (a : Int) (w : World) (hr : Kd.C (Kd.int .i64) w A l.length l) (hc : l.length ≤ c) (hm : l.length ≤ 9223372036854775806) :
    ∃ z, plunderref10_Window.f (67 * (l.length + 3) + 2) l a = some z ∧ Calls Try.prog 33 #[.slice A l.length c, .int .i64 a] w fun e w' => e = .returned (.int .i64 z) ∧ Below w.heap.size w w' := by
  obtain ⟨z, _, h1, h2⟩ := window_same l a hm _ _ (Nat.lt_succ_self _) (Nat.le_refl _)
  exact ⟨z, h2, script_Window.calls _ A c l a z w hr hc h1⟩
theorem marked_some {W : World} {base g n cap : Nat} {ys : List Int} (h : Marked W base g n cap ys) : ∃ l : List Int, l.length = n ∧ Kd.C (Kd.int .i64) W (some ⟨g, 0, none⟩) l.length l :=
  ⟨ys.take n, by rw [List.length_take, h.1]; omega, h.reads⟩

set_option maxHeartbeats 4000000 in
set_option maxRecDepth 100000 in
theorem walk (A0 : Option Addr) (c0 : Nat) (l : List Int) (a n : Int) (w : World) (hr : Kd.C (Kd.int .i64) w A0 l.length l) (hc0 : l.length ≤ c0) (hl : l.length * 8 ≤ 140737488351232) :
    Calls Try.prog 8 #[.slice A0 l.length c0, .int .i64 a, .int .i64 n] w fun e w' => e = .returned (.bool true) ∧ Below w.heap.size w w' := by
  have hm : l.length ≤ 9223372036854775806 := by omega
  have HR0 := Aside0.mk hr
  have HF := Aside0.mk (refFair_f l a n hm _ (Nat.le_refl _))
  have HS := Aside0.mk (same_f l hm)
  have HL := Aside0.mk hl
  have HC0 := Aside0.mk hc0
  have HM0 := Aside0.mk hm
  clear hr hl hc0 hm
  go_enter Try.func8, Try.ntmps8
  go_wp2_with fail
  refine (Mark.moved_calls A0 c0 l w HR0.out HC0.out HL.out).mono ?_
  rintro e w1 ⟨g, cap, rfl, hM, hb⟩
  have HB := Aside0.mk hb
  have HM := Aside0.mk (show ∃ ys, Marked w1 w.heap.size g l.length cap ys ∧ ys.getD l.length 0 = -77 from ⟨_, hM, by simp [List.getD_eq_getElem?_getD]⟩)
  have hcap : (l.length : Int) ≤ (cap : Int) := by have := hM.cap; omega
  have hlen : (l.length : Int) ≤ 9223372036854775807 := by have := HM0.out; omega
  have HG := Aside0.mk (show w.heap.size ≤ g from hM.block.1)
  clear hM hb
  go_wp2
  go_loopw [8] (fun v8 w' => ∃ k : Nat, k ≤ l.length ∧ v8 = .int .i64 k ∧ Aside0 (∃ ys, Marked w' w.heap.size g l.length cap ys ∧ ys.getD l.length 0 = -77) ∧ Aside0 (Below w.heap.size w w')) (fun i _ => l.length - (intOf i).toNat)
  case atStart => exact ⟨0, Nat.zero_le _, rfl, HM, HB⟩
  case round =>
    clear HB HM
    obtain ⟨k, hk, rfl, HM, HB⟩ := hrel
    by_cases hlt : k < l.length
    · have p101 : (0 : Int) ≤ (k : Int) := by omega
      have q101 : (k : Int) < (l.length : Int) := by omega
      obtain ⟨ad, e101, hx⟩ := Kd.at_int HR0.out 0 (by omega) (show (0 : Int) < (l.length : Int) by omega)
      cases e101
      replace hx := (HB.out.cell (World.block_lt_of_cell? w _ hx)).trans hx
      rw [show ad.add (0 : Int).toNat = ad by cases ad; rfl] at hx
      obtain ⟨ys, hY, hy⟩ := HM.out
      have hcell := (hY.cell k (by omega)).1
      have hfr := (hY.cell k (by omega)).2
      have p102 : (0 : Int) < (l.length : Int) := by omega
      have HS2 := Aside0.mk (own_store hY.2 (k : Int) (rd l 0)).1
      have HY := Aside0.mk (show (ys.set k (rd l 0)).length = l.length + 1 ∧ (ys.set k (rd l 0)).getD l.length 0 = -77 from ⟨by rw [List.length_set]; exact hY.1, by rw [← hy]; simp [List.getD_eq_getElem?_getD, List.getElem?_set_ne (show k ≠ l.length by omega)]⟩)
      clear hY hy HM
      generalize rd l 0 = x at *
      generalize ys.getD k 0 = z at *
      go_wp2
      go_roundw
      case measure => simp [intOf]; omega
      case rel =>
        refine ⟨k + 1, by omega, by go_num, ⟨⟨_, ⟨HY.out.1, by have h := HS2.out; rw [Int.toNat_natCast] at h; exact h⟩, HY.out.2⟩⟩, ⟨?_⟩⟩
        exact HB.out.setCell (p := ⟨g, k, none⟩) (by have := HG.out; show w.heap.size ≤ g; omega) _
    · obtain rfl : k = l.length := by omega
      obtain ⟨ys, hY, hy⟩ := HM.out
      obtain ⟨l1, hl1, hr1⟩ := marked_some hY
      have HMY := Aside0.mk (And.intro hY hy)
      have HQ := Aside0.mk (fair_calls (some ⟨g, 0, none⟩) cap l1 a n _ hr1 (by omega) (by have := HM0.out; omega))
      have HQ2 := Aside0.mk hr1
      clear HM hY hy
      have hq := HQ.out
      rw [hl1] at hq
      have HQ1 := Aside0.mk hq
      clear hq HQ
      go_wp2_with fail
      refine HQ1.out.mono ?_
      rintro e w3 ⟨rfl, hb⟩
      have HMY3 := Aside0.mk (And.intro (HMY.out.1.below hb) HMY.out.2)
      have HQ3 := Aside0.mk (Kd.C_below HQ2.out hb)
      have HB3 := Aside0.mk (below_step HB.out hb)
      clear hb HMY HQ1 HQ2 HB
      obtain ⟨z, _, hz⟩ := window_calls (some ⟨g, 0, none⟩) cap l1 a _ HQ3.out (by omega) (by have := HM0.out; omega)
      rw [hl1] at hz
      have HQ4 := Aside0.mk hz
      clear hz HQ3
      go_wp2_with fail
      refine HQ4.out.mono ?_
      rintro e w4 ⟨rfl, hb⟩
      have HMY4 := Aside0.mk (And.intro (HMY3.out.1.below hb) HMY3.out.2)
      have HB4 := Aside0.mk (below_step HB3.out hb)
      clear hb HMY3 HQ4 HB3
      go_wp2_with fail
      refine (Mark.back_calls g l.length cap w.heap.size ys A0 c0 l w w4 HMY4.out.1 HR0.out (Nat.le_refl _) HB4.out rfl).mono ?_
      rintro e w5 ⟨rfl, hM, hb, _⟩
      rw [HMY4.out.2] at hM
      have HM5 := Aside0.mk hM
      have HB5 := Aside0.mk hb
      have HR5 := Aside0.mk (show Kd.C (Kd.int .i64) w5 (some ⟨g, 0, none⟩) l.length l by
        have h := hM.reads
        have e : (l ++ [(-77 : Int)]).take l.length = l := List.take_left' rfl
        rwa [e] at h)
      clear hM hb HMY4 HB4 hr1 hl1
      go_wp2_with fail
      refine (fair_calls (some ⟨g, 0, none⟩) cap l a n _ HR5.out (by omega) HM0.out).mono ?_
      rintro e w6 ⟨rfl, hb⟩
      have HM6 := Aside0.mk (HM5.out.below hb)
      have HR6 := Aside0.mk (Kd.C_below HR5.out hb)
      have HB6 := Aside0.mk (below_step HB5.out hb)
      clear hb HM5 HR5 HB5
      obtain ⟨z6, hzf, hz⟩ := window_calls (some ⟨g, 0, none⟩) cap l a _ HR6.out (by omega) HM0.out
      have HQ6 := Aside0.mk hz
      have HZF := Aside0.mk hzf
      clear hz hzf
      go_wp2_with fail
      refine HQ6.out.mono ?_
      rintro e w7 ⟨rfl, hb⟩
      have HM7 := Aside0.mk (HM6.out.below hb)
      have HR7 := Aside0.mk (Kd.C_below HR6.out hb)
      have HB7 := Aside0.mk (below_step HB6.out hb)
      clear hb HM6 HR6 HB6 HQ6
      go_wp2_with fail
      refine (plunderlaw10_same.calls _ (some ⟨g, 0, none⟩) cap l A0 c0 l true _ HR7.out (by omega) (Kd.C_below HR0.out HB7.out) HC0.out HS.out).mono ?_
      rintro e w8 ⟨rfl, hd⟩
      have hb : Below w7.heap.size w7 w8 := hd.below
      have HM8 := Aside0.mk (HM7.out.below hb)
      have HB8 := Aside0.mk (below_step HB7.out hb)
      clear hb hd HM7 HB7 HR7
      go_wp2_with fail
      refine (Mark.marked_calls g l.length cap w.heap.size _ w8 HM8.out (by simp [List.getD_eq_getElem?_getD])).mono ?_
      rintro e w9 ⟨rfl, hd⟩
      have HB9 := Aside0.mk (below_step HB8.out hd.below)
      clear hd HM8 HB8
      go_wp2_with fail
      refine (plunderref10_Fair.calls _ A0 c0 l a n _ w9 (Kd.C_below HR0.out HB9.out) HC0.out HF.out).mono ?_
      rintro e w10 ⟨rfl, hd⟩
      have HB10 := Aside0.mk (below_step HB9.out hd.below)
      clear hd HB9
      go_wp2_with fail
      refine (plunderref10_Window.calls _ A0 c0 l a _ w10 (Kd.C_below HR0.out HB10.out) HC0.out HZF.out).mono ?_
      rintro e w11 ⟨rfl, hd⟩
      have HB11 := Aside0.mk (below_step HB10.out hd.below)
      clear hd HB10
      go_wp2
      go_ret
      exact ⟨by simp, HB11.out⟩
/-- The same, for the slice as the row opens it. -/
theorem walkRow (a1 : Option Addr) (len1 cap1 : Nat) (z1 : List Int) (a n : Int) (w : World) (w1 : (a1 = none ∧ len1 = 0 ∧ cap1 = 0 ∧ z1 = []) ∨ ∃ x, a1 = some x ∧ len1 ≤ cap1 ∧ cap1 ≤ maxLen ∧ z1.length = cap1 ∧ (∀ i, i < z1.length → w.cell? (x.add i) = some (.int .i64 (z1.getD i 0))) ∧ ∀ n ∈ z1, (Lit.int .i64 n).wf = true) (y1 : len1 * 8 ≤ 140737488351232) :
    Calls Try.prog 8 #[.slice a1 len1 cap1, .int .i64 a, .int .i64 n] w fun e w' => e = .returned (.bool true) ∧ Below w.heap.size w w' := by
  obtain ⟨l1, rfl, hr1, _, _, hc1⟩ := ReadsInt.ofRowC w1
  exact walk a1 cap1 l1 a n w (Kd.C_of_reads (d := (0 : Int)) (h1 := fun _ => rfl) hr1) hc1 y1
end Go.Proofs.Ytjlbimnafbngaaa.FairLaw
