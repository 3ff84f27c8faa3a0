/- The contracts of ops.ready and ops.Fold, for every list that can be read, in a memory that holds the table of units. -/
import Derived.Test.YtamfkglnejhjdaaDoorOpsLaw
namespace Go.Proofs.YtamfkglnejhjdaaDoor.FoldLaw
open Go.Proofs.YtamfkglnejhjdaaDoor.Tab
open Go.RowKit Go.Proofs.YtamfkglnejhjdaaDoor.PHyperFold Go.Proofs.YtamfkglnejhjdaaDoorW.PrintWords Go.Proofs.YtamfkglnejhjdaaDoorW.PrintLast Go.Proofs.YtamfkglnejhjdaaDoor.BitMath Go.Proofs.YtamfkglnejhjdaaDoor.Mon
set_option maxHeartbeats 800000 in
theorem ready_calls (op n : Int) (w : World) (hU : UnitsAt w) :
    Calls Tryd.prog 29 #[.int .i64 op, .int .i64 n] w fun e w' => e = .returned (.tuple #[.int .i64 (readyP op n).1, .int .i64 (readyP op n).2]) ∧ Below w.heap.size w w' := by
  have HU := Aside0.mk hU
  clear hU
  by_cases h : 0 ≤ op ∧ op < 16
  · have HO := Aside0.mk (isOp_yes h)
    have e1 : readyP op n = if (unitOf op).2 = true then (if n > 65536 then (0, 2) else ((unitOf op).1, 0)) else (0, 11) := by unfold readyP; rw [if_pos h]
    rw [e1]
    have HC := Aside0.mk (fun w => unit_calls op w)
    generalize (unitOf op).1 = u at *
    generalize (unitOf op).2 = v at *
    clear e1 h
    cases v
    · go_enter Tryd.func29, Tryd.ntmps29
      go_wp2_with fail
      refine (ops_isOp.calls op true _ HO.out).mono ?_
      rintro e w1 ⟨rfl, hd⟩
      have HB := Aside0.mk hd.below
      clear hd
      go_wp2_with fail
      refine (HC.out _ (HU.out.below HB.out)).mono ?_
      rintro e w2 ⟨rfl, hb⟩
      have HB2 := Aside0.mk (below_step HB.out hb)
      clear HB hb
      go_wp2
      go_ret2
      exact ⟨rfl, HB2.out⟩
    · by_cases hn : n > 65536
      · have hn1 : 65536 < n := hn
        rw [if_pos rfl, if_pos hn]
        clear hn
        go_enter Tryd.func29, Tryd.ntmps29
        go_wp2_with fail
        refine (ops_isOp.calls op true _ HO.out).mono ?_
        rintro e w1 ⟨rfl, hd⟩
        have HB := Aside0.mk hd.below
        clear hd
        go_wp2_with fail
        refine (HC.out _ (HU.out.below HB.out)).mono ?_
        rintro e w2 ⟨rfl, hb⟩
        have HB2 := Aside0.mk (below_step HB.out hb)
        clear HB hb
        go_wp2
        go_ret2
        exact ⟨rfl, HB2.out⟩
      · have hn1 : n ≤ 65536 := by omega
        rw [if_pos rfl, if_neg hn]
        clear hn
        go_enter Tryd.func29, Tryd.ntmps29
        go_wp2_with fail
        refine (ops_isOp.calls op true _ HO.out).mono ?_
        rintro e w1 ⟨rfl, hd⟩
        have HB := Aside0.mk hd.below
        clear hd
        go_wp2_with fail
        refine (HC.out _ (HU.out.below HB.out)).mono ?_
        rintro e w2 ⟨rfl, hb⟩
        have HB2 := Aside0.mk (below_step HB.out hb)
        clear HB hb
        go_wp2
        go_ret2
        exact ⟨rfl, HB2.out⟩
  · have HO := Aside0.mk (isOp_no h)
    have e1 : readyP op n = (0, 10) := by unfold readyP; rw [if_neg h]
    rw [e1]
    clear e1 h
    go_enter Tryd.func29, Tryd.ntmps29
    go_wp2_with fail
    refine (ops_isOp.calls op false _ HO.out).mono ?_
    rintro e w1 ⟨rfl, hd⟩
    have HB := Aside0.mk hd.below
    clear hd
    go_wp2
    go_ret2
    exact ⟨rfl, HB.out⟩

set_option maxHeartbeats 1000000 in
set_option maxRecDepth 100000 in
theorem fold_calls (op : Int) (A0 : Option Addr) (c0 : Nat) (l : List Int) (w : World) (hr : Kd.C (Kd.int .i64) w A0 l.length l) (hl : l.length ≤ 9223372036854775807) (hU : UnitsAt w) :
    Calls Tryd.prog 11 #[.int .i64 op, .slice A0 l.length c0] w fun e w' => e = .returned (.tuple #[.int .i64 (foldP op l).1, .int .i64 (foldP op l).2]) ∧ Below w.heap.size w w' := by
  have HR0 := Aside0.mk hr
  have HC := Aside0.mk (ready_calls op l.length w hU)
  have HF := Aside0.mk (show ∀ u e, readyP op l.length = (u, e) → foldP op l = if e = 0 then (l.foldl (wkA op) u, 0) else (0, e) from fun u e h => by unfold foldP; rw [h])
  clear hr hU
  have HP := Aside0.mk (show readyP op l.length = ((readyP op l.length).1, (readyP op l.length).2) from rfl)
  generalize (readyP op l.length).1 = u at *
  generalize (readyP op l.length).2 = er at *
  have hf := HF.out u er HP.out
  rw [hf]
  clear hf HF HP
  by_cases he : er = 0
  · subst he
    rw [if_pos rfl]
    go_enter Tryd.func11, Tryd.ntmps11
    go_wp2_with fail
    refine HC.out.mono ?_
    rintro e w1 ⟨rfl, hb⟩
    have HB := Aside0.mk hb
    clear hb HC
    go_wp2_with fail
    go_loopw [6, 22] (fun v i wr => ∃ k : Nat, k ≤ l.length ∧ i = .int .i64 k ∧ v = .int .i64 ((l.take k).foldl (wkA op) u) ∧ Aside0 (Below w.heap.size w wr)) (fun _ i _ => l.length - (intOf i).toNat)
    case atStart => exact ⟨0, Nat.zero_le _, rfl, by simp, HB⟩
    case round =>
      clear HB
      obtain ⟨k, hk, rfl, rfl, HB⟩ := hrel
      by_cases hlt : k < l.length
      · have p101 : (0 : Int) ≤ (k : Int) := by omega
        have q101 : (k : Int) < (l.length : Int) := by omega
        obtain ⟨ad, e101, hx⟩ := Kd.at_int HR0.out (k : Int) p101 q101
        cases e101
        replace hx := (HB.out.cell (World.block_lt_of_cell? w _ hx)).trans hx
        rw [Int.toNat_natCast] at hx
        have HT := Aside0.mk (show wkA op ((l.take k).foldl (wkA op) u) (rd l k) = (l.take (k + 1)).foldl (wkA op) u by
          rw [List.take_succ_eq_append_getElem hlt, List.foldl_append]
          simp [rd, List.getD_eq_getElem?_getD, hlt])
        generalize (l.take k).foldl (wkA op) u = v at *
        generalize rd l k = x at *
        have HW := Aside0.mk (work_some op v x)
        go_wp2_with fail
        refine (ops_work.calls op v x (wkA op v x) _ HW.out).mono ?_
        rintro e w2 ⟨rfl, hd⟩
        have HB2 := Aside0.mk (below_step HB.out (by first | exact hd | exact hd.below))
        clear HB hd
        go_wp2
        go_roundw
        case rel => exact ⟨k + 1, by omega, by go_num, by rw [HT.out], HB2⟩
        case measure => simp [intOf]; omega
      · obtain rfl : k = l.length := by omega
        go_wp2
        go_ret2
        exact ⟨by simp, HB.out⟩
  · have hne : (er != 0) = true := by simpa using he
    rw [if_neg he]
    clear he
    go_enter Tryd.func11, Tryd.ntmps11
    go_wp2_with fail
    refine HC.out.mono ?_
    rintro e w1 ⟨rfl, hb⟩
    have HB := Aside0.mk hb
    clear hb HC
    go_wp2
    go_ret2
    exact ⟨rfl, HB.out⟩
end Go.Proofs.YtamfkglnejhjdaaDoor.FoldLaw
