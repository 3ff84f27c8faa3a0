/- The law OpsHalves answers true for every operation with a unit, every list that can be read and every cut, in a memory that holds the table of units. -/
import Derived.Test.YtpjgdojhdlfjdaaDoorHalvesPure
import Derived.Test.YtpjgdojhdlfjdaaDoorPOpsHalvesx1
namespace Go.Proofs.YtpjgdojhdlfjdaaDoor.HalvesLaw
open Go.RowKit Go.Proofs.YtpjgdojhdlfjdaaDoor.Tab Go.Proofs.YtpjgdojhdlfjdaaDoorW.PrintWords Go.Proofs.YtpjgdojhdlfjdaaDoorW.PrintLast Go.Proofs.YtpjgdojhdlfjdaaDoor.BitMath Go.Proofs.YtpjgdojhdlfjdaaDoor.Mon Go.Proofs.YtpjgdojhdlfjdaaDoor.POpsHalves
open Go.Proofs.YtpjgdojhdlfjdaaDoor.FoldLaw (foldP fold_calls)
open Go.Proofs.YtpjgdojhdlfjdaaDoor.TreeLaw (treeP tree_calls)

/-- The operation of a place. -/
def sv (k : Int) : Int := if k = 0 then 0 else if k = 1 then 2 else if k = 2 then 5 else if k = 3 then 6 else if k = 4 then 7 else if k = 5 then 10 else 11
theorem seven_f (k : Int) : plunderlaw1_seven.f k = some (sv k) := by
  unfold plunderlaw1_seven.f sv
  repeat' split
  all_goals rfl
theorem sv_unit (k : Int) : HasUnit (sv k) := by
  unfold HasUnit sv
  repeat' split
  all_goals omega
theorem mod_f (x n : Int) (h : 0 < n) (hn : n ≤ 9223372036854775807) : ∃ r, ops_Mod.f x n = some r ∧ 0 ≤ r ∧ r < n := by
  unfold ops_Mod.f
  rw [if_neg (by omega), if_neg (by omega)]
  have h1 := Int.tmod_lt_of_pos x h
  have h2 : -n < x.tmod n := by
    have := Int.tmod_lt_of_pos (-x) h
    rw [Int.neg_tmod] at this
    omega
  by_cases hx : x.tmod n < 0
  · rw [if_pos hx]
    exact ⟨_, rfl, by unfold wrap64; omega, by unfold wrap64; omega⟩
  · rw [if_neg hx]
    exact ⟨_, rfl, by omega, h1⟩
theorem apply_f (op a b : Int) (h : HasUnit op) : ops_Apply.f op a b = some (wk op a b, 0) := by
  have e : ops_work.f op a b = some (wk op a b) := by
    unfold HasUnit at h
    unfold wk
    rcases h with rfl | rfl | rfl | rfl | rfl | rfl | rfl <;> rfl
  unfold ops_Apply.f ops_isOp.f
  unfold HasUnit at h
  have h0 : op ≥ 0 := by omega
  have h1 : op < 16 := by omega
  simp [h0, h1, e]
attribute [irreducible] sv

/-- The contracts at an operation with a unit and a list that is not too long. -/
theorem fold_at (op : Int) (hop : HasUnit op) (A0 : Option Addr) (c0 : Nat) (l : List Int) (w : World) (hr : Kd.C (Kd.int .i64) w A0 l.length l) (hl : l.length ≤ 65536) (hU : UnitsAt w) :
    Calls Tryd.prog 22 #[.int .i64 op, .slice A0 l.length c0] w fun e w' => e = .returned (.tuple #[.int .i64 (F op l), .int .i64 0]) ∧ Below w.heap.size w w' := by
  have h := fold_calls op A0 c0 l w hr (by omega) hU
  rw [fold_eq op hop l hl] at h
  exact h
theorem tree_at (op : Int) (hop : HasUnit op) (A0 : Option Addr) (c0 : Nat) (l : List Int) (w : World) (hr : Kd.C (Kd.int .i64) w A0 l.length l) (hc : l.length ≤ c0) (hl : l.length ≤ 65536) (hx : ∀ x ∈ l, In64 x) (hU : UnitsAt w) :
    Calls Tryd.prog 27 #[.int .i64 op, .slice A0 l.length c0] w fun e w' => e = .returned (.tuple #[.int .i64 (F op l), .int .i64 0]) ∧ Below w.heap.size w w' := by
  have h := tree_calls op A0 c0 l w hr hc (by omega) hx hU
  rw [tree_eq op hop l hl hx] at h
  exact h

theorem info2 : (Tryd.prog.info? 2).map (fun i => (i.zero, i.size, i.bytes)) = some (some (.int .i64 0), 1, 8) := by kernel_rfl
theorem one_reads (W : World) (x : Int) : Kd.C (Kd.int .i64) (W.alloc (.cells #[.int .i64 x] 2)) (some ⟨W.heap.size, 0, none⟩) ([x] : List Int).length [x] := by
  refine Kd.C_of_reads (d := 0) ⟨rfl, by simp, fun _ => ⟨_, rfl, fun j hj => ?_⟩⟩
  obtain rfl : j = 0 := by simpa using hj
  rw [add_plain]
  unfold World.cell?
  rw [heap_alloc_new]
  rfl
theorem C_mk {w : World} {A : Option Addr} {xs : List Int} (h : ReadsOf (Value.int .i64) 0 w A xs.length xs) : Kd.C (Kd.int .i64) w A xs.length xs := Kd.C_of_reads h

set_option maxHeartbeats 2000000 in
set_option maxRecDepth 100000 in
theorem walk (which : Int) (A0 : Option Addr) (c0 : Nat) (l : List Int) (cut : Int) (w : World) (hr : ReadsInt w .i64 A0 l.length l) (hc0 : l.length ≤ c0) (hx : ∀ x ∈ l, (Lit.int .i64 x).wf = true) (hcut : (Lit.int .i64 cut).wf = true) (hU : UnitsAt w) :
    Calls Tryd.prog 9 #[.int .i64 which, .slice A0 l.length c0, .int .i64 cut] w fun e w' => e = .returned (.bool true) ∧ Below w.heap.size w w' := by
  by_cases hn : l.length > 65536
  · have h1 : (65536 : Int) < (l.length : Int) := by omega
    clear hn hr hx hcut hU
    go_enter Tryd.func9, Tryd.ntmps9
    go_wp2
    go_ret
    exact ⟨rfl, Below.refl _ _⟩
  · have h1 : (l.length : Int) ≤ 65536 := by omega
    have HN := Aside0.mk (show l.length ≤ 65536 by omega)
    obtain ⟨m, hm, _, _⟩ := mod_f which 7 (by decide) (by decide)
    obtain ⟨k, hk, hk0, hk1⟩ := mod_f cut ((l.length : Int) + 1) (by omega) (by omega)
    have HM := Aside0.mk hm
    have HS := Aside0.mk (seven_f m)
    have HK := Aside0.mk hk
    have HOP := Aside0.mk (sv_unit m)
    have HX := Aside0.mk (show ∀ x ∈ l, In64 x from fun x h => in64_of_wf (hx x h))
    have HCU := Aside0.mk (in64_of_wf hcut)
    have HU := Aside0.mk hU
    have HR := Aside0.mk (C_mk hr)
    have HC0 := Aside0.mk hc0
    obtain ⟨i0, hi0, _, hsz, _⟩ := info_parts info2
    obtain ⟨hcutT, hAT, hCT⟩ := print_take_of (P := Tryd.prog) (Value.int .i64) 0 35 2 .i64 Tryd.underlying35 hi0 hsz A0 c0 l k hk0 (by omega) hc0
    obtain ⟨A1, hcutD, hAD, hCD⟩ := print_drop_of (P := Tryd.prog) (Value.int .i64) 0 35 2 .i64 Tryd.underlying35 hi0 hsz A0 c0 l k hk0 (by omega) hc0
    have HRT := Aside0.mk (C_mk (hAT w hr))
    have HRD := Aside0.mk (C_mk (hAD w hr))
    have HLT := Aside0.mk (show (l.take k.toNat).length ≤ 65536 by rw [List.length_take]; omega)
    have HLD := Aside0.mk (show (l.drop k.toNat).length ≤ 65536 by rw [List.length_drop]; omega)
    have HF := Aside0.mk (show wk (sv m) (F (sv m) (l.take k.toNat)) (F (sv m) (l.drop k.toNat)) = F (sv m) l by
      have e := F_app (sv m) (sv_unit m) (l.take k.toNat) (l.drop k.toNat) (fun x h => in64_of_wf (hx x (List.mem_of_mem_take h))) (fun x h => in64_of_wf (hx x (List.mem_of_mem_drop h)))
      rw [List.take_append_drop] at e
      exact e.symm)
    have HAP := Aside0.mk (apply_f (sv m) (F (sv m) (l.take k.toNat)) (F (sv m) (l.drop k.toNat)) (sv_unit m))
    have HONE := Aside0.mk (show F (sv m) [cut] = cut from F_one _ (sv_unit m) cut (in64_of_wf hcut))
    rw [HF.out] at HAP
    clear hn hr hx hcut hU hm hk hAT hAD hCT hCD hi0 hsz hc0 HF
    have hk1' : k ≤ (l.length : Int) := by omega
    generalize l.take k.toNat = lt at *
    generalize l.drop k.toNat = ld at *
    clear hk1
    go_enter Tryd.func9, Tryd.ntmps9
    go_wp2_with fail
    refine (ops_Mod.calls which 7 m _ HM.out).mono ?_
    rintro e w1 ⟨rfl, hd⟩
    have HB1 := Aside0.mk hd.below
    clear hd HM
    go_wp2_with fail
    refine (plunderlaw1_seven.calls m (sv m) _ HS.out).mono ?_
    rintro e w2 ⟨rfl, hd⟩
    have HB2 := Aside0.mk (below_step HB1.out hd.below)
    clear hd HB1 HS
    generalize sv m = op at *
    go_wp2_with fail
    refine (ops_Mod.calls cut ((l.length : Int) + 1) k _ HK.out).mono ?_
    rintro e w3 ⟨rfl, hd⟩
    have HB3 := Aside0.mk (below_step HB2.out hd.below)
    clear hd HB2 HK
    go_wp2_with fail
    refine (fold_at op HOP.out A0 c0 l _ (Kd.C_below HR.out HB3.out) HN.out (HU.out.below HB3.out)).mono ?_
    rintro e w4 ⟨rfl, hb⟩
    have HB4 := Aside0.mk (below_step HB3.out hb)
    clear hb HB3
    go_wp2_with fail
    refine (tree_at op HOP.out A0 c0 l _ (Kd.C_below HR.out HB4.out) HC0.out HN.out HX.out (HU.out.below HB4.out)).mono ?_
    rintro e w5 ⟨rfl, hb⟩
    have HB5 := Aside0.mk (below_step HB4.out hb)
    clear hb HB4
    go_wp2_with fail
    refine (fold_at op HOP.out A0 c0 lt _ (Kd.C_below HRT.out HB5.out) HLT.out (HU.out.below HB5.out)).mono ?_
    rintro e w6 ⟨rfl, hb⟩
    have HB6 := Aside0.mk (below_step HB5.out hb)
    clear hb HB5 hcutT
    go_wp2_with fail
    refine (fold_at op HOP.out A1 _ ld _ (Kd.C_below HRD.out HB6.out) HLD.out (HU.out.below HB6.out)).mono ?_
    rintro e w7 ⟨rfl, hb⟩
    have HB7 := Aside0.mk (below_step HB6.out hb)
    clear hb HB6 hcutD
    go_wp2_with fail
    refine (ops_Apply.calls op _ _ (F op l) 0 _ HAP.out).mono ?_
    rintro e w8 ⟨rfl, hb⟩
    have HB8 := Aside0.mk (below_step HB7.out hb)
    clear hb HB7
    go_wp2_with fail
    refine (tree_at op HOP.out (some ⟨w8.heap.size, 0, none⟩) 1 [cut] _ (one_reads w8 cut) (by simp) (by simp) (fun x h => by simp at h; subst h; exact HCU.out) (HU.out.below (below_step HB8.out (below_alloc (Below.refl _ _) _)))).mono ?_
    rintro e w9 ⟨rfl, hb⟩
    have HB9 := Aside0.mk (below_step (below_step HB8.out (below_alloc (Below.refl _ _) _)) hb)
    clear hb HB8
    rw [HONE.out]
    go_wp2
    go_ret
    exact ⟨by simp, HB9.out⟩

/-- The same, for the slice as the row opens it. -/
theorem walkRow (a0 : Int) (a1 : Option Addr) (len1 cap1 : Nat) (z1 : List Int) (a2 : Int) (w : World) (w1 : (a1 = none ∧ len1 = 0 ∧ cap1 = 0 ∧ z1 = []) ∨ ∃ x, a1 = some x ∧ len1 ≤ cap1 ∧ cap1 ≤ maxLen ∧ z1.length = cap1 ∧ (∀ i, i < z1.length → w.cell? (x.add i) = some (.int .i64 (z1.getD i 0))) ∧ ∀ n ∈ z1, (Lit.int .i64 n).wf = true) (w2 : (Lit.int .i64 a2).wf = true) (hU : UnitsAt w) :
    Calls Tryd.prog 9 #[.int .i64 a0, .slice a1 len1 cap1, .int .i64 a2] w fun e w' => e = .returned (.bool true) ∧ Below w.heap.size w w' := by
  obtain ⟨l1, rfl, hr1, _, hw1, hc1⟩ := ReadsInt.ofRowC w1
  exact walk a0 a1 cap1 l1 a2 w hr1 hc1 hw1 w2 hU
end Go.Proofs.YtpjgdojhdlfjdaaDoor.HalvesLaw
