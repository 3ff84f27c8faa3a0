/- The law OpsFold answers true for every number and every list that can be read, in a memory that holds the table of units. -/
import Derived.Test.YtpjgdojhdlfjdaaDoorFoldBase
import Derived.Test.YtpjgdojhdlfjdaaDoorWorkFold
import Derived.Test.YtpjgdojhdlfjdaaDoorMark
namespace Go.Proofs.YtpjgdojhdlfjdaaDoor.FoldLaw
open Go.RowKit Go.Proofs.YtpjgdojhdlfjdaaDoor.Tab Go.Proofs.YtpjgdojhdlfjdaaDoor.POpsFold Go.Proofs.YtpjgdojhdlfjdaaDoorW.PrintWords Go.Proofs.YtpjgdojhdlfjdaaDoorW.PrintLast Go.Proofs.YtpjgdojhdlfjdaaDoor.BitMath Go.Proofs.YtpjgdojhdlfjdaaDoor.Mon

theorem ref_unit (op : Int) (k : Nat) (hk : 0 < k) : plunderref1_Unit.f k op = some ((unitOf op).1, (unitOf op).2) := by
  obtain ⟨k, rfl⟩ : ∃ m, k = m + 1 := ⟨k - 1, by omega⟩
  unfold plunderref1_Unit.f unitOf
  simp only [plunderref1_Unit.j0]
  by_cases h0 : op = 0
  · subst h0; rfl
  by_cases h1 : op = 6
  · subst h1; rfl
  by_cases h2 : op = 7
  · subst h2; rfl
  by_cases h3 : op = 2
  · subst h3; rfl
  by_cases h4 : op = 5
  · subst h4; rfl
  by_cases h5 : op = 10
  · subst h5; rfl
  by_cases h6 : op = 11
  · subst h6; rfl
  simp [h0, h1, h2, h3, h4, h5, h6]

theorem ref_folds (op n : Int) (k : Nat) (hk : 1 < k) : plunderref1_folds.f k op n = some (readyP op n).2 := by
  obtain ⟨k, rfl⟩ : ∃ m, k = m + 1 := ⟨k - 1, by omega⟩
  unfold plunderref1_folds.f readyP
  simp only [plunderref1_folds.j0, ref_unit op k (by omega), Option.bind_some]
  by_cases h0 : op < 0
  · simp [h0, show ¬ (0 ≤ op) by omega]
  · by_cases h1 : op ≥ 16
    · simp [h0, h1, show ¬ (op < 16) by omega]
    · rw [if_neg h0, show decide (op ≥ 16) = false from by simpa using h1, if_neg (by decide), if_pos (show 0 ≤ op ∧ op < 16 by omega)]
      split
      · split <;> rfl
      · rfl

theorem hasUnit_of {op : Int} (h : (unitOf op).2 = true) : HasUnit op := by
  unfold HasUnit
  unfold unitOf at h
  by_cases h0 : op = 0
  · omega
  by_cases h1 : op = 6
  · omega
  by_cases h2 : op = 7
  · omega
  by_cases h3 : op = 2
  · omega
  by_cases h4 : op = 5
  · omega
  by_cases h5 : op = 10
  · omega
  by_cases h6 : op = 11
  · omega
  simp [h0, h1, h2, h3, h4, h5, h6] at h
theorem unitOf_un {op : Int} (h : HasUnit op) : unitOf op = (un op, true) := by
  unfold HasUnit at h
  unfold unitOf un
  rcases h with rfl | rfl | rfl | rfl | rfl | rfl | rfl <;> rfl
theorem wkA_wk {op : Int} (h : HasUnit op) (a b : Int) : wkA op a b = wk op a b := by
  have e : ops_work.f op a b = some (wk op a b) := by
    unfold HasUnit at h
    unfold wk
    rcases h with rfl | rfl | rfl | rfl | rfl | rfl | rfl <;> rfl
  have e2 := work_some op a b
  rw [e] at e2
  exact (Option.some.inj e2).symm
theorem ref_work (op a b : Int) (ha : In64 a) (hb : In64 b) (k : Nat) (hk : 128 < k) : plunderref1_work.f k op a b = some (wkA op a b) := by
  obtain ⟨v, h1, h2⟩ := WorkFold.work_alike op a b ha hb k hk
  rw [work_some] at h1
  rw [h2, ← Option.some.inj h1]

theorem ref_loop (op : Int) (hop : HasUnit op) (l : List Int) (hl : ∀ x ∈ l, In64 x) (hm : l.length ≤ 9223372036854775806) (d : Nat) : ∀ (i k : Nat) (v : Int), i + d = l.length → d + 129 < k → In64 v →
    plunderref1_Fold.l0 k op l v (i : Int) = some ((l.drop i).foldl (wkA op) v, 0) := by
  induction d with
  | zero =>
    intro i k v hi hk hv
    obtain ⟨k, rfl⟩ : ∃ m, k = m + 1 := ⟨k - 1, by omega⟩
    simp only [plunderref1_Fold.l0]
    rw [if_neg (by omega), List.drop_eq_nil_of_le (by omega)]
    rfl
  | succ d ih =>
    intro i k v hi hk hv
    obtain ⟨k, rfl⟩ : ∃ m, k = m + 1 := ⟨k - 1, by omega⟩
    have hlt : i < l.length := by omega
    have hx : rd l (i : Int) = l[i] := by simp [rd, List.getD_eq_getElem?_getD, hlt]
    have hxi : In64 l[i] := hl _ (List.getElem_mem hlt)
    simp only [plunderref1_Fold.l0]
    rw [if_pos (by omega), if_pos (by omega), hx, ref_work op v _ hv hxi k (by omega), Option.bind_some, wrap_id (a := (i : Int) + 1) (by unfold In64; omega)]
    have hw : In64 (wkA op v l[i]) := by rw [wkA_wk hop]; exact wk_in op hv hxi
    have h := ih (i + 1) k (wkA op v l[i]) (by omega) (by omega) hw
    rw [List.drop_eq_getElem_cons hlt, List.foldl_cons]
    exact h

theorem ref_fold (op : Int) (l : List Int) (hl : ∀ x ∈ l, In64 x) (hm : l.length ≤ 9223372036854775806) : plunderref1_Fold.f (l.length + 131) op l = some ((foldP op l).1, (foldP op l).2) := by
  unfold plunderref1_Fold.f foldP
  rw [ref_folds op l.length _ (by omega), Option.bind_some]
  by_cases he : (readyP op l.length).2 = 0
  · rw [if_pos he, if_pos he, ref_unit op _ (by omega), Option.bind_some]
    have hu : (unitOf op).2 = true := by
      unfold readyP at he
      split at he
      · split at he
        · assumption
        · simp at he
      · simp at he
    have hop := hasUnit_of hu
    have hv : (readyP op l.length).1 = (unitOf op).1 := by
      unfold readyP at he ⊢
      split at he
      · rename_i h1
        rw [if_pos h1, if_pos hu]
        split at he
        · simp at he
        · rename_i h2
          rw [if_neg h2]
      · simp at he
    rw [hv]
    have hin : In64 (unitOf op).1 := by rw [unitOf_un hop]; exact un_in op
    have h := ref_loop op hop l hl hm l.length 0 (l.length + 131) (unitOf op).1 (by omega) (by omega) hin
    simpa using h
  · rw [if_neg he, if_neg he]

theorem same_loop (l : List Int) (hm : l.length ≤ 9223372036854775806) (d : Nat) : ∀ (i k : Nat), i + d = l.length → d < k → plunderlaw1_same.l0 k l l (i : Int) = some true := by
  induction d with
  | zero =>
    intro i k hi hk
    obtain ⟨k, rfl⟩ : ∃ m, k = m + 1 := ⟨k - 1, by omega⟩
    simp only [plunderlaw1_same.l0]
    rw [if_neg (by omega)]
  | succ d ih =>
    intro i k hi hk
    obtain ⟨k, rfl⟩ : ∃ m, k = m + 1 := ⟨k - 1, by omega⟩
    simp only [plunderlaw1_same.l0]
    rw [if_pos (by omega), if_pos (by omega), if_pos (by omega), if_pos trivial, wrap_id (a := (i : Int) + 1) (by unfold In64; omega)]
    exact ih (i + 1) k (by omega) (by omega)
theorem same_f (l : List Int) (hm : l.length ≤ 9223372036854775806) : plunderlaw1_same.f (l.length + 1) l l = some true := by
  unfold plunderlaw1_same.f
  rw [if_pos rfl]
  exact same_loop l hm l.length 0 _ (by omega) (by omega)

set_option maxHeartbeats 2000000 in
set_option maxRecDepth 100000 in
theorem walk (op : Int) (A0 : Option Addr) (c0 : Nat) (l : List Int) (w : World) (hr : Kd.C (Kd.int .i64) w A0 l.length l) (hc0 : l.length ≤ c0) (hl : l.length * 8 ≤ 140737488351232) (hx : ∀ x ∈ l, (Lit.int .i64 x).wf = true) (hU : UnitsAt w) :
    Calls Tryd.prog 7 #[.int .i64 op, .slice A0 l.length c0] w fun e w' => e = .returned (.bool true) ∧ Below w.heap.size w w' := by
  have HR0 := Aside0.mk hr
  have HU := Aside0.mk hU
  have HF := Aside0.mk (ref_fold op l (fun x h => in64_of_wf (hx x h)) (by omega))
  have HS := Aside0.mk (same_f l (by omega))
  have HL := Aside0.mk hl
  have HC0 := Aside0.mk hc0
  clear hr hU hx hl hc0
  go_enter Tryd.func7, Tryd.ntmps7
  go_wp2_with fail
  refine (Mark.moved_calls A0 c0 l w HR0.out HC0.out HL.out).mono ?_
  rintro e w1 ⟨g, cap, rfl, hM, hb⟩
  have HM := Aside0.mk hM
  have HB := Aside0.mk hb
  have HR1 := Aside0.mk (show Kd.C (Kd.int .i64) w1 (some ⟨g, 0, none⟩) (l.map fun x => wrap64 (x + 1)).length (l.map fun x => wrap64 (x + 1)) by
    have h := hM.reads
    have e : (l.map (fun x => wrap64 (x + 1)) ++ [(-77 : Int)]).take l.length = l.map fun x => wrap64 (x + 1) := List.take_left' (by simp)
    rwa [e] at h)
  have HY := Aside0.mk (show (l.map (fun x => wrap64 (x + 1)) ++ [(-77 : Int)]).getD l.length 0 = -77 by simp [List.getD_eq_getElem?_getD])
  have HN := Aside0.mk (show (l.map fun x => wrap64 (x + 1)).length = l.length by simp)
  clear hM hb
  generalize (l.map fun x => wrap64 (x + 1)) = l1 at *
  have HQ := Aside0.mk (fold_calls op (some ⟨g, 0, none⟩) cap l1 w1 HR1.out (by have := HN.out; have := HL.out; omega) (HU.out.below HB.out))
  have hq := HQ.out
  rw [HN.out] at hq
  have HQ1 := Aside0.mk hq
  clear hq HQ
  go_wp2_with fail
  refine HQ1.out.mono ?_
  rintro e w2 ⟨rfl, hb⟩
  have HM2 := Aside0.mk (HM.out.below hb)
  have HB2 := Aside0.mk (below_step HB.out hb)
  clear hb HM HB HQ1 HR1 HN
  go_wp2_with fail
  refine (Mark.back_calls g l.length cap w.heap.size _ A0 c0 l w w2 HM2.out HR0.out (Nat.le_refl _) HB2.out rfl).mono ?_
  rintro e w3 ⟨rfl, hM, hb, _⟩
  rw [HY.out] at hM
  have HM3 := Aside0.mk hM
  have HB3 := Aside0.mk hb
  have HR3 := Aside0.mk (show Kd.C (Kd.int .i64) w3 (some ⟨g, 0, none⟩) l.length l by
    have h := hM.reads
    have e : (l ++ [(-77 : Int)]).take l.length = l := List.take_left' rfl
    rwa [e] at h)
  clear hM hb HM2 HB2 HY
  have HQ3 := Aside0.mk (fold_calls op (some ⟨g, 0, none⟩) cap l w3 HR3.out (by have := HL.out; omega) (HU.out.below HB3.out))
  generalize (foldP op l).1 = rv at *
  generalize (foldP op l).2 = re at *
  go_wp2_with fail
  refine HQ3.out.mono ?_
  rintro e w4 ⟨rfl, hb⟩
  have HM4 := Aside0.mk (HM3.out.below hb)
  have HR4 := Aside0.mk (Kd.C_below HR3.out hb)
  have HB4 := Aside0.mk (below_step HB3.out hb)
  clear hb HM3 HB3 HQ3 HR3
  go_wp2_with fail
  refine (plunderref1_Fold.calls _ op A0 c0 l rv re w4 (Kd.C_below HR0.out HB4.out) HC0.out HF.out).mono ?_
  rintro e w5 ⟨rfl, hd⟩
  have hb : Below w4.heap.size w4 w5 := by first | exact hd | exact hd.below
  have HM5 := Aside0.mk (HM4.out.below hb)
  have HR5 := Aside0.mk (Kd.C_below HR4.out hb)
  have HB5 := Aside0.mk (below_step HB4.out hb)
  clear hb hd HM4 HB4 HR4
  go_wp2_with fail
  refine (plunderlaw1_same.calls _ (some ⟨g, 0, none⟩) cap l A0 c0 l true w5 HR5.out (by have := HM5.out.cap; omega) (Kd.C_below HR0.out HB5.out) HC0.out HS.out).mono ?_
  rintro e w6 ⟨rfl, hd⟩
  have hb : Below w5.heap.size w5 w6 := by first | exact hd | exact hd.below
  have HM6 := Aside0.mk (HM5.out.below hb)
  have HB6 := Aside0.mk (below_step HB5.out hb)
  clear hb hd HM5 HB5 HR5
  go_wp2_with fail
  refine (Mark.marked_calls g l.length cap w.heap.size _ w6 HM6.out (by simp [List.getD_eq_getElem?_getD])).mono ?_
  rintro e w7 ⟨rfl, hd⟩
  have HB7 := Aside0.mk (below_step HB6.out hd.below)
  clear hd HM6 HB6
  go_wp2
  go_ret
  exact ⟨by simp, HB7.out⟩

/-- The same, for the slice as the row opens it. -/
theorem walkRow (a0 : Int) (a1 : Option Addr) (len1 cap1 : Nat) (z1 : List Int) (w : World) (w1 : (a1 = none ∧ len1 = 0 ∧ cap1 = 0 ∧ z1 = []) ∨ ∃ x, a1 = some x ∧ len1 ≤ cap1 ∧ cap1 ≤ maxLen ∧ z1.length = cap1 ∧ (∀ i, i < z1.length → w.cell? (x.add i) = some (.int .i64 (z1.getD i 0))) ∧ ∀ n ∈ z1, (Lit.int .i64 n).wf = true) (y1 : len1 * 8 ≤ 140737488351232) (hU : UnitsAt w) :
    Calls Tryd.prog 7 #[.int .i64 a0, .slice a1 len1 cap1] w fun e w' => e = .returned (.bool true) ∧ Below w.heap.size w w' := by
  obtain ⟨l1, rfl, hr1, _, hw1, hc1⟩ := ReadsInt.ofRowC w1
  exact walk a0 a1 cap1 l1 w (Kd.C_of_reads (d := (0 : Int)) (h1 := fun _ => rfl) hr1) hc1 y1 hw1 hU
end Go.Proofs.YtpjgdojhdlfjdaaDoor.FoldLaw
