/- The contract of ops.Tree, for every list that can be read, in a memory that holds the table of units; and the document's own answer is the same. -/
import Derived.Test.YtpjgdojhdlfjdaaDoorFoldWalk
import Derived.Test.YtpjgdojhdlfjdaaDoorWorkTree
namespace Go.Proofs.YtpjgdojhdlfjdaaDoor.TreeLaw
open Go.RowKit Go.Proofs.YtpjgdojhdlfjdaaDoor.Tab Go.Proofs.YtpjgdojhdlfjdaaDoor.POpsTree Go.Proofs.YtpjgdojhdlfjdaaDoorW.PrintWords Go.Proofs.YtpjgdojhdlfjdaaDoorW.PrintLast Go.Proofs.YtpjgdojhdlfjdaaDoor.BitMath Go.Proofs.YtpjgdojhdlfjdaaDoor.Mon
open Go.Proofs.YtpjgdojhdlfjdaaDoor.FoldLaw (readyP ready_calls hasUnit_of unitOf_un)

theorem work_wk {op : Int} (h : HasUnit op) (a b : Int) : ops_work.f op a b = some (wk op a b) := by
  unfold HasUnit at h
  unfold wk
  rcases h with rfl | rfl | rfl | rfl | rfl | rfl | rfl <;> rfl

theorem half_len (n : Nat) (hn : n ≤ 9223372036854775806) : wrap64 ((n : Int) / 2) = ((n / 2 : Nat) : Int) := by
  rw [wrap_id (by unfold In64; omega)]
  omega

/-- The fold by halves of a list that is not empty: a value, by both texts. -/
theorem halves_both (op : Int) (hop : HasUnit op) (n : Nat) : ∀ (l : List Int), l.length = n → 0 < n → n ≤ 9223372036854775806 → (∀ x ∈ l, In64 x) →
    ∃ v, In64 v ∧ (∀ k, n < k → ops_halves.f k op l = some v) ∧ (∀ k, n + 129 < k → plunderref1_halves.f k op l = some v) := by
  induction n using Nat.strongRecOn with
  | _ n ih =>
    intro l hl h0 hm hx
    subst hl
    by_cases h1 : l.length = 1
    · obtain ⟨x, rfl⟩ : ∃ x, l = [x] := by
        match l, h1 with
        | [x], _ => exact ⟨x, rfl⟩
      refine ⟨x, hx x (by simp), fun k hk => ?_, fun k hk => ?_⟩
      · obtain ⟨k, rfl⟩ : ∃ m, k = m + 1 := ⟨k - 1, by omega⟩
        simp [ops_halves.f, rd]
      · obtain ⟨k, rfl⟩ : ∃ m, k = m + 1 := ⟨k - 1, by omega⟩
        simp [plunderref1_halves.f, rd]
    · have hh := half_len l.length hm
      have hta : (l.take (l.length / 2)).length = l.length / 2 := by rw [List.length_take]; omega
      have htd : (l.drop (l.length / 2)).length = l.length - l.length / 2 := by rw [List.length_drop]
      obtain ⟨v1, i1, a1, b1⟩ := ih (l.length / 2) (by omega) (l.take (l.length / 2)) hta (by omega) (by omega) (fun x h => hx x (List.mem_of_mem_take h))
      obtain ⟨v2, i2, a2, b2⟩ := ih (l.length - l.length / 2) (by omega) (l.drop (l.length / 2)) htd (by omega) (by omega) (fun x h => hx x (List.mem_of_mem_drop h))
      refine ⟨wk op v1 v2, wk_in op i1 i2, fun k hk => ?_, fun k hk => ?_⟩
      · obtain ⟨k, rfl⟩ : ∃ m, k = m + 1 := ⟨k - 1, by omega⟩
        simp only [ops_halves.f]
        rw [if_neg (by omega), hh, if_pos (by omega), if_pos (by omega), Int.toNat_natCast, a1 k (by omega), Option.bind_some, a2 k (by omega), Option.bind_some, work_wk hop]
        rfl
      · obtain ⟨k, rfl⟩ : ∃ m, k = m + 1 := ⟨k - 1, by omega⟩
        obtain ⟨v, e1, e2⟩ := WorkTree.work_alike op v1 v2 i1 i2 k (by omega)
        rw [work_wk hop] at e1
        simp only [plunderref1_halves.f]
        rw [if_neg (by omega), hh, if_pos (by omega), if_pos (by omega), Int.toNat_natCast, b1 k (by omega), Option.bind_some, b2 k (by omega), Option.bind_some, e2, ← Option.some.inj e1]
        rfl

/-- What ops.Tree tells. -/
def treeP (op : Int) (l : List Int) : Int × Int := if (readyP op l.length).2 = 0 then (if l.length = 0 then ((readyP op l.length).1, 0) else ((ops_halves.f (l.length + 1) op l).getD 0, 0)) else (0, (readyP op l.length).2)

theorem ready_ok {op n : Int} (h : (readyP op n).2 = 0) : HasUnit op ∧ (readyP op n).1 = (unitOf op).1 := by
  have hu : (unitOf op).2 = true := by
    unfold readyP at h
    split at h
    · split at h
      · assumption
      · simp at h
    · simp at h
  refine ⟨hasUnit_of hu, ?_⟩
  unfold readyP at h ⊢
  split at h
  · rename_i h1
    rw [if_pos h1, if_pos hu]
    split at h
    · simp at h
    · rename_i h2
      rw [if_neg h2]
  · simp at h

theorem ref_unit (op : Int) (k : Nat) (hk : 0 < k) : plunderref1_Unit.f k op = some ((unitOf op).1, (unitOf op).2) := FoldLaw.ref_unit op k hk
theorem ref_folds (op n : Int) (k : Nat) (hk : 1 < k) : plunderref1_folds.f k op n = some (readyP op n).2 := FoldLaw.ref_folds op n k hk

theorem ref_tree (op : Int) (l : List Int) (hl : ∀ x ∈ l, In64 x) (hm : l.length ≤ 9223372036854775806) : plunderref1_Tree.f (l.length + 131) op l = some ((treeP op l).1, (treeP op l).2) := by
  unfold plunderref1_Tree.f treeP
  rw [ref_folds op l.length _ (by omega), Option.bind_some]
  by_cases he : (readyP op l.length).2 = 0
  · obtain ⟨hop, hv⟩ := ready_ok he
    rw [if_pos he, if_pos he]
    by_cases h0 : l.length = 0
    · rw [if_pos (by omega), if_pos h0, ref_unit op _ (by omega), Option.bind_some, hv]
    · obtain ⟨v, _, ha, hb⟩ := halves_both op hop l.length l rfl (by omega) hm hl
      rw [if_neg (by omega), if_neg h0, hb _ (by omega), Option.bind_some, ha _ (by omega)]
      rfl
  · rw [if_neg he, if_neg he]

set_option maxHeartbeats 1000000 in
set_option maxRecDepth 100000 in
theorem tree_calls (op : Int) (A0 : Option Addr) (c0 : Nat) (l : List Int) (w : World) (hr : Kd.C (Kd.int .i64) w A0 l.length l) (hc0 : l.length ≤ c0) (hl : l.length ≤ 9223372036854775806) (hx : ∀ x ∈ l, In64 x) (hU : UnitsAt w) :
    Calls Tryd.prog 27 #[.int .i64 op, .slice A0 l.length c0] w fun e w' => e = .returned (.tuple #[.int .i64 (treeP op l).1, .int .i64 (treeP op l).2]) ∧ Below w.heap.size w w' := by
  have HR0 := Aside0.mk hr
  have HC0 := Aside0.mk hc0
  have HC := Aside0.mk (ready_calls op l.length w hU)
  have HF := Aside0.mk (show ∀ u e, readyP op l.length = (u, e) → treeP op l = if e = 0 then (if l.length = 0 then (u, 0) else ((ops_halves.f (l.length + 1) op l).getD 0, 0)) else (0, e) from fun u e h => by unfold treeP; rw [h])
  have HV := Aside0.mk (show (readyP op l.length).2 = 0 → 0 < l.length → ∃ v, ops_halves.f (l.length + 1) op l = some v from fun h h0 => by
    obtain ⟨v, _, ha, _⟩ := halves_both op (ready_ok h).1 l.length l rfl h0 hl hx
    exact ⟨v, ha _ (by omega)⟩)
  clear hr hU hx hc0
  have HP := Aside0.mk (show readyP op l.length = ((readyP op l.length).1, (readyP op l.length).2) from rfl)
  generalize (readyP op l.length).1 = u at *
  generalize (readyP op l.length).2 = er at *
  have hf := HF.out u er HP.out
  rw [hf]
  clear hf HF HP
  by_cases he : er = 0
  · subst he
    rw [if_pos rfl]
    by_cases h0 : l.length = 0
    · have h1 : ((l.length : Int) == 0) = true := by rw [h0]; rfl
      rw [if_pos h0]
      have H0 := Aside0.mk h0
      clear h0
      go_enter Tryd.func27, Tryd.ntmps27
      go_wp2_with fail
      refine HC.out.mono ?_
      rintro e w1 ⟨rfl, hb⟩
      have HB := Aside0.mk hb
      clear hb HC
      go_wp2
      go_ret2
      exact ⟨rfl, HB.out⟩
    · have h1 : ((l.length : Int) == 0) = false := beq_eq_false_iff_ne.2 (by omega)
      rw [if_neg h0]
      obtain ⟨v, hv⟩ := HV.out rfl (by omega)
      rw [hv]
      have HH := Aside0.mk hv
      clear h0 hv HV
      go_enter Tryd.func27, Tryd.ntmps27
      go_wp2_with fail
      refine HC.out.mono ?_
      rintro e w1 ⟨rfl, hb⟩
      have HB := Aside0.mk hb
      clear hb HC
      go_wp2_with fail
      refine (ops_halves.calls _ op A0 c0 l v w1 (Kd.C_below HR0.out HB.out) HC0.out HH.out).mono ?_
      rintro e w2 ⟨rfl, hb⟩
      have HB2 := Aside0.mk (below_step HB.out hb)
      clear hb HB
      go_wp2
      go_ret2
      exact ⟨by simp, HB2.out⟩
  · have hne : (er != 0) = true := by simpa using he
    rw [if_neg he]
    clear he HV
    go_enter Tryd.func27, Tryd.ntmps27
    go_wp2_with fail
    refine HC.out.mono ?_
    rintro e w1 ⟨rfl, hb⟩
    have HB := Aside0.mk hb
    clear hb HC
    go_wp2
    go_ret2
    exact ⟨rfl, HB.out⟩
end Go.Proofs.YtpjgdojhdlfjdaaDoor.TreeLaw
