/- Looks of plays as plain lists: a look is a stretch that ends there; where it is calm it is all. -/
import Derived.Test.YtamfkglnejhjdaaPlayMore
namespace Go.Proofs.Ytamfkglnejhjdaa.Play
/-- Of each open task, the root's first: how many stolen continuations are out. -/
def outs (s : St (List Int)) : List Nat := (s.up.reverse ++ [s.cur]).map (fun r => r.length - 1)
theorem live_len (up : List (List Nat)) : ∀ cur : List Nat, linked cur up → (live cur up).length = 1 + (up.map (fun r => r.length - 1)).sum + (cur.length - 1) := by
  induction up with
  | nil =>
    intro cur h
    have : 0 < cur.length := List.length_pos_iff.2 h
    simp [live]; omega
  | cons r up ih =>
    intro cur h
    simp only [live, List.length_append, List.length_tail, List.map_cons, List.sum_cons]
    rw [ih r h.2.2]
    omega
theorem sum_zero (l : List Nat) (h : ∀ x, x ∈ l → x = 0) : l.sum = 0 := by
  induction l with
  | nil => rfl
  | cons a l ih => rw [List.sum_cons, h a (List.mem_cons_self ..), ih (fun x hx => h x (List.mem_cons_of_mem _ hx))]
/-- What the view in hand holds is a stretch that ends there. -/
theorem hand_suffix {s : St (List Int)} {L : List Int} (h : Inv s L) : (s.views.getD s.hand []).length ≤ L.length ∧ L.drop (L.length - (s.views.getD s.hand []).length) = s.views.getD s.hand [] ∧ ((∀ o, o ∈ outs s → o = 0) → (s.views.getD s.hand []).length = L.length) := by
  have hne := linked_ne h.linked
  have hl := live_last h.linked
  have hh : s.cur.getLast? = some s.hand := by
    unfold St.hand
    rw [List.getLastD_eq_getLast?, List.getLast?_eq_some_getLast hne]
    rfl
  rw [hh] at hl
  have hnl : live s.cur s.up ≠ [] := fun e => by rw [e] at hl; cases hl
  have e1 : live s.cur s.up = (live s.cur s.up).dropLast ++ [s.hand] := by
    rw [List.getLast?_eq_some_getLast hnl] at hl
    have h3 := Option.some.inj hl
    conv => lhs; rw [← List.dropLast_concat_getLast hnl, h3]
  have hv := h.value
  rw [e1, flat_append, flat_cons, flat_nil, List.append_nil] at hv
  refine ⟨by rw [← hv]; simp, ?_, fun hz => ?_⟩
  · rw [← hv, List.length_append, Nat.add_sub_cancel]
    exact List.drop_left
  · have h4 := live_len s.up s.cur h.linked
    have hc : s.cur.length - 1 = 0 := hz _ (by simp [outs])
    have hu : (s.up.map (fun r => r.length - 1)).sum = 0 := sum_zero _ (fun x hx => by
      obtain ⟨r, hr, rfl⟩ := List.mem_map.1 hx
      exact hz _ (by unfold outs; rw [List.map_append]; exact List.mem_append_left _ (List.mem_map.2 ⟨r, List.mem_reverse.2 hr, rfl⟩)))
    rw [hc, hu] at h4
    have h5 : (live s.cur s.up).dropLast = [] := List.eq_nil_of_length_eq_zero (by rw [List.length_dropLast]; omega)
    rw [← hv, h5]
    simp [flat]
/-- The looks that a run tells from here on. -/
def rl (b : List Bool) : Nat → List (Int × Int) → St (List Int) → List (List Int)
  | _, [], _ => []
  | t, d :: ds, s => (if d.1 = 3 then [s.views.getD s.hand []] else []) ++ rl b (t + 1) ds (step red b t d s)
theorem step_looks (b : List Bool) (t : Nat) (d : Int × Int) (s : St (List Int)) : (step red b t d s).looks = s.looks ++ (if d.1 = 3 then [s.views.getD s.hand []] else []) := by
  unfold step
  by_cases h4 : d.1 = 4
  · rw [if_pos h4, if_neg (by omega), List.append_nil]; rfl
  · rw [if_neg h4]
    by_cases h3 : d.1 = 3
    · rw [if_pos h3, if_pos h3]; rfl
    · rw [if_neg h3, if_neg h3, List.append_nil]
      split
      · rfl
      · split
        · rfl
        · split
          · unfold St.back; split <;> rfl
          · rfl
theorem run_looks (b : List Bool) (ds : List (Int × Int)) : ∀ (t : Nat) (s : St (List Int)), (run red b t ds s).looks = s.looks ++ rl b t ds s := by
  induction ds with
  | nil => intro t s; simp [run, rl]
  | cons d ds ih => intro t s; simp only [run, rl]; rw [ih, step_looks, List.append_assoc]
theorem finish_looks (t : Nat) : ∀ (n : Nat) (s : St (List Int)), (finish red t n s).looks = s.looks := by
  intro n
  induction n with
  | zero => intro s; rfl
  | succ n ih => intro s; simp only [finish]; rw [ih]; rfl
theorem play_looks (b : List Bool) (ps : List Int) (ds : List (Int × Int)) : (play red b ps ds).looks = rl b 0 ds (start red ps) := by
  unfold play
  rw [finish_looks, run_looks]
  rfl
theorem rl_le (b : List Bool) (ds : List (Int × Int)) : ∀ (t : Nat) (s : St (List Int)), (rl b t ds s).length ≤ ds.length := by
  induction ds with
  | nil => intro t s; exact Nat.le_refl _
  | cons d ds ih =>
    intro t s
    have := ih (t + 1) (step red b t d s)
    simp only [rl, List.length_append, List.length_cons]
    split <;> simp <;> omega
end Go.Proofs.Ytamfkglnejhjdaa.Play
