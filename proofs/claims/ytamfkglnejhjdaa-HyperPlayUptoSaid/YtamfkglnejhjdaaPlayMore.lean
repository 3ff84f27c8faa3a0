/- More about plays as plain lists: how many views are made, which deeds merge, and that picks are not seen. -/
import Derived.Test.YtamfkglnejhjdaaPlayPure
namespace Go.Proofs.Ytamfkglnejhjdaa.Play
/-- How many views are made: open: the spawns whose children have not returned. -/
def madeC (b : List Bool) : Nat → List Nat → List (Int × Int) → Nat
  | _, _, [] => 0
  | c, o, d :: ds => if d.1 = 0 then madeC b (c + 1) (c :: o) ds else if d.1 = 1 then (match o with | [] => madeC b c [] ds | k :: o => (if b.getD k false = true then 1 else 0) + madeC b c o ds) else madeC b c o ds
theorem mergeGo_len {V : Type} (R : Red V) (t : Nat) : ∀ (n : Nat) (row : List Nat) (vs : List V) (ps : List Int) (ms : List Mg), (mergeGo R t n row vs ps ms).2.1.length = vs.length := by
  intro n
  induction n with
  | zero => intro row vs ps ms; rfl
  | succ n ih => intro row vs ps ms; simp only [mergeGo]; rw [ih, List.length_set]
theorem run_views (b : List Bool) (ds : List (Int × Int)) : ∀ (t : Nat) (s : St (List Int)) (L : List Int), Inv s L → right s.up.length ds = true → (run red b t ds s).views.length = s.views.length + madeC b s.count s.spawns ds := by
  induction ds with
  | nil => intro t s L _ _; rfl
  | cons d ds ih =>
    intro t s L h hr
    have hd : d.1 = 1 → s.up ≠ [] := fun h1 e => by
      rw [e] at hr
      simp [right, h1] at hr
    have hr' : right (Play.step red b t d s).up.length ds = true := by
      rw [step_up]
      simp only [right] at hr
      by_cases h0 : d.1 = 0
      · rw [if_pos h0] at hr ⊢; exact hr
      · rw [if_neg h0] at hr ⊢
        by_cases h1 : d.1 = 1
        · rw [if_pos h1] at hr ⊢
          cases hu : s.up.length with
          | zero => rw [hu] at hr; simp at hr
          | succ m => rw [hu] at hr; simpa using hr
        · rw [if_neg h1] at hr ⊢
          split at hr
          · exact hr
          · exact absurd hr (by simp)
    simp only [run]
    rw [ih (t + 1) _ _ (h.step b t d hd) hr']
    simp only [madeC]
    have hml : (s.merge red t).views.length = s.views.length := mergeGo_len red t _ _ _ _ _
    unfold Play.step
    by_cases h4 : d.1 = 4
    · rw [if_pos h4, if_neg (by omega), if_neg (by omega)]; simp [St.write]
    · rw [if_neg h4]
      by_cases h3 : d.1 = 3
      · rw [if_pos h3, if_neg (by omega), if_neg (by omega)]; simp [St.read]
      · rw [if_neg h3]
        by_cases h0 : d.1 = 0
        · rw [if_pos h0, if_pos h0]; simp [St.spawn]
        · rw [if_neg h0, if_neg h0]
          by_cases h2 : d.1 = 2
          · rw [if_pos h2, if_neg (by omega), hml]; rfl
          · rw [if_neg h2]
            by_cases h1 : d.1 = 1
            · rw [if_pos h1, if_pos h1]
              have hsp := h.spawns
              have hup := List.length_pos_iff.2 (hd h1)
              cases hs : s.spawns with
              | nil =>
                rw [hs] at hsp
                exact absurd hup (by simp at hsp; simp [hsp])
              | cons k o =>
                unfold St.back
                rw [show (s.merge red t).spawns = s.spawns from rfl, hs]
                simp only [List.headD_cons, List.tail_cons]
                by_cases hk : b.getD k false = true
                · simp only [hk, if_true]
                  show ((s.merge red t).views ++ [red.fresh]).length + madeC b s.count o ds = _
                  rw [List.length_append, hml]; simp; omega
                · simp only [hk]
                  show (s.merge red t).views.length + madeC b s.count o ds = _
                  rw [hml]; simp
            · rw [if_neg h1, if_neg h1]
theorem finish_views (t : Nat) : ∀ (n : Nat) (s : St (List Int)), (finish red t n s).views.length = s.views.length := by
  intro n
  induction n with
  | zero => intro s; exact mergeGo_len red t _ _ _ _ _
  | succ n ih => intro s; simp only [finish]; rw [ih]; exact mergeGo_len red t _ _ _ _ _
theorem play_views (b : List Bool) (ps : List Int) (ds : List (Int × Int)) (hr : right 0 ds = true) : (play red b ps ds).views.length = 1 + madeC b 0 [] ds := by
  unfold play
  rw [finish_views, run_views b ds 0 (start red ps) [] (Inv.start ps) hr]
  rfl
/-- Merges told in order, each at a deed that may merge. -/
def MO (ds : List (Int × Int)) (n : Nat) (ms : List Mg) : Prop := ms.Pairwise (fun a b => a.1 ≤ b.1) ∧ ∀ m, m ∈ ms → m.1 ≤ n ∧ ∀ d, ds[m.1]? = some d → d.1 = 2 ∨ d.1 = 1
theorem MO.more {ds : List (Int × Int)} {n t : Nat} {ms new : List Mg} (h : MO ds n ms) (hn : ∀ m, m ∈ new → m.1 = t) (ht : n ≤ t) (hd : ∀ d, ds[t]? = some d → d.1 = 2 ∨ d.1 = 1) : MO ds t (ms ++ new) := by
  refine ⟨?_, fun m hm => ?_⟩
  · rw [List.pairwise_append]
    refine ⟨h.1, ?_, fun a ha b hb => by rw [hn b hb]; have := (h.2 a ha).1; omega⟩
    refine List.Pairwise.imp_of_mem (R := fun _ _ => True) (fun ha hb _ => by rw [hn _ ha, hn _ hb]; exact Nat.le_refl _) ?_
    induction new with
    | nil => exact .nil
    | cons a l ih => exact List.pairwise_cons.2 ⟨fun _ _ => trivial, ih (fun m hm => hn m (List.mem_cons_of_mem _ hm))⟩
  · rcases List.mem_append.1 hm with hm | hm
    · obtain ⟨h1, h2⟩ := h.2 m hm
      exact ⟨by omega, h2⟩
    · rw [hn m hm]
      exact ⟨Nat.le_refl _, hd⟩
end Go.Proofs.Ytamfkglnejhjdaa.Play
