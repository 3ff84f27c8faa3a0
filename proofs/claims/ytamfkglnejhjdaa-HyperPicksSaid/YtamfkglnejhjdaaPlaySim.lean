/- Picks are not seen: two plays with other picks tell the same looks. -/
import Derived.Test.YtamfkglnejhjdaaPlayPure
namespace Go.Proofs.Ytamfkglnejhjdaa.Play
/-- Two plays that differ in picks, merges and in what is held by views that are not live. -/
structure Sim (s1 s2 : St (List Int)) : Prop where
  cur : s2.cur = s1.cur
  up : s2.up = s1.up
  spawns : s2.spawns = s1.spawns
  count : s2.count = s1.count
  looks : s2.looks = s1.looks
  vlen : s2.views.length = s1.views.length
  vals : ∀ i, i ∈ live s1.cur s1.up → s2.views.getD i [] = s1.views.getD i []
theorem hand_mem {s : St (List Int)} {L : List Int} (h : Inv s L) : s.hand ∈ s.cur ∧ s.hand ∈ live s.cur s.up := by
  have hne := linked_ne h.linked
  obtain ⟨pre, hpre⟩ := live_pre h.linked
  have e0 := (hpre s.cur rfl).1
  have hh : s.hand ∈ s.cur := by
    unfold St.hand
    rw [List.getLastD_eq_getLast?, List.getLast?_eq_some_getLast hne]
    exact List.getLast_mem hne
  exact ⟨hh, by rw [e0]; exact List.mem_append_right _ hh⟩
section
variable {s1 s2 : St (List Int)} {L : List Int}
theorem Sim.hand (h : Sim s1 s2) : s2.hand = s1.hand := by unfold St.hand; rw [h.cur]
theorem Sim.merge (h : Sim s1 s2) (h1 : Inv s1 L) (h2 : Inv s2 L) (t : Nat) : Sim (s1.merge red t) (s2.merge red t) := by
  obtain ⟨i1, x1, a1, b1, c1, d1, e1, _⟩ := h1.merge t
  obtain ⟨i2, x2, a2, b2, c2, d2, e2, _⟩ := h2.merge t
  rw [h.cur] at a2
  obtain rfl : x1 = x2 := by rw [a1] at a2; exact Option.some.inj a2
  refine ⟨by rw [b1, b2], h.up, h.spawns, h.count, h.looks, by rw [c1, c2]; exact h.vlen, fun i hi => ?_⟩
  obtain ⟨pre, hpre⟩ := live_pre h1.linked
  have e0 := (hpre s1.cur rfl).1
  have e3 := (hpre [x1] (by rw [a1]; rfl)).1
  have hsub : ∀ j, j ∈ s1.cur → j ∈ live s1.cur s1.up := fun j hj => by rw [e0]; exact List.mem_append_right _ hj
  by_cases e : i = x1
  · subst e
    rw [d1, d2, h.cur]
    exact flat_same (fun j hj => h.vals j (hsub j hj))
  · have hi2 : i ∈ live [x1] s1.up := by
      have : live (s1.merge red t).cur (s1.merge red t).up = live [x1] s1.up := by rw [b1]; rfl
      rw [this] at hi
      exact hi
    rw [e3] at hi2
    have hip : i ∈ pre := by
      rcases List.mem_append.1 hi2 with h3 | h3
      · exact h3
      · exact absurd (List.mem_singleton.1 h3) e
    have hl : i ∈ live s1.cur s1.up := by rw [e0]; exact List.mem_append_left _ hip
    have hn : i ∉ s1.cur := fun hin => by
      have hs := h1.sorted
      rw [e0, List.pairwise_append] at hs
      have := hs.2.2 i hip i hin
      omega
    rw [e1 i hl hn, e2 i (by rw [h.cur, h.up]; exact hl) (by rw [h.cur]; exact hn)]
    exact h.vals i hl
theorem Sim.write (h : Sim s1 s2) (h1 : Inv s1 L) (x : Int) : Sim (s1.write red x) (s2.write red x) := by
  obtain ⟨_, hm⟩ := hand_mem h1
  have hb := h1.bound _ hm
  refine ⟨h.cur, h.up, h.spawns, h.count, h.looks, by simp [St.write, h.vlen], fun i hi => ?_⟩
  have hi2 : i ∈ live s1.cur s1.up := hi
  show (s2.views.set s2.hand _).getD i [] = (s1.views.set s1.hand _).getD i []
  rw [h.hand]
  by_cases e : s1.hand = i
  · subst e
    rw [getD_set_self _ _ _ _ (by rw [h.vlen]; exact hb), getD_set_self _ _ _ _ hb]
    show red.put (s2.views.getD s1.hand []) x = red.put (s1.views.getD s1.hand []) x
    rw [h.vals _ hm]
  · rw [getD_set_ne _ _ _ _ _ e, getD_set_ne _ _ _ _ _ e]
    exact h.vals i hi2
theorem Sim.read (h : Sim s1 s2) (h1 : Inv s1 L) : Sim (s1.read red) (s2.read red) := by
  obtain ⟨_, hm⟩ := hand_mem h1
  refine ⟨h.cur, h.up, h.spawns, h.count, ?_, h.vlen, h.vals⟩
  show s2.looks ++ [s2.views.getD s2.hand []] = s1.looks ++ [s1.views.getD s1.hand []]
  rw [h.looks, h.hand, h.vals _ hm]
theorem Sim.spawn (h : Sim s1 s2) (h1 : Inv s1 L) : Sim s1.spawn s2.spawn := by
  have hi := h1.spawn
  refine ⟨by show [s2.hand] = [s1.hand]; rw [h.hand], by show s2.cur :: s2.up = s1.cur :: s1.up; rw [h.cur, h.up], by show s2.count :: s2.spawns = _; rw [h.count, h.spawns]; rfl, by show s2.count + 1 = s1.count + 1; rw [h.count], h.looks, h.vlen, fun i hi => ?_⟩
  have e : live s1.spawn.cur s1.spawn.up = live s1.cur s1.up := by simp [St.spawn, live]
  rw [e] at hi
  exact h.vals i hi
theorem Sim.leave (h : Sim s1 s2) {x : Nat} (hc : s1.cur = [x]) {r : List Nat} {up : List (List Nat)} (hu : s1.up = r :: up) (sp : List Nat) : Sim { s1.leave with spawns := sp } { s2.leave with spawns := sp } := by
  refine ⟨by show s2.up.headD [] = s1.up.headD []; rw [h.up], by show s2.up.tail = s1.up.tail; rw [h.up], rfl, h.count, h.looks, h.vlen, fun i hi => ?_⟩
  have e : live ({ s1.leave with spawns := sp } : St (List Int)).cur ({ s1.leave with spawns := sp } : St (List Int)).up = live s1.cur s1.up := by
    simp [St.leave, hu, hc, live]
  rw [e] at hi
  exact h.vals i hi
theorem Sim.made (h : Sim s1 s2) (h1 : Inv s1 L) : Sim (s1.made red) (s2.made red) := by
  obtain ⟨pre, hpre⟩ := live_pre h1.linked
  have e0 := (hpre s1.cur rfl).1
  have hne := linked_ne h1.linked
  have e1 := (hpre (s1.cur ++ [s1.views.length]) (by cases hc : s1.cur with
    | nil => exact absurd hc hne
    | cons a b => rfl)).1
  refine ⟨by show s2.cur ++ [s2.views.length] = s1.cur ++ [s1.views.length]; rw [h.cur, h.vlen], h.up, h.spawns, h.count, h.looks, by simp [St.made, h.vlen], fun i hi => ?_⟩
  show (s2.views ++ [[]]).getD i [] = (s1.views ++ [[]]).getD i []
  have hi2 : i ∈ live (s1.cur ++ [s1.views.length]) s1.up := hi
  rw [e1, ← List.append_assoc, ← e0] at hi2
  rcases List.mem_append.1 hi2 with h3 | h3
  · have hb := h1.bound i h3
    have hv := h.vals i h3
    rw [List.getD_eq_getElem?_getD, List.getD_eq_getElem?_getD, List.getElem?_append_left (by rw [h.vlen]; exact hb), List.getElem?_append_left hb, ← List.getD_eq_getElem?_getD, ← List.getD_eq_getElem?_getD]
    exact hv
  · rw [List.mem_singleton] at h3
    subst h3
    rw [List.getD_eq_getElem?_getD, List.getD_eq_getElem?_getD, List.getElem?_append_right (by rw [h.vlen]; exact Nat.le_refl _), List.getElem?_append_right (Nat.le_refl _), h.vlen]
theorem Sim.step (h : Sim s1 s2) (h1 : Inv s1 L) (h2 : Inv s2 L) (b : List Bool) (t : Nat) (d : Int × Int) (hd : d.1 = 1 → s1.up ≠ []) : Sim (Play.step red b t d s1) (Play.step red b t d s2) := by
  unfold Play.step
  by_cases h4 : d.1 = 4
  · rw [if_pos h4, if_pos h4]; exact h.write h1 _
  · rw [if_neg h4, if_neg h4]
    by_cases h3 : d.1 = 3
    · rw [if_pos h3, if_pos h3]; exact h.read h1
    · rw [if_neg h3, if_neg h3]
      by_cases h0 : d.1 = 0
      · rw [if_pos h0, if_pos h0]; exact h.spawn h1
      · rw [if_neg h0, if_neg h0]
        by_cases hk2 : d.1 = 2
        · rw [if_pos hk2, if_pos hk2]; exact h.merge h1 h2 t
        · rw [if_neg hk2, if_neg hk2]
          by_cases hk1 : d.1 = 1
          · rw [if_pos hk1, if_pos hk1]
            have hm := h.merge h1 h2 t
            obtain ⟨im, x, _, hc, _⟩ := h1.merge t
            obtain ⟨r, up, hu⟩ := List.exists_cons_of_ne_nil (hd hk1)
            have hl := hm.leave hc (r := r) (up := up) hu (s1.merge red t).spawns.tail
            have il : Inv { (s1.merge red t).leave with spawns := (s1.merge red t).spawns.tail } L := im.leave hc (r := r) (up := up) hu _ (by have := h1.spawns; rw [hu] at this; show up.length ≤ s1.spawns.tail.length; rw [List.length_tail]; simp at this; omega)
            unfold St.back
            rw [show (s2.merge red t).spawns = (s1.merge red t).spawns from h.spawns]
            split
            · exact hl.made il
            · exact hl
          · rw [if_neg hk1, if_neg hk1]; exact h
end
theorem Sim.run (b : List Bool) (ds : List (Int × Int)) : ∀ (t : Nat) (s1 s2 : St (List Int)) (L : List Int), Sim s1 s2 → Inv s1 L → Inv s2 L → right s1.up.length ds = true → Sim (run red b t ds s1) (run red b t ds s2) := by
  induction ds with
  | nil => intro t s1 s2 L h _ _ _; exact h
  | cons d ds ih =>
    intro t s1 s2 L h h1 h2 hr
    have hd : d.1 = 1 → s1.up ≠ [] := fun hk e => by
      rw [e] at hr
      simp [right, hk] at hr
    have hr' : right (Play.step red b t d s1).up.length ds = true := by
      rw [step_up]
      simp only [right] at hr
      by_cases h0 : d.1 = 0
      · rw [if_pos h0] at hr ⊢; exact hr
      · rw [if_neg h0] at hr ⊢
        by_cases hk : d.1 = 1
        · rw [if_pos hk] at hr ⊢
          cases hu : s1.up.length with
          | zero => rw [hu] at hr; simp at hr
          | succ m => rw [hu] at hr; simpa using hr
        · rw [if_neg hk] at hr ⊢
          split at hr
          · exact hr
          · exact absurd hr (by simp)
    exact ih (t + 1) _ _ _ (h.step h1 h2 b t d hd) (h1.step b t d hd) (h2.step b t d (fun hk => by rw [h.up]; exact hd hk)) hr'
theorem Sim.finish (t : Nat) : ∀ (n : Nat) (s1 s2 : St (List Int)) (L : List Int), Sim s1 s2 → Inv s1 L → Inv s2 L → s1.up.length = n → Sim (finish red t n s1) (finish red t n s2) := by
  intro n
  induction n with
  | zero => intro s1 s2 L h h1 h2 _; exact h.merge h1 h2 t
  | succ n ih =>
    intro s1 s2 L h h1 h2 hn
    have hu : s1.up ≠ [] := fun e => by rw [e] at hn; simp at hn
    obtain ⟨r, up, hu⟩ := List.exists_cons_of_ne_nil hu
    obtain ⟨i1, x, _, hc, _⟩ := h1.merge t
    obtain ⟨i2, x2, _, hc2, _⟩ := h2.merge t
    have hm := h.merge h1 h2 t
    have hl : Sim (s1.merge red t).leave (s2.merge red t).leave := by
      have := hm.leave hc (r := r) (up := up) hu s1.spawns
      exact ⟨this.cur, this.up, h.spawns, this.count, this.looks, this.vlen, this.vals⟩
    have l1 : Inv (s1.merge red t).leave L := i1.leave hc (r := r) (up := up) hu s1.spawns (by have := h1.spawns; rw [hu] at this; simp at this; omega)
    have l2 : Inv (s2.merge red t).leave L := i2.leave hc2 (r := r) (up := up) (show s2.up = r :: up by rw [h.up]; exact hu) s2.spawns (by have := h2.spawns; rw [h.up, hu] at this; simp at this; omega)
    exact ih _ _ L hl l1 l2 (by show s1.up.tail.length = n; rw [List.length_tail]; omega)
theorem play_sim (b : List Bool) (p1 p2 : List Int) (ds : List (Int × Int)) (hr : right 0 ds = true) : Sim (play red b p1 ds) (play red b p2 ds) := by
  have hs : Sim (start red p1) (start red p2) := ⟨rfl, rfl, rfl, rfl, rfl, rfl, fun _ _ => rfl⟩
  have h := Sim.run b ds 0 _ _ [] hs (Inv.start p1) (Inv.start p2) hr
  have i1 := Inv.run b ds 0 (start red p1) [] (Inv.start p1) hr
  have i2 := Inv.run b ds 0 (start red p2) [] (Inv.start p2) hr
  unfold play
  rw [h.up]
  exact Sim.finish ds.length _ _ _ _ h i1 i2 rfl
end Go.Proofs.Ytamfkglnejhjdaa.Play
