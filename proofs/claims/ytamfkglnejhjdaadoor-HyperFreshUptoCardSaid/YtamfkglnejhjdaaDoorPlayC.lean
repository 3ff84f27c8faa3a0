/- How great a play gets: plain facts. -/
import Derived.Test.YtamfkglnejhjdaaDoorPlayB
import Derived.Test.YtamfkglnejhjdaaDoorBaseA
namespace Go.Proofs.YtamfkglnejhjdaaDoor.PlayState
open Go.Proofs.YtamfkglnejhjdaaDoor.Play
open Go.RowKit Go.Proofs.YtamfkglnejhjdaaDoorW.PrintWords Go.Proofs.YtamfkglnejhjdaaDoorW.PrintLast Go.Proofs.YtamfkglnejhjdaaDoorW.PrintMore
set_option linter.unusedVariables false
set_option linter.unusedSimpArgs false
structure Bd (n : Nat) (s : St (List Int)) (L : List Int) : Prop where
 inv : Inv s L
 len : L.length ≤ n
 views : s.views.length ≤ n + 1
 up : s.up.length ≤ n
 looks : s.looks.length ≤ n
 spawns : s.spawns.length ≤ n
 count : s.count ≤ n
theorem Bd.cur {n : Nat} {s : St (List Int)} {L : List Int} (h : Bd n s L) : s.cur ≠ [] ∧ s.merges.length + s.cur.length ≤ n + 1 ∧ s.hand < s.views.length ∧ (∀ i, i < s.views.length → i ∈ s.cur → (s.views.getD i []).length ≤ n) ∧ s.hand ∈ s.cur := by
 obtain ⟨pre, hmi, e⟩ := h.inv.mi
 have hne := linked_ne h.inv.linked
 have h1 := h.inv.count
 rw [e, List.length_append] at h1
 have h2 := h.views
 have hh : s.hand ∈ s.cur := by
  unfold St.hand
  rw [List.getLastD_eq_getLast?, List.getLast?_eq_some_getLast hne]
  exact List.getLast_mem hne
 refine ⟨hne, by omega, hmi.bound _ (List.mem_append_right _ hh), fun i _ hm => ?_, hh⟩
 have := hmi.at_len (i := i) (List.mem_append_right _ hm)
 have := h.len
 omega
theorem Bd.start (ps : List Int) : Bd 0 (Play.start red ps) [] := ⟨Inv.start ps, Nat.le_refl _, Nat.le_refl _, Nat.le_refl _, Nat.le_refl _, Nat.le_refl _, Nat.le_refl _⟩
section
variable {s : St (List Int)} {L : List Int} {n : Nat}
theorem Bd.merge (h : Bd n s L) (t : Nat) : Bd n (s.merge red t) L := by
 obtain ⟨h1, x, _, _, h2, _⟩ := h.inv.merge t
 exact ⟨h1, h.len, by rw [h2]; exact h.views, h.up, h.looks, h.spawns, h.count⟩
theorem Bd.step (h : Bd n s L) (stolen : List Bool) (t : Nat) (d : Int × Int) (hd : d.1 = 1 → s.up ≠ []) : Bd (n + 1) (Play.step red stolen t d s) (L ++ puts [d]) := by
 have hl : (puts [d]).length ≤ 1 := by unfold puts; rw [List.length_map]; exact List.length_filter_le _ _
 obtain ⟨h1, h2, h3, h4, h5, h6, h7⟩ := h
 have hi := h1.step stolen t d hd
 have key : (Play.step red stolen t d s).views.length ≤ n + 2 ∧ (Play.step red stolen t d s).up.length ≤ n + 1 ∧ (Play.step red stolen t d s).looks.length ≤ n + 1 ∧ (Play.step red stolen t d s).spawns.length ≤ n + 1 ∧ (Play.step red stolen t d s).count ≤ n + 1 := by
  have hm : (s.merge red t).views.length = s.views.length := by
   obtain ⟨_, x, _, _, h2, _⟩ := h1.merge t
   exact h2
  unfold Play.step
  split
  ·simp [St.write]; omega
  ·split
   ·simp [St.read]; omega
   ·split
    ·simp [St.spawn]; omega
    ·split
     ·exact ⟨by rw [hm]; omega, by show s.up.length ≤ _; omega, by show s.looks.length ≤ _; omega, by show s.spawns.length ≤ _; omega, by show s.count ≤ _; omega⟩
     ·split
      ·unfold St.back
       split
       ·refine ⟨?_, ?_, ?_, ?_, ?_⟩
        ·show ((s.merge red t).views ++ [_]).length ≤ _
         rw [List.length_append, hm]; simp; omega
        ·show s.up.tail.length ≤ _
         rw [List.length_tail]; omega
        ·show s.looks.length ≤ _; omega
        ·show s.spawns.tail.length ≤ _
         rw [List.length_tail]; omega
        ·show s.count ≤ _; omega
       ·refine ⟨?_, ?_, ?_, ?_, ?_⟩
        ·show (s.merge red t).views.length ≤ _
         rw [hm]; omega
        ·show s.up.tail.length ≤ _
         rw [List.length_tail]; omega
        ·show s.looks.length ≤ _; omega
        ·show s.spawns.tail.length ≤ _
         rw [List.length_tail]; omega
        ·show s.count ≤ _; omega
      ·exact ⟨by omega, by omega, by omega, by omega, by omega⟩
 exact ⟨hi, by rw [List.length_append]; omega, key.1, key.2.1, key.2.2.1, key.2.2.2.1, key.2.2.2.2⟩
theorem Bd.leave (h : Bd n s L) {x : Nat} (hc : s.cur = [x]) {r : List Nat} {up : List (List Nat)} (hu : s.up = r :: up) : Bd n s.leave L := by
 obtain ⟨h1, h2, h3, h4, h5, h6, h7⟩ := h
 have hi := h1.leave hc hu s.spawns (by have := h1.spawns; rw [hu] at this; simp at this; omega)
 exact ⟨hi, h2, h3, by show s.up.tail.length ≤ _; rw [List.length_tail]; omega, h5, h6, h7⟩

end
theorem right_at {n : Nat} {l : List (Int × Int)} {i : Nat} {d : Int × Int} (hi : l[i]? = some d) (h : right n (l.drop i) = true) :
  (d.1 = 0 ∨ d.1 = 1 ∨ d.1 = 2 ∨ d.1 = 3 ∨ d.1 = 4) ∧ (d.1 = 1 → 0 < n) ∧ right (if d.1 = 0 then n + 1 else if d.1 = 1 then n - 1 else n) (l.drop (i + 1)) = true := by
 obtain ⟨hl, he⟩ := List.getElem?_eq_some_iff.1 hi
 rw [List.drop_eq_getElem_cons hl, he] at h
 simp only [right] at h
 by_cases h0 : d.1 = 0
 ·rw [if_pos h0] at h ⊢; exact ⟨.inl h0, fun e => by omega, h⟩
 ·rw [if_neg h0] at h ⊢
  by_cases h1 : d.1 = 1
  ·rw [if_pos h1] at h ⊢
   cases n with
   | zero => simp at h
   | succ m => exact ⟨.inr (.inl h1), fun _ => by omega, by simpa using h⟩
  ·rw [if_neg h1] at h ⊢
   split at h
   ·rename_i h2
    exact ⟨.inr (.inr h2), fun e => absurd e h1, h⟩
   ·exact absurd h (by simp)
end Go.Proofs.YtamfkglnejhjdaaDoor.PlayState
