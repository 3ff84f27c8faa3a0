/- A play's rows as lists: plain facts. -/
import Derived.Test.YtamfkglnejhjdaaDoorPlayPure
import Derived.Test.YtamfkglnejhjdaaDoorBitMath
import Derived.Test.YtamfkglnejhjdaaDoorWMore
namespace Go.Proofs.YtamfkglnejhjdaaDoor.Play
structure MI (pre row : List Nat) (vs : List (List Int)) (L : List Int) : Prop where
 sorted : (pre ++ row).Pairwise (· < ·)
 bound : ∀ i, i ∈ pre ++ row → i < vs.length
 value : flat vs (pre ++ row) = L
theorem MI.step {pre row : List Nat} {vs : List (List Int)} {L : List Int} (h : MI pre row vs L) {j : Nat} (hjl : j + 1 < row.length) :
  MI pre (row.eraseIdx (j + 1)) (vs.set (row.getD j 0) (red.join (vs.getD (row.getD j 0) red.fresh) (vs.getD (row.getD (j + 1) 0) red.fresh))) L := by
 obtain ⟨hp, hb, hv⟩ := h
 have es := split_at hjl
 have ee := erase_at hjl
 generalize row.getD j 0 = a at *
 generalize row.getD (j + 1) 0 = b at *
 generalize row.take j = A at *
 generalize row.drop (j + 2) = B at *
 rw [ee]
 subst es
 have hsub : (pre ++ (A ++ a :: B)).Sublist (pre ++ (A ++ a :: b :: B)) :=
  (List.Sublist.refl pre).append ((List.Sublist.refl A).append ((List.sublist_cons_self b B).cons_cons a))
 have halt : a < vs.length := hb a (by simp)
 refine ⟨hp.sublist hsub, fun i hi => by rw [List.length_set]; exact hb i (hsub.subset hi), ?_⟩
 have hp2 := hp
 rw [← List.append_assoc, List.pairwise_append] at hp2
 obtain ⟨hpA, hpB, hpx⟩ := hp2
 have hA' : flat (vs.set a (red.join (vs.getD a red.fresh) (vs.getD b red.fresh))) (pre ++ A) = flat vs (pre ++ A) := flat_same (fun i hi => getD_set_ne _ _ _ _ _ (fun e => by
  subst e
  have := hpx a hi a (by simp)
  omega))
 have hB' : flat (vs.set a (red.join (vs.getD a red.fresh) (vs.getD b red.fresh))) B = flat vs B := flat_same (fun i hi => getD_set_ne _ _ _ _ _ (fun e => by
  subst e
  rw [List.pairwise_cons] at hpB
  have := hpB.1 a (by simp [hi])
  omega))
 rw [← hv, ← List.append_assoc, ← List.append_assoc, flat_append _ (pre ++ A) (a :: B), flat_append _ (pre ++ A) (a :: b :: B), flat_cons, flat_cons, flat_cons, hA', hB', getD_set_self _ _ _ _ halt]
 simp [red]
theorem MI.len {pre row : List Nat} {vs : List (List Int)} {L : List Int} (h : MI pre row vs L) {j : Nat} (hjl : j + 1 < row.length) :
  (vs.getD (row.getD j 0) []).length + (vs.getD (row.getD (j + 1) 0) []).length ≤ L.length := by
 have es := split_at hjl
 have hv := h.value
 generalize row.getD j 0 = a at *
 generalize row.getD (j + 1) 0 = b at *
 rw [es, flat_append, flat_append, flat_cons, flat_cons] at hv
 rw [← hv]
 simp only [List.length_append]
 omega
theorem MI.lt {pre row : List Nat} {vs : List (List Int)} {L : List Int} (h : MI pre row vs L) {j : Nat} (hj : j < row.length) : row.getD j 0 < vs.length := by
 refine h.bound _ (List.mem_append_right _ ?_)
 rw [List.getD_eq_getElem?_getD, List.getElem?_eq_getElem hj]
 exact List.getElem_mem hj
theorem MI.at_len {pre row : List Nat} {vs : List (List Int)} {L : List Int} (h : MI pre row vs L) {i : Nat} (hi : i ∈ pre ++ row) : (vs.getD i []).length ≤ L.length := by
 obtain ⟨A, B, e⟩ := List.append_of_mem hi
 have hv := h.value
 rw [e, flat_append, flat_cons] at hv
 rw [← hv]
 simp only [List.length_append]
 omega
theorem Inv.mi {s : St (List Int)} {L : List Int} (h : Inv s L) : ∃ pre, MI pre s.cur s.views L ∧ live s.cur s.up = pre ++ s.cur := by
 obtain ⟨pre, hpre⟩ := live_pre h.linked
 have e0 := (hpre s.cur rfl).1
 exact ⟨pre, ⟨by rw [← e0]; exact h.sorted, by rw [← e0]; exact h.bound, by rw [← e0]; exact h.value⟩, e0⟩
end Go.Proofs.YtamfkglnejhjdaaDoor.Play

namespace Go.Proofs.YtamfkglnejhjdaaDoor.PlayState
open Go.Proofs.YtamfkglnejhjdaaDoor.Play
open Go.RowKit Go.Proofs.YtamfkglnejhjdaaDoorW.PrintWords Go.Proofs.YtamfkglnejhjdaaDoorW.PrintLast Go.Proofs.YtamfkglnejhjdaaDoorW.PrintMore
set_option linter.unusedVariables false
set_option linter.unusedSimpArgs false
theorem Inv.mi {s : St (List Int)} {L : List Int} (h : Inv s L) : ∃ pre, MI pre s.cur s.views L ∧ live s.cur s.up = pre ++ s.cur := by
 obtain ⟨pre, hpre⟩ := live_pre h.linked
 have e0 := (hpre s.cur rfl).1
 exact ⟨pre, ⟨by rw [← e0]; exact h.sorted, by rw [← e0]; exact h.bound, by rw [← e0]; exact h.value⟩, e0⟩
def ints (l : List Nat) : List Int := l.map (fun i : Nat => (i : Int))
theorem ints_length (l : List Nat) : (ints l).length = l.length := by simp [ints]
theorem ints_getD (l : List Nat) (i : Nat) : (ints l).getD i 0 = ((l.getD i 0 : Nat) : Int) := by
 unfold ints
 rw [List.getD_eq_getElem?_getD, List.getD_eq_getElem?_getD, List.getElem?_map]
 cases l[i]? <;> rfl
theorem ints_erase (l : List Nat) (i : Nat) : (ints l).eraseIdx i = ints (l.eraseIdx i) := by
 unfold ints
 rw [List.eraseIdx_eq_take_drop_succ, List.eraseIdx_eq_take_drop_succ, List.map_append, List.map_take, List.map_drop]
def mstep (t : Nat) (s : St (List Int)) : St (List Int) :=
 { s with
  cur := s.cur.eraseIdx (pickOf s.picks (s.cur.length - 1) + 1)
  views := s.views.set (s.cur.getD (pickOf s.picks (s.cur.length - 1)) 0) (red.join (s.views.getD (s.cur.getD (pickOf s.picks (s.cur.length - 1)) 0) red.fresh) (s.views.getD (s.cur.getD (pickOf s.picks (s.cur.length - 1) + 1) 0) red.fresh))
  picks := s.picks.tail
  merges := s.merges ++ [(t, s.cur.getD (pickOf s.picks (s.cur.length - 1)) 0, s.cur.getD (pickOf s.picks (s.cur.length - 1) + 1) 0)] }
theorem mstep_len (t : Nat) (s : St (List Int)) (h : 2 ≤ s.cur.length) : (mstep t s).cur.length = s.cur.length - 1 := by
 show (s.cur.eraseIdx _).length = _
 obtain ⟨n, hn⟩ : ∃ n, s.cur.length = n + 2 := ⟨s.cur.length - 2, by omega⟩
 have := pick_lt s.picks n
 rw [List.length_eraseIdx_of_lt (by rw [hn]; show pickOf _ (n + 1) + 1 < n + 2; omega)]
theorem mstep_merge (t : Nat) (s : St (List Int)) (h : 2 ≤ s.cur.length) : (mstep t s).merge red t = s.merge red t := by
 obtain ⟨n, hn⟩ : ∃ n, s.cur.length = n + 2 := ⟨s.cur.length - 2, by omega⟩
 have hl := mstep_len t s h
 unfold St.merge
 rw [hl, hn]
 simp only [Nat.add_sub_cancel, show n + 2 - 1 = n + 1 from by omega]
 have e : mergeGo red t (n + 1) s.cur s.views s.picks s.merges = mergeGo red t n (mstep t s).cur (mstep t s).views (mstep t s).picks (mstep t s).merges := by
  unfold mstep
  rw [hn]
  rfl
 rw [e]
 rfl
theorem merge_done (t : Nat) (s : St (List Int)) (h : s.cur.length ≤ 1) : s.merge red t = s := by
 unfold St.merge
 rw [show s.cur.length - 1 = 0 from by omega]
 rfl
theorem wrap_add (j k : Nat) (h : j + k ≤ 9000000) : wrap64 ((j : Int) + (k : Int)) = (j : Int) + (k : Int) := BitMath.wrap_id (by unfold BitMath.In64; omega)
end Go.Proofs.YtamfkglnejhjdaaDoor.PlayState
