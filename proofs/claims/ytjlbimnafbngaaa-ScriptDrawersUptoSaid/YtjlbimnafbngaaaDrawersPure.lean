/- The document's lists of draws, against the drawers' steps; things that lie apart in memory. -/
import Derived.Test.YtjlbimnafbngaaaAlong
import Derived.Test.YtjlbimnafbngaaaSeededRef
import Derived.Test.YtjlbimnafbngaaaMScriptDrawersx2
namespace Go.Proofs.Ytjlbimnafbngaaa.Drawers
set_option linter.unusedVariables false
open Go.RowKit Go.Proofs.YtjlbimnafbngaaaW.PrintWords Go.Proofs.YtjlbimnafbngaaaW.PrintLast Go.Proofs.Ytjlbimnafbngaaa.Pull Go.Proofs.Ytjlbimnafbngaaa.BitMath Go.Proofs.Ytjlbimnafbngaaa.PScriptDrawers

theorem list_after (l : List Int) (n : Nat) : after (alongNext l false) n 0 = min n l.length := by
  induction n with
  | zero => simp [after]
  | succ n ih =>
    rw [after_succ, ih]
    unfold alongNext
    by_cases h : n < l.length
    · rw [Nat.min_eq_left (by omega)]
      simp [show ¬ n = l.length by omega]
      omega
    · rw [Nat.min_eq_right (by omega)]
      simp
      omega
theorem list_value (l : List Int) (n : Nat) : (alongNext l false (after (alongNext l false) n 0)).1 = if n < l.length then l.getD n 0 else 0 := by
  rw [list_after]
  unfold alongNext
  by_cases h : n < l.length
  · rw [Nat.min_eq_left (by omega), if_pos h]
    simp [show ¬ n = l.length by omega]
  · rw [Nat.min_eq_right (by omega), if_neg h]
    simp
theorem list_loop (l : List Int) (n : Nat) (hn : n ≤ 1048576) (hl : l.length ≤ 1048576) (d : Nat) : ∀ i k : Nat, i + d = n → d < k → plunderref10_List.l0 k l (n : Int) (draws (alongNext l false) i 0) (i : Int) = some (draws (alongNext l false) n 0) := by
  induction d with
  | zero =>
    intro i k hi hk
    obtain ⟨k, rfl⟩ : ∃ m, k = m + 1 := ⟨k - 1, by omega⟩
    unfold plunderref10_List.l0
    rw [if_neg (by omega), show i = n by omega]
  | succ d ih =>
    intro i k hi hk
    obtain ⟨k, rfl⟩ : ∃ m, k = m + 1 := ⟨k - 1, by omega⟩
    have h := ih (i + 1) k (by omega) (by omega)
    have hlen := draws_length (alongNext l false) i 0
    rw [draws_succ, list_value] at h
    unfold plunderref10_List.l0
    rw [if_pos (by omega), wrap_id (a := (i : Int) + 1) (by unfold In64; omega)]
    by_cases hb : i < l.length
    · rw [if_pos (by omega), if_pos (by omega), if_pos (by omega), show rd l (i : Int) = l.getD i 0 from by simp [rd]]
      rw [if_pos hb] at h
      exact h
    · rw [if_neg (by omega), if_pos (by omega)]
      rw [if_neg hb] at h
      exact h
theorem list_f (l : List Int) (n : Nat) (hn : n ≤ 1048576) (hl : l.length ≤ 1048576) : plunderref10_List.f (n + 1) l (n : Int) = some (draws (alongNext l false) n 0) :=
  list_loop l n hn hl n 0 _ (by omega) (by omega)

theorem loop_nil (n : Nat) : after (alongNext [] true) n 0 = 0 := by
  induction n with
  | zero => rfl
  | succ n ih => rw [after_succ, ih]; rfl
def pl (m i : Nat) : Nat := if i = 0 then 0 else (i - 1) % m + 1
theorem mod_up (m j : Nat) (hm : 0 < m) : (if j % m + 1 = m then 0 else j % m + 1) = (j + 1) % m := by
  have h1 := Nat.mod_add_div j m
  have h2 : (j + 1) % m = (j % m + 1) % m := by
    rw [show j + 1 = j % m + 1 + m * (j / m) from by omega, Nat.add_mul_mod_self_left]
  have hj := Nat.mod_lt j hm
  rw [h2]
  by_cases h : j % m + 1 = m
  · rw [if_pos h, h, Nat.mod_self]
  · rw [if_neg h]
    exact (Nat.mod_eq_of_lt (by omega)).symm
theorem along_true (l : List Int) (a p : Nat) (h : (if a = l.length then 0 else a) = p) (hp : p ≠ l.length) : alongNext l true a = (l.getD p 0, p + 1) := by
  unfold alongNext
  rw [show (if a = l.length ∧ true = true then 0 else a) = p from by rw [← h]; simp]
  simp only
  rw [if_neg hp]
theorem loop_next (l : List Int) (i : Nat) (hl : 0 < l.length) : alongNext l true (pl l.length i) = (l.getD (i % l.length) 0, pl l.length (i + 1)) := by
  have hm := Nat.mod_lt i hl
  have e1 : (if pl l.length i = l.length then 0 else pl l.length i) = i % l.length := by
    unfold pl
    cases i with
    | zero => rw [if_pos rfl, if_neg (by omega), Nat.zero_mod]
    | succ j =>
      rw [show (if j + 1 = 0 then 0 else (j + 1 - 1) % l.length + 1) = j % l.length + 1 from by simp]
      exact mod_up l.length j hl
  rw [along_true l _ _ e1 (by omega)]
  unfold pl
  rw [if_neg (by omega), Nat.add_sub_cancel]
theorem loop_after (l : List Int) (hl : 0 < l.length) (n : Nat) : after (alongNext l true) n 0 = pl l.length n := by
  induction n with
  | zero => rfl
  | succ n ih => rw [after_succ, ih, loop_next l n hl]
theorem loop_value (l : List Int) (n : Nat) : (alongNext l true (after (alongNext l true) n 0)).1 = if 0 < l.length then l.getD (n % l.length) 0 else 0 := by
  by_cases h : 0 < l.length
  · rw [loop_after l h, loop_next l n h, if_pos h]
  · obtain rfl : l = [] := List.length_eq_zero_iff.1 (by omega)
    rw [loop_nil]
    rfl
theorem loop_loop (l : List Int) (n : Nat) (hn : n ≤ 1048576) (hl : l.length ≤ 1048576) (d : Nat) : ∀ i k : Nat, i + d = n → d < k → plunderref10_Loop.l0 k l (n : Int) (draws (alongNext l true) i 0) (i : Int) = some (draws (alongNext l true) n 0) := by
  induction d with
  | zero =>
    intro i k hi hk
    obtain ⟨k, rfl⟩ : ∃ m, k = m + 1 := ⟨k - 1, by omega⟩
    unfold plunderref10_Loop.l0
    rw [if_neg (by omega), show i = n by omega]
  | succ d ih =>
    intro i k hi hk
    obtain ⟨k, rfl⟩ : ∃ m, k = m + 1 := ⟨k - 1, by omega⟩
    have h := ih (i + 1) k (by omega) (by omega)
    have hlen := draws_length (alongNext l true) i 0
    rw [draws_succ, loop_value] at h
    unfold plunderref10_Loop.l0
    rw [if_pos (by omega), wrap_id (a := (i : Int) + 1) (by unfold In64; omega)]
    by_cases hb : 0 < l.length
    · have hm := Nat.mod_lt i hb
      have et : Int.tmod (i : Int) (l.length : Int) = ((i % l.length : Nat) : Int) := by rw [Int.tmod_eq_emod_of_nonneg (by omega)]; rfl
      rw [et, if_pos (by omega), if_neg (by omega), if_pos (by omega), if_pos (by omega), if_pos (by omega), show rd l ((i % l.length : Nat) : Int) = l.getD (i % l.length) 0 from by unfold rd; rw [Int.toNat_natCast]]
      rw [if_pos hb] at h
      exact h
    · rw [if_neg (by omega), if_pos (by omega)]
      rw [if_neg hb] at h
      exact h
theorem loop_f (l : List Int) (n : Nat) (hn : n ≤ 1048576) (hl : l.length ≤ 1048576) : plunderref10_Loop.f (n + 1) l (n : Int) = some (draws (alongNext l true) n 0) :=
  loop_loop l n hn hl n 0 _ (by omega) (by omega)

/-! Things that lie apart. -/
structure Th where
  P : World → Prop
  lo : Nat
  hi : Nat
def Th.ok (T : Th) : Prop := ∀ w w' : World, T.P w → (∀ k, T.lo ≤ k → k < T.hi → w'.heap[k]? = w.heap[k]?) → T.P w'
structure All (w0 : World) (Ts : List Th) (w : World) : Prop where
  hb : Below w0.heap.size w0 w
  st : ∀ T, T ∈ Ts → T.P w ∧ T.ok ∧ T.hi ≤ w.heap.size ∧ w0.heap.size ≤ T.lo
  dis : Ts.Pairwise (fun S T => S.hi ≤ T.lo)
section
variable {w0 w w1 : World} {Ts : List Th} {T T1 : Th} {i : Nat}
theorem All.start (w : World) : All w [] w := ⟨Below.refl _ _, (fun T h => by cases h), .nil⟩
theorem All.below (h : All w0 Ts w) (hb : Below w.heap.size w w1) : All w0 Ts w1 :=
  ⟨below_step h.hb hb, fun T hT => ⟨(h.st T hT).2.1 w w1 (h.st T hT).1 (fun k _ hk => hb.block k (by have := (h.st T hT).2.2.1; omega)), (h.st T hT).2.1, Nat.le_trans (h.st T hT).2.2.1 hb.size, (h.st T hT).2.2.2⟩, h.dis⟩
theorem All.get (h : All w0 Ts w) (hi : Ts[i]? = some T) : T.P w := (h.st T (List.mem_iff_getElem?.2 ⟨i, hi⟩)).1
theorem All.ge (h : All w0 Ts w) (hi : Ts[i]? = some T) : w0.heap.size ≤ T.lo := (h.st T (List.mem_iff_getElem?.2 ⟨i, hi⟩)).2.2.2
theorem All.add (h : All w0 Ts w) (hb : Below w.heap.size w w1) (hP : T.P w1) (ho : T.ok) (hlo : T.lo = w.heap.size) (hhi : T.hi = w1.heap.size) : All w0 (Ts ++ [T]) w1 := by
  have h1 := h.below hb
  refine ⟨h1.hb, fun S hS => ?_, ?_⟩
  · rcases List.mem_append.1 hS with hS | hS
    · exact h1.st S hS
    · rw [List.mem_singleton] at hS
      subst hS
      exact ⟨hP, ho, by omega, by rw [hlo]; exact below_size h.hb⟩
  · rw [List.pairwise_append]
    refine ⟨h.dis, by simp, fun S hS U hU => ?_⟩
    rw [List.mem_singleton] at hU
    subst hU
    have := (h.st S hS).2.2.1
    omega
theorem All.put (h : All w0 Ts w) (hi : Ts[i]? = some T) (hk : Kept w w1 (fun k => T.lo ≤ k ∧ k < T.hi)) (hB : Below w0.heap.size w0 w1) (hP : T1.P w1) (ho : T1.ok) (hlo : T1.lo = T.lo) (hhi : T1.hi = T.hi) : All w0 (Ts.set i T1) w1 := by
  have hm := List.mem_iff_getElem?.2 ⟨i, hi⟩
  obtain ⟨hlt, hget⟩ := List.getElem?_eq_some_iff.1 hi
  have hp := List.pairwise_iff_getElem.1 h.dis
  refine ⟨hB, fun S hS => ?_, ?_⟩
  · obtain ⟨j, hj⟩ := List.mem_iff_getElem?.1 hS
    by_cases e : i = j
    · subst e
      rw [List.getElem?_set_self hlt] at hj
      injection hj with hj
      subst hj
      exact ⟨hP, ho, by rw [hhi]; exact Nat.le_trans (h.st T hm).2.2.1 hk.1, by rw [hlo]; exact (h.st T hm).2.2.2⟩
    · rw [List.getElem?_set_ne e] at hj
      have hS2 : S ∈ Ts := List.mem_iff_getElem?.2 ⟨j, hj⟩
      obtain ⟨hj1, hj2⟩ := List.getElem?_eq_some_iff.1 hj
      refine ⟨(h.st S hS2).2.1 w w1 (h.st S hS2).1 (fun k h1 h2 => hk.2 k (by have := (h.st S hS2).2.2.1; omega) (fun h3 => ?_)), (h.st S hS2).2.1, Nat.le_trans (h.st S hS2).2.2.1 hk.1, (h.st S hS2).2.2.2⟩
      rcases Nat.lt_or_gt_of_ne e with hl | hl
      · have := hp i j hlt hj1 hl
        rw [hget, hj2] at this
        omega
      · have := hp j i hj1 hlt hl
        rw [hget, hj2] at this
        omega
  · rw [List.pairwise_iff_getElem]
    intro a b ha hb hab
    rw [List.length_set] at ha hb
    have := hp a b ha hb hab
    rw [List.getElem_set, List.getElem_set]
    split <;> split
    · omega
    · rename_i e1 e2; subst e1; rw [hget] at this; rw [hhi]; exact this
    · rename_i e1 e2; subst e2; rw [hget] at this; rw [hlo]; exact this
    · exact this
end
def thRow (lo hi : Nat) (v : Value) (l : List Int) : Th := ⟨fun w => Kd.R (Kd.int .i64) 3 w lo (fun k => k < hi) v l, lo, hi⟩
theorem thRow_ok (lo hi : Nat) (v : Value) (l : List Int) : (thRow lo hi v l).ok := fun w w' h hk => Kd.R_mono (Kd.R_step (Kd.R_bound h) (fun k ho _ => hk k ho.2.1 ho.1)) (fun k hk => hk.1)
def thAlong (lo hi : Nat) (d : Nat) (l : List Int) (again : Bool) (a : Nat) : Th := ⟨fun w => AlongAt lo hi (.pointer (some ⟨d, 0, none⟩)) l again w a, lo, hi⟩
theorem thAlong_ok (lo hi d : Nat) (l : List Int) (again : Bool) (a : Nat) : (thAlong lo hi d l again a).ok := fun w w' h hk => h.keep hk
def thSeed (w0 : World) (lo hi : Nat) (d : Nat) (x : Int) : Th := ⟨fun w => ∃ g, SeededAt w0 d g w x ∧ (lo ≤ d ∧ d < hi) ∧ (lo ≤ g ∧ g < hi), lo, hi⟩
theorem thSeed_ok (w0 : World) (lo hi d : Nat) (x : Int) : (thSeed w0 lo hi d x).ok := fun w w' ⟨g, h, b1, b2⟩ hk => ⟨g, ⟨(hk d b1.1 b1.2).trans h.1, (hk g b2.1 b2.2).trans h.2.1, h.2.2⟩, b1, b2⟩
end Go.Proofs.Ytjlbimnafbngaaa.Drawers
