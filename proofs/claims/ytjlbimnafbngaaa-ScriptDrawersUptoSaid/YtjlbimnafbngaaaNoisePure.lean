/- What Noise makes: one definition for the program and the document: plain facts, for every seed and every three numbers. -/
import Derived.Test.YtjlbimnafbngaaaFairRef
import Derived.Test.YtjlbimnafbngaaaNoiseDefs
import Derived.Test.YtjlbimnafbngaaaMScriptNoisex3
namespace Go.Proofs.Ytjlbimnafbngaaa.Noise
open Go.RowKit Go.Proofs.YtjlbimnafbngaaaW.PrintWords Go.Proofs.Ytjlbimnafbngaaa.BitMath Go.Proofs.Ytjlbimnafbngaaa.FairPure
open Go.Proofs.Ytjlbimnafbngaaa.PScriptNoise

theorem next_f (x : Int) : plunderref10_Next.f x = some (nxt x) := rfl
theorem half_f (a : Int) (h : In64 a) : plunderref1_half.f a = some (a / 2) := by
  unfold plunderref1_half.f
  have hd : In64 (a.tdiv 2) := tdiv_in h (by decide)
  by_cases h1 : a < 0
  · rw [if_pos h1, wrap_id hd]
    by_cases h2 : a.tmod 2 = 0
    · rw [if_pos h2, half_even a (fun h3 => h3.2 h2)]
    · rw [if_neg h2, half_neg a h1 h2, wrap_id (div_in h)]
  · rw [if_neg h1, wrap_id hd, half_even a (fun h3 => h1 h3.1)]
theorem moved_loop (d : Nat) : ∀ (i k : Nat) (a : Int), i + d = 33 → d < k → In64 a → plunderref1_moved.l0 k a 33 false (i : Int) = some (a / 2 ^ d) := by
  induction d with
  | zero =>
    intro i k a hi hk ha
    obtain ⟨k, rfl⟩ : ∃ m, k = m + 1 := ⟨k - 1, by omega⟩
    simp only [plunderref1_moved.l0]
    rw [if_neg (by omega)]
    simp
  | succ d ih =>
    intro i k a hi hk ha
    obtain ⟨k, rfl⟩ : ∃ m, k = m + 1 := ⟨k - 1, by omega⟩
    simp only [plunderref1_moved.l0]
    rw [if_pos (by omega), if_neg (by decide), half_f a ha, Option.bind_some, wrap_id (a := (i : Int) + 1) (by unfold In64; omega)]
    have := ih (i + 1) k (a / 2) (by omega) (by omega) (div_in ha)
    rw [show ((i : Int) + 1) = ((i + 1 : Nat) : Int) by omega, this]
    congr 1
    rw [Int.ediv_ediv_of_nonneg (by omega), Int.pow_succ, Int.mul_comm]
theorem number_f (a : Int) (h : In64 a) (k : Nat) (hk : 34 ≤ k) : plunderref10_Number.f k a = some (num a) := by
  have hm : plunderref1_moved.f k a 33 false = some (num a) := by
    unfold plunderref1_moved.f
    rw [show (0 : Int) = ((0 : Nat) : Int) from rfl, moved_loop 33 0 k a (by omega) (by omega) h]
    rfl
  have hw : plunderref1_work.f k 9 a 33 = some (num a) := by
    unfold plunderref1_work.f
    simp only [show ¬ ((9 : Int) = 0) by decide, show ¬ ((9 : Int) = 1) by decide, show ¬ ((9 : Int) = 2) by decide, show ¬ ((9 : Int) = 3) by decide, show ¬ ((9 : Int) = 4) by decide, show ¬ ((9 : Int) = 5) by decide, show ¬ ((9 : Int) = 6) by decide, show ¬ ((9 : Int) = 7) by decide, show ¬ ((9 : Int) = 8) by decide, if_false, if_true]
    rw [show plunderref1_shift.f 33 = some 33 by unfold plunderref1_shift.f; decide, Option.bind_some, hm]
    rfl
  unfold plunderref10_Number.f plunderref1_Apply.f
  rw [if_neg (by decide), if_neg (by decide), hw]
  rfl

theorem longest_loop (l : List Int) (hm : l.length ≤ 64) (d : Nat) : ∀ (p j k : Nat), p < l.length → j + d = l.length → d < k → plunderref10_longest.l0 k l (p : Int) (j : Int) = some ((least l p j d : Nat) : Int) := by
  induction d with
  | zero =>
    intro p j k hp hj hk
    obtain ⟨k, rfl⟩ : ∃ m, k = m + 1 := ⟨k - 1, by omega⟩
    simp only [plunderref10_longest.l0]
    rw [if_neg (by omega)]
    rfl
  | succ d ih =>
    intro p j k hp hj hk
    obtain ⟨k, rfl⟩ : ∃ m, k = m + 1 := ⟨k - 1, by omega⟩
    simp only [plunderref10_longest.l0]
    rw [if_pos (by omega), if_pos (by omega), if_pos (by omega), if_pos (by omega), rd_getD, rd_getD, wrap_id (a := (j : Int) + 1) (by unfold In64; omega)]
    unfold least
    by_cases h : l.getD j 0 < l.getD p 0
    · rw [if_pos h, if_pos h]
      exact ih j (j + 1) k (by omega) (by omega) (by omega)
    · rw [if_neg h, if_neg h]
      exact ih p (j + 1) k hp (by omega) (by omega)
theorem getD_map (l : List Int) (j : Nat) (hj : j < l.length) : (l.map (fun v => v - 1)).getD j 0 = l.getD j 0 - 1 := by simp [List.getD_eq_getElem?_getD, hj]
theorem least_map (l : List Int) (d : Nat) : ∀ (p j : Nat), p < l.length → j + d = l.length → least (l.map (fun v => v - 1)) p j d = least l p j d := by
  induction d with
  | zero => intro p j _ _; rfl
  | succ d ih =>
    intro p j hp hj
    unfold least
    rw [getD_map l j (by omega), getD_map l p hp]
    by_cases h : l.getD j 0 < l.getD p 0
    · rw [if_pos (by omega), if_pos h]; exact ih j (j + 1) (by omega) (by omega)
    · rw [if_neg (by omega), if_neg h]; exact ih p (j + 1) hp (by omega)
/-- The document's loop makes the same. -/
theorem ref_loop (W n len : Nat) (hW : 0 < W) (hW2 : W ≤ 64) (hn : W ≤ n) (hn2 : n ≤ 9223372036854775807) (hlen : len ≤ 1048576) (d : Nat) : ∀ (i k : Nat) (named : List Int) (x : Int) (ps ds : List Int), i + d = len → d + 100 < k → named.length = W → (∀ v ∈ named, 0 ≤ v ∧ v ≤ (i : Int)) → ps.length = i → ds.length = i →
    plunderref10_Noise.l1 k (W : Int) (n : Int) (len : Int) (named.map (fun v => v - 1)) x (i : Int) ps ds = some (ps ++ (noise W n d i named x).map (·.1), ds ++ (noise W n d i named x).map (·.2), 0) := by
  induction d with
  | zero =>
    intro i k named x ps ds hi hk hl hb hp hd
    obtain ⟨k, rfl⟩ : ∃ m, k = m + 1 := ⟨k - 1, by omega⟩
    simp only [plunderref10_Noise.l1]
    rw [if_neg (by omega)]
    simp [noise]
  | succ d ih =>
    intro i k named x ps ds hi hk hl hb hp hd
    obtain ⟨k, rfl⟩ : ∃ m, k = m + 1 := ⟨k - 1, by omega⟩
    have hlt := oldest_lt (named := named) (by omega)
    have hml : (named.map (fun v => v - 1)).length = W := by rw [List.length_map, hl]
    have hlong : plunderref10_longest.f k (named.map (fun v => v - 1)) = some ((oldest named : Nat) : Int) := by
      unfold plunderref10_longest.f
      have := longest_loop (named.map (fun v => v - 1)) (by omega) W 0 0 k (by omega) (by omega) (by omega)
      rw [show (0 : Int) = ((0 : Nat) : Int) from rfl, this, least_map named W 0 0 (by omega) (by omega)]
      unfold oldest
      rw [hl]
    have hbo := getD_mem_bound hb hlt
    have hpl := pick_lt (n := n) (i := i) (x := nxt x) hW hl
    have hsm : ∀ q : Nat, (named.map (fun v => v - 1)).set q (i : Int) = (named.set q ((i + 1 : Nat) : Int)).map (fun v => v - 1) := by
      intro q
      rw [List.map_set]
      congr 1
      omega
    have hih := ih (i + 1) k (named.set (pickOf W n i named (nxt x)) ((i + 1 : Nat) : Int)) (nxt (nxt x)) (ps ++ [((pickOf W n i named (nxt x) : Nat) : Int)]) (ds ++ [num (nxt (nxt x))]) (by omega) (by omega) (by rw [List.length_set]; exact hl) (set_bound hb) (by simp [hp]) (by simp [hd])
    simp only [plunderref10_Noise.l1]
    rw [if_pos (by omega), next_f, Option.bind_some, number_f _ (nxt_in _) k (by omega), Option.bind_some, show plunderref1_Mod.f (num (nxt x)) (W : Int) = some ((who W (num (nxt x)) : Nat) : Int) from mod_f W hW hW2 _, Option.bind_some, hlong, Option.bind_some, if_pos (by omega), if_pos (by rw [hml]; omega), rd_getD, getD_map named _ hlt, next_f, Option.bind_some, number_f _ (nxt_in _) k (by omega), Option.bind_some]
    rw [wrap_id (a := (i : Int) - 1) (by unfold In64; omega), wrap_id (a := (i : Int) - 1 - (named.getD (oldest named) 0 - 1)) (by unfold In64; omega), wrap_id (a := (n : Int) - (W : Int)) (by unfold In64; omega), wrap_id (a := (i : Int) + 1) (by unfold In64; omega)]
    have hw := who_lt W hW (num (nxt x))
    unfold noise
    simp only [List.map_cons]
    by_cases hc : (i : Int) - named.getD (oldest named) 0 < (n : Int) - (W : Int)
    · have e : pickOf W n i named (nxt x) = who W (num (nxt x)) := by unfold pickOf; rw [if_pos hc]
      rw [e] at hih ⊢
      rw [if_neg (by omega), if_pos (by omega), if_pos (by rw [hml]; omega), Option.bind_some, if_pos (by omega), number_f _ (nxt_in _) k (by omega), Option.bind_some, if_pos (by omega), Int.toNat_natCast, hsm]
      simpa using hih
    · have e : pickOf W n i named (nxt x) = oldest named := by unfold pickOf; rw [if_neg hc]
      rw [e] at hih ⊢
      rw [if_pos (by omega), if_pos (by omega), if_pos (by omega), Int.toNat_natCast, hsm]
      simpa using hih
/-- The first loop: nobody has been picked. -/
theorem ref_start (W n len : Nat) (x : Int) (hW : 0 < W) (hW2 : W ≤ 64) (r : List Int × List Int × Int) (k0 : Nat) (hgo : ∀ k, k0 ≤ k → plunderref10_Noise.l1 k (W : Int) (n : Int) (len : Int) (List.replicate W (-1)) x 0 [] [] = some r) (d : Nat) : ∀ (j k : Nat) (last : List Int), j + d = W → d + k0 < k → last.length = W → (∀ t, t < j → last.getD t 0 = -1) →
    plunderref10_Noise.l0 k x (W : Int) (n : Int) (len : Int) last (j : Int) = some r := by
  induction d with
  | zero =>
    intro j k last hj hk hl ht
    obtain ⟨k, rfl⟩ : ∃ m, k = m + 1 := ⟨k - 1, by omega⟩
    simp only [plunderref10_Noise.l0]
    rw [if_neg (by omega)]
    have e : last = List.replicate W (-1) := by
      apply List.ext_getElem
      · simp [hl]
      · intro t h1 h2
        have := ht t (by omega)
        simp [List.getD_eq_getElem?_getD, h1] at this
        simp [this]
    rw [e]
    exact hgo k (by omega)
  | succ d ih =>
    intro j k last hj hk hl ht
    obtain ⟨k, rfl⟩ : ∃ m, k = m + 1 := ⟨k - 1, by omega⟩
    simp only [plunderref10_Noise.l0]
    rw [if_pos (by omega), if_pos (by omega), if_pos (by omega), wrap_id (a := (j : Int) + 1) (by unfold In64; omega), Int.toNat_natCast]
    refine ih (j + 1) k (last.set j (-1)) (by omega) (by omega) (by rw [List.length_set]; exact hl) ?_
    intro t h
    by_cases e : t = j
    · subst e; simp [List.getD_eq_getElem?_getD, show t < last.length by omega]
    · have := ht t (by omega)
      rw [← this]
      simp [List.getD_eq_getElem?_getD, List.getElem?_set_ne (show j ≠ t by omega)]

theorem ref_f (x a n len : Int) (hn : In64 n) : plunderref10_Noise.f 1048900 x a n len = some (noiseR x a n len) := by
  unfold plunderref10_Noise.f noiseR
  have hg : plunderref10_good.f a = some (decide (1 ≤ a ∧ a ≤ 64)) := by
    unfold plunderref10_good.f
    by_cases h : 1 ≤ a
    · rw [if_pos h]; simp [h]
    · rw [if_neg h]; simp [h]
  rw [hg, Option.bind_some]
  by_cases h : 1 ≤ a ∧ a ≤ 64
  · rw [if_pos (by simpa using h), if_pos h]
    by_cases h1 : n < a
    · rw [if_pos h1, if_pos h1]
    · rw [if_neg h1, if_neg h1]
      by_cases h2 : len < 0
      · rw [if_pos h2, if_pos h2]
      · rw [if_neg h2, if_neg h2]
        by_cases h3 : len > 1048576
        · rw [if_pos h3, if_pos h3]
        · rw [if_neg h3, if_neg h3, if_pos (by omega), if_pos (by omega)]
          obtain ⟨W, rfl⟩ : ∃ W : Nat, a = W := ⟨a.toNat, by omega⟩
          obtain ⟨N, rfl⟩ : ∃ N : Nat, n = N := ⟨n.toNat, by omega⟩
          obtain ⟨L, rfl⟩ : ∃ L : Nat, len = L := ⟨len.toNat, by omega⟩
          simp only [Int.toNat_natCast]
          unfold In64 at hn
          refine ref_start W N L x (by omega) (by omega) _ 1048700 (fun k hk => ?_) W 0 1048900 (List.replicate W 0) (by omega) (by omega) (by simp) (fun t ht => by omega)
          have := ref_loop W N L (by omega) (by omega) (by omega) (by omega) (by omega) L 0 k (List.replicate W 0) x [] [] (by omega) (by omega) (by simp) (fun v hv => by rw [List.eq_of_mem_replicate hv]; omega) rfl rfl
          simpa using this
  · rw [if_neg (by simpa using h), if_neg h]
/-! ### Shorter scripts; the picks name workers -/
theorem noise_take (W n k : Nat) : ∀ (d i : Nat) (named : List Int) (x : Int), k ≤ d → (noise W n d i named x).take k = noise W n k i named x := by
  induction k with
  | zero => intro d i named x _; rfl
  | succ k ih =>
    intro d i named x hk
    obtain ⟨d, rfl⟩ : ∃ m, d = m + 1 := ⟨d - 1, by omega⟩
    unfold noise
    rw [List.take_succ_cons, ih d _ _ _ (by omega)]
theorem noise_in (W n : Nat) (hW : 0 < W) (d : Nat) : ∀ (i : Nat) (named : List Int) (x : Int), named.length = W → ∀ v ∈ (noise W n d i named x).map (·.1), 0 ≤ v ∧ v < (W : Int) := by
  induction d with
  | zero => intro i named x _ v hv; simp [noise] at hv
  | succ d ih =>
    intro i named x hl v hv
    unfold noise at hv
    rw [List.map_cons, List.mem_cons] at hv
    rcases hv with rfl | hv
    · have := pick_lt (n := n) (i := i) (x := nxt x) hW hl
      simp only
      omega
    · exact ih _ _ _ (by rw [List.length_set]; exact hl) v hv

/-! ### Fairness -/
/-- How many workers have waited n - k places or more. -/
def late (W n k : Nat) (p : List Int) : Nat := (List.range W).countP (fun w => decide (n ≤ cur W w p + k))
theorem late_le (W n k : Nat) (p : List Int) : late W n k p ≤ W := by
  have := List.countP_le_length (p := fun w => decide (n ≤ cur W w p + k)) (l := List.range W)
  simpa [late] using this
theorem late_zero {W n k : Nat} {p : List Int} (h : ∀ w, w < W → cur W w p + k < n) : late W n k p = 0 := by
  unfold late
  rw [List.countP_eq_zero]
  intro w hw
  have := h w (List.mem_range.1 hw)
  simp; omega
theorem countP_lt {f g : Nat → Bool} {o : Nat} (hfg : ∀ w, f w = true → g w = true) (hf : f o = false) (hg : g o = true) : ∀ l : List Nat, o ∈ l → l.countP f + 1 ≤ l.countP g := by
  intro l
  induction l with
  | nil => intro h; cases h
  | cons a l ih =>
    intro h
    have hle : l.countP f ≤ l.countP g := List.countP_mono_left (fun w _ => hfg w)
    rw [List.countP_cons, List.countP_cons]
    by_cases e : a = o
    · subst e
      rw [hf, hg]
      simp
      omega
    · have hm : o ∈ l := by
        rcases List.mem_cons.1 h with h | h
        · exact absurd h.symm e
        · exact h
      have := ih hm
      have h2 := hfg a
      cases hfa : f a
      · cases g a <;> simp <;> omega
      · rw [h2 hfa]; simp; omega
theorem late_free {W n : Nat} {p : List Int} (h : ∀ w, w < W → cur W w p + W < n) (x : Int) : ∀ k, k ≤ W → late W n k (p ++ [x]) ≤ k := by
  intro k hk
  by_cases e : k = W
  · subst e; exact late_le _ _ _ _
  · rw [late_zero]
    · omega
    · intro w hw
      have := h w hw
      rw [cur_snoc]
      split <;> omega
theorem late_old {W n o : Nat} {p : List Int} {x : Int} (hn : W ≤ n) (ho : o < W) (hmax : ∀ w, w < W → cur W w p ≤ cur W o p) (hx : who W x = o) (h : ∀ k, k ≤ W → late W n k p ≤ k) : ∀ k, k ≤ W → late W n k (p ++ [x]) ≤ k := by
  intro k hk
  by_cases e : k = W
  · subst e; exact late_le _ _ _ _
  · by_cases h2 : n ≤ cur W o p + (k + 1)
    · have h3 := h (k + 1) (by omega)
      have h4 : late W n k (p ++ [x]) + 1 ≤ late W n (k + 1) p := by
        unfold late
        refine countP_lt (o := o) ?_ ?_ ?_ _ (List.mem_range.2 ho)
        · intro w hw
          simp only [decide_eq_true_eq] at hw ⊢
          rw [cur_snoc] at hw
          split at hw <;> omega
        · rw [cur_snoc, if_pos hx]; simp; omega
        · simpa using h2
      omega
    · rw [late_zero]
      · omega
      · intro w hw
        have := hmax w hw
        rw [cur_snoc]
        split <;> omega
theorem late_nil {W n : Nat} (hn : W ≤ n) : ∀ k, k ≤ W → late W n k [] ≤ k := by
  intro k hk
  by_cases e : k = W
  · subst e; exact late_le _ _ _ _
  · rw [late_zero]
    · omega
    · intro w _; show 0 + k < n; omega
theorem least_le (l : List Int) (d : Nat) : ∀ (p j : Nat), p < l.length → j + d = l.length → (∀ t, t < j → l.getD p 0 ≤ l.getD t 0) → ∀ t, t < l.length → l.getD (least l p j d) 0 ≤ l.getD t 0 := by
  induction d with
  | zero => intro p j hp hj h t ht; exact h t (by omega)
  | succ d ih =>
    intro p j hp hj h t ht
    unfold least
    by_cases hc : l.getD j 0 < l.getD p 0
    · rw [if_pos hc]
      refine ih j (j + 1) (by omega) (by omega) (fun s hs => ?_) t ht
      by_cases e : s = j
      · rw [e]; exact Int.le_refl _
      · have := h s (by omega); omega
    · rw [if_neg hc]
      refine ih p (j + 1) hp (by omega) (fun s hs => ?_) t ht
      by_cases e : s = j
      · rw [e]; omega
      · exact h s (by omega)
theorem oldest_le {named : List Int} (h : 0 < named.length) (t : Nat) (ht : t < named.length) : named.getD (oldest named) 0 ≤ named.getD t 0 := least_le named _ 0 0 h (by omega) (fun s hs => by omega) t ht
theorem who_id {W q : Nat} (hq : q < W) : who W (q : Int) = q := by
  unfold who
  rw [Int.emod_eq_of_lt (by omega) (by omega)]
  exact Int.toNat_natCast q
/-- What Noise makes is fair for its window. -/
theorem noise_fair (W n : Nat) (hW : 0 < W) (hn : W ≤ n) (d : Nat) : ∀ (i : Nat) (named : List Int) (x : Int) (p : List Int), p.length = i → named.length = W → (∀ w, w < W → named.getD w 0 = ((i - cur W w p : Nat) : Int)) → (∀ k, k ≤ W → late W n k p ≤ k) → (∀ w, w < W → best W w p < n) →
    ∀ w, w < W → best W w (p ++ (noise W n d i named x).map (·.1)) < n := by
  induction d with
  | zero => intro i named x p _ _ _ _ hb w hw; simpa [noise] using hb w hw
  | succ d ih =>
    intro i named x p hp hl hnm hlate hb w hw
    unfold noise
    rw [List.map_cons, show p ++ (((pickOf W n i named (nxt x) : Nat) : Int) :: (noise W n d (i + 1) (named.set (pickOf W n i named (nxt x)) ((i + 1 : Nat) : Int)) (nxt (nxt x))).map (·.1)) = (p ++ [((pickOf W n i named (nxt x) : Nat) : Int)]) ++ (noise W n d (i + 1) (named.set (pickOf W n i named (nxt x)) ((i + 1 : Nat) : Int)) (nxt (nxt x))).map (·.1) by simp]
    have hq := pick_lt (n := n) (i := i) (x := nxt x) hW hl
    have hcl : ∀ v, cur W v p ≤ i := fun v => by have := cur_le W v p; omega
    have hol := oldest_lt (named := named) (by omega)
    have hmax : ∀ v, v < W → cur W v p ≤ cur W (oldest named) p := by
      intro v hv
      have h1 := oldest_le (named := named) (by omega) v (by omega)
      rw [hnm v hv, hnm _ (by omega)] at h1
      have := hcl v
      have := hcl (oldest named)
      omega
    have hlate2 : ∀ k, k ≤ W → late W n k (p ++ [((pickOf W n i named (nxt x) : Nat) : Int)]) ≤ k := by
      by_cases hc : (i : Int) - named.getD (oldest named) 0 < (n : Int) - (W : Int)
      · refine late_free (fun v hv => ?_) _
        have := hmax v hv
        rw [hnm _ (by omega)] at hc
        have := hcl (oldest named)
        omega
      · have e : pickOf W n i named (nxt x) = oldest named := by unfold pickOf; rw [if_neg hc]
        rw [e]
        exact late_old hn (by omega) hmax (who_id (by omega)) hlate
    generalize pickOf W n i named (nxt x) = q at *
    refine ih (i + 1) _ _ _ (by simp [hp]) (by rw [List.length_set]; exact hl) (fun v hv => ?_) hlate2 (fun v hv => ?_) w hw
    · rw [cur_snoc, who_id hq]
      by_cases e : q = v
      · subst e
        rw [if_pos rfl]
        simp [List.getD_eq_getElem?_getD, show q < named.length by omega]
      · rw [if_neg e]
        have h1 := hnm v hv
        have := hcl v
        simp [List.getD_eq_getElem?_getD, List.getElem?_set_ne e] at h1 ⊢
        omega
    · rw [best_snoc]
      have h0 : late W n 0 (p ++ [(q : Int)]) = 0 := by have := hlate2 0 (by omega); omega
      unfold late at h0
      rw [List.countP_eq_zero] at h0
      have h1 := h0 v (List.mem_range.2 hv)
      simp only [decide_eq_true_eq] at h1
      have := hb v hv
      omega

/-! ### The narrow window: every worker in turn -/
theorem least_at (l : List Int) (b : Nat) (hb : b < l.length) (h1 : ∀ t, t < b → l.getD b 0 < l.getD t 0) (h2 : ∀ t, b ≤ t → t < l.length → l.getD b 0 ≤ l.getD t 0) (d : Nat) : ∀ (p j : Nat), j + d = l.length → (p = b ∧ b < j) ∨ (j ≤ b ∧ p ≤ b) → least l p j d = b := by
  induction d with
  | zero =>
    intro p j hj h
    rcases h with h | h
    · exact h.1
    · omega
  | succ d ih =>
    intro p j hj h
    unfold least
    refine ih _ _ (by omega) ?_
    rcases h with ⟨rfl, h⟩ | ⟨h3, h4⟩
    · have := h2 j (by omega) (by omega)
      rw [if_neg (by omega)]
      exact .inl ⟨rfl, by omega⟩
    · by_cases e : j = b
      · subst e
        by_cases e2 : p = j
        · subst e2; rw [if_neg (by omega)]; exact .inl ⟨rfl, by omega⟩
        · have := h1 p (by omega)
          rw [if_pos this]; exact .inl ⟨rfl, by omega⟩
      · refine .inr ⟨by omega, ?_⟩
        split <;> omega
theorem noise_turns (W : Nat) (hW : 0 < W) (d : Nat) : ∀ (A b : Nat) (named : List Int) (x : Int), A % W = 0 → (A = 0 ∨ W ≤ A) → b < W → named.length = W → (∀ w, w < W → named.getD w 0 = if w < b then ((A + w + 1 : Nat) : Int) else if A = 0 then 0 else ((A - W + w + 1 : Nat) : Int)) →
    (noise W W d (A + b) named x).map (·.1) = (List.range d).map (fun t => (((A + b + t) % W : Nat) : Int)) := by
  induction d with
  | zero => intro A b named x _ _ _ _ _; rfl
  | succ d ih =>
    intro A b named x hA hA2 hb hl hn
    have hob : oldest named = b := by
      unfold oldest
      refine least_at named b (by omega) (fun t ht => ?_) (fun t ht ht2 => ?_) _ 0 0 (by omega) (.inr ⟨by omega, by omega⟩)
      · rw [hn b hb, hn t (by omega), if_neg (by omega), if_pos ht]
        by_cases hA0 : A = 0
        · rw [if_pos hA0]; omega
        · rw [if_neg hA0]; omega
      · rw [hn b hb, hn t (by omega), if_neg (show ¬ b < b by omega), if_neg (show ¬ t < b by omega)]
        by_cases hA0 : A = 0
        · rw [if_pos hA0, if_pos hA0]; exact Int.le_refl _
        · rw [if_neg hA0, if_neg hA0]; omega
    have hp : pickOf W W (A + b) named (nxt x) = b := by
      unfold pickOf
      rw [hob, if_neg]
      rw [hn b hb, if_neg (by omega)]
      split <;> omega
    unfold noise
    rw [hp, List.map_cons, List.range_succ_eq_map, List.map_cons, List.map_map]
    have hAb : (A + b) % W = b := by rw [Nat.add_mod, hA, Nat.zero_add, Nat.mod_mod, Nat.mod_eq_of_lt hb]
    refine congr (congrArg _ (by simp [hAb])) ?_
    by_cases e : b + 1 = W
    · have := ih (A + W) 0 (named.set b ((A + b + 1 : Nat) : Int)) (nxt (nxt x)) (by rw [Nat.add_mod_right]; exact hA) (.inr (by omega)) hW (by rw [List.length_set]; exact hl) (fun w hw => by
        rw [if_neg (by omega), if_neg (by omega)]
        by_cases e2 : b = w
        · subst e2; simp [List.getD_eq_getElem?_getD, show b < named.length by omega]
        · have h3 := hn w hw
          rw [if_pos (by omega)] at h3
          simp [List.getD_eq_getElem?_getD, List.getElem?_set_ne e2] at h3 ⊢
          omega)
      rw [show noise W W d (A + b + 1) = noise W W d (A + W + 0) by rw [show A + b + 1 = A + W + 0 by omega], this]
      refine List.map_congr_left (fun t _ => ?_)
      simp only [Function.comp]
      congr 2
      omega
    · have := ih A (b + 1) (named.set b ((A + b + 1 : Nat) : Int)) (nxt (nxt x)) hA hA2 (by omega) (by rw [List.length_set]; exact hl) (fun w hw => by
        by_cases e2 : b = w
        · subst e2; rw [if_pos (by omega)]; simp [List.getD_eq_getElem?_getD, show b < named.length by omega]
        · have h3 := hn w hw
          by_cases e3 : w < b
          · rw [if_pos e3] at h3
            rw [if_pos (by omega), ← h3]
            simp [List.getD_eq_getElem?_getD, List.getElem?_set_ne e2]
          · rw [if_neg e3] at h3
            rw [if_neg (by omega), ← h3]
            simp [List.getD_eq_getElem?_getD, List.getElem?_set_ne e2])
      rw [show noise W W d (A + b + 1) = noise W W d (A + (b + 1)) by rw [show A + b + 1 = A + (b + 1) by omega], this]
      refine List.map_congr_left (fun t _ => ?_)
      simp only [Function.comp]
      congr 2
      omega
end Go.Proofs.Ytjlbimnafbngaaa.Noise
