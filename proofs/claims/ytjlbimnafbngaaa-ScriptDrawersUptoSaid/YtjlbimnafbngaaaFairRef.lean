/- Fair and Window: what the document's rows give, and that the program's longest stretch gives the same: plain facts. -/
import Derived.Test.YtjlbimnafbngaaaFairPure
namespace Go.Proofs.Ytjlbimnafbngaaa.FairPure
open Go.RowKit Go.Proofs.YtjlbimnafbngaaaW.PrintWords Go.Proofs.Ytjlbimnafbngaaa.BitMath Go.Proofs.Ytjlbimnafbngaaa.PScriptFair

theorem refmod_f (W : Nat) (hW : 0 < W) (hw : W ≤ 64) (x : Int) : plunderref1_Mod.f x (W : Int) = some ((who W x : Nat) : Int) := mod_f W hW hw x

/-- One worker's row from place i on, and, where it holds, the rows behind it. -/
theorem row_loop (l : List Int) (W : Nat) (hW : 0 < W) (hW2 : W ≤ 64) (n : Nat) (hn : 0 < n) (hm : l.length ≤ 9223372036854775806) (w k0 : Nat) (b : Bool) (hnext : ∀ k, k0 ≤ k → plunderref10_Fair.l0 k l (W : Int) (n : Int) ((w + 1 : Nat) : Int) = some b) (hw : w < W) (d : Nat) :
    ∀ (i k : Nat), i + d = l.length → d + k0 < k → best W w (l.take i) < n → plunderref10_Fair.l1 k l (W : Int) (n : Int) (w : Int) ((cur W w (l.take i) : Nat) : Int) (i : Int) = some (if best W w l < n then b else false) := by
  induction d with
  | zero =>
    intro i k hi hk hb
    obtain ⟨k, rfl⟩ : ∃ m, k = m + 1 := ⟨k - 1, by omega⟩
    have ht : l.take i = l := List.take_of_length_le (by omega)
    rw [ht] at hb
    simp only [plunderref10_Fair.l1]
    rw [if_neg (by omega), wrap_id (a := (w : Int) + 1) (by unfold In64; omega), if_pos hb]
    exact hnext k (by omega)
  | succ d ih =>
    intro i k hi hk hb
    obtain ⟨k, rfl⟩ : ∃ m, k = m + 1 := ⟨k - 1, by omega⟩
    have hlt : i < l.length := by omega
    have hx : rd l (i : Int) = l[i] := by rw [rd_getD]; simp [List.getD_eq_getElem?_getD, hlt]
    have htk : l.take (i + 1) = l.take i ++ [l[i]] := List.take_succ_eq_append_getElem hlt
    have hbs := best_snoc W w (l.take i) l[i]
    have hcs := cur_snoc W w (l.take i) l[i]
    have hcl := cur_le W w (l.take i)
    rw [← htk] at hbs hcs
    have hlen : (l.take i).length = i := by rw [List.length_take]; omega
    have hfull : best W w (l.take (i + 1)) ≤ best W w l := by
      have := best_mono W w (l.take (i + 1)) (l.drop (i + 1))
      rwa [List.take_append_drop] at this
    simp only [plunderref10_Fair.l1]
    rw [if_pos (by omega), if_pos (by omega), hx, refmod_f W hW hW2, Option.bind_some, wrap_id (a := (i : Int) + 1) (by unfold In64; omega)]
    by_cases e : who W l[i] = w
    · rw [if_pos (by omega), if_neg (by omega)]
      rw [if_pos e] at hcs
      have := ih (i + 1) k (by omega) (by omega) (by omega)
      rw [hcs] at this
      exact this
    · rw [if_neg (by omega), wrap_id (a := ((cur W w (l.take i) : Nat) : Int) + 1) (by unfold In64; omega)]
      rw [if_neg e] at hcs
      by_cases e2 : n ≤ cur W w (l.take i) + 1
      · rw [if_pos (by omega), if_neg (by omega)]
      · rw [if_neg (by omega)]
        have := ih (i + 1) k (by omega) (by omega) (by omega)
        rw [hcs] at this
        exact this

/-- All rows from worker w on. -/
theorem rows_loop (l : List Int) (W : Nat) (hW : 0 < W) (hW2 : W ≤ 64) (n : Nat) (hn : 0 < n) (hm : l.length ≤ 9223372036854775806) (d : Nat) :
    ∀ (w : Nat), w + d = W → ∃ b, (∀ k, (d + 1) * (l.length + 3) ≤ k → plunderref10_Fair.l0 k l (W : Int) (n : Int) (w : Int) = some b) ∧ (b = true ↔ ∀ v, w ≤ v → v < W → best W v l < n) := by
  induction d with
  | zero =>
    intro w hw
    refine ⟨true, fun k hk => ?_, by simp; intro v h1 h2; omega⟩
    obtain ⟨k, rfl⟩ : ∃ m, k = m + 1 := ⟨k - 1, by omega⟩
    simp only [plunderref10_Fair.l0]
    rw [if_neg (by omega)]
  | succ d ih =>
    intro w hw
    obtain ⟨b, hb, hb2⟩ := ih (w + 1) (by omega)
    refine ⟨if best W w l < n then b else false, fun k hk => ?_, ?_⟩
    · obtain ⟨k, rfl⟩ : ∃ m, k = m + 1 := ⟨k - 1, by have : (d + 1 + 1) * (l.length + 3) = (d + 1) * (l.length + 3) + (l.length + 3) := by rw [Nat.add_mul, Nat.one_mul]
                                                     omega⟩
      have e : (d + 1 + 1) * (l.length + 3) = (d + 1) * (l.length + 3) + (l.length + 3) := by rw [Nat.add_mul, Nat.one_mul]
      simp only [plunderref10_Fair.l0]
      rw [if_pos (by omega)]
      have := row_loop l W hW hW2 n hn hm w ((d + 1) * (l.length + 3)) b hb (by omega) l.length 0 k (by omega) (by omega) (by simp [best_nil]; omega)
      simpa [cur] using this
    · by_cases e : best W w l < n
      · rw [if_pos e, hb2]
        constructor
        · intro h v h1 h2
          by_cases e2 : v = w
          · subst e2; exact e
          · exact h v (by omega) h2
        · intro h v h1 h2; exact h v (by omega) h2
      · rw [if_neg e]
        constructor
        · intro h; cases h
        · intro h; exact absurd (h w (Nat.le_refl _) (by omega)) e

/-- The right answer of Fair. -/
def fairB (l : List Int) (a n : Int) : Bool := decide (1 ≤ a ∧ a ≤ 64 ∧ 1 ≤ n ∧ ∀ w, w < a.toNat → best a.toNat w l < n.toNat)

theorem good_f (a : Int) : plunderref10_good.f a = some (decide (1 ≤ a ∧ a ≤ 64)) := by
  unfold plunderref10_good.f
  by_cases h : 1 ≤ a
  · rw [if_pos h]; simp [h]
  · rw [if_neg h]; simp [h]
theorem goodWorkers_f (a : Int) : script_goodWorkers.f a = some (decide (1 ≤ a ∧ a ≤ 64)) := by
  unfold script_goodWorkers.f
  by_cases h : 1 ≤ a
  · rw [if_pos h]; simp [h]
  · rw [if_neg h]; simp [h]

theorem refFair_f (l : List Int) (a n : Int) (hm : l.length ≤ 9223372036854775806) (k : Nat) (hk : 66 * (l.length + 3) ≤ k) : plunderref10_Fair.f k l a n = some (fairB l a n) := by
  obtain ⟨k, rfl⟩ : ∃ m, k = m + 1 := ⟨k - 1, by omega⟩
  unfold plunderref10_Fair.f fairB
  rw [good_f, Option.bind_some]
  by_cases h : 1 ≤ a ∧ a ≤ 64
  · obtain ⟨W, rfl⟩ : ∃ W : Nat, a = W := ⟨a.toNat, by omega⟩
    rw [if_pos (by simpa using h)]
    simp only [plunderref10_Fair.j0, Int.toNat_natCast]
    by_cases h2 : n < 1
    · rw [if_pos (by simpa using h2)]; congr 1; symm; simp; omega
    · rw [if_neg (by simpa using h2)]
      obtain ⟨m, rfl⟩ : ∃ m : Nat, n = m := ⟨n.toNat, by omega⟩
      by_cases h3 : (m : Int) > (l.length : Int)
      · rw [if_pos h3]; congr 1; symm
        simp only [decide_eq_true_eq, Int.toNat_natCast]
        exact ⟨h.1, h.2, by omega, fun w hw => by have := best_le W w l; omega⟩
      · rw [if_neg h3]
        obtain ⟨b, hb, hb2⟩ := rows_loop l W (by omega) (by omega) m (by omega) hm W 0 (by omega)
        have hk2 : (W + 1) * (l.length + 3) ≤ k := by
          have : (W + 1) * (l.length + 3) ≤ 65 * (l.length + 3) := Nat.mul_le_mul_right _ (by omega)
          omega
        rw [show (0 : Int) = ((0 : Nat) : Int) from rfl, hb k hk2]
        congr 1
        rw [Bool.eq_iff_iff, hb2]
        simp only [decide_eq_true_eq, Int.toNat_natCast]
        constructor
        · intro h4; exact ⟨h.1, h.2, by omega, fun w hw => h4 w (by omega) hw⟩
        · intro h4 v _ hv; exact h4.2.2.2 v hv
  · rw [if_neg (by simpa using h)]
    simp only [plunderref10_Fair.j0]
    rw [if_pos trivial]; congr 1; symm; simp; omega

theorem scriptFair_f (l : List Int) (a n : Int) (hm : l.length ≤ 9223372036854775806) (k : Nat) (hk : l.length + 66 < k) : script_Fair.f k l a n = some (fairB l a n) := by
  unfold script_Fair.f fairB
  rw [goodWorkers_f, Option.bind_some]
  by_cases h : 1 ≤ a ∧ a ≤ 64
  · obtain ⟨W, rfl⟩ : ∃ W : Nat, a = W := ⟨a.toNat, by omega⟩
    rw [if_pos (by simpa using h)]
    by_cases h2 : n ≥ 1
    · rw [if_pos h2]
      obtain ⟨m, rfl⟩ : ∃ m : Nat, n = m := ⟨n.toNat, by omega⟩
      obtain ⟨G, hG, hI⟩ := gap_f l W (by omega) (by omega) hm k hk
      rw [hG, Option.bind_some]
      congr 1
      have := hI.lt (n := m) (by omega)
      rw [Bool.eq_iff_iff]
      simp only [decide_eq_true_eq, Int.toNat_natCast]
      constructor
      · intro h4; exact ⟨h.1, h.2, by omega, this.1 (by omega)⟩
      · intro h4; have := this.2 h4.2.2.2; omega
    · rw [if_neg h2]; congr 1; symm; simp; omega
  · rw [if_neg (by simpa using h)]
    congr 1; symm; simp; omega

/-- The document's search for the window. -/
theorem window_loop (l : List Int) (W : Nat) (hW : 0 < W) (hW2 : W ≤ 64) (G : Nat) (hI : IsGap W l G) (hm : l.length ≤ 9223372036854775806) (d : Nat) :
    ∀ (lo hi k : Nat), hi - lo ≤ d + 1 → lo < hi → lo ≤ G → G < hi → hi ≤ l.length → 66 * (l.length + 3) + d < k → plunderref10_Window.l0 k l (W : Int) (lo : Int) (hi : Int) = some ((G + 1 : Nat) : Int) := by
  induction d with
  | zero =>
    intro lo hi k h1 h2 h3 h4 h5 hk
    obtain ⟨k, rfl⟩ : ∃ m, k = m + 1 := ⟨k - 1, by omega⟩
    simp only [plunderref10_Window.l0]
    rw [wrap_id (a := (hi : Int) - (lo : Int)) (by unfold In64; omega), if_neg (by omega)]
    congr 1; omega
  | succ d ih =>
    intro lo hi k h1 h2 h3 h4 h5 hk
    obtain ⟨k, rfl⟩ : ∃ m, k = m + 1 := ⟨k - 1, by omega⟩
    simp only [plunderref10_Window.l0]
    rw [wrap_id (a := (hi : Int) - (lo : Int)) (by unfold In64; omega)]
    by_cases e : (hi : Int) - (lo : Int) > 1
    · have e2 : wrap64 ((lo : Int) + wrap64 (Int.tdiv ((hi : Int) - (lo : Int)) 2)) = ((lo + (hi - lo) / 2 : Nat) : Int) := by
        rw [Int.tdiv_eq_ediv_of_nonneg (by omega), wrap_id (a := ((hi : Int) - (lo : Int)) / 2) (by unfold In64; omega), wrap_id (by unfold In64; omega)]
        omega
      rw [if_pos e, e2, refFair_f l _ _ hm k (by omega), Option.bind_some]
      generalize hmid : lo + (hi - lo) / 2 = mid
      have hm1 : lo < mid := by omega
      have hm2 : mid < hi := by omega
      have hlt := hI.lt (n := mid) (by omega)
      by_cases hf : fairB l (W : Int) (mid : Int) = true
      · rw [if_pos hf]
        unfold fairB at hf
        simp only [decide_eq_true_eq, Int.toNat_natCast] at hf
        exact ih lo mid k (by omega) (by omega) h3 (hlt.2 hf.2.2.2) (by omega) (by omega)
      · rw [if_neg hf]
        have : ¬ G < mid := by
          intro hg
          apply hf
          unfold fairB
          simp only [decide_eq_true_eq, Int.toNat_natCast]
          exact ⟨by omega, by omega, by omega, hlt.1 hg⟩
        exact ih mid hi k (by omega) (by omega) (by omega) h4 h5 (by omega)
    · rw [if_neg e]; congr 1; omega


theorem window_same (l : List Int) (a : Int) (hm : l.length ≤ 9223372036854775806) (k1 k2 : Nat) (hk1 : l.length + 66 < k1) (hk2 : 67 * (l.length + 3) + 2 ≤ k2) : ∃ z, In64 z ∧ script_Window.f k1 l a = some z ∧ plunderref10_Window.f k2 l a = some z := by
  obtain ⟨k2, rfl⟩ : ∃ m, k2 = m + 1 := ⟨k2 - 1, by omega⟩
  unfold script_Window.f plunderref10_Window.f
  rw [goodWorkers_f, Option.bind_some, refFair_f l a _ hm (k2 + 1) (by omega), Option.bind_some]
  simp only [plunderref10_Window.j0]
  by_cases h : 1 ≤ a ∧ a ≤ 64
  · obtain ⟨W, rfl⟩ : ∃ W : Nat, a = W := ⟨a.toNat, by omega⟩
    rw [if_pos (by simpa using h)]
    obtain ⟨G, hG, hI⟩ := gap_f l W (by omega) (by omega) hm k1 hk1
    have hle := hI.le
    rw [hG, Option.bind_some, wrap_id (a := (G : Int) + 1) (by unfold In64; omega)]
    by_cases h0 : (l.length : Int) = 0
    · rw [if_pos h0, if_neg (by omega), if_pos trivial]
      exact ⟨0, by unfold In64; omega, rfl, rfl⟩
    · rw [if_neg h0]
      have hlt := hI.lt (n := l.length) (by omega)
      by_cases h2 : G < l.length
      · have hf : fairB l (W : Int) (l.length : Int) = true := by
          unfold fairB
          simp only [decide_eq_true_eq, Int.toNat_natCast]
          exact ⟨by omega, by omega, by omega, hlt.1 h2⟩
        rw [if_pos (by omega), hf, if_neg (by simp)]
        have := window_loop l W (by omega) (by omega) G hI hm l.length 0 l.length k2 (by omega) (by omega) (by omega) h2 (Nat.le_refl _) (by omega)
        refine ⟨(G : Int) + 1, by unfold In64; omega, rfl, ?_⟩
        rw [show (0 : Int) = ((0 : Nat) : Int) from rfl, this]
        congr 1
      · have hf : fairB l (W : Int) (l.length : Int) = false := by
          rw [Bool.eq_false_iff]
          intro hf
          unfold fairB at hf
          simp only [decide_eq_true_eq, Int.toNat_natCast] at hf
          exact h2 (hlt.2 hf.2.2.2)
        rw [if_neg (by omega), hf, if_pos (by simp)]
        exact ⟨0, by unfold In64; omega, rfl, rfl⟩
  · have hf : fairB l a (l.length : Int) = false := by unfold fairB; simp; omega
    rw [hf]
    refine ⟨0, by unfold In64; omega, by rw [if_neg (by simpa using h)], ?_⟩
    simp
end Go.Proofs.Ytjlbimnafbngaaa.FairPure
