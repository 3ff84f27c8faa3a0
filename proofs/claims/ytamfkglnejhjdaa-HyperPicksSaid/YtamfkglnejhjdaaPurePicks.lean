/- The law HyperPicks is true: other picks, the same puts, as many views and the same looks. -/
import Derived.Test.YtamfkglnejhjdaaHPlay
import Derived.Test.YtamfkglnejhjdaaPlayCalm
import Derived.Test.YtamfkglnejhjdaaPlaySim
import Derived.Test.YtamfkglnejhjdaaLawPicks
namespace Go.Proofs.Ytamfkglnejhjdaa.HLaw
open Go.RowKit Go.Proofs.YtamfkglnejhjdaaW.PrintWords Go.Proofs.Ytamfkglnejhjdaa.BitMath Go.Proofs.Ytamfkglnejhjdaa.PHyperSerial Go.Proofs.Ytamfkglnejhjdaa.Play Go.Proofs.Ytamfkglnejhjdaa.Base Go.Proofs.Ytamfkglnejhjdaa.Kinds
open Go.Proofs.Ytamfkglnejhjdaa.PlayState (hyper_Play.f playF play_first play_inv mS)
open Go.Proofs.Ytamfkglnejhjdaa.Refuse (refF refF_cases)
set_option linter.unusedVariables false
theorem rl_rows (b : List Bool) (ds : List (Int × Int)) : ∀ (t : Nat) (s : St (List Int)) (L : List Int), Play.Inv s L → right s.up.length ds = true → ∀ x, x ∈ rl b t ds s → x.length ≤ L.length + ds.length := by
  induction ds with
  | nil => intro t s L h hr x hx; cases hx
  | cons d ds ih =>
    intro t s L h hr x hx
    have hd : d.1 = 1 → s.up ≠ [] := fun h1 e => by
      rw [e] at hr
      simp [right, h1] at hr
    have hs := h.step b t d hd
    have hr' : right (Play.step red b t d s).up.length ds = true := by
      rw [step_up]
      simp only [right] at hr
      by_cases h0 : d.1 = 0
      · rw [if_pos h0] at hr ⊢; exact hr
      · rw [if_neg h0] at hr ⊢
        by_cases h1 : d.1 = 1
        · rw [if_pos h1] at hr ⊢
          cases hu : s.up.length with
          | zero => rw [hu] at hr; simp at hr
          | succ m => rw [hu] at hr; simpa using hr
        · rw [if_neg h1] at hr ⊢
          split at hr
          · exact hr
          · exact absurd hr (by simp)
    simp only [rl] at hx
    rcases List.mem_append.1 hx with h5 | h5
    · split at h5
      · rw [List.mem_singleton] at h5
        have := (hand_suffix h).1
        rw [h5]
        omega
      · cases h5
    · have h6 := ih (t + 1) _ _ hs hr' x h5
      have h7 : (puts [d]).length ≤ 1 := puts_le' [d]
      rw [List.length_append] at h6
      rw [List.length_cons]
      omega
theorem looks_same (K : List (List Int)) (hK : K.length ≤ 4096) (hx : ∀ x, x ∈ K → x.length ≤ 4096) (d : Nat) : ∀ (i k : Nat), i + d = K.length → 5000 + d < k → plunderlaw23_sameLooks.l0 k K K (i : Int) = some true := by
  induction d with
  | zero =>
    intro i k hd hk
    obtain ⟨k, rfl⟩ : ∃ m, k = m + 1 := ⟨k - 1, by omega⟩
    simp only [plunderlaw23_sameLooks.l0]
    rw [if_neg (by omega)]
  | succ d ih =>
    intro i k hd hk
    obtain ⟨k, rfl⟩ : ∃ m, k = m + 1 := ⟨k - 1, by omega⟩
    have hil : i < K.length := by omega
    have hrk : rd_L4 K (i : Int) = K[i] := by unfold rd_L4; rw [Int.toNat_natCast, List.getD_eq_getElem?_getD, List.getElem?_eq_getElem hil]; rfl
    have h1 := hx K[i] (List.getElem_mem hil)
    simp only [plunderlaw23_sameLooks.l0]
    rw [if_pos (by omega), if_pos (by omega), if_pos (by omega), hrk, sameInts_f _ _ rfl (by omega) k (by omega), Option.bind_some, if_pos rfl, wrap_id (by unfold In64; omega)]
    have := ih (i + 1) k (by omega) (by omega)
    rw [show ((i + 1 : Nat) : Int) = (i : Int) + 1 by omega] at this
    exact this
theorem looks_same_f (K : List (List Int)) (hK : K.length ≤ 4096) (hx : ∀ x, x ∈ K → x.length ≤ 4096) (k : Nat) (hk : 10000 ≤ k) : plunderlaw23_sameLooks.f k K K = some true := by
  unfold plunderlaw23_sameLooks.f
  rw [if_pos rfl]
  exact looks_same K hK hx K.length 0 k (by omega) (by omega)
theorem picks_law (a : List S46) (b : List Bool) (c p : List Int) : ∃ k, pPicks.f k a b c p = some true := by
  refine ⟨40000, ?_⟩
  unfold pPicks.f hyper_Play.f
  rw [Option.bind_some, right_f a b c 40000 (by omega)]
  by_cases hp : p.length > 1048576
  · rw [if_pos (by omega), Option.bind_some]
    cases hok : okG a b c with
    | false =>
      obtain ⟨e, hn⟩ := playF_no hok
      rw [e]
      simp [hn]
    | true => rw [playF_ok hok]; rfl
  · rw [if_neg (by omega), Option.bind_some, Option.bind_some]
    cases hok : okG a b c with
    | false =>
      obtain ⟨e, hn⟩ := playF_no hok
      rw [e]
      rw [if_neg (by decide), if_neg hn]
      cases hok2 : okG a b p with
      | false =>
        obtain ⟨e2, hn2⟩ := playF_no hok2
        rw [e2]
        rw [if_neg hn2]
      | true =>
        rw [playF_ok hok2]
        rw [if_pos rfl]
        obtain ⟨h1, h2, h3, h4⟩ := okG_iff.1 hok2
        have : ¬ c.length ≤ 1048576 := fun h => by
          have := okG_iff.2 ⟨h1, h2, h, h4⟩
          rw [hok] at this
          cases this
        rw [decide_eq_true (by omega)]
    | true =>
      obtain ⟨h1, h2, h3, h4⟩ := okG_iff.1 hok
      have hok2 : okG a b p = true := okG_iff.2 ⟨h1, h2, by omega, h4⟩
      rw [playF_ok hok, playF_ok hok2]
      dsimp only
      have hs := play_sim b c p (a.map dd) h4
      have hpl := puts_le' (a.map dd)
      rw [List.length_map] at hpl
      have hl := rl_le b (a.map dd) 0 (Play.start red c)
      rw [List.length_map] at hl
      have hrows := rl_rows b (a.map dd) 0 (Play.start red c) [] (Inv.start c) h4
      rw [List.length_map, List.length_nil] at hrows
      have hpu := puts_f a h1 a.length (Nat.le_refl _) 40000 (by omega)
      rw [List.take_length] at hpu
      rw [if_pos rfl, if_pos rfl, if_pos rfl, sameInts_f _ _ rfl (by omega) 40000 (by omega), Option.bind_some, if_pos rfl, hs.vlen, if_pos rfl, hs.looks, play_looks,
        looks_same_f _ (by omega) (fun x hx => by have := hrows x hx; omega) 40000 (by omega), Option.bind_some, if_pos rfl, hpu, Option.bind_some, sameInts_f _ _ rfl (by omega) 40000 (by omega), Option.bind_some]
end Go.Proofs.Ytamfkglnejhjdaa.HLaw
