/- Two answers of Play that are the same are told to be the same. -/
import Derived.Test.YtamfkglnejhjdaaHPlay
import Derived.Test.YtamfkglnejhjdaaPlayCalm
import Derived.Test.YtamfkglnejhjdaaLawSameViews
namespace Go.Proofs.Ytamfkglnejhjdaa.HLaw
open Go.RowKit Go.Proofs.YtamfkglnejhjdaaW.PrintWords Go.Proofs.Ytamfkglnejhjdaa.BitMath Go.Proofs.Ytamfkglnejhjdaa.PHyperSerial Go.Proofs.Ytamfkglnejhjdaa.Play Go.Proofs.Ytamfkglnejhjdaa.Base Go.Proofs.Ytamfkglnejhjdaa.Kinds
open Go.Proofs.Ytamfkglnejhjdaa.PlayState (playF play_first play_inv mS)
set_option linter.unusedVariables false
theorem madeC_le (b : List Bool) (ds : List (Int × Int)) : ∀ (c : Nat) (o : List Nat), madeC b c o ds ≤ ds.length := by
  induction ds with
  | nil => intro c o; exact Nat.le_refl _
  | cons d ds ih =>
    intro c o
    simp only [madeC, List.length_cons]
    split
    · have := ih (c + 1) (c :: o); omega
    · split
      · cases o with
        | nil => have := ih c []; simp only; omega
        | cons k o => have := ih c o; simp only; split <;> omega
      · have := ih c o; omega
theorem rl_rows (b : List Bool) (ds : List (Int × Int)) : ∀ (t : Nat) (s : St (List Int)) (L : List Int), Play.Inv s L → right s.up.length ds = true → ∀ x, x ∈ rl b t ds s → x.length ≤ L.length + ds.length := by
  induction ds with
  | nil => intro t s L h hr x hx; cases hx
  | cons d ds ih =>
    intro t s L h hr x hx
    have hd : d.1 = 1 → s.up ≠ [] := fun h1 e => by
      rw [e] at hr
      simp [right, h1] at hr
    have hs := h.step b t d hd
    have hr' : right (Play.step red b t d s).up.length ds = true := by
      rw [step_up]
      simp only [right] at hr
      by_cases h0 : d.1 = 0
      · rw [if_pos h0] at hr ⊢; exact hr
      · rw [if_neg h0] at hr ⊢
        by_cases h1 : d.1 = 1
        · rw [if_pos h1] at hr ⊢
          cases hu : s.up.length with
          | zero => rw [hu] at hr; simp at hr
          | succ m => rw [hu] at hr; simpa using hr
        · rw [if_neg h1] at hr ⊢
          split at hr
          · exact hr
          · exact absurd hr (by simp)
    simp only [rl] at hx
    rcases List.mem_append.1 hx with h5 | h5
    · split at h5
      · rw [List.mem_singleton] at h5
        have := (hand_suffix h).1
        rw [h5]
        omega
      · cases h5
    · have h6 := ih (t + 1) _ _ hs hr' x h5
      have h7 : (puts [d]).length ≤ 1 := puts_le' [d]
      rw [List.length_append] at h6
      rw [List.length_cons]
      omega
theorem looks_same (K : List (List Int)) (hK : K.length ≤ 4096) (hx : ∀ x, x ∈ K → x.length ≤ 4096) (d : Nat) : ∀ (i k : Nat), i + d = K.length → 5000 + d < k → plunderlaw23_sameLooks.l0 k K K (i : Int) = some true := by
  induction d with
  | zero =>
    intro i k hd hk
    obtain ⟨k, rfl⟩ : ∃ m, k = m + 1 := ⟨k - 1, by omega⟩
    simp only [plunderlaw23_sameLooks.l0]
    rw [if_neg (by omega)]
  | succ d ih =>
    intro i k hd hk
    obtain ⟨k, rfl⟩ : ∃ m, k = m + 1 := ⟨k - 1, by omega⟩
    have hil : i < K.length := by omega
    have hrk : rd_L4 K (i : Int) = K[i] := by unfold rd_L4; rw [Int.toNat_natCast, List.getD_eq_getElem?_getD, List.getElem?_eq_getElem hil]; rfl
    have h1 := hx K[i] (List.getElem_mem hil)
    simp only [plunderlaw23_sameLooks.l0]
    rw [if_pos (by omega), if_pos (by omega), if_pos (by omega), hrk, sameInts_f _ _ rfl (by omega) k (by omega), Option.bind_some, if_pos rfl, wrap_id (by unfold In64; omega)]
    have := ih (i + 1) k (by omega) (by omega)
    rw [show ((i + 1 : Nat) : Int) = (i : Int) + 1 by omega] at this
    exact this
theorem looks_same_f (K : List (List Int)) (hK : K.length ≤ 4096) (hx : ∀ x, x ∈ K → x.length ≤ 4096) (k : Nat) (hk : 10000 ≤ k) : plunderlaw23_sameLooks.f k K K = some true := by
  unfold plunderlaw23_sameLooks.f
  rw [if_pos rfl]
  exact looks_same K hK hx K.length 0 k (by omega) (by omega)
theorem merges_same (M : List S44) (hM : M.length ≤ 9000000) (d : Nat) : ∀ (i k : Nat), i + d = M.length → d < k → plunderlaw23_sameMerges.l0 k M M (i : Int) = some true := by
  induction d with
  | zero =>
    intro i k hd hk
    obtain ⟨k, rfl⟩ : ∃ m, k = m + 1 := ⟨k - 1, by omega⟩
    simp only [plunderlaw23_sameMerges.l0]
    rw [if_neg (by omega)]
  | succ d ih =>
    intro i k hd hk
    obtain ⟨k, rfl⟩ : ∃ m, k = m + 1 := ⟨k - 1, by omega⟩
    simp only [plunderlaw23_sameMerges.l0]
    rw [if_pos (by omega), if_pos (by omega), if_pos (by omega), if_neg (by simp), wrap_id (by unfold In64; omega)]
    have := ih (i + 1) k (by omega) (by omega)
    rw [show ((i + 1 : Nat) : Int) = (i : Int) + 1 by omega] at this
    exact this
theorem merges_same_f (M : List S44) (hM : M.length ≤ 9000000) (k : Nat) (hk : M.length < k) : plunderlaw23_sameMerges.f k M M = some true := by
  unfold plunderlaw23_sameMerges.f
  rw [if_pos rfl]
  exact merges_same M hM M.length 0 k (by omega) hk
theorem views_same (r1 : List Int) (r2 : Int) (r3 : List S44) (r4 : List (List Int)) (h1 : r1.length ≤ 4096) (h3 : r3.length ≤ 4097) (h4 : r4.length ≤ 4096) (hx : ∀ x, x ∈ r4 → x.length ≤ 4096) : plunderlaw23_sameViews.f 40000 r1 r2 r3 r4 r1 r2 r3 r4 = some true := by
  unfold plunderlaw23_sameViews.f
  rw [sameInts_f _ _ rfl (by omega) 40000 (by omega), Option.bind_some, if_pos rfl, if_pos rfl, merges_same_f _ (by omega) 40000 (by omega), Option.bind_some, if_pos rfl, looks_same_f _ h4 hx 40000 (by omega), Option.bind_some]
theorem play_same (a : List S46) (b : List Bool) (c : List Int) : plunderlaw23_sameViews.f 40000 (playF a b c).1 (playF a b c).2.1 (playF a b c).2.2.1 (playF a b c).2.2.2.1 (playF a b c).1 (playF a b c).2.1 (playF a b c).2.2.1 (playF a b c).2.2.2.1 = some true := by
  cases hok : okG a b c with
  | false =>
    rw [(playF_no hok).1]
    exact views_same _ _ _ _ (by simp) (by simp) (by simp) (by simp)
  | true =>
    obtain ⟨h1, h2, h3, h4⟩ := okG_iff.1 hok
    rw [playF_ok hok]
    have hpl := puts_le' (a.map dd)
    rw [List.length_map] at hpl
    have hl := rl_le b (a.map dd) 0 (Play.start red c)
    rw [List.length_map] at hl
    have hrows := rl_rows b (a.map dd) 0 (Play.start red c) [] (Inv.start c) h4
    rw [List.length_map, List.length_nil] at hrows
    have hm := (play_inv (l1 := b) (l2 := c) h4).1.count
    have hv := play_views b c (a.map dd) h4
    have hml := madeC_le b (a.map dd) 0 []
    rw [List.length_map] at hml
    dsimp only
    refine views_same _ _ _ _ (by omega) (by rw [List.length_map]; omega) (by rw [play_looks]; omega) (fun x hx => ?_)
    rw [play_looks] at hx
    have := hrows x hx
    omega
end Go.Proofs.Ytamfkglnejhjdaa.HLaw
