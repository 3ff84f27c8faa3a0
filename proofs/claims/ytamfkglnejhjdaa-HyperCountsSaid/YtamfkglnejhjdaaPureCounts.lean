/- The law HyperCounts is true: how many views there are, which merges there are, in which order. -/
import Derived.Test.YtamfkglnejhjdaaHPlay
import Derived.Test.YtamfkglnejhjdaaPlayMore
import Derived.Test.YtamfkglnejhjdaaLawCounts
namespace Go.Proofs.Ytamfkglnejhjdaa.HLaw
open Go.RowKit Go.Proofs.YtamfkglnejhjdaaW.PrintWords Go.Proofs.Ytamfkglnejhjdaa.BitMath Go.Proofs.Ytamfkglnejhjdaa.PHyperSerial Go.Proofs.Ytamfkglnejhjdaa.Play Go.Proofs.Ytamfkglnejhjdaa.Base Go.Proofs.Ytamfkglnejhjdaa.Kinds
open Go.Proofs.Ytamfkglnejhjdaa.PlayState (hyper_Play.f playF play_first play_inv mS)
open Go.Proofs.Ytamfkglnejhjdaa.Refuse (refF refF_cases)
set_option linter.unusedVariables false
theorem stole_f (l : List S46) (b : List Bool) (c : List Int) (k : Nat) : plunderlaw23_Game_stole.f l b c (k : Int) = some (b.getD k false) := by
  unfold plunderlaw23_Game_stole.f
  rw [if_pos (by omega)]
  by_cases h : k < b.length
  · rw [if_pos (by omega), if_pos (by omega)]
    unfold rdOf
    rw [Int.toNat_natCast]
  · rw [if_neg (by omega), List.getD_eq_getElem?_getD, List.getElem?_eq_none (by omega)]
    rfl
def nums' (o : List Nat) : List Int := o.map (fun i : Nat => (i : Int))
theorem nums'_len (o : List Nat) : (nums' o).length = o.length := by simp [nums']
theorem last_rev (k : Nat) (o : List Nat) : rd (nums' (k :: o).reverse) ((o.length : Nat) : Int) = (k : Int) ∧ (nums' (k :: o).reverse).take o.length = nums' o.reverse := by
  unfold nums' rd
  rw [Int.toNat_natCast, List.reverse_cons, List.map_append]
  constructor
  · rw [List.getD_eq_getElem?_getD, List.getElem?_append_right (by simp)]
    simp
  · exact List.take_left' (by simp)
theorem made_loop (l : List S46) (b : List Bool) (c : List Int) (hm : l.length ≤ 4096) (ds : List S46) : ∀ (n sp : Nat) (o : List Nat) (i k : Nat), l.drop i = ds → o.length ≤ i → sp ≤ i → n ≤ i + 1 → i ≤ l.length → 3 * ds.length + 3 < k →
    plunderlaw23_made.l0 k (n : Int) (sp : Int) (nums' o.reverse) (i : Int) l b c = some ((n + madeC b sp o (ds.map dd) : Nat) : Int) := by
  induction ds with
  | nil =>
    intro n sp o i k hd ho hs hn hi hk
    obtain ⟨k, rfl⟩ : ∃ m, k = m + 1 := ⟨k - 1, by omega⟩
    have := nil_drop hd
    simp only [plunderlaw23_made.l0]
    rw [if_neg (by omega)]; rfl
  | cons d ds ih =>
    intro n sp o i k hd ho hs hn hi hk
    obtain ⟨hr, hl, hd2⟩ := rd_drop hd
    simp only [List.length_cons] at hk
    obtain ⟨k, rfl⟩ : ∃ m, k = m + 3 := ⟨k - 3, by omega⟩
    simp only [plunderlaw23_made.l0, plunderlaw23_made.j1, List.map_cons, madeC, dd]
    rw [if_pos (by omega), if_pos (by omega), hr, wrap_id (a := (sp : Int) + 1) (by unfold In64; omega)]
    by_cases h0 : d.f0 = 0
    · have hlen : (nums' o.reverse).length = o.length := by rw [nums'_len, List.length_reverse]
      rw [if_pos h0, if_pos (by omega), if_pos (by omega), if_pos (by omega), if_neg (by omega), if_pos h0]
      simp only [plunderlaw23_made.j2]
      rw [if_neg (by decide), wrap_id (a := (i : Int) + 1) (by unfold In64; omega), show nums' o.reverse ++ [(sp : Int)] = nums' (sp :: o).reverse by simp [nums']]
      exact ih n (sp + 1) (sp :: o) (i + 1) k hd2 (by simp; omega) (by omega) (by omega) (by omega) (by omega)
    · rw [if_neg h0, if_pos (by omega), if_pos (by omega), if_neg h0]
      by_cases h1 : d.f0 = 1
      · rw [if_pos h1, if_pos h1]
        have hlen : (nums' o.reverse).length = o.length := by rw [nums'_len, List.length_reverse]
        cases o with
        | nil =>
          rw [show decide (((nums' ([] : List Nat).reverse).length : Int) > 0) = false by simp [nums']]
          simp only [plunderlaw23_made.j2]
          rw [if_neg (by decide), wrap_id (a := (i : Int) + 1) (by unfold In64; omega)]
          exact ih n sp [] (i + 1) k hd2 (by simp) (by omega) (by omega) (by omega) (by omega)
        | cons q o =>
          simp only [List.length_cons] at ho hlen
          rw [show decide (((nums' (q :: o).reverse).length : Int) > 0) = true by rw [hlen]; exact decide_eq_true (by omega)]
          simp only [plunderlaw23_made.j2]
          obtain ⟨e1, e2⟩ := last_rev q o
          have e3 : wrap64 (((nums' (q :: o).reverse).length : Int) - 1) = ((o.length : Nat) : Int) := by rw [hlen, wrap_id (by unfold In64; omega)]; omega
          rw [if_pos trivial, e3, if_pos (by omega), if_pos (by omega), e1, stole_f, Option.bind_some, Int.toNat_natCast, e2, wrap_id (a := (i : Int) + 1) (by unfold In64; omega), wrap_id (a := (n : Int) + 1) (by unfold In64; omega)]
          by_cases hb : b.getD q false = true
          · rw [if_pos hb, if_pos (by omega), if_pos hb, show n + (1 + madeC b sp o (ds.map dd)) = (n + 1) + madeC b sp o (ds.map dd) by omega]
            exact ih (n + 1) sp o (i + 1) k hd2 (by omega) (by omega) (by omega) (by omega) (by omega)
          · rw [if_neg hb, if_pos (by omega), if_neg hb, Nat.zero_add]
            exact ih n sp o (i + 1) k hd2 (by omega) (by omega) (by omega) (by omega) (by omega)
      · rw [if_neg h1, if_neg h1]
        simp only [plunderlaw23_made.j2]
        rw [if_neg (by decide), wrap_id (a := (i : Int) + 1) (by unfold In64; omega)]
        exact ih n sp o (i + 1) k hd2 (by omega) (by omega) (by omega) (by omega) (by omega)
theorem made_f (l : List S46) (b : List Bool) (c : List Int) (hm : l.length ≤ 4096) (k : Nat) (hk : 13000 ≤ k) : plunderlaw23_made.f k l b c = some ((1 + madeC b 0 [] (l.map dd) : Nat) : Int) := by
  unfold plunderlaw23_made.f
  have := made_loop l b c hm l 1 0 [] 0 k rfl (by simp) (by omega) (by omega) (by omega) (by omega)
  simpa [nums'] using this
/-- The loop over the merges. -/
theorem counts_loop (l : List S46) (b : List Bool) (c : List Int) (hm : l.length ≤ 4096) (F : List Int) (N : Nat) (hN : N ≤ 5000) (ms : List Mg) (hml : ms.length ≤ 5000) (K : List (List Int)) (hmo : MO (l.map dd) l.length ms) (hbelow : ∀ m, m ∈ ms → m.2.2 < N)
    (rest : List Mg) : ∀ (i : Nat) (x : List Bool) (g : List Nat) (at_ k : Nat), ms.drop i = rest → i ≤ ms.length → x.length = N → (∀ j, j < N → x.getD j false = decide (j ∈ g)) → (∃ g', trail rest g = some g') → (∀ m, m ∈ rest → at_ ≤ m.1) → 2 * rest.length + 1 < k →
    plunderlaw23_HyperCounts.l0 k x (at_ : Int) (i : Int) l b c F (N : Int) (ms.map mS) K = some true := by
  induction rest with
  | nil =>
    intro i x g at_ k hd hi hx hg ht ha hk
    obtain ⟨k, rfl⟩ : ∃ m, k = m + 1 := ⟨k - 1, by omega⟩
    have := List.drop_eq_nil_iff.1 hd
    simp only [plunderlaw23_HyperCounts.l0]
    rw [if_neg (by rw [List.length_map]; omega)]
  | cons m rest ih =>
    intro i x g at_ k hd hi hx hg ht ha hk
    simp only [List.length_cons] at hk
    obtain ⟨k, rfl⟩ : ∃ m, k = m + 2 := ⟨k - 2, by omega⟩
    have hil : i < ms.length := by
      rcases Nat.lt_or_ge i ms.length with h1 | h1
      · exact h1
      · rw [List.drop_eq_nil_of_le h1] at hd; cases hd
    rw [List.drop_eq_getElem_cons hil] at hd
    injection hd with hm0 hd2
    have hrd : rd_T44 (ms.map mS) (i : Int) = mS m := by
      unfold rd_T44
      rw [Int.toNat_natCast, List.getD_eq_getElem?_getD, List.getElem?_map, List.getElem?_eq_getElem hil, hm0]
      rfl
    have hmem : m ∈ ms := by rw [← hm0]; exact List.getElem_mem hil
    obtain ⟨g', ht⟩ := ht
    simp only [trail] at ht
    split at ht
    · rename_i hc
      obtain ⟨c1, c2, c3⟩ := hc
      have hb := hbelow m hmem
      obtain ⟨ho1, ho2⟩ := hmo.2 m hmem
      have hat := ha m (List.mem_cons_self ..)
      have x1 : rdOf false x (m.2.1 : Int) = false := by
        unfold rdOf; rw [Int.toNat_natCast, hg _ (by omega)]; exact decide_eq_false c2
      have x2 : rdOf false x (m.2.2 : Int) = false := by
        unfold rdOf; rw [Int.toNat_natCast, hg _ hb]; exact decide_eq_false c3
      have hnext : plunderlaw23_HyperCounts.l0 k (x.set m.2.2 true) (m.1 : Int) ((i : Int) + 1) l b c F (N : Int) (ms.map mS) K = some true := by
        refine ih (i + 1) (x.set m.2.2 true) (m.2.2 :: g) m.1 k hd2 (by omega) (by rw [List.length_set]; exact hx) (fun j hj => ?_) ⟨g', ht⟩ (fun m' hm' => ?_) (by omega)
        · by_cases e : m.2.2 = j
          · subst e
            rw [List.getD_eq_getElem?_getD, List.getElem?_set_self (by omega)]
            simp
          · rw [Play.getD_set_ne _ _ _ _ _ e, hg j hj]
            simp [Ne.symm e]
        · have hp := hmo.1
          have hs : (m :: rest).Sublist ms := by rw [← hm0, ← hd2, ← List.drop_eq_getElem_cons hil]; exact List.drop_sublist _ _
          exact (List.pairwise_cons.1 (hp.sublist hs)).1 m' hm'
      simp only [plunderlaw23_HyperCounts.l0]
      rw [if_pos (by rw [List.length_map]; omega), if_pos (by omega), hrd]
      rw [show (mS m).f0 = (m.1 : Int) from rfl, show (mS m).f1 = (m.2.1 : Int) from rfl, show (mS m).f2 = (m.2.2 : Int) from rfl]
      rw [if_neg (by omega), if_neg (by omega), if_neg (by omega), if_pos (by omega), if_pos (by omega), x1, if_neg (by decide), if_pos (by omega), if_pos (by omega), x2, if_neg (by decide), if_neg (by omega), decide_eq_false (by omega)]
      simp only [plunderlaw23_HyperCounts.j2]
      rw [if_neg (by decide), Int.toNat_natCast, wrap_id (a := (i : Int) + 1) (by unfold In64; omega)]
      by_cases hlt : m.1 < l.length
      · have hk2 := ho2 (dd l[m.1]) (by rw [List.getElem?_map, List.getElem?_eq_getElem hlt]; rfl)
        have hr46 : rd_T46 l (m.1 : Int) = l[m.1] := by unfold rd_T46; rw [Int.toNat_natCast, List.getD_eq_getElem?_getD, List.getElem?_eq_getElem hlt]; rfl
        rw [if_pos (by omega), if_pos (by omega), hr46]
        by_cases k2 : (l[m.1]).f0 = 2
        · rw [if_pos k2, if_pos (by omega), if_pos (by omega)]
          exact hnext
        · have k1 : (l[m.1]).f0 = 1 := by
            rcases hk2 with h | h
            · exact absurd h k2
            · exact h
          rw [if_neg k2, if_pos k1, if_pos (by omega), if_pos (by omega)]
          exact hnext
      · rw [if_neg (by omega), if_pos (by omega), if_pos (by omega)]
        exact hnext
    · cases ht
theorem madeC_le (b : List Bool) (ds : List (Int × Int)) : ∀ (c : Nat) (o : List Nat), madeC b c o ds ≤ ds.length := by
  induction ds with
  | nil => intro c o; exact Nat.le_refl _
  | cons d ds ih =>
    intro c o
    simp only [madeC, List.length_cons]
    split
    · have := ih (c + 1) (c :: o); omega
    · split
      · cases o with
        | nil => have := ih c []; simp only; omega
        | cons k o => have := ih c o; simp only; split <;> omega
      · have := ih c o; omega
theorem counts_law (a : List S46) (b : List Bool) (c : List Int) : ∃ k, plunderlaw23_HyperCounts.f k a b c = some true := by
  refine ⟨20000, ?_⟩
  unfold plunderlaw23_HyperCounts.f
  rw [right_f a b c 20000 (by omega), Option.bind_some]
  cases hok : okG a b c with
  | false =>
    obtain ⟨e, hn⟩ := playF_no hok
    unfold hyper_Play.f
    rw [if_neg (by decide), e, Option.bind_some]
    simp [hn]
  | true =>
    obtain ⟨h1, h2, h3, h4⟩ := okG_iff.1 hok
    unfold hyper_Play.f
    rw [if_pos rfl, playF_ok hok, Option.bind_some]
    dsimp only
    rw [if_pos rfl, made_f a b c h1 20000 (by omega), Option.bind_some, play_views b c _ h4, if_pos rfl]
    obtain ⟨hi, hu, hc⟩ := play_inv (l1 := b) (l2 := c) h4
    have hcount := hi.count
    rw [hu, hc] at hcount
    have hv := play_views b c _ h4
    have hmc := madeC_le b (a.map dd) 0 []
    rw [List.length_map] at hmc
    have hml : (play red b c (a.map dd)).merges.length = madeC b 0 [] (a.map dd) := by simp [live] at hcount; omega
    rw [show ((((play red b c (a.map dd)).merges.map mS).length : Int) != wrap64 (((1 + madeC b 0 [] (a.map dd) : Nat) : Int) - 1)) = false by
      rw [List.length_map, hml, wrap_id (by unfold In64; omega), bne_eq_false_iff_eq]
      omega]
    obtain ⟨k, hk⟩ : ∃ k, 20000 = k + 1 := ⟨19999, rfl⟩
    rw [hk]
    simp only [plunderlaw23_HyperCounts.j0]
    rw [if_neg (by decide), if_pos (by omega), if_pos (by omega), Int.toNat_natCast]
    obtain ⟨g, hg, _⟩ := hi.gone
    have := counts_loop a b c h1 (puts (a.map dd)) (1 + madeC b 0 [] (a.map dd)) (by omega) (play red b c (a.map dd)).merges (by omega) (play red b c (a.map dd)).looks (by have := play_merges b c _ h4; rw [List.length_map] at this; exact this) (fun m hm => by rw [← hv]; exact hi.below m hm)
      (play red b c (a.map dd)).merges 0 (List.replicate (1 + madeC b 0 [] (a.map dd)) false) [] 0 k rfl (by omega) (by simp) (fun j hj => by simp [List.getD_eq_getElem?_getD, hj]) ⟨g, hg⟩ (fun _ _ => Nat.zero_le _) (by omega)
    exact this
end Go.Proofs.Ytamfkglnejhjdaa.HLaw
