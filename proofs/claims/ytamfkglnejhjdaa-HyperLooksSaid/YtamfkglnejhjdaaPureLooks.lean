/- The law HyperLooks is true: each look is a stretch of the puts that ends there, all of it where it is calm. -/
import Derived.Test.YtamfkglnejhjdaaHPlay
import Derived.Test.YtamfkglnejhjdaaPlayCalm
import Derived.Test.YtamfkglnejhjdaaLawLooks
namespace Go.Proofs.Ytamfkglnejhjdaa.HLaw
open Go.RowKit Go.Proofs.YtamfkglnejhjdaaW.PrintWords Go.Proofs.Ytamfkglnejhjdaa.BitMath Go.Proofs.Ytamfkglnejhjdaa.PHyperSerial Go.Proofs.Ytamfkglnejhjdaa.Play Go.Proofs.Ytamfkglnejhjdaa.Base Go.Proofs.Ytamfkglnejhjdaa.Kinds
open Go.Proofs.Ytamfkglnejhjdaa.PlayState (hyper_Play.f playF play_first play_inv mS)
open Go.Proofs.Ytamfkglnejhjdaa.Refuse (refF refF_cases)
set_option linter.unusedVariables false
theorem stole_f2 (l : List S46) (b : List Bool) (c : List Int) (k : Nat) : plunderlaw23_Game_stole.f l b c (k : Int) = some (b.getD k false) := by
  unfold plunderlaw23_Game_stole.f
  rw [if_pos (by omega)]
  by_cases h : k < b.length
  · rw [if_pos (by omega), if_pos (by omega)]
    unfold rdOf
    rw [Int.toNat_natCast]
  · rw [if_neg (by omega), List.getD_eq_getElem?_getD, List.getElem?_eq_none (by omega)]
    rfl
def ns (o : List Nat) : List Int := o.map (fun i : Nat => (i : Int))
theorem ns_len (o : List Nat) : (ns o).length = o.length := by simp [ns]
theorem ns_rd (o : List Nat) (i : Nat) : rd (ns o) (i : Int) = ((o.getD i 0 : Nat) : Int) := by
  unfold ns rd
  rw [Int.toNat_natCast, List.getD_eq_getElem?_getD, List.getD_eq_getElem?_getD, List.getElem?_map]
  cases o[i]? <;> rfl
/-- Calm: none is out. -/
def calmB (o : List Nat) : Bool := decide (∀ x, x ∈ o → x = 0)
theorem calm_end (o : List Nat) (ho : o.length ≤ 5000) (hv : ∀ x, x ∈ o → x ≤ 5000) (d : Nat) : ∀ (i k : Nat), i + d = o.length → d < k → pCalm.l1 k (ns o) (i : Int) = some (calmB (o.drop i)) := by
  induction d with
  | zero =>
    intro i k hd hk
    obtain ⟨k, rfl⟩ : ∃ m, k = m + 1 := ⟨k - 1, by omega⟩
    simp only [pCalm.l1]
    rw [if_neg (by rw [ns_len]; omega), List.drop_eq_nil_of_le (by omega)]
    simp [calmB]
  | succ d ih =>
    intro i k hd hk
    obtain ⟨k, rfl⟩ : ∃ m, k = m + 1 := ⟨k - 1, by omega⟩
    have hil : i < o.length := by omega
    have hg : o.getD i 0 = o[i] := by rw [List.getD_eq_getElem?_getD, List.getElem?_eq_getElem hil]; rfl
    simp only [pCalm.l1]
    rw [if_pos (by rw [ns_len]; omega), if_pos (by omega), ns_rd, wrap_id (a := (i : Int) + 1) (by unfold In64; omega), hg, List.drop_eq_getElem_cons hil]
    by_cases h0 : o[i] = 0
    · rw [if_neg (by omega)]
      have := ih (i + 1) k (by omega) (by omega)
      rw [show ((i + 1 : Nat) : Int) = (i : Int) + 1 by omega] at this
      rw [this]
      congr 1
      simp [h0, calmB]
    · rw [if_pos (by omega)]
      congr 1
      symm
      unfold calmB
      rw [decide_eq_false_iff_not]
      intro hx
      exact h0 (hx _ (List.mem_cons_self ..))
theorem last_of (k : Nat) (o : List Nat) : rd (ns (k :: o).reverse) ((o.length : Nat) : Int) = (k : Int) ∧ (ns (k :: o).reverse).take o.length = ns o.reverse := by
  unfold ns rd
  rw [Int.toNat_natCast, List.reverse_cons, List.map_append]
  constructor
  · rw [List.getD_eq_getElem?_getD, List.getElem?_append_right (by simp)]
    simp
  · exact List.take_left' (by simp)
theorem ns_take (o : List Nat) (n : Nat) : (ns o).take n = ns (o.take n) := by unfold ns; rw [List.map_take]
theorem ns_set (o : List Nat) (n x : Nat) : (ns o).set n (x : Int) = ns (o.set n x) := by unfold ns; rw [List.map_set]
/-- How great a state is behind i deeds. -/
structure LB (i : Nat) (s : St (List Int)) : Prop where
  spl : s.spawns.length = s.up.length
  up : s.up.length ≤ i
  count : s.count ≤ i
  out : ∀ x, x ∈ outs s → x ≤ i
theorem LB.step {i : Nat} {s : St (List Int)} {L : List Int} (h : LB i s) (hi : Play.Inv s L) (b : List Bool) (t : Nat) (d : Int × Int) (hd : d.1 = 1 → s.up ≠ []) : LB (i + 1) (Play.step red b t d s) := by
  obtain ⟨h1, h2, h3, h4⟩ := h
  have ho := outs_step hi b t d hd
  have key : (Play.step red b t d s).spawns.length = (Play.step red b t d s).up.length ∧ (Play.step red b t d s).count ≤ i + 1 := by
    unfold Play.step
    split
    · exact ⟨h1, by show s.count ≤ _; omega⟩
    · split
      · exact ⟨h1, by show s.count ≤ _; omega⟩
      · split
        · exact ⟨by simp [St.spawn, h1], by show s.count + 1 ≤ _; omega⟩
        · split
          · exact ⟨h1, by show s.count ≤ _; omega⟩
          · split
            · unfold St.back
              split
              · exact ⟨by show s.spawns.tail.length = s.up.tail.length; rw [List.length_tail, List.length_tail, h1], by show s.count ≤ _; omega⟩
              · exact ⟨by show s.spawns.tail.length = s.up.tail.length; rw [List.length_tail, List.length_tail, h1], by show s.count ≤ _; omega⟩
            · exact ⟨h1, by omega⟩
  refine ⟨key.1, ?_, key.2, fun x hx => ?_⟩
  · rw [step_up]
    split
    · omega
    · split <;> omega
  · rw [ho] at hx
    have hset : ∀ (l : List Nat) (n y : Nat), (∀ z, z ∈ l → z ≤ i) → y ≤ i + 1 → x ∈ l.set n y → x ≤ i + 1 := fun l n y hl hy hm => by
      rcases List.mem_or_eq_of_mem_set hm with h5 | h5
      · have := hl x h5; omega
      · omega
    have htk : ∀ n z, z ∈ (outs s).take n → z ≤ i := fun n z hz => h4 z (List.mem_of_mem_take hz)
    split at hx
    · rcases List.mem_append.1 hx with h5 | h5
      · have := h4 x h5; omega
      · rw [List.mem_singleton] at h5; omega
    · split at hx
      · exact hset _ _ _ h4 (by omega) hx
      · split at hx
        · split at hx
          · refine hset _ _ _ (htk _) ?_ hx
            have : ((outs s).take s.up.length).getD (s.up.length - 1) 0 ≤ i := by
              rw [List.getD_eq_getElem?_getD]
              cases hq : ((outs s).take s.up.length)[s.up.length - 1]? with
              | none => simp
              | some z => exact htk _ _ (List.mem_iff_getElem?.2 ⟨_, hq⟩)
            omega
          · have := htk _ _ hx; omega
        · have := h4 x hx; omega
theorem LB.start (ps : List Int) : LB 0 (Play.start red ps) := ⟨rfl, Nat.le_refl _, Nat.le_refl _, by simp [outs, Play.start]⟩
theorem right_next {l : List S46} {i : Nat} {s : St (List Int)} (b : List Bool) {d : S46} {ds : List S46} (hd : l.drop i = d :: ds) (hr : right s.up.length ((l.drop i).map dd) = true) :
    (d.f0 = 0 ∨ d.f0 = 1 ∨ d.f0 = 2 ∨ d.f0 = 3 ∨ d.f0 = 4) ∧ (d.f0 = 1 → s.up ≠ []) ∧ right (Play.step red b i (dd d) s).up.length (ds.map dd) = true := by
  rw [hd, List.map_cons] at hr
  unfold right at hr
  rw [step_up]
  rw [show (dd d).1 = d.f0 from rfl] at hr ⊢
  by_cases h0 : d.f0 = 0
  · rw [if_pos h0] at hr ⊢; exact ⟨.inl h0, fun e => by omega, hr⟩
  · rw [if_neg h0] at hr ⊢
    by_cases h1 : d.f0 = 1
    · rw [if_pos h1] at hr ⊢
      cases hu : s.up.length with
      | zero => rw [hu] at hr; simp at hr
      | succ m => rw [hu] at hr; exact ⟨.inr (.inl h1), fun _ => List.ne_nil_of_length_pos (by omega), by simpa using hr⟩
    · rw [if_neg h1] at hr ⊢
      split at hr
      · rename_i h2; exact ⟨.inr (.inr h2), fun e => absurd e h1, hr⟩
      · exact absurd hr (by simp)
theorem calm_loop (l : List S46) (b : List Bool) (c : List Int) (hm : l.length ≤ 4096) (m : Nat) (hml : m ≤ l.length) (e : Nat) : ∀ (i k : Nat) (s : St (List Int)) (L : List Int), i + e = m → Play.Inv s L → LB i s → right s.up.length ((l.drop i).map dd) = true → 2 * e + 5000 < k →
    pCalm.l0 k (m : Int) (ns (outs s)) (ns s.spawns.reverse) (s.count : Int) (i : Int) l b c = some (calmB (outs (run red b i (((l.take m).drop i).map dd) s))) := by
  induction e with
  | zero =>
    intro i k s L hie hi hB hr hk
    obtain ⟨k, rfl⟩ : ∃ m, k = m + 2 := ⟨k - 2, by omega⟩
    simp only [pCalm.l0, pCalm.j1]
    rw [if_neg (by omega), if_neg (by decide), List.drop_eq_nil_of_le (by rw [List.length_take]; omega)]
    have hup := hB.up
    have := calm_end (outs s) (by rw [outs_len]; omega) (fun x hx => by have := hB.out x hx; omega) (outs s).length 0 k (by omega) (by rw [outs_len]; omega)
    exact this
  | succ e ih =>
    intro i k s L hie hi hB hr hk
    obtain ⟨k, rfl⟩ : ∃ m, k = m + 2 := ⟨k - 2, by omega⟩
    have hil : i < l.length := by omega
    have hdr : l.drop i = l[i] :: l.drop (i + 1) := List.drop_eq_getElem_cons hil
    have hrd : rd_T46 l (i : Int) = l[i] := by unfold rd_T46; rw [Int.toNat_natCast, List.getD_eq_getElem?_getD, List.getElem?_eq_getElem hil]; rfl
    have hdt : (l.take m).drop i = l[i] :: (l.take m).drop (i + 1) := by
      rw [List.drop_eq_getElem_cons (by rw [List.length_take]; omega), List.getElem_take]
    obtain ⟨hkd, hup1, hrn⟩ := right_next b hdr hr
    have hnext := ih (i + 1) k (Play.step red b i (dd l[i]) s) _ (by omega) (hi.step b i (dd l[i]) hup1) (hB.step hi b i (dd l[i]) hup1) hrn (by omega)
    have ho := outs_step hi b i (dd l[i]) hup1
    have holen := outs_len s
    have hup := hB.up
    have hcn := hB.count
    have hspl := hB.spl
    suffices hgo : pCalm.l0 (k + 2) (m : Int) (ns (outs s)) (ns s.spawns.reverse) (s.count : Int) (i : Int) l b c = some (calmB (outs (run red b (i + 1) (((l.take m).drop (i + 1)).map dd) (Play.step red b i (dd l[i]) s)))) by
      rw [hgo, hdt, List.map_cons, run]
    simp only [pCalm.l0, pCalm.j1]
    rw [if_pos (by omega), decide_eq_true (by omega), if_pos (rfl : true = true), if_pos (by omega), if_pos (by omega), hrd, wrap_id (a := (i : Int) + 1) (by unfold In64; omega)]
    have hi1 : ((i + 1 : Nat) : Int) = (i : Int) + 1 := by omega
    rw [hi1] at hnext
    by_cases h0 : (l[i]).f0 = 0
    · rw [if_pos h0, if_pos (by rw [ns_len, holen]; omega), if_pos (by rw [ns_len, List.length_reverse]; omega), wrap_id (a := (s.count : Int) + 1) (by unfold In64; omega)]
      have es : Play.step red b i (dd l[i]) s = s.spawn := by
        unfold Play.step dd
        rw [if_neg (by show ¬ (l[i]).f0 = 4; omega), if_neg (by show ¬ (l[i]).f0 = 3; omega), if_pos h0]
      rw [ho, show (dd l[i]).1 = 0 from h0, if_pos rfl] at hnext
      rw [es] at hnext ⊢
      rw [show ns (outs s) ++ [0] = ns (outs s ++ [0]) by simp [ns], show ns s.spawns.reverse ++ [(s.count : Int)] = ns s.spawn.spawns.reverse by simp [ns, St.spawn]]
      exact hnext
    · rw [if_neg h0]
      have hw : wrap64 (((ns (outs s)).length : Int) - 1) = ((s.up.length : Nat) : Int) := by rw [ns_len, holen, wrap_id (by unfold In64; omega)]; omega
      by_cases h2 : (l[i]).f0 = 2
      · rw [if_pos h2, hw, if_pos (by omega), if_pos (by rw [ns_len, holen]; omega), Int.toNat_natCast]
        have es : Play.step red b i (dd l[i]) s = s.merge red i := by
          unfold Play.step dd
          rw [if_neg (by show ¬ (l[i]).f0 = 4; omega), if_neg (by show ¬ (l[i]).f0 = 3; omega), if_neg h0, if_pos h2]
        rw [ho, show (dd l[i]).1 = 2 from h2, if_neg (by omega), if_pos rfl] at hnext
        rw [es] at hnext ⊢
        have := ns_set (outs s) s.up.length 0
        rw [show ((0 : Nat) : Int) = 0 from rfl] at this
        rw [this]
        exact hnext
      · rw [if_neg h2]
        by_cases h1 : (l[i]).f0 = 1
        · have hup2 := List.length_pos_iff.2 (hup1 h1)
          have hw2 : wrap64 (((s.up.length : Nat) : Int) - 1) = ((s.up.length - 1 : Nat) : Int) := by rw [wrap_id (by unfold In64; omega)]; omega
          rw [if_pos h1, hw, if_neg (by omega), if_pos (by omega), if_pos (by rw [ns_len, holen]; omega), Option.bind_some, hw2, if_pos (by omega), if_pos (by rw [ns_len, List.length_reverse]; omega)]
          cases hsp : s.spawns with
          | nil => rw [hsp] at hspl; simp at hspl; omega
          | cons q o =>
            have hol : o.length = s.up.length - 1 := by rw [hsp] at hspl; simp at hspl; omega
            obtain ⟨e1, e2⟩ := last_of q o
            rw [← hol, e1, stole_f2, Option.bind_some]
            have es : Play.step red b i (dd l[i]) s = (s.merge red i).back red b := by
              unfold Play.step dd
              rw [if_neg (by show ¬ (l[i]).f0 = 4; omega), if_neg (by show ¬ (l[i]).f0 = 3; omega), if_neg h0, if_neg h2, if_pos h1]
            have esp : ((s.merge red i).back red b).spawns = o ∧ ((s.merge red i).back red b).count = s.count := by
              unfold St.back
              rw [show (s.merge red i).spawns = s.spawns from rfl, hsp]
              split
              · exact ⟨rfl, rfl⟩
              · exact ⟨rfl, rfl⟩
            rw [ho, show (dd l[i]).1 = 1 from h1, if_neg (by omega), if_neg (by omega), if_pos rfl, hsp, List.headD_cons] at hnext
            rw [es] at hnext ⊢
            rw [esp.1, esp.2] at hnext
            rw [Int.toNat_natCast, ns_take, Int.toNat_natCast]
            by_cases hb : b.getD q false = true
            · rw [if_pos hb] at hnext ⊢
              rw [if_pos (by rw [ns_len, List.length_take, holen]; omega), if_pos (by rw [ns_len, List.length_reverse, List.length_cons]; omega), ns_rd, e2]
              rw [show s.up.length - 1 = o.length from hol.symm] at hnext
              have hle : ((outs s).take s.up.length).getD o.length 0 ≤ i := by
                rw [List.getD_eq_getElem?_getD]
                cases hq : ((outs s).take s.up.length)[o.length]? with
                | none => simp
                | some z => exact hB.out _ (List.mem_of_mem_take (List.mem_iff_getElem?.2 ⟨_, hq⟩))
              rw [wrap_id (by unfold In64; omega), show (((((outs s).take s.up.length).getD o.length 0 : Nat)) : Int) + 1 = (((((outs s).take s.up.length).getD o.length 0 + 1 : Nat)) : Int) by omega, ns_set]
              exact hnext
            · rw [if_neg hb] at hnext ⊢
              rw [if_pos (by rw [ns_len, List.length_reverse, List.length_cons]; omega), e2]
              exact hnext
        · rw [if_neg h1]
          have es : Play.step red b i (dd l[i]) s = if (l[i]).f0 = 4 then s.write red (l[i]).f1 else s.read red := by
            unfold Play.step dd
            by_cases h4 : (l[i]).f0 = 4
            · rw [if_pos h4, if_pos h4]
            · rw [if_neg h4, if_neg h4, if_pos (by show (l[i]).f0 = 3; omega)]
          rw [ho, if_neg (show ¬ (dd l[i]).1 = 0 from h0), if_neg (show ¬ (dd l[i]).1 = 2 from h2), if_neg (show ¬ (dd l[i]).1 = 1 from h1)] at hnext
          have e3 : (Play.step red b i (dd l[i]) s).spawns = s.spawns ∧ (Play.step red b i (dd l[i]) s).count = s.count := by rw [es]; split <;> exact ⟨rfl, rfl⟩
          rw [e3.1, e3.2] at hnext
          exact hnext
theorem calm_f (l : List S46) (b : List Bool) (c : List Int) (hm : l.length ≤ 4096) (m : Nat) (hml : m ≤ l.length) (hr : right 0 (l.map dd) = true) (k : Nat) (hk : 14000 ≤ k) :
    pCalm.f k l b c (m : Int) = some (calmB (outs (run red b 0 ((l.take m).map dd) (Play.start red c)))) := by
  unfold pCalm.f
  have := calm_loop l b c hm m hml m 0 k (Play.start red c) [] (by omega) (Inv.start c) (LB.start c) hr (by omega)
  exact this
theorem looks_end (l : List S46) (b : List Bool) (c : List Int) (hok : okG l b c = true) (K : List (List Int)) (hK : K = (play red b c (l.map dd)).looks) (made : Int) (ms : List S44) (k : Nat) (hk : 20000 ≤ k) :
    (if ((K.length : Nat) : Int) = (K.length : Int) then ((hyper_Play.f l ([] : List Bool) c).bind fun bt172 => (if bt172.2.2.2.2 = 0 then (if bt172.2.1 = 1 then (if (bt172.2.2.1.length : Int) = 0 then ((plunderlaw23_sameInts.f k bt172.1 (puts (l.map dd))).bind fun t184 => (if t184 = true then (some ((bt172.2.2.2.1.length : Int) == ((K.length : Nat) : Int))) else (some false))) else (some false)) else (some false)) else (some false))) else (some false)) = some true := by
  obtain ⟨h1, h2, h3, h4⟩ := okG_iff.1 hok
  have hok2 : okG l [] c = true := okG_iff.2 ⟨h1, by simp, h3, h4⟩
  rw [if_pos rfl]
  unfold hyper_Play.f
  rw [playF_ok hok2, Option.bind_some]
  dsimp only
  have hv := play_views [] c _ h4
  rw [madeC_nil] at hv
  obtain ⟨hi, hu, hc⟩ := play_inv (l1 := []) (l2 := c) h4
  have hcount := hi.count
  rw [hu, hc] at hcount
  have hml : (play red [] c (l.map dd)).merges.length = 0 := by simp [live] at hcount; omega
  have hp := puts_le' (l.map dd)
  rw [List.length_map] at hp
  rw [if_pos rfl, hv, if_pos (by omega), List.length_map, hml, if_pos (by omega), sameInts_f _ _ rfl (by omega) k (by omega), Option.bind_some, if_pos rfl]
  rw [hK, play_looks, play_looks, rl_len [] b _ 0 0 (Play.start red c) (Play.start red c)]
  simp
theorem looks_loop (l : List S46) (b : List Bool) (c : List Int) (hok : okG l b c = true) (K : List (List Int)) (hK : K = (play red b c (l.map dd)).looks) (hKl : K.length ≤ 4096) (made : Int) (ms : List S44) (d : Nat) : ∀ (i j k : Nat) (s : St (List Int)), i + d = l.length →
    s = run red b 0 ((l.take i).map dd) (Play.start red c) → Play.Inv s (puts ((l.take i).map dd)) → right s.up.length ((l.drop i).map dd) = true → j ≤ K.length → K.drop j = rl b i ((l.drop i).map dd) s → 2 * d + 20010 < k →
    pLooks.l0 k (j : Int) (i : Int) l b c (puts (l.map dd)) made ms K = some true := by
  obtain ⟨g1, g2, g3, g4⟩ := okG_iff.1 hok
  induction d with
  | zero =>
    intro i j k s hid hs hi hr hj hKj hk
    obtain ⟨k, rfl⟩ : ∃ m, k = m + 1 := ⟨k - 1, by omega⟩
    simp only [pLooks.l0]
    rw [if_neg (by omega)]
    rw [List.drop_eq_nil_of_le (show l.length ≤ i by omega), List.map_nil] at hKj
    have : K.length ≤ j := List.drop_eq_nil_iff.1 hKj
    have hjK : j = K.length := by omega
    rw [hjK]
    exact looks_end l b c hok K hK made ms k (by omega)
  | succ d ih =>
    intro i j k s hid hs hi hr hj hKj hk
    obtain ⟨k, rfl⟩ : ∃ m, k = m + 2 := ⟨k - 2, by omega⟩
    have hil : i < l.length := by omega
    have hdr : l.drop i = l[i] :: l.drop (i + 1) := List.drop_eq_getElem_cons hil
    have hrd : rd_T46 l (i : Int) = l[i] := by unfold rd_T46; rw [Int.toNat_natCast, List.getD_eq_getElem?_getD, List.getElem?_eq_getElem hil]; rfl
    have htk : (l.take (i + 1)).map dd = (l.take i).map dd ++ [dd l[i]] := by rw [List.take_succ_eq_append_getElem hil, List.map_append]; rfl
    obtain ⟨hkd, hup1, hrn⟩ := right_next b hdr hr
    have hin : Play.Inv (Play.step red b i (dd l[i]) s) (puts ((l.take (i + 1)).map dd)) := by
      rw [htk, puts_append]
      exact hi.step b i (dd l[i]) hup1
    have hsn : Play.step red b i (dd l[i]) s = run red b 0 ((l.take (i + 1)).map dd) (Play.start red c) := by
      rw [htk, run_append, ← hs]
      have : 0 + ((l.take i).map dd).length = i := by rw [List.length_map, List.length_take]; omega
      rw [this]
      rfl
    have hi1 : ((i + 1 : Nat) : Int) = (i : Int) + 1 := by omega
    rw [hdr, List.map_cons] at hKj
    simp only [rl] at hKj
    simp only [pLooks.l0]
    rw [if_pos (by omega), if_pos (by omega), hrd, wrap_id (a := (i : Int) + 1) (by unfold In64; omega)]
    by_cases h3 : (l[i]).f0 = 3
    · rw [if_pos (show (dd l[i]).1 = 3 from h3)] at hKj
      have hjl : j < K.length := by
        rcases Nat.lt_or_ge j K.length with h5 | h5
        · exact h5
        · rw [List.drop_eq_nil_of_le h5] at hKj; cases hKj
      rw [List.drop_eq_getElem_cons hjl] at hKj
      have e1 : K[j] = s.views.getD s.hand [] := (List.cons.inj hKj).1
      have e2 := (List.cons.inj hKj).2
      have hrk : rd_L4 K (j : Int) = s.views.getD s.hand [] := by unfold rd_L4; rw [Int.toNat_natCast, List.getD_eq_getElem?_getD, List.getElem?_eq_getElem hjl, ← e1]; rfl
      have hjn := ih (i + 1) (j + 1) k _ (by omega) hsn hin hrn (by omega) e2 (by omega)
      rw [hi1, show ((j + 1 : Nat) : Int) = (j : Int) + 1 by omega] at hjn
      obtain ⟨s1, s2, s3⟩ := hand_suffix hi
      have hp := puts_le' ((l.take i).map dd)
      rw [List.length_map, List.length_take] at hp
      rw [if_pos h3, puts_f l g1 i (by omega) (k + 1) (by omega), Option.bind_some, if_neg (by omega), if_pos (by omega), if_pos (by omega), hrk, if_neg (by omega), wrap_id (by unfold In64; omega), if_pos (by omega), if_pos (by omega)]
      rw [show (((puts ((l.take i).map dd)).length : Int) - ((s.views.getD s.hand []).length : Int)).toNat = (puts ((l.take i).map dd)).length - (s.views.getD s.hand []).length by omega, s2]
      rw [sameInts_f _ _ rfl (by omega) (k + 1) (by omega), Option.bind_some]
      simp only [pLooks.j1]
      rw [if_neg (by decide), calm_f l b c g1 i (by omega) g4 k (by omega), Option.bind_some, ← hs, wrap_id (a := (i : Int) + 1) (by unfold In64; omega), wrap_id (a := (j : Int) + 1) (by unfold In64; omega)]
      by_cases hcalm : calmB (outs s) = true
      · rw [if_pos hcalm, if_pos (by omega), if_pos (by omega), hrk, if_pos (by rw [s3 (of_decide_eq_true hcalm)])]
        exact hjn
      · rw [if_neg hcalm]
        exact hjn
    · rw [if_neg (show ¬ (dd l[i]).1 = 3 from h3), List.nil_append] at hKj
      have hjn := ih (i + 1) j (k + 1) _ (by omega) hsn hin hrn hj hKj (by omega)
      rw [hi1] at hjn
      rw [if_neg h3]
      exact hjn
theorem looks_law (a : List S46) (b : List Bool) (c : List Int) : ∃ k, pLooks.f k a b c = some true := by
  refine ⟨40000, ?_⟩
  unfold pLooks.f
  cases hok : okG a b c with
  | false =>
    obtain ⟨e, hn⟩ := playF_no hok
    unfold hyper_Play.f
    rw [e, Option.bind_some, right_f a b c 40000 (by omega), hok, Option.bind_some]
    simp [hn]
  | true =>
    obtain ⟨h1, h2, h3, h4⟩ := okG_iff.1 hok
    unfold hyper_Play.f
    rw [playF_ok hok, Option.bind_some, right_f a b c 40000 (by omega), hok, Option.bind_some]
    dsimp only
    rw [if_pos rfl, if_pos rfl]
    have hl := rl_le b (a.map dd) 0 (Play.start red c)
    rw [List.length_map] at hl
    have hKl : (play red b c (a.map dd)).looks.length ≤ 4096 := by rw [play_looks]; omega
    exact looks_loop a b c hok _ rfl hKl _ _ a.length 0 0 40000 (Play.start red c) (by omega) (by simp [run]) (by simpa [puts] using Inv.start c) h4 (Nat.zero_le _) (by rw [play_looks]; rfl) (by omega)
end Go.Proofs.Ytamfkglnejhjdaa.HLaw
