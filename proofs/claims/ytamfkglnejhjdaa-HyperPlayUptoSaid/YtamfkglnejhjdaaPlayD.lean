/- A play, whole: its contract. -/
import Derived.Test.YtamfkglnejhjdaaPlayC
import Derived.Test.YtamfkglnejhjdaaKinds
import Derived.Test.YtamfkglnejhjdaaRefuse
namespace Go.Proofs.Ytamfkglnejhjdaa.PlayState
open Go.Proofs.Ytamfkglnejhjdaa.PHyperSerial (S46 k46 z46 rd_T46 at_T46 k46_open)
open Go.Proofs.Ytamfkglnejhjdaa.Kinds (S44 k44)
open Go.RowKit Go.Proofs.YtamfkglnejhjdaaW.PrintWords Go.Proofs.YtamfkglnejhjdaaW.PrintLast Go.Proofs.YtamfkglnejhjdaaW.PrintMore Go.Proofs.Ytamfkglnejhjdaa.Fam Go.Proofs.Ytamfkglnejhjdaa.Play Go.Proofs.Ytamfkglnejhjdaa.Base
set_option linter.unusedVariables false
/-- What is told, ahead of the run. -/
def t00 : List Value := [.slice none 0 0, .int .i64 0, .slice none 0 0]
/-- The play object's ghost as it begins. -/
def g00 (pO : Sl) (ps : List Int) : Gh := { vs := [], ks := [], rs := [], sp := ((none, 0, 0), []), vo := (none, 0, 0), ko := (none, 0, 0), ro := (none, 0, 0), mo := (none, 0, 0), po := pO, ps := ps, ms := [], oh := [] }
theorem fam_nils {α : Type} {enc : α → Value} {e : Nat} {h1 : ∀ x : α, (enc x).oneCell' = true} {w : World} {base : Nat} (n : Nat) : Fam enc e w base (List.replicate n ((.slice none 0 0 : Value), ([] : List α))) := by
  induction n with
  | zero => exact Fam.nil w base
  | succ n ih =>
    rw [List.replicate_succ]
    exact fam_nil_mid (h1 := h1) (L1 := []) ih
theorem PS.start (w : World) (pA : Option Addr) (pc : Nat) (ps : List Int) (hC : Kd.C (Kd.int .i64) w pA ps.length ps) (hc : ps.length ≤ pc) :
    PS w ((w.alloc (.cells #[.slice none 0 0, .int .i64 0, .slice none 0 0, .slice none 0 0] 39)).alloc (.cells #[.func (.func 26) #[] #[], .func (.func 27) #[] #[], .func (.func 28) #[] #[], .func (.func 29) #[] #[.pointer (some ⟨w.heap.size, 0, none⟩)], .slice none 0 0, .slice none 0 0, .slice none 0 0, .slice pA ps.length pc, .slice none 0 0] 64))
      (w.heap.size + 1) w.heap.size (fF w.heap.size) t00 (g00 (pA, ps.length, pc) ps) := by
  have hs : (w.alloc (.cells #[.slice none 0 0, .int .i64 0, .slice none 0 0, .slice none 0 0] 39)).heap.size = w.heap.size + 1 := by simp
  have b1 := below_alloc (Below.refl _ w) (.cells #[.slice none 0 0, .int .i64 0, .slice none 0 0, .slice none 0 0] 39)
  generalize hW : w.alloc (.cells #[.slice none 0 0, .int .i64 0, .slice none 0 0, .slice none 0 0] 39) = W at hs b1 ⊢
  have hn1 : W.heap[w.heap.size]? = some (.cells #[.slice none 0 0, .int .i64 0, .slice none 0 0, .slice none 0 0] 39 (0, 0)) := by rw [← hW]; exact blk_new _ _
  refine ⟨b1.alloc (below_size b1) _, ?_, by omega, ?_, Nat.le_refl _, Fam.nil _ _, ?_, ?_, ?_, Kd.R_nil _ _ _ _ _, hC, rfl, hc⟩
  · rw [← hs]
    exact blk_new _ _
  · exact blk_below hn1 (below_alloc (Below.refl _ _) _)
  · exact fam_nils (h1 := fun _ => rfl) 1
  · exact fam_nils (h1 := slv_one) 2
  · exact fam_nils (h1 := slv_one) 1
/-- What is told is written: the play object stands. -/
theorem PS.tell {w0 w : World} {gp gt : Nat} {f t0 t1 : List Value} {g : Gh} (h : PS w0 w gp gt f t0 g) (i : Nat) (u : Value) (hc : ((t0 ++ [slv g.ko]).toArray.setIfInBounds i u) = (t1 ++ [slv g.ko]).toArray) :
    PS w0 (w.setCell ⟨gt, i, none⟩ u) gp gt f t1 g := by
  have keep : ∀ b, b < w.heap.size → b ≠ gt → (w.setCell ⟨gt, i, none⟩ u).heap[b]? = w.heap[b]? := fun b hb hn =>
    ((Kept.refl w (fun k => k = gt)).setCell (p := ⟨gt, i, none⟩) (.inl rfl) u).2 b hb hn
  have hne : gp ≠ gt := blk_ne h.bp h.bt (by decide)
  exact ⟨h.hb.setCell (p := ⟨gt, i, none⟩) h.get _, (keep gp (blk_lt h.bp) hne).trans h.bp, h.gep, blk_put h.bt i u hc, h.get, h.f2.far h.bt (by decide) keep, h.f3.far h.bt (by decide) keep, h.f28.far h.bt (by decide) keep, h.f24.far h.bt (by decide) keep,
    mg_grown h.mg k3_E (row := some gt) ⟨rfl, rfl, rfl, by simp, fun b hb hn => keep b hb (fun e => hn (by rw [e]))⟩ (fun b hb => by injection hb with hb; subst hb; exact ⟨_, _, h.bt, by decide⟩), h.pk⟩
/-- A merge, as the program's type has it. -/
def mS (m : Mg) : S44 := ⟨m.1, m.2.1, m.2.2⟩
theorem merges_R {w : World} {base : Nat} {ok : Nat → Prop} {v : Value} {ms : List Mg} (h : Kd.R k3 44 w base ok v (mgs ms)) : Kd.R k44 44 w base ok v (ms.map mS) := by
  obtain ⟨h0, inner, ho, hr⟩ := h
  refine ⟨h0, inner, ?_, ?_, fun j p hj => ?_⟩
  · rw [List.length_map]
    rw [show (mgs ms).length = ms.length by simp [mgs]] at ho
    exact ho
  · have := hr.1
    rw [show (mgs ms).length = ms.length by simp [mgs]] at this
    rw [List.length_map]
    exact this
  · rw [List.getElem?_map] at hj
    cases hm : ms[j]? with
    | none => rw [hm] at hj; cases hj
    | some m =>
      rw [hm] at hj
      injection hj with hj
      subst hj
      exact hr.2 j ((m.1 : Int), (m.2.1 : Int), (m.2.2 : Int)) (by simp [mgs, hm])
/-- The looks: a row of rows that lie apart. -/
theorem looks_S {w : World} {base : Nat} {ks : List Hd} {ko : Sl} {v0 : Value} {x0 : List Int} {L0 : List (Value × List Int)} (h28 : Fam slv 28 w base [(slv ko, ks.map (·.1))]) (h2 : Fam (Value.int .i64) 2 w base (L0 ++ ks.map hv)) (h0 : (v0, x0) ∈ L0) :
    Kd.S (Kd.slice 2 (Kd.int .i64)) 28 w base (fun k => some k ≠ v0.ownBlock) (slv ko) (ks.map (·.2)) := by
  have hown := h28.own _ (List.mem_singleton.2 rfl)
  have hty : ∀ b, (slv ko).ownBlock = some b → ∃ cells, w.heap[b]? = some (.cells cells 28 (0, 0)) := own_typed hown
  have hap := List.pairwise_append.1 h2.apart
  have ty2 : ∀ p, p ∈ L0 ++ ks.map hv → ∀ b, p.1.ownBlock = some b → ∃ cells, w.heap[b]? = some (.cells cells 2 (0, 0)) := fun p hp b hb => own_typed (h2.own p hp) b hb
  have no : ∀ p, p ∈ L0 ++ ks.map hv → ∀ b, p.1.ownBlock = some b → some b ≠ (slv ko).ownBlock := fun p hp b hb e => by
    obtain ⟨c1, h1⟩ := ty2 p hp b hb
    obtain ⟨c2, h3⟩ := hty b e.symm
    rw [h1] at h3
    injection h3 with h3
    injection h3 with _ h3
    exact absurd h3 (by decide)
  refine ⟨fun k => ks.findIdx (fun h => (slv h.1).ownBlock == some k), fun k hk e => ?_, (ks.map (fun h => slv h.1)), ?_, ?_, fun j p hj => ?_⟩
  · exact no _ (List.mem_append_left _ h0) k e.symm hk.symm
  · have : (encs slv (ks.map (fun h : Hd => h.1))) = ks.map (fun h => slv h.1) := by simp [encs]
    rw [show (ks.map (fun h : Hd => h.2)).zipIdx.length = (ks.map (fun h : Hd => h.1)).length by simp, ← this]
    exact hown
  · show (ks.map (fun h => slv h.1)).length = (ks.map (fun h : Hd => h.2)).zipIdx.length * 1
    simp
  · rw [List.getElem?_zipIdx, List.getElem?_map] at hj
    cases hm : ks[j]? with
    | none => rw [hm] at hj; cases hj
    | some h =>
      rw [hm] at hj
      simp only [Option.map_some, Option.some.injEq, Nat.zero_add] at hj
      subst hj
      have hlt := (List.getElem?_eq_some_iff.1 hm).1
      have hmem : hv h ∈ ks.map hv := List.mem_map.2 ⟨h, List.mem_iff_getElem?.2 ⟨j, hm⟩, rfl⟩
      have hmem2 : (slv h.1, h.2) ∈ L0 ++ ks.map hv := List.mem_append_right _ hmem
      refine ⟨slv h.1, ?_, ?_⟩
      · show ((ks.map (fun h => slv h.1)).drop (j * 1)).take 1 = [slv h.1]
        rw [Nat.mul_one, List.drop_eq_getElem_cons (by simpa using hlt)]
        simp [(List.getElem?_eq_some_iff.1 hm).2]
      · refine Kd.R_mono (Fam.R (h1 := fun _ => rfl) h2 hmem2) (fun k hk => ?_)
        replace hk : (slv h.1).ownBlock = some k := hk
        refine ⟨⟨fun e => ?_, fun e => no _ hmem2 k hk e⟩, ?_⟩
        · rcases hap.2.2 _ h0 _ hmem with h4 | h4
          · rw [show (v0, x0).1 = v0 from rfl] at h4; rw [h4] at e; cases e
          · exact h4 (by show v0.ownBlock = (slv h.1).ownBlock; rw [hk, e])
        · show ks.findIdx (fun h => (slv h.1).ownBlock == some k) = j
          rw [List.findIdx_eq hlt]
          refine ⟨by rw [(List.getElem?_eq_some_iff.1 hm).2, hk]; simp, fun i hi => ?_⟩
          have hpw := List.pairwise_iff_getElem.1 hap.2.1 i j (by simp; omega) (by simpa using hlt) hi
          simp only [List.getElem_map] at hpw
          rw [(List.getElem?_eq_some_iff.1 hm).2] at hpw
          rcases hpw with h4 | h4
          · replace h4 : (slv (ks[i]).1).ownBlock = none := h4
            rw [h4]; rfl
          · replace h4 : (slv (ks[i]).1).ownBlock ≠ (slv h.1).ownBlock := h4
            rw [hk] at h4
            simpa using h4
end Go.Proofs.Ytamfkglnejhjdaa.PlayState

namespace Go.Proofs.Ytamfkglnejhjdaa.PlayState
open Go.Proofs.Ytamfkglnejhjdaa.PHyperSerial (info3 S46 k46 z46 rd_T46 at_T46 k46_open)
open Go.Proofs.Ytamfkglnejhjdaa.Kinds (S44 k44)
open Go.Proofs.Ytamfkglnejhjdaa.Refuse
open Go.RowKit Go.Proofs.YtamfkglnejhjdaaW.PrintWords Go.Proofs.YtamfkglnejhjdaaW.PrintLast Go.Proofs.YtamfkglnejhjdaaW.PrintMore Go.Proofs.Ytamfkglnejhjdaa.Fam Go.Proofs.Ytamfkglnejhjdaa.Play Go.Proofs.Ytamfkglnejhjdaa.Base
set_option linter.unusedSimpArgs false
set_option linter.unusedVariables false

def P15 : Bool × List (List Nat × List Nat) := (true, [([], []), ([0], [0]), ([1], [1]), ([2], [2]), ([3], [3]), ([4], [4]), ([5], [5]), ([], []), ([7], [7]), ([8], [8]), ([9], [9]), ([10], [10]), ([], []), ([12], [12]), ([13], [13]), ([14], [14]), ([0, 1, 2, 3, 4, 5, 6], []), ([16, 6, 6, 0, 1, 2, 3, 4, 5, 6], [6, 16]), ([0, 1, 2, 3, 4, 5, 6, 7, 8, 9, 10, 11, 16, 17], []), ([18, 11, 17, 0, 1, 2, 3, 4, 5, 6, 7, 8, 9, 10, 11, 16, 17], [11, 18]), ([0, 1, 2, 3, 4, 5, 6, 7, 8, 9, 10, 11, 12, 13, 14, 15, 16, 17, 18, 19], []), ([20, 15, 19, 0, 1, 2, 3, 4, 5, 6, 7, 8, 9, 10, 11, 12, 13, 14, 15, 16, 17, 18, 19], [15, 20])])
def P15B : List Nat := [0, 1, 3, 7, 15, 31, 63, 0, 128, 384, 896, 1920, 0, 4096, 12288, 28672, 127, 65663, 200703, 462847, 1048575, 2097151]
theorem P15_tab : rtab .any (opsOf Try.f15 7) = P15 := by kernel_rfl
theorem P15_bits : waitsOk P15.2 P15B = true := by kernel_rfl

theorem setCell_keep (w : World) (g i : Nat) (u : Value) : ∀ b, b < w.heap.size → b ≠ g → (w.setCell ⟨g, i, none⟩ u).heap[b]? = w.heap[b]? := fun b hb hn =>
  ((Kept.refl w (fun k => k = g)).setCell (p := ⟨g, i, none⟩) (.inl rfl) u).2 b hb hn
/-- What a play answers. -/
def playF (l0 : List S46) (l1 : List Bool) (l2 : List Int) : List Int × Int × List S44 × List (List Int) × Int :=
  if refF l0 l1 l2 = 0 then ((play red l1 l2 (l0.map dd)).views.getD 0 [], ((play red l1 l2 (l0.map dd)).views.length : Int), (play red l1 l2 (l0.map dd)).merges.map mS, (play red l1 l2 (l0.map dd)).looks, 0) else ([], 0, [], [], refF l0 l1 l2)
/-- What holds of a play's end. -/
theorem play_inv {l1 : List Bool} {l2 : List Int} {ds : List (Int × Int)} (hr : right 0 ds = true) : Inv (play red l1 l2 ds) (puts ds) ∧ (play red l1 l2 ds).up = [] ∧ (play red l1 l2 ds).cur = [0] := by
  have h := Inv.run l1 ds 0 (Play.start red l2) [] (Inv.start l2) hr
  rw [List.nil_append] at h
  exact Inv.finish ds.length _ _ _ h rfl
theorem play_first {l1 : List Bool} {l2 : List Int} {ds : List (Int × Int)} (hr : right 0 ds = true) : (play red l1 l2 ds).views.getD 0 [] = puts ds ∧ 0 < (play red l1 l2 ds).views.length := by
  obtain ⟨h1, h2, h3⟩ := play_inv (l1 := l1) (l2 := l2) hr
  have hv := h1.value
  have hb := h1.bound
  rw [h2, h3] at hv hb
  exact ⟨by simpa [live, flat] using hv, hb 0 (by simp [live])⟩
theorem puts_le (ds : List (Int × Int)) : (puts ds).length ≤ ds.length := by unfold puts; rw [List.length_map]; exact List.length_filter_le _ _
/-- What the play's end leaves behind the call. -/
def PEnd (w w' : World) (e : Ending) (r : List Int × Int × List S44 × List (List Int) × Int) : Prop :=
  ∃ v0_ v2_ v3_ : Value, e = .returned (.tuple #[.agg #[v0_, .int .i64 r.2.1, v2_, v3_], .int .i64 r.2.2.2.2]) ∧ Kd.R (Kd.int .i64) 2 w' w.heap.size (fun _ => True) v0_ r.1 ∧ Kd.R k44 44 w' w.heap.size (fun _ => True) v2_ r.2.2.1 ∧ Kd.S (Kd.slice 2 (Kd.int .i64)) 28 w' w.heap.size (fun k_ => some k_ ≠ (v0_ : Value).ownBlock) v3_ r.2.2.2.1 ∧ Below w.heap.size w w'
theorem PEnd.stores {w w' : World} {e : Ending} {r : List Int × Int × List S44 × List (List Int) × Int} {g : Nat} {cs : Array Value} (h : PEnd w w' e r) (hb : w'.heap[g]? = some (.cells cs 39 (0, 0))) (hg : w.heap.size ≤ g) (i : Nat) (u : Value) : PEnd w (w'.setCell ⟨g, i, none⟩ u) e r := by
  obtain ⟨v0, v2, v3, h1, h2, h3, h4, h5⟩ := h
  have k2 : ∀ q, q ∈ (2 : Nat) :: (Kd.int .i64).E → q ≠ 39 := by decide
  have k28 : ∀ q, q ∈ (28 : Nat) :: (Kd.slice 2 (Kd.int .i64)).E → q ≠ 39 := by decide
  have k44_ : ∀ q, q ∈ (44 : Nat) :: k44.E → q ≠ 39 := by decide
  exact ⟨v0, v2, v3, h1, Kd.R_set h2 hb k2 i u, Kd.R_set h3 hb k44_ i u, Kd.S_set h4 hb k28 i u, h5.setCell (p := ⟨g, i, none⟩) hg u⟩
set_option maxHeartbeats 16000000 in
set_option maxRecDepth 100000 in
theorem play_walk (A0 : Option Addr) (c0 : Nat) (l0 : List S46) (A1_ : Option Addr) (c1_ : Nat) (l1 : List Bool) (A2_ : Option Addr) (c2_ : Nat) (l2 : List Int) (w : World) (hr0 : Kd.C k46 w A0 l0.length l0) (hc0 : l0.length ≤ c0) (hr1 : Kd.C Kd.bool w A1_ l1.length l1) (hc1 : l1.length ≤ c1_) (hr2 : Kd.C (Kd.int .i64) w A2_ l2.length l2) (hc2 : l2.length ≤ c2_) :
    Calls Try.prog 15 #[.slice A0 l0.length c0, .slice A1_ l1.length c1_, .slice A2_ l2.length c2_] w fun e w' => PEnd w w' e (playF l0 l1 l2) := by
  have hu39 := Try.underlying39
  have hmf : ∀ (fn : Fn) (first cap : Array Value) (w : World), (Instr.makeFunc fn first cap).run Try.prog w = .ok (.func fn first cap) w := fun _ _ _ _ => rfl
  have HR0 := Aside0.mk hr0
  have HC0 := Aside0.mk hc0
  have HR1 := Aside0.mk hr1
  have HC1 := Aside0.mk hc1
  have HR2 := Aside0.mk hr2
  have HC2 := Aside0.mk hc2
  have b1 := below_alloc (Below.refl w.heap.size w) (.cells #[.slice none 0 0, .int .i64 0, .slice none 0 0, .slice none 0 0] 39)
  have HB1 := Aside0.mk b1
  have HN1 := Aside0.mk (blk_new w (.cells #[.slice none 0 0, .int .i64 0, .slice none 0 0, .slice none 0 0] 39))
  obtain ⟨e, he⟩ : ∃ e, e = refF l0 l1 l2 := ⟨_, rfl⟩
  have HE := Aside0.mk he
  have HRef := Aside0.mk (hyper_refuse.calls 8200 A0 c0 l0 A1_ c1_ l1 A2_ c2_ l2 e (w.alloc (.cells #[.slice none 0 0, .int .i64 0, .slice none 0 0, .slice none 0 0] 39)) (Kd.C_below hr0 b1) hc0 (Kd.C_below hr1 b1) hc1 (Kd.C_below hr2 b1) hc2 (by rw [he]; exact refuse_f l0 l1 l2 8200 (Nat.le_refl _)))
  clear hr0 hc0 hr1 hc1 hr2 hc2 b1 he
  by_cases h0 : e = 0
  · subst h0
    go_enter Try.func15, Try.ntmps15
    go_wp2_with fail
    refine HRef.out.mono ?_
    rintro e w1 ⟨rfl, hb⟩
    have HB2 := Aside0.mk (below_step HB1.out (by exact hb))
    have HN2 := Aside0.mk (blk_below HN1.out hb)
    clear hb HRef HB1 HN1
    have HRt := Aside0.mk ((refF_cases l0 l1 l2).1 HE.out.symm)
    have HPS := Aside0.mk (PS.start w1 A2_ c2_ l2 (Kd.C_below HR2.out HB2.out) HC2.out)
    have HRun := Aside0.mk (run_walk (gp := w1.heap.size + 1) (gt := w1.heap.size) (t0 := t00) rfl A0 c0 l0 A1_ c1_ l1 (Kd.C_below HR0.out HB2.out) HC0.out (Kd.C_below HR1.out HB2.out) HC1.out l2 (A2_, l2.length, c2_) HPS.out HRt.out.1 HRt.out.2.1 HRt.out.2.2.2)
    clear HPS
    go_wp2_with fail
    refine HRun.out.mono ?_
    rintro e w2 ⟨rfl, hat⟩
    clear HRun
    obtain ⟨s, hs⟩ : ∃ s, s = play red l1 l2 (l0.map dd) := ⟨_, rfl⟩
    rw [← hs] at hat
    obtain ⟨g, hp2, hr2⟩ := hat
    obtain ⟨hv0, hvpos⟩ := play_first (l1 := l1) (l2 := l2) HRt.out.2.2.2
    rw [← hs] at hv0 hvpos
    have hyl : (s.views.getD 0 []).length ≤ 4096 := by rw [hv0]; have := puts_le (l0.map dd); rw [List.length_map] at this; have := HRt.out.1; omega
    obtain ⟨gv, vn, vc, aA, an, ac, hvo, hvn, hvq, hF, hMem⟩ := view_facts hr2.toRep0 (fF_len _) (v := 0) hvpos hp2
    obtain ⟨ya, hya⟩ : ∃ y, y = s.views.getD 0 [] := ⟨_, rfl⟩
    rw [← hya] at hvq hF hMem hyl
    obtain ⟨⟨mA, mn, mc⟩, hmo⟩ : ∃ t : Sl, g.mo = t := ⟨_, rfl⟩
    generalize w1.heap.size + 1 = gp at *
    obtain ⟨gt, hgt⟩ : ∃ gt, w1.heap.size = gt := ⟨_, rfl⟩
    have hgtw : w1.heap.size ≤ gt := by omega
    have HGT := Aside0.mk hgt
    rw [hgt] at hp2 hF ⊢
    have han : an = ya.length := (Kd.R_reads' (hF g rfl rfl w2 hp2).2.2.2.2).1
    subst han
    have hC : ∀ (t' : List Value) w', PS w1 w' gp gt (fF gt) t' g → w'.cell? ⟨gp, 4, none⟩ = some (.slice (some ⟨gv, 0, none⟩) vn vc) ∧ w'.cell? ⟨gv, 0, none⟩ = some (.slice aA ya.length ac) ∧ w'.cell? ⟨gp, 8, none⟩ = some (.slice mA mn mc) := fun t' w' h => by
      have h1 := h.cell (fF_len gt)
      rw [hvo, hmo] at h1
      obtain ⟨g2, c2, e5, h5, _⟩ := fam_at (h1 := slv_one) h.f28 0 rfl (none, 0, 0) 0 (by rw [List.length_map, hr2.views_len]; exact hvpos)
      have e6 := slv_form e5
      rw [hvo] at e6
      obtain rfl := addr_inj e6
      rw [List.getD_eq_getElem?_getD, List.getElem?_map, hvq] at h5
      exact ⟨h1.1, h5, h1.2.2.2.2⟩
    have hY : ∀ w', PS w1 w' gp gt (fF gt) t00 g → Kd.C (Kd.int .i64) w' aA ya.length ya := fun w' h => (Kd.R_reads' (hF g rfl rfl w' h).2.2.2.2).2.2
    have HP2 := Aside0.mk hp2
    have HRp := Aside0.mk hr2
    have HC := Aside0.mk hC
    have HY := Aside0.mk (And.intro hY hyl)
    have HS := Aside0.mk hs
    have HV := Aside0.mk (And.intro hvn (And.intro hya hmo))
    have lv : (0 < vn) = True := eq_true (by omega)
    clear hp2 hr2 hC hY hs hvo hvn hvq hF hMem hya hyl hv0 hvpos hmo hgt hgtw
    go_upto_region 7 with fail
    refine start_ (n := 22) (S := (fun w' => w'.cell? ⟨gp, 4, none⟩ = some (.slice (some ⟨gv, 0, none⟩) vn vc) ∧ w'.cell? ⟨gv, 0, none⟩ = some (.slice aA ya.length ac) ∧ w'.cell? ⟨gp, 8, none⟩ = some (.slice mA mn mc))) (ds := [21]) #[false, false, false, false, false, false, false, false, false, false, false, false, false, false, false, false, false, false, false, false, false, false] (by kernel_rfl) rfl rfl (HC.out _ w2 HP2.out) (fun hHeld => ?_); refine with_tabW P15_tab P15_bits (fun HT_ HW_ => ?_)
    have HP3 := Aside0.mk (HP2.out.below (w1 := w2.drew) (Drawn0.below ⟨⟨1, rfl⟩⟩))
    clear HP2
    generalize w2.drew = w3 at HP3 hHeld ⊢
    refine pure_ (i := 0) (N := some 28) (v := ?_) (a' := ?_) #[true, false, false, false, false, false, false, false, false, false, false, false, false, false, false, false, false, false, false, false, false, false] rfl rfl (any_of HT_.out (by kernel_rfl)) (fun _ _ _ h => h) (Or.inl ⟨by rfl, ?_⟩) ?_ ?_
    rotate_left
    · intro w'
      go_simp
      with_reducible rfl
    rotate_left
    · simp only [Act.put, List.setIfInBounds_toArray, List.set_cons_zero, List.set_cons_succ, i64_w, i32_w]
      rfl
    refine pure_ (i := 1) (N := some 29) (v := ?_) (a' := ?_) #[true, true, false, false, false, false, false, false, false, false, false, false, false, false, false, false, false, false, false, false, false, false] rfl rfl (any_of HT_.out (by kernel_rfl)) (fun _ _ _ h => h) (Or.inl ⟨by rfl, ?_⟩) ?_ ?_
    rotate_left
    · intro w'
      go_simp
      with_reducible rfl
    rotate_left
    · simp only [Act.put, List.setIfInBounds_toArray, List.set_cons_zero, List.set_cons_succ, i64_w, i32_w]
      rfl
    refine pure_ (i := 2) (N := some 30) (v := ?_) (a' := ?_) #[true, true, true, false, false, false, false, false, false, false, false, false, false, false, false, false, false, false, false, false, false, false] rfl rfl (any_of HT_.out (by kernel_rfl)) (fun _ _ _ h => h) (Or.inl ⟨by rfl, ?_⟩) ?_ ?_
    rotate_left
    · intro w'
      go_simp
      with_reducible rfl
    rotate_left
    · simp only [Act.put, List.setIfInBounds_toArray, List.set_cons_zero, List.set_cons_succ, i64_w, i32_w]
      rfl
    refine take_ (i := 3) (N := some 31) (v := ?_) (a' := ?_) #[true, true, true, true, false, false, false, false, false, false, false, false, false, false, false, false, false, false, false, false, false, false] rfl rfl (take_ofW HT_.out HW_.out (by kernel_rfl)) (fun _ _ _ h => h) (Or.inl ⟨by rfl, ?_⟩) hHeld ?_ ?_
    rotate_left
    · rintro w' ⟨s0, s1, s2⟩
      go_simp
      with_reducible rfl
    rotate_left
    · simp only [Act.put, List.setIfInBounds_toArray, List.set_cons_zero, List.set_cons_succ, i64_w, i32_w]
      rfl
    refine pure_ (i := 4) (N := some 32) (v := ?_) (a' := ?_) #[true, true, true, true, true, false, false, false, false, false, false, false, false, false, false, false, false, false, false, false, false, false] rfl rfl (any_of HT_.out (by kernel_rfl)) (fun _ _ _ h => h) (Or.inl ⟨by rfl, ?_⟩) ?_ ?_
    rotate_left
    · intro w'
      go_simp
      with_reducible rfl
    rotate_left
    · simp only [Act.put, List.setIfInBounds_toArray, List.set_cons_zero, List.set_cons_succ, i64_w, i32_w]
      rfl
    refine take_ (i := 5) (N := some 33) (v := ?_) (a' := ?_) #[true, true, true, true, true, true, false, false, false, false, false, false, false, false, false, false, false, false, false, false, false, false] rfl rfl (take_ofW HT_.out HW_.out (by kernel_rfl)) (fun _ _ _ h => h) (Or.inl ⟨by rfl, ?_⟩) hHeld ?_ ?_
    rotate_left
    · rintro w' ⟨s0, s1, s2⟩
      go_simp
      with_reducible rfl
    rotate_left
    · simp only [Act.put, List.setIfInBounds_toArray, List.set_cons_zero, List.set_cons_succ, i64_w, i32_w]
      rfl
    refine pure_ (i := 7) (N := some 35) (v := ?_) (a' := ?_) #[true, true, true, true, true, true, false, true, false, false, false, false, false, false, false, false, false, false, false, false, false, false] rfl rfl (any_of HT_.out (by kernel_rfl)) (fun _ _ _ h => h) (Or.inl ⟨by rfl, ?_⟩) ?_ ?_
    rotate_left
    · intro w'
      go_simp
      with_reducible rfl
    rotate_left
    · simp only [Act.put, List.setIfInBounds_toArray, List.set_cons_zero, List.set_cons_succ, i64_w, i32_w]
      rfl
    refine pure_ (i := 8) (N := some 36) (v := ?_) (a' := ?_) #[true, true, true, true, true, true, false, true, true, false, false, false, false, false, false, false, false, false, false, false, false, false] rfl rfl (any_of HT_.out (by kernel_rfl)) (fun _ _ _ h => h) (Or.inl ⟨by rfl, ?_⟩) ?_ ?_
    rotate_left
    · intro w'
      go_simp
      with_reducible rfl
    rotate_left
    · simp only [Act.put, List.setIfInBounds_toArray, List.set_cons_zero, List.set_cons_succ, i64_w, i32_w]
      rfl
    refine pure_ (i := 9) (N := some 37) (v := ?_) (a' := ?_) #[true, true, true, true, true, true, false, true, true, true, false, false, false, false, false, false, false, false, false, false, false, false] rfl rfl (any_of HT_.out (by kernel_rfl)) (fun _ _ _ h => h) (Or.inl ⟨by rfl, ?_⟩) ?_ ?_
    rotate_left
    · intro w'
      go_simp
      with_reducible rfl
    rotate_left
    · simp only [Act.put, List.setIfInBounds_toArray, List.set_cons_zero, List.set_cons_succ, i64_w, i32_w]
      rfl
    refine take_ (i := 10) (N := some 38) (v := ?_) (a' := ?_) #[true, true, true, true, true, true, false, true, true, true, true, false, false, false, false, false, false, false, false, false, false, false] rfl rfl (take_ofW HT_.out HW_.out (by kernel_rfl)) (fun _ _ _ h => h) (Or.inl ⟨by rfl, ?_⟩) hHeld ?_ ?_
    rotate_left
    · rintro w' ⟨s0, s1, s2⟩
      go_simp
      with_reducible rfl
    rotate_left
    · simp only [Act.put, List.setIfInBounds_toArray, List.set_cons_zero, List.set_cons_succ, i64_w, i32_w]
      rfl
    refine pure_ (i := 11) (N := some 39) (v := ?_) (a' := ?_) #[true, true, true, true, true, true, false, true, true, true, true, true, false, false, false, false, false, false, false, false, false, false] rfl rfl (any_of HT_.out (by kernel_rfl)) (fun _ _ _ h => h) (Or.inl ⟨by rfl, ?_⟩) ?_ ?_
    rotate_left
    · intro w'
      go_simp
      with_reducible rfl
    rotate_left
    · simp only [Act.put, List.setIfInBounds_toArray, List.set_cons_zero, List.set_cons_succ, i64_w, i32_w]
      rfl
    refine pure_ (i := 12) (N := some 40) (v := ?_) (a' := ?_) #[true, true, true, true, true, true, false, true, true, true, true, true, true, false, false, false, false, false, false, false, false, false] rfl rfl (any_of HT_.out (by kernel_rfl)) (fun _ _ _ h => h) (Or.inl ⟨by rfl, ?_⟩) ?_ ?_
    rotate_left
    · intro w'
      go_simp
      with_reducible rfl
    rotate_left
    · simp only [Act.put, List.setIfInBounds_toArray, List.set_cons_zero, List.set_cons_succ, i64_w, i32_w]
      rfl
    refine pure_ (i := 13) (N := some 41) (v := ?_) (a' := ?_) #[true, true, true, true, true, true, false, true, true, true, true, true, true, true, false, false, false, false, false, false, false, false] rfl rfl (any_of HT_.out (by kernel_rfl)) (fun _ _ _ h => h) (Or.inl ⟨by rfl, ?_⟩) ?_ ?_
    rotate_left
    · intro w'
      go_simp
      with_reducible rfl
    rotate_left
    · simp only [Act.put, List.setIfInBounds_toArray, List.set_cons_zero, List.set_cons_succ, i64_w, i32_w]
      rfl
    refine pure_ (i := 14) (N := some 42) (v := ?_) (a' := ?_) #[true, true, true, true, true, true, false, true, true, true, true, true, true, true, true, false, false, false, false, false, false, false] rfl rfl (any_of HT_.out (by kernel_rfl)) (fun _ _ _ h => h) (Or.inl ⟨by rfl, ?_⟩) ?_ ?_
    rotate_left
    · intro w'
      go_simp
      with_reducible rfl
    rotate_left
    · simp only [Act.put, List.setIfInBounds_toArray, List.set_cons_zero, List.set_cons_succ, i64_w, i32_w]
      rfl
    refine take_ (i := 15) (N := some 43) (v := ?_) (a' := ?_) #[true, true, true, true, true, true, false, true, true, true, true, true, true, true, true, true, false, false, false, false, false, false] rfl rfl (take_ofW HT_.out HW_.out (by kernel_rfl)) (fun _ _ _ h => h) (Or.inl ⟨by rfl, ?_⟩) hHeld ?_ ?_
    rotate_left
    · rintro w' ⟨s0, s1, s2⟩
      go_simp
      with_reducible rfl
    rotate_left
    · simp only [Act.put, List.setIfInBounds_toArray, List.set_cons_zero, List.set_cons_succ, i64_w, i32_w]
      rfl
    refine one_ (i := 6) (N := some 34) #[true, true, true, true, true, true, true, true, true, true, true, true, true, true, true, true, false, false, false, false, false, false] rfl rfl (one_of HT_.out (by kernel_rfl)) (by decide) (fun K hK => ?_)
    refine Kd.R_append_rows_step (Kd.int .i64) (w0 := w1) w1.heap.size (by rfl) (.const (.slice none 0 0)) (.tmp 33) 28 2 (.int .i64 0) 8 rfl Try.underlying28 info2 rfl (by decide) (by omega) (.slice none 0 0) [] ya _ _ _ (fun _ => True) (fun _ => False) rfl rfl ?aO ?aR (fun _ _ h => h) (fun _ h => h.elim) ?aF ?aB ?aS ?aL ?_
    (case aR => exact HY.out.1 w3 HP3.out)
    (case aB => exact HP3.out.hb)
    (case aF => exact (fun _ _ => trivial))
    (case aO => exact Kd.R_nil _ _ _ _ _)
    (case aS => exact (below_size HP3.out.hb))
    (case aL => have := HY.out.2; simp; omega)
    intro v1 w5 ho hb hg hat
    obtain ⟨A1, c1, rfl, _, _⟩ := Kd.R_reads ho
    rw [List.nil_append] at ho hat ⊢
    have HG := Aside0.mk (HP3.out.look_row (t1 := (A1, ya.length, c1)) (xs1 := ya) ⟨ho, hb, hg, hat⟩)
    clear ho hb hg hat HP3
    refine hK.out _ _ (HC.out _ w5 HG.out.1) (fun hHeld => ?_)
    clear hK K
    refine norm_ (a' := ?_) ?_ ?_
    rotate_left
    · show Act.put _ (some 34) _ = _
      simp only [Act.put, List.setIfInBounds_toArray, List.set_cons_zero, List.set_cons_succ, i64_w, i32_w]
      rfl
    refine pure_ (i := 16) (N := some 44) (v := ?_) (a' := ?_) #[true, true, true, true, true, true, true, true, true, true, true, true, true, true, true, true, true, false, false, false, false, false] rfl rfl (any_of HT_.out (by kernel_rfl)) (fun _ _ _ h => h) (Or.inl ⟨by rfl, ?_⟩) ?_ ?_
    rotate_left
    · intro w'
      go_simp
      with_reducible rfl
    rotate_left
    · simp only [Act.put, List.setIfInBounds_toArray, List.set_cons_zero, List.set_cons_succ, i64_w, i32_w]
      rfl
    refine one_ (i := 17) (N := none) #[true, true, true, true, true, true, true, true, true, true, true, true, true, true, true, true, true, true, false, false, false, false] rfl rfl (one_of HT_.out (by kernel_rfl)) (by decide) (fun K hK => ?_)
    have hq0 := blk_cell HG.out.1.bt 0
    have hf0 := blk_frozen HG.out.1.bt 0
    replace hq0 : w5.cell? ⟨gt, 0, none⟩ = some (.slice none 0 0) := hq0
    have HP6 := Aside0.mk (HG.out.1.tell 0 (.slice A1 ya.length c1) (t1 := [.slice A1 ya.length c1, .int .i64 0, .slice none 0 0]) rfl)
    have HF6 := Aside0.mk (HG.out.2.far HG.out.1.bt (by decide) (setCell_keep w5 gt 0 (.slice A1 ya.length c1)))
    refine skip_ (w1 := ?_) (by rfl) rfl ?_ ?_
    rotate_left
    · go_simp
      rfl
    refine hK.out _ _ (HC.out _ _ HP6.out) (fun hHeld => ?_)
    clear hK K
    clear hq0 hf0 HG
    replace HF6 : Aside0 (Fam (Value.int .i64) 2 (w5.setCell ⟨gt, 0, none⟩ (.slice A1 ya.length c1)) w1.heap.size ((g.vs.map hv ++ g.ks.map hv) ++ [(.slice A1 ya.length c1, ya)])) := HF6
    generalize w5.setCell ⟨gt, 0, none⟩ (.slice A1 ya.length c1) = w6 at HP6 HF6 hHeld ⊢
    refine pure_ (i := 18) (N := some 45) (v := ?_) (a' := ?_) #[true, true, true, true, true, true, true, true, true, true, true, true, true, true, true, true, true, true, true, false, false, false] rfl rfl (any_of HT_.out (by kernel_rfl)) (fun _ _ _ h => h) (Or.inl ⟨by rfl, ?_⟩) ?_ ?_
    rotate_left
    · intro w'
      go_simp
      with_reducible rfl
    rotate_left
    · simp only [Act.put, List.setIfInBounds_toArray, List.set_cons_zero, List.set_cons_succ, i64_w, i32_w]
      rfl
    refine one_ (i := 19) (N := none) #[true, true, true, true, true, true, true, true, true, true, true, true, true, true, true, true, true, true, true, true, false, false] rfl rfl (one_of HT_.out (by kernel_rfl)) (by decide) (fun K hK => ?_)
    have hq0 := blk_cell HP6.out.bt 1
    have hf0 := blk_frozen HP6.out.bt 1
    replace hq0 : w6.cell? ⟨gt, 1, none⟩ = some (.int .i64 0) := hq0
    have HP7 := Aside0.mk (HP6.out.tell 1 (.int .i64 (vn : Int)) (t1 := [.slice A1 ya.length c1, .int .i64 (vn : Int), .slice none 0 0]) rfl)
    have HF7 := Aside0.mk (HF6.out.far HP6.out.bt (by decide) (setCell_keep w6 gt 1 (.int .i64 (vn : Int))))
    refine skip_ (w1 := ?_) (by rfl) rfl ?_ ?_
    rotate_left
    · go_simp
      rfl
    refine hK.out _ _ (HC.out _ _ HP7.out) (fun hHeld => ?_)
    clear hK K
    clear hq0 hf0 HP6 HF6
    generalize w6.setCell ⟨gt, 1, none⟩ (.int .i64 (vn : Int)) = w7 at HP7 HF7 hHeld ⊢
    refine pure_ (i := 20) (N := some 46) (v := ?_) (a' := ?_) #[true, true, true, true, true, true, true, true, true, true, true, true, true, true, true, true, true, true, true, true, true, false] rfl rfl (any_of HT_.out (by kernel_rfl)) (fun _ _ _ h => h) (Or.inl ⟨by rfl, ?_⟩) ?_ ?_
    rotate_left
    · intro w'
      go_simp
      with_reducible rfl
    rotate_left
    · simp only [Act.put, List.setIfInBounds_toArray, List.set_cons_zero, List.set_cons_succ, i64_w, i32_w]
      rfl
    refine last_ (i := 21) (N := none) #[true, true, true, true, true, true, true, true, true, true, true, true, true, true, true, true, true, true, true, true, true, true] rfl rfl (one_of HT_.out (by kernel_rfl)) (by decide) (fun K hK => ?_)
    have hq0 := blk_cell HP7.out.bt 2
    have hf0 := blk_frozen HP7.out.bt 2
    replace hq0 : w7.cell? ⟨gt, 2, none⟩ = some (.slice none 0 0) := hq0
    have HP8 := Aside0.mk (HP7.out.tell 2 (.slice mA mn mc) (t1 := [.slice A1 ya.length c1, .int .i64 (vn : Int), .slice mA mn mc]) rfl)
    have HF8 := Aside0.mk (HF7.out.far HP7.out.bt (by decide) (setCell_keep w7 gt 2 (.slice mA mn mc)))
    refine skip_ (w1 := ?_) (by rfl) rfl ?_ ?_
    rotate_left
    · go_simp
      rfl
    refine hK.out _ _ ?_
    clear hK K
    refine done_ (done_of HT_.out (by kernel_rfl)) ?_
    clear HT_ HW_ hHeld

    clear hq0 hf0
    generalize w7.setCell ⟨gt, 2, none⟩ (.slice mA mn mc) = w9 at HP8 HF8 ⊢
    clear HP7 HF7
    obtain ⟨⟨kA, kn, kc⟩, hko⟩ : ∃ t : Sl, g.ko = t := ⟨_, rfl⟩
    have hbt := HP8.out.bt
    rw [hko] at hbt
    have hx0 : w9.cell? ⟨gt, 0, none⟩ = some (.slice A1 ya.length c1) := (blk_cell hbt 0).trans rfl
    have hx1 : w9.cell? ⟨gt, 1, none⟩ = some (.int .i64 (vn : Int)) := (blk_cell hbt 1).trans rfl
    have hx2 : w9.cell? ⟨gt, 2, none⟩ = some (.slice mA mn mc) := (blk_cell hbt 2).trans rfl
    have hx3 : w9.cell? ⟨gt, 3, none⟩ = some (.slice kA kn kc) := (blk_cell hbt 3).trans rfl
    obtain ⟨gr, hgr⟩ : ∃ gr, w.heap.size = gr := ⟨_, rfl⟩
    have hbr := blk_below (show w1.heap[w.heap.size]? = _ from HN2.out) HP8.out.hb
    have hBw := below_step HB2.out HP8.out.hb
    rw [hgr] at hbr ⊢
    have hy0 : w9.cell? ⟨gr, 0, none⟩ = some (.slice none 0 0) := (blk_cell hbr 0).trans rfl
    have hy1 : w9.cell? ⟨gr, 1, none⟩ = some (.int .i64 0) := (blk_cell hbr 1).trans rfl
    have hy2 : w9.cell? ⟨gr, 2, none⟩ = some (.slice none 0 0) := (blk_cell hbr 2).trans rfl
    have hy3 : w9.cell? ⟨gr, 3, none⟩ = some (.slice none 0 0) := (blk_cell hbr 3).trans rfl
    have hz0 := blk_frozen hbr 0
    have hz1 := blk_frozen hbr 1
    have hz2 := blk_frozen hbr 2
    have hz3 := blk_frozen hbr 3
    have HEnd : Aside0 (PEnd w w9 (.returned (.tuple #[.agg #[.slice A1 ya.length c1, .int .i64 (vn : Int), .slice mA mn mc, .slice kA kn kc], .int .i64 0])) (playF l0 l1 l2)) := by
      have e1 : playF l0 l1 l2 = (ya, (vn : Int), s.merges.map mS, s.looks, 0) := by
        unfold playF
        rw [if_pos HE.out.symm, ← HS.out, HV.out.1, HV.out.2.1]
      rw [e1]
      have hle : w.heap.size ≤ w1.heap.size := below_size HB2.out
      have f28 := fam_less HP8.out.f28 (L2 := [(slv g.ko, g.ks.map (·.1))]) (List.sublist_cons_self _ _)
      rw [hko] at f28
      have f2 : Fam (Value.int .i64) 2 w9 w1.heap.size ([(Value.slice A1 ya.length c1, ya)] ++ g.ks.map hv) := fam_less (fam_perm HF8.out (L2 := [(Value.slice A1 ya.length c1, ya)] ++ (g.vs.map hv ++ g.ks.map hv)) List.perm_append_comm) ((List.Sublist.refl _).append (List.sublist_append_right _ _))
      have hS := looks_S f28 f2 (List.mem_singleton.2 rfl)
      rw [HRp.out.ks] at hS
      have hM := HP8.out.mg
      rw [HV.out.2.2, HRp.out.ms] at hM
      exact ⟨⟨_, _, _, rfl, Kd.R_lower (Kd.R_mono (Fam.R (h1 := fun _ => rfl) f2 (List.mem_cons_self ..)) (fun _ _ => trivial)) hle, Kd.R_lower (merges_R hM) hle, Kd.S_lower hS hle, hBw⟩⟩
    have HBR := Aside0.mk hbr
    have HGR := Aside0.mk hgr
    clear HP8 HF8 hbt hbr hBw hko hgr HC HY HS HV HRp HGT lv HN2
    go_wp2
    refine bodyPost_ret (results_ct rfl _ _ gr 39 #[.slice A1 ya.length c1, .int .i64 (vn : Int), .slice mA mn mc, .slice kA kn kc] (0, 0) _ rfl (blk_put (cs := #[.slice A1 ya.length c1, .int .i64 (vn : Int), .slice mA mn mc, .slice none 0 0]) (blk_put (cs := #[.slice A1 ya.length c1, .int .i64 (vn : Int), .slice none 0 0, .slice none 0 0]) (blk_put (cs := #[.slice A1 ya.length c1, .int .i64 0, .slice none 0 0, .slice none 0 0]) (blk_put HBR.out 0 _ rfl) 1 _ rfl) 2 _ rfl) 3 _ rfl) Try.underlying39 rfl (by kernel_rfl)) rfl ?_
    have hge : w.heap.size ≤ gr := by rw [HGR.out]; exact Nat.le_refl _
    have k1 := HEnd.out.stores HBR.out hge 0 (.slice A1 ya.length c1)
    have k2 := k1.stores (blk_set HBR.out 0 _) hge 1 (.int .i64 (vn : Int))
    have k3 := k2.stores (blk_set (blk_set HBR.out 0 _) 1 _) hge 2 (.slice mA mn mc)
    exact k3.stores (blk_set (blk_set (blk_set HBR.out 0 _) 1 _) 2 _) hge 3 (.slice kA kn kc)
  · have h0b : (e == 0) = false := beq_eq_false_iff_ne.mpr h0
    have h0c : (e != 0) = true := bne_iff_ne.mpr h0
    have HNE := Aside0.mk h0
    clear h0
    go_enter Try.func15, Try.ntmps15
    go_wp2_with fail
    refine HRef.out.mono ?_
    rintro e_ w1 ⟨rfl, hb⟩
    have HB2 := Aside0.mk (below_step HB1.out (by exact hb))
    have hbr := blk_below HN1.out hb
    clear hb HRef HB1 HN1
    obtain ⟨gr, hgr⟩ : ∃ gr, w.heap.size = gr := ⟨_, rfl⟩
    rw [hgr] at hbr ⊢
    have hy0 : w1.cell? ⟨gr, 0, none⟩ = some (.slice none 0 0) := (blk_cell hbr 0).trans rfl
    have hy1 : w1.cell? ⟨gr, 1, none⟩ = some (.int .i64 0) := (blk_cell hbr 1).trans rfl
    have hy2 : w1.cell? ⟨gr, 2, none⟩ = some (.slice none 0 0) := (blk_cell hbr 2).trans rfl
    have hy3 : w1.cell? ⟨gr, 3, none⟩ = some (.slice none 0 0) := (blk_cell hbr 3).trans rfl
    have hz0 := blk_frozen hbr 0
    have hz1 := blk_frozen hbr 1
    have hz2 := blk_frozen hbr 2
    have hz3 := blk_frozen hbr 3
    have HEnd : Aside0 (PEnd w w1 (.returned (.tuple #[.agg #[.slice none 0 0, .int .i64 0, .slice none 0 0, .slice none 0 0], .int .i64 e])) (playF l0 l1 l2)) := by
      have e1 : playF l0 l1 l2 = ([], 0, [], [], e) := by
        unfold playF
        rw [← HE.out, if_neg HNE.out]
      rw [e1]
      exact ⟨⟨_, _, _, rfl, Kd.R_nil _ _ _ _ _, Kd.R_nil _ _ _ _ _, Kd.S_nil _ _ _ _ _, HB2.out⟩⟩
    have HBR := Aside0.mk hbr
    have HGR := Aside0.mk hgr
    clear hbr hgr
    go_wp2
    refine bodyPost_ret (results_ct rfl _ _ gr 39 #[.slice none 0 0, .int .i64 0, .slice none 0 0, .slice none 0 0] (0, 0) _ rfl (blk_put (cs := #[.slice none 0 0, .int .i64 0, .slice none 0 0, .slice none 0 0]) (blk_put (cs := #[.slice none 0 0, .int .i64 0, .slice none 0 0, .slice none 0 0]) (blk_put (cs := #[.slice none 0 0, .int .i64 0, .slice none 0 0, .slice none 0 0]) (blk_put HBR.out 0 _ rfl) 1 _ rfl) 2 _ rfl) 3 _ rfl) Try.underlying39 rfl (by kernel_rfl)) rfl ?_
    have hge : w.heap.size ≤ gr := by rw [HGR.out]; exact Nat.le_refl _
    have k1 := HEnd.out.stores HBR.out hge 0 (.slice none 0 0)
    have k2 := k1.stores (blk_set HBR.out 0 _) hge 1 (.int .i64 0)
    have k3 := k2.stores (blk_set (blk_set HBR.out 0 _) 1 _) hge 2 (.slice none 0 0)
    exact k3.stores (blk_set (blk_set (blk_set HBR.out 0 _) 1 _) 2 _) hge 3 (.slice none 0 0)
def hyper_Play.f (l0 : List (S46)) (l1 : List Bool) (l2 : List Int) : Option (List Int × Int × (List (S44)) × (List (List Int)) × Int) := some (playF l0 l1 l2)
end Go.Proofs.Ytamfkglnejhjdaa.PlayState
