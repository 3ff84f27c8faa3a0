/- The document's run, whole: its beginning, its deeds, its end. -/
import Derived.Test.YtamfkglnejhjdaaDoorRefBack
namespace Go.Proofs.YtamfkglnejhjdaaDoor.Ref
open Go.RowKit Go.Proofs.YtamfkglnejhjdaaDoorW.PrintWords Go.Proofs.YtamfkglnejhjdaaDoorW.PrintLast Go.Proofs.YtamfkglnejhjdaaDoorW.PrintMore Go.Proofs.YtamfkglnejhjdaaDoor.PHyperFold
set_option linter.unusedVariables false
set_option linter.unusedSimpArgs false

open Go.Proofs.YtamfkglnejhjdaaDoor.Play Go.Proofs.YtamfkglnejhjdaaDoor.QuietCall Go.Proofs.YtamfkglnejhjdaaDoor.Base
open Go.Proofs.YtamfkglnejhjdaaDoor.PlayState (ints ints_length ints_getD ints_erase Bd right_at)
section
variable {w0 w w1 : World} {gr : Nat} {F : List Int → Int} {op un : Int} {ps : List Int} {s : St (List Int)} {g : Gr} {L : List Int} {n : Nat} {X : Int → Prop}
/-- A deed, whichever. -/
theorem deed_calls (h : RT w0 w gr F op un ps s) (hB : Bd n s L) (hn : n ≤ 100000) (hJ : JoinOk w0 gr op F X) (hP : PutOk w0 gr op F X) (hX : ∀ y, y ∈ L → X y) (hps : ps.length ≤ 1048576) (hF0 : F [] = un) (t : Nat) (x0 x : Int) (hk : x0 = 0 ∨ x0 = 1 ∨ x0 = 2 ∨ x0 = 3 ∨ x0 = 4) (hx : X x) (hup : x0 = 1 → s.up ≠ [])
    (st : List Bool) (sA : Option Addr) (sc : Nat) (hS : Kd.C Kd.bool w0 sA st.length st) (hsl : st.length ≤ 4096) :
    Calls Tryd.prog 49 #[.pointer (some ⟨gr, 0, none⟩), .int .i64 (t : Int), .agg #[.int .i64 x0, .int .i64 x], .slice sA st.length sc] w fun e w' => e = .returned (.tuple #[]) ∧ RT w0 w' gr F op un ps (Play.step red st t (x0, x) s) := by
  rcases hk with rfl | rfl | rfl | rfl | rfl
  · exact deed_spawn h hB hn x (t : Int) _
  · exact deed_back h hB hn t hJ hX hps hF0 (hup rfl) st sA sc hS hsl x
  · exact deed_sync h hB hn t hJ hX hps x _
  · exact deed_read h hB hn x (t : Int) _
  · exact deed_write h hB hn hP hX x (t : Int) hx _
/-- The run's object at gr stands for the play s at its end: which spawn began a task is not asked any more. -/
def RE (w0 w : World) (gr : Nat) (F : List Int → Int) (op un : Int) (ps : List Int) (s : St (List Int)) : Prop := ∃ g, RS w0 w gr g ∧ RepR F op un ps s g
/-- What holds at a round's head: i deeds are behind. -/
def RL (w0 : World) (gr : Nat) (F : List Int → Int) (op un : Int) (X : Int → Prop) (l : List S46) (st : List Bool) (ps : List Int) (i : Nat) (w : World) : Prop :=
  ∃ s L, RT w0 w gr F op un ps s ∧ Bd i s L ∧ (∀ y, y ∈ L → X y) ∧ right s.up.length ((l.map dd).drop i) = true ∧ run red st i ((l.map dd).drop i) s = run red st 0 (l.map dd) (Play.start red ps)
theorem puts_X {l : List S46} (hX : ∀ d, d ∈ l → X d.f1) {d : S46} (hd : d ∈ l) : ∀ y, y ∈ puts [dd d] → X y := by
  intro y hy
  unfold puts at hy
  rw [List.mem_map] at hy
  obtain ⟨a, ha, rfl⟩ := hy
  rw [List.mem_filter, List.mem_singleton] at ha
  obtain ⟨rfl, _⟩ := ha
  exact hX d hd
end

def R32 : Bool × List (List Nat × List Nat) := (true, [([], []), ([], []), ([], []), ([2], [2]), ([3], [3]), ([4], [4]), ([], []), ([6], [6]), ([5, 7], [5, 7]), ([1, 8, 7], [1, 8]), ([0, 0, 1, 2, 3, 4, 5, 6, 7, 8, 9], [0]), ([10, 0, 1, 2, 3, 4, 5, 6, 7, 8, 9], [10]), ([11, 9, 9, 0, 1, 2, 3, 4, 5, 6, 7, 8, 9], [9, 11])])
def R32B : List Nat := [0, 0, 0, 4, 12, 28, 0, 64, 252, 510, 1023, 2047, 4095]
theorem R32_tab : rtab .any (opsOf Tryd.f28 10) = R32 := by kernel_rfl
theorem R32_bits : waitsOk R32.2 R32B = true := by kernel_rfl

set_option maxHeartbeats 16000000 in
set_option maxRecDepth 100000 in
theorem whole_calls (Ad : Option Addr) (c0 : Nat) (l : List S46) (sA : Option Addr) (sc : Nat) (st : List Bool) (pA : Option Addr) (pc : Nat) (ps : List Int) (w : World) (F : List Int → Int) (op un : Int) (X : Int → Prop)
    (hC : Kd.C k46 w Ad l.length l) (hc : l.length ≤ c0) (hS : Kd.C Kd.bool w sA st.length st) (hPi : Kd.C (Kd.int .i64) w pA ps.length ps) (hpc : ps.length ≤ pc) (hl : l.length ≤ 4096) (hst : st.length ≤ 4096) (hps : ps.length ≤ 1048576) (hr : right 0 (l.map dd) = true)
    (hJ : ∀ gr, JoinOk w gr op F X) (hPu : ∀ gr, PutOk w gr op F X) (hX : ∀ d, d ∈ l → X d.f1) (hF0 : F [] = un) :
    Calls Tryd.prog 28 #[.int .i64 op, .int .i64 un, .slice Ad l.length c0, .slice sA st.length sc, .slice pA ps.length pc] w fun e w' => ∃ gr g, e = .returned (.pointer (some ⟨gr, 0, none⟩)) ∧ RS w w' gr g ∧ RepR F op un ps (play red st ps (l.map dd)) g ∧
      g.md = ((play red st ps (l.map dd)).views.length : Int) ∧ (Kd.int .i64).R 2 w' w.heap.size (fun _ => True) (slv g.fo) ((play red st ps (l.map dd)).views.getD 0 []) := by
  have hlen : (l.map dd).length = l.length := by simp
  obtain ⟨n, hn⟩ : ∃ n, l.length = n := ⟨_, rfl⟩
  have hn4 : (n : Int) ≤ 4096 := by omega
  have HC := Aside0.mk hC
  have HS := Aside0.mk hS
  have HPi := Aside0.mk (And.intro hPi hpc)
  have HLim := Aside0.mk (And.intro hl (And.intro hst hps))
  have HR := Aside0.mk hr
  have HJ := Aside0.mk hJ
  have HPu := Aside0.mk hPu
  have HX := Aside0.mk hX
  have HF0 := Aside0.mk hF0
  have HN := Aside0.mk (And.intro hn hlen)
  obtain ⟨gr, hgr⟩ : ∃ gr, w.heap.size = gr := ⟨_, rfl⟩
  obtain ⟨g0, hg0⟩ : ∃ g0 : Gr, g0 = { op := op, un := un, vo := (none, 0, 0), tk := (none, 0, 0), po := (pA, ps.length, pc), nx := 0, sn := 0, fo := (none, 0, 0), md := 0, mo := (none, 0, 0), lo := (none, 0, 0), vs := [], ts := [], ps := ps, ms := [], ls := [] } := ⟨_, rfl⟩
  have HRS0 := Aside0.mk (show RS w (w.alloc (.cells #[.int .i64 op, .int .i64 un, .slice none 0 0, .slice none 0 0, .slice pA ps.length pc, .int .i64 0, .int .i64 0, .slice none 0 0, .int .i64 0, .slice none 0 0, .slice none 0 0] 70)) gr g0 from by
    subst hg0
    refine ⟨below_alloc (Below.refl _ _) _, ?_, by omega, ⟨Kd.R_nil _ _ _ _ _, Kd.R_nil _ _ _ _ _, Kd.R_nil _ _ _ _ _, Kd.R_nil _ _ _ _ _⟩, hPi, rfl, hpc⟩
    rw [← hgr]
    exact heap_alloc_new _ _)
  rw [hn]
  clear hC hc hS hPi hpc hl hst hps hr hJ hPu hX hF0 hlen hn
  go_enter Tryd.func28, Tryd.ntmps28
  go_wp2_with fail
  refine (made_calls HRS0.out (by rw [hg0]; show (0 : Nat) ≤ _; omega)).mono ?_
  rintro e w2 ⟨rfl, vo2, hrs2⟩
  obtain ⟨g2, hg2⟩ : ∃ g2 : Gr, g2 = { g0 with vo := vo2, vs := g0.vs ++ [⟨[], g0.un⟩] } := ⟨_, rfl⟩
  rw [← hg2] at hrs2
  rw [show (g0.vs.length : Int) = 0 by rw [hg0]; rfl]
  have HRS2 := Aside0.mk hrs2
  have HG2 := Aside0.mk (And.intro hg0 hg2)
  have x3 : w2.cell? ⟨gr, 3, none⟩ = some (.slice none 0 0) := by rw [hrs2.cell.2.2.2.1, hg2, hg0]; rfl
  have HGr := Aside0.mk hgr
  have hbl := blk_lt hrs2.bp
  clear hg0 hg2 hgr hrs2 HRS0
  go_upto_region 4 with (first | ((with_reducible refine gate_dst (N := 27) rfl ?_); refine Kd.R_lit (Kd.int .i64) (w0 := w2) w2.heap.size 3 rfl (N := 27) rfl (xs := [(0 : Int)]) (inner := [.int .i64 0]) (ok := fun _ => True) (okp := fun _ => True) ?hr ?hp (fun _ hk => hk) trivial (Below.refl _ _) (Nat.le_refl _) (by simp) ?_; (case hr => first | (go_simp; done) | (go_simp; rfl)); (case hp => exact Kd.reps_scalar (enc := Value.int .i64) [(0 : Int)]); intro v3 w3 ho hb hg hat; obtain ⟨A3, c3, rfl, _, _⟩ := Kd.R_reads ho; have HA3 := Aside0.mk ho; have HB3 := Aside0.mk hb; clear ho hb hg hat) | ((with_reducible refine gate_builtin (b := .append) (xs := #[.tmp 25, .tmp 29]) rfl ?_); at_builtin; refine Kd.R_append k96 (w0 := w) w.heap.size rfl (.tmp 25) (.tmp 29) 68 96 (.agg #[.int .i64 0, .slice none 0 0]) 32 rfl Tryd.underlying68 infoTask rfl (by decide) (by omega) (.slice none 0 0) [] ⟨-1, [0]⟩ [.int .i64 (-1), .slice A3 1 c3] (fun _ => True) (fun _ => True) rfl rfl ?aP ?aK ?aF ?aO ?aB ?aS ?aL ?_; (case aP => exact k96_mkM _ _ _ ⟨-1, [0]⟩ (Kd.R_lower (Kd.R_mono HA3.out (fun _ _ => trivial)) HRS2.out.hb.size)); (case aK => exact fun _ _ => ⟨trivial, by simp [Value.ownBlock]⟩); (case aB => exact (HRS2.out.below HB3.out).hb); (case aF => exact fun _ _ => trivial); (case aO => exact Kd.R_nil _ _ _ _ _); (case aS => exact below_size (HRS2.out.below HB3.out).hb); (case aL => simp only [List.length_nil]; omega); intro v4 w4 ho hb hg hat; obtain ⟨A4, c4, rfl, _, _⟩ := Kd.R_reads ho; have HA4 := Aside0.mk (And.intro ho (And.intro hb hg)); have hon4 : Only 96 w3 w4 := Only.grown hg (fun q e => by cases e); have hbp4 := hon4 gr _ _ (HRS2.out.below HB3.out).bp (by decide); have hfz := blk_frozen hbp4 3; have hfx : w4.cell? ⟨gr, 3, none⟩ = some (.slice none 0 0) := (blk_cell hbp4 3).trans (by show some (slv g2.tk) = _; rw [HG2.out.2, HG2.out.1]; rfl); clear ho hb hg hat))
  have hg2ts : g2.ts = [] := by rw [HG2.out.2, HG2.out.1]
  have hrs4 := (HRS2.out.below HB3.out).task_made (t1 := (A4, 1, c4)) (m := ⟨-1, [0]⟩) (by rw [hg2ts]; exact HA4.out.1) HA4.out.2.1 (by rw [show (slv g2.tk).ownBlock = (Value.slice none 0 0).ownBlock by rw [HG2.out.2, HG2.out.1]; rfl]; exact HA4.out.2.2)
  obtain ⟨g4, hg4⟩ : ∃ g4 : Gr, g4 = { g2 with tk := (A4, 1, c4), ts := g2.ts ++ [⟨-1, [0]⟩] } := ⟨_, rfl⟩
  rw [← hg4] at hrs4
  have hrt : RT w (w4.setCell ⟨gr, 3, none⟩ (.slice A4 1 c4)) gr F op un ps (Play.start red ps) := by
    refine ⟨g4, hrs4, ?_, ?_, ?_⟩
    · have h1 := HG2.out.1
      have h2 := HG2.out.2
      have h3 := HF0.out
      subst h1 h2 hg4
      exact ⟨rfl, rfl, rfl, by show [(⟨[], un⟩ : S66)] = [vS F []]; rw [vS, h3], rfl, rfl, rfl, Nat.zero_le _, rfl⟩
    · rw [hg4, HG2.out.2, HG2.out.1]; rfl
    · rw [hg4, HG2.out.2, HG2.out.1]; rfl
  have HRT := Aside0.mk hrt
  clear hrt hrs4 hg4 hg2ts hfx hfz hon4 hbp4 HA4 HG2 HB3 HRS2 HA3 x3 hbl
  generalize w4.setCell ⟨gr, 3, none⟩ (.slice A4 1 c4) = w5 at HRT ⊢
  go_wp2
  go_loopw [13] (fun v13 w' => ∃ i : Nat, i ≤ n ∧ v13 = .int .i64 (i : Int) ∧ Aside0 (RL w gr F op un X l st ps i w')) (fun v13 _ => n - (intOf v13).toNat)
  case atStart => exact ⟨0, Nat.zero_le _, rfl, ⟨⟨_, [], HRT.out, Bd.start ps, fun y hy => absurd hy List.not_mem_nil, HR.out, rfl⟩⟩⟩
  case round =>
    clear HRT
    obtain ⟨i, hi, rfl, HRL⟩ := hrel
    by_cases hlt : i < n
    · obtain ⟨s, L, hrt, hB, hXL, hrr, hrun⟩ := HRL.out
      clear HRL
      obtain ⟨d, hd⟩ : ∃ d, d = rd_T46 l (i : Int) := ⟨_, rfl⟩
      have hil : i < l.length := by rw [HN.out.1]; exact hlt
      have hdl : l.getD i z46 = d := by rw [hd]; simp [rd_T46]
      have hdm : d ∈ l := by rw [← hdl, List.getD_eq_getElem?_getD, List.getElem?_eq_getElem hil]; exact List.getElem_mem hil
      have hdi : (l.map dd)[i]? = some (dd d) := by
        rw [List.getElem?_map, List.getElem?_eq_getElem hil, ← hdl]
        simp [List.getD_eq_getElem?_getD, hil]
      obtain ⟨hkind, hup, hrr2⟩ := right_at hdi hrr
      have hcw : Kd.C k46 wr Ad l.length l := by
        obtain ⟨g, hp, _⟩ := hrt
        exact Kd.C_below HC.out hp.hb
      obtain ⟨ad, e0, hx0, hx1⟩ := at_T46 hcw (i : Int) (by omega) (by rw [HN.out.1]; omega)
      cases e0
      rw [Int.toNat_natCast, ← hd] at hx0 hx1
      have HXd := Aside0.mk (HX.out d hdm)
      have HPutsX := Aside0.mk (fun y hy => puts_X HX.out hdm y hy)
      obtain ⟨x0, hxx0⟩ : ∃ x, x = d.f0 := ⟨_, rfl⟩
      obtain ⟨x, hxx1⟩ : ∃ x, x = d.f1 := ⟨_, rfl⟩
      rw [← hxx0] at hx0
      rw [← hxx1] at hx1 HXd
      have hdd : dd d = (x0, x) := by rw [hxx0, hxx1]; rfl
      rw [hdd] at hdi hkind hup hrr2 HPutsX
      have HRT := Aside0.mk hrt
      have HBd := Aside0.mk hB
      have HXL := Aside0.mk hXL
      have HRun := Aside0.mk hrun
      have HDi := Aside0.mk hdi
      have HUp := Aside0.mk hup
      have HRR := Aside0.mk hrr2
      have HKind := Aside0.mk hkind
      have hu46 := Tryd.underlying46
      have hdl2 : decide ((i : Int) < (n : Int)) = true := decide_eq_true (by omega)
      have hlb : ((i : Int) < (n : Int)) = True := eq_true (by omega)
      have hi4 : (i : Int) ≤ 4096 := by omega
      clear hrt hB hXL hrr hrun hd hil hdl hdm hdi hkind hup hrr2 hcw hxx0 hxx1 hdd
      go_wp2_with fail
      refine (deed_calls HRT.out HBd.out (by omega) (HJ.out gr) (HPu.out gr) HXL.out HLim.out.2.2 HF0.out i x0 x HKind.out HXd.out (fun e => List.ne_nil_of_length_pos (HUp.out e)) st sA sc HS.out HLim.out.2.1).mono ?_
      rintro e w6 ⟨rfl, hrt6⟩
      have HRL := Aside0.mk (show RL w gr F op un X l st ps (i + 1) w6 from by
        refine ⟨_, _, hrt6, HBd.out.step st i (x0, x) (fun e => List.ne_nil_of_length_pos (HUp.out e)), fun y hy => ?_, ?_, ?_⟩
        · rcases List.mem_append.1 hy with h | h
          · exact HXL.out y h
          · exact HPutsX.out y h
        · rw [step_up]; exact HRR.out
        · obtain ⟨hl, he⟩ := List.getElem?_eq_some_iff.1 HDi.out
          rw [← HRun.out, List.drop_eq_getElem_cons hl, he]
          rfl)
      clear hrt6 HRT HBd HXL HRun HDi HUp HRR HKind HXd HPutsX hx0 hx1
      go_wp2
      go_roundw
      case measure => simp [intOf]; omega
      case rel => exact ⟨i + 1, by omega, by go_num, HRL⟩
    · obtain rfl : i = n := by omega
      obtain ⟨s, L, hrt, hB, hXL, hrr, hrun⟩ := HRL.out
      have hdl : decide ((i : Int) < (i : Int)) = false := decide_eq_false (by omega)
      rw [List.drop_eq_nil_of_le (by rw [HN.out.2, HN.out.1]; omega)] at hrun
      replace hrun : s = run red st 0 (l.map dd) (Play.start red ps) := hrun
      have HE := Aside0.mk (show ∃ s' L', s'.up.length = s.up.length ∧ RE w wr gr F op un ps s' ∧ Bd i s' L' ∧ (∀ y, y ∈ L' → X y) ∧ finish red i s'.up.length s' = play red st ps (l.map dd) from by
        obtain ⟨g, h1, h2, _⟩ := hrt
        exact ⟨s, L, rfl, ⟨g, h1, h2⟩, hB, hXL, by unfold play; rw [← hrun, HN.out.2, HN.out.1]⟩)
      clear hB hrun hrt hrr hXL HRL hlt hi
      obtain ⟨K0, hK0⟩ : ∃ K0, K0 = s.up.length := ⟨_, rfl⟩
      rw [← hK0] at HE
      clear hK0
      go_wp2
      go_loopg [47] K0 (fun kq v47 w' => Aside0 (∃ s' L', s'.up.length = kq ∧ RE w w' gr F op un ps s' ∧ Bd i s' L' ∧ (∀ y, y ∈ L' → X y) ∧ finish red i s'.up.length s' = play red st ps (l.map dd)))
      case atStart => exact HE
      case round =>
        clear HE
        have HE := hrel
        clear hrel
        obtain ⟨s', L', hk, ⟨g, hrs, hrep⟩, hB, hXL, hfin⟩ := HE.out
        clear HE
        obtain ⟨m, hm⟩ : ∃ m, m = s'.up.length := ⟨_, rfl⟩
        have hm4 : (m : Int) ≤ 4096 := by have := hB.up; omega
        obtain ⟨tn, htn⟩ : ∃ tn, g.tk.2.1 = tn := ⟨_, rfl⟩
        have htn2 : tn = m + 1 := by rw [← htn, (R_header hrs.rw.t).1, hrep.tasks_len, hm]
        have x3 : wr.cell? ⟨gr, 3, none⟩ = some (.slice g.tk.1 (m + 1) g.tk.2.2) := by rw [hrs.cell.2.2.2.1, ← htn2, ← htn]; rfl
        obtain ⟨qA, hqA⟩ : ∃ q, g.tk.1 = q := ⟨_, rfl⟩
        obtain ⟨qc, hqc⟩ : ∃ q, g.tk.2.2 = q := ⟨_, rfl⟩
        rw [hqA, hqc] at x3
        clear htn htn2 hqA hqc
        have HRSa := Aside0.mk hrs
        have HRepa := Aside0.mk hrep
        have HBa := Aside0.mk hB
        have HXa := Aside0.mk hXL
        have HFin := Aside0.mk hfin
        have HMM := Aside0.mk (And.intro hm hk)
        clear hrs hrep hB hXL hfin hm hk
        by_cases hm0 : m = 0
        · subst hm0
          go_wp2_with fail
          obtain ⟨pre, hmi, _⟩ := HBa.out.inv.mi
          obtain ⟨hne, hcl, _⟩ := HBa.out.cur
          refine (merge_calls HRSa.out HRepa.out i hmi (HJ.out gr) HXa.out (by have := HBa.out.len; omega) (by have := HBa.out.views; omega) (by omega) (by have := HBa.out.up; omega) HLim.out.2.2).mono ?_
          rintro e w4 ⟨rfl, g4, hrs4, hrep4, _, _⟩
          have hfin4 : s'.merge red i = play red st ps (l.map dd) := by rw [← HFin.out, ← HMM.out.1]; rfl
          rw [hfin4] at hrep4
          have hB4 : Bd i (play red st ps (l.map dd)) L' := by rw [← hfin4]; exact HBa.out.merge i
          obtain ⟨s4, hs4⟩ : ∃ s4, play red st ps (l.map dd) = s4 := ⟨_, rfl⟩
          rw [hs4] at hrep4 hB4
          have HS4 := Aside0.mk hs4
          have hvl : 0 < s4.views.length := by have := hB4.cur.2.2.1; omega
          obtain ⟨vb, vc, A1, c1, hvo, y0, _, hRl⟩ := hrs4.view_R 0 (by rw [hrep4.views_len]; exact hvl)
          rw [hrep4.view hvl] at y0 hRl
          obtain ⟨y, hy⟩ : ∃ y, s4.views.getD 0 [] = y := ⟨_, rfl⟩
          rw [hy] at y0 hRl
          have HY := Aside0.mk hy
          replace y0 : w4.cell? ⟨vb, 0, none⟩ = some (.slice A1 y.length c1) := y0
          rw [show (vS F y).f0 = y from rfl] at hRl
          have hRy : (Kd.int .i64).R 2 w4 w.heap.size (fun _ => True) (.slice A1 y.length c1) y := Kd.R_mono hRl (fun _ _ => trivial)
          obtain ⟨vn, hvn⟩ : ∃ vn, s4.views.length = vn := ⟨_, rfl⟩
          have HVN := Aside0.mk hvn
          have hvo2 : g4.vo = (some ⟨vb, 0, none⟩, vn, vc) := by rw [hvo, hrep4.views_len, hvn]
          have x2 : w4.cell? ⟨gr, 2, none⟩ = some (.slice (some ⟨vb, 0, none⟩) vn vc) := by rw [hrs4.cell.2.2.1, hvo2]; rfl
          have vn1 : ((0 : Int) < (vn : Int)) = True := eq_true (by omega)
          have vn3 : (vn : Int) ≤ 100000 := by have := hB4.views; omega
          have vn2 : (0 < vn) = True := eq_true (by omega)
          have hf7 := blk_frozen hrs4.bp 7
          have hx7 := blk_cell hrs4.bp 7
          have hx7' : w4.cell? ⟨gr, 7, none⟩ = some (slv g4.fo) := hx7
          have hrs5 := hrs4.num 7 (.slice A1 y.length c1) { g4 with fo := (A1, y.length, c1) } rfl ⟨hrs4.rw.v, hrs4.rw.t, hrs4.rw.m, hrs4.rw.l⟩ ⟨rfl, rfl⟩
          have hx8 : (w4.setCell ⟨gr, 7, none⟩ (.slice A1 y.length c1)).cell? ⟨gr, 8, none⟩ = some (.int .i64 g4.md) := blk_cell hrs5.bp 8
          have hx2b : (w4.setCell ⟨gr, 7, none⟩ (.slice A1 y.length c1)).cell? ⟨gr, 2, none⟩ = some (.slice (some ⟨vb, 0, none⟩) vn vc) := by rw [hrs5.cell.2.2.1]; show some (slv g4.vo) = _; rw [hvo2]; rfl
          have hf8 := blk_frozen hrs5.bp 8
          have hrs6 := hrs5.num 8 (.int .i64 (vn : Int)) { g4 with fo := (A1, y.length, c1), md := (vn : Int) } rfl ⟨hrs5.rw.v, hrs5.rw.t, hrs5.rw.m, hrs5.rw.l⟩ ⟨rfl, rfl⟩
          have hRy6 := R_only (R_only hRy (by intro q hq; simp [Kd.int, Kd.scalar] at hq; omega) (Only.set (i := 7) (u := .slice A1 y.length c1) hrs4.bp)) (by intro q hq; simp [Kd.int, Kd.scalar] at hq; omega) (Only.set (i := 8) (u := .int .i64 (vn : Int)) hrs5.bp)
          have HEnd := Aside0.mk (And.intro hrs6 (And.intro hRy6 (show RepR F op un ps s4 { g4 with fo := (A1, y.length, c1), md := (vn : Int) } from ⟨hrep4.op, hrep4.un, hrep4.pl, hrep4.vs, hrep4.ls, hrep4.ts, hrep4.ps, hrep4.nx, hrep4.ms⟩)))
          clear hrs4 hrs5 hrs6 hRy hRy6 hRl hvo hvo2 hrep4 hB4 hmi hne hcl hfin4 hs4 hx7 x3 hvl hy
          go_upto_region 13 with fail
          clear y0 x2 hx7' hf7
          generalize w4.setCell ⟨gr, 7, none⟩ (.slice A1 y.length c1) = w5 at hx8 hx2b hf8 HEnd ⊢
          go_wp2
          go_ret
          refine ⟨gr, _, rfl, HEnd.out.1, ?_, ?_, ?_⟩
          · rw [HS4.out]; exact HEnd.out.2.2
          · rw [HS4.out]; show (vn : Int) = _; rw [← HVN.out]
          · rw [HS4.out, HY.out]; exact HEnd.out.2.1
        · have d1 : decide (1 < m + 1) = true := decide_eq_true (by omega)
          have d2 : decide ((1 : Int) < (m : Int) + 1) = true := decide_eq_true (by omega)
          go_wp2_with fail
          obtain ⟨pre, hmi, _⟩ := HBa.out.inv.mi
          obtain ⟨hne, hcl, _⟩ := HBa.out.cur
          refine (merge_calls HRSa.out HRepa.out i hmi (HJ.out gr) HXa.out (by have := HBa.out.len; omega) (by have := HBa.out.views; omega) (by omega) (by have := HBa.out.up; omega) HLim.out.2.2).mono ?_
          rintro e w4 ⟨rfl, g3, hrs3, hrep3, _, _⟩
          have HB3 := Aside0.mk (HBa.out.merge i)
          obtain ⟨cx, hcx⟩ : ∃ x, (s'.merge red i).cur = [x] := by
            obtain ⟨_, x, _, h, _⟩ := HBa.out.inv.merge i
            exact ⟨x, h⟩
          have hfin3 : ∀ k, m = k + 1 → finish red i k (s'.merge red i).leave = play red st ps (l.map dd) := fun k e => by
            rw [← HFin.out, ← HMM.out.1, e]; rfl
          obtain ⟨s3, hs3⟩ : ∃ s3, s'.merge red i = s3 := ⟨_, rfl⟩
          have hup3 : s3.up = s'.up := by rw [← hs3]; rfl
          rw [hs3] at hcx hrep3 HB3 hfin3
          obtain ⟨r, up, hupe⟩ : ∃ r up, s3.up = r :: up := by
            cases hu : s3.up with
            | nil => rw [hup3] at hu; have := HMM.out.1; rw [hu] at this; exact absurd this hm0
            | cons r up => exact ⟨r, up, rfl⟩
          have HBL := Aside0.mk (HB3.out.leave hcx hupe)
          obtain ⟨tl, sp1, hts, htl1, htl2⟩ := hrep3.last
          obtain ⟨k, hk⟩ : ∃ k, tl.length = k := ⟨_, rfl⟩
          have hkm : k = m := by rw [← hk, htl2, hup3, ← HMM.out.1]
          have hul : up.length + 1 = k := by rw [hkm, HMM.out.1, ← hup3, hupe]; rfl
          have HFin3 := Aside0.mk (hfin3 up.length (by omega))
          have HKL := Aside0.mk (show k ≤ 100000 by omega)
          obtain ⟨tb, tc, A1, c1, htk, yk, _, _, hRl⟩ := hrs3.task_R k (by rw [hts, List.length_append, hk]; simp)
          have htk2 : g3.tk = (some ⟨tb, 0, none⟩, k + 1, tc) := by rw [htk, hts, List.length_append, hk]; rfl
          have HTK := Aside0.mk htk2
          have hkc : k + 1 ≤ tc := by
            have h := (R_header hrs3.rw.t).2.1
            rw [hts, List.length_append, hk, htk2] at h
            exact h
          have HC10 := Aside0.mk (show w4.cell? ⟨gr, 3, none⟩ = some (.slice (some ⟨tb, 0, none⟩) (k + 1) tc) by rw [hrs3.cell.2.2.2.1, htk2]; rfl)
          have HRS4 := Aside0.mk hrs3
          have HRep3 := Aside0.mk hrep3
          have HQ3 := Aside0.mk (And.intro hts (And.intro htl1 hk))
          have HQU := Aside0.mk (And.intro hupe (And.intro hul hkm))
          have hk2 : (k : Int) ≤ 100000 := by have := HKL.out; omega
          obtain ⟨i0, hi0, hz1⟩ : ∃ i, Tryd.prog.info? 96 = some i ∧ i.size = 2 := by
            have h := infoTask
            cases e : Tryd.prog.info? 96 with
            | none => rw [e] at h; cases h
            | some i => rw [e] at h; injection h with h; injection h with _ h; injection h with h _; exact ⟨i, rfl, h⟩
          have hsl1 := cut_to (P := Tryd.prog) 68 96 .i64 Tryd.underlying68 hi0 (some ⟨tb, 0, none⟩) (k + 1) tc (k : Int) (by omega) (by omega) hkc
          rw [Int.toNat_natCast] at hsl1
          clear hrs3 hrep3 hmi hne hcl hs3 hup3 hupe hts htl1 htl2 hk htk hRl yk htk2 hkc hi0 hz1 hfin3 hcx hkm hul x3
          go_upto_region 10 with fail
          refine start_ (n := 13) (S := (fun w' => w'.cell? ⟨gr, 3, none⟩ = some (.slice (some ⟨tb, 0, none⟩) (k + 1) tc))) (ds := [12]) #[false, false, false, false, false, false, false, false, false, false, false, false, false] (by kernel_rfl) rfl rfl HC10.out (fun hHeld => ?_); refine with_tabW R32_tab R32_bits (fun HT_ HW_ => ?_)
          have HBe := Aside0.mk (show Below w4.heap.size w4 w4.drew from Drawn0.below ⟨⟨1, rfl⟩⟩)
          generalize w4.drew = w5 at HBe hHeld ⊢
          have HRS5 := Aside0.mk (HRS4.out.below HBe.out)
          refine pure_ (i := 0) (N := some 57) (v := ?_) (a' := ?_) #[true, false, false, false, false, false, false, false, false, false, false, false, false] rfl rfl (any_of HT_.out (by kernel_rfl)) (fun _ _ _ h => h) (Or.inl ⟨by rfl, ?_⟩) ?_ ?_
          rotate_left
          · intro w'
            go_simp
            with_reducible rfl
          rotate_left
          · simp only [Act.put, List.setIfInBounds_toArray, List.set_cons_zero, List.set_cons_succ, i64_w, i32_w]
            rfl
          refine pure_ (i := 2) (N := some 59) (v := ?_) (a' := ?_) #[true, false, true, false, false, false, false, false, false, false, false, false, false] rfl rfl (any_of HT_.out (by kernel_rfl)) (fun _ _ _ h => h) (Or.inl ⟨by rfl, ?_⟩) ?_ ?_
          rotate_left
          · intro w'
            go_simp
            with_reducible rfl
          rotate_left
          · simp only [Act.put, List.setIfInBounds_toArray, List.set_cons_zero, List.set_cons_succ, i64_w, i32_w]
            rfl
          refine pure_ (i := 3) (N := some 60) (v := ?_) (a' := ?_) #[true, false, true, true, false, false, false, false, false, false, false, false, false] rfl rfl (any_of HT_.out (by kernel_rfl)) (fun _ _ _ h => h) (Or.inl ⟨by rfl, ?_⟩) ?_ ?_
          rotate_left
          · intro w'
            go_simp
            with_reducible rfl
          rotate_left
          · simp only [Act.put, List.setIfInBounds_toArray, List.set_cons_zero, List.set_cons_succ, i64_w, i32_w]
            rfl
          refine pure_ (i := 4) (N := some 61) (v := ?_) (a' := ?_) #[true, false, true, true, true, false, false, false, false, false, false, false, false] rfl rfl (any_of HT_.out (by kernel_rfl)) (fun _ _ _ h => h) (Or.inl ⟨by rfl, ?_⟩) ?_ ?_
          rotate_left
          · intro w'
            go_simp
            with_reducible rfl
          rotate_left
          · simp only [Act.put, List.setIfInBounds_toArray, List.set_cons_zero, List.set_cons_succ, i64_w, i32_w]
            rfl
          refine take_ (i := 5) (N := some 62) (v := ?_) (a' := ?_) #[true, false, true, true, true, true, false, false, false, false, false, false, false] rfl rfl (take_ofW HT_.out HW_.out (by kernel_rfl)) (fun _ _ _ h => h) (Or.inl ⟨by rfl, ?_⟩) hHeld ?_ ?_
          rotate_left
          · rintro w' s0
            go_simp
            with_reducible rfl
          rotate_left
          · simp only [Act.put, List.setIfInBounds_toArray, List.set_cons_zero, List.set_cons_succ, i64_w, i32_w]
            rfl
          refine pure_ (i := 6) (N := some 63) (v := ?_) (a' := ?_) #[true, false, true, true, true, true, true, false, false, false, false, false, false] rfl rfl (any_of HT_.out (by kernel_rfl)) (fun _ _ _ h => h) (Or.inl ⟨by rfl, ?_⟩) ?_ ?_
          rotate_left
          · intro w'
            go_simp
            with_reducible rfl
          rotate_left
          · simp only [Act.put, List.setIfInBounds_toArray, List.set_cons_zero, List.set_cons_succ, i64_w, i32_w]
            rfl
          refine takeC_ (i := 7) (N := some 64) (v := .int .i64 (k : Int)) (a' := ?_) #[true, false, true, true, true, true, true, true, false, false, false, false, false] rfl rfl (take_ofW HT_.out HW_.out (by kernel_rfl)) (fun _ _ _ h => h) Tryd.func51 (by kernel_rfl) rfl #[.pointer (some ⟨gr, 0, none⟩)] (by rfl) rfl (by (try simp only [List.map_toArray, List.map_cons, List.map_nil]); first | done | rfl) hHeld (fun w' h => last_at w' gr (some ⟨tb, 0, none⟩) k tc h HKL.out) ?_ ?_
          rotate_left
          · simp only [Act.put, List.setIfInBounds_toArray, List.set_cons_zero, List.set_cons_succ, i64_w, i32_w]
            rfl
          refine pure_ (i := 8) (N := some 65) (v := ?_) (a' := ?_) #[true, false, true, true, true, true, true, true, true, false, false, false, false] rfl rfl (any_of HT_.out (by kernel_rfl)) (fun _ _ _ h => h) (Or.inl ⟨by rfl, ?_⟩) ?_ ?_
          rotate_left
          · intro w'
            go_simp
            with_reducible rfl
          rotate_left
          · simp only [Act.put, List.setIfInBounds_toArray, List.set_cons_zero, List.set_cons_succ, i64_w, i32_w]
            rfl
          refine one_ (i := 1) (N := some 58) #[true, true, true, true, true, true, true, true, true, false, false, false, false] rfl rfl (one_of HT_.out (by kernel_rfl)) (by decide) (fun K hK => ?_)
          refine value_ (w1 := ?_) (v := ?_) (by rfl) rfl ?_ ?_
          rotate_left 2
          · go_simp
            constructor
            · rfl
            · rfl
          refine hK.out _ _ ((Below.cell (p := ⟨gr, 3, none⟩) (below_alloc (Below.refl _ _) _) (blk_lt HRS5.out.bp)).trans hHeld) (fun hHeld => ?_)
          clear hK K
          refine norm_ (a' := ?_) ?_ ?_
          rotate_left
          · show Act.put _ (some 58) _ = _
            simp only [Act.put, List.setIfInBounds_toArray, List.set_cons_zero, List.set_cons_succ, i64_w, i32_w]
            rfl
          refine one_ (i := 9) (N := some 66) #[true, true, true, true, true, true, true, true, true, true, false, false, false] rfl rfl (one_of HT_.out (by kernel_rfl)) (by decide) (fun K hK => ?_)
          refine Kd.R_append_rows_step k96 (w0 := w) w.heap.size (by rfl) (.tmp 58) (.tmp 65) 68 96 (.agg #[.int .i64 0, .slice none 0 0]) 32 rfl Tryd.underlying68 infoTask rfl (by decide) (by omega) (.slice (some ⟨w5.heap.size, 0, none⟩) 0 0) [] tl _ _ _ (fun _ => True) (fun q => q < w5.heap.size) rfl rfl ?aO ?aR (fun _ _ h => h) (fun q h => ⟨trivial, fun e => by simp [Value.ownBlock] at e; omega⟩) ?aF ?aB ?aS ?aL ?_
          (case aO => exact Kd.R_lower (R_lit0 _ _ _) HRS5.out.hb.size)
          (case aR => exact (by have h := HRS5.out.rw.t; rw [show slv g3.tk = .slice (some ⟨tb, 0, none⟩) (k + 1) tc by rw [HTK.out]; rfl] at h; have h2 := reads_take (R_readsM z96 (Kd.R_alloc (Kd.R_bound h) (.cells #[] 96))) k (by omega); rw [HQ3.out.1, List.take_left' HQ3.out.2.2] at h2; exact ReadsRow.weaken h2 (fun x cs hm => k96.M_mono (fun q hq => hq.1.2.2.1) hm)))
          (case aF => exact fun _ _ => trivial)
          (case aB => exact below_alloc HRS5.out.hb _)
          (case aS => exact by have := HRS5.out.hb.size; simp; omega)
          (case aL => have := HKL.out; simp only [List.length_nil]; omega)
          intro v6 w6 ho hb hg hat
          obtain ⟨A6, c6, rfl, _, _⟩ := Kd.R_reads ho
          have HG := Aside0.mk (And.intro (show k96.R 96 w6 w.heap.size (fun _ => True) (.slice A6 tl.length c6) tl from ho) (And.intro hb hg))
          clear ho hb hg hat
          have hon6 : Only 96 w5 w6 := (Only.below (below_alloc (Below.refl _ _) _)).trans (Only.grown HG.out.2.2 (fun q e => by injection e with e; subst e; exact ⟨_, heap_alloc_new _ _⟩))
          have hbp6 := hon6 gr _ _ HRS5.out.bp (by decide)
          refine hK.out _ _ ((blk_cell hbp6 3).trans (by show some (slv g3.tk) = _; rw [HTK.out]; rfl)) (fun hHeld => ?_)
          clear hK K
          refine norm_ (a' := ?_) ?_ ?_
          rotate_left
          · show Act.put _ (some 66) _ = _
            simp only [Act.put, List.setIfInBounds_toArray, List.set_cons_zero, List.set_cons_succ, i64_w, i32_w]
            rfl
          rw [List.nil_append]
          refine pure_ (i := 10) (N := some 67) (v := ?_) (a' := ?_) #[true, true, true, true, true, true, true, true, true, true, true, false, false] rfl rfl (any_of HT_.out (by kernel_rfl)) (fun _ _ _ h => h) (Or.inl ⟨by rfl, ?_⟩) ?_ ?_
          rotate_left
          · intro w'
            go_simp
            with_reducible rfl
          rotate_left
          · simp only [Act.put, List.setIfInBounds_toArray, List.set_cons_zero, List.set_cons_succ, i64_w, i32_w]
            rfl
          refine pure_ (i := 11) (N := some 68) (v := ?_) (a' := ?_) #[true, true, true, true, true, true, true, true, true, true, true, true, false] rfl rfl (any_of HT_.out (by kernel_rfl)) (fun _ _ _ h => h) (Or.inl ⟨by rfl, ?_⟩) ?_ ?_
          rotate_left
          · intro w'
            go_simp
            with_reducible rfl
          rotate_left
          · simp only [Act.put, List.setIfInBounds_toArray, List.set_cons_zero, List.set_cons_succ, i64_w, i32_w]
            rfl
          have hfz := blk_frozen hbp6 3
          have hfx : w6.cell? ⟨gr, 3, none⟩ = some (.slice (some ⟨tb, 0, none⟩) (k + 1) tc) := (blk_cell hbp6 3).trans (by show some (slv g3.tk) = _; rw [HTK.out]; rfl)
          refine last_ (i := 12) (N := none) #[true, true, true, true, true, true, true, true, true, true, true, true, true] rfl rfl (one_of HT_.out (by kernel_rfl)) (by decide) (fun K hK => ?_)
          refine skip_ (w1 := ?_) (by rfl) rfl ?_ ?_
          rotate_left
          · go_simp
            rfl
          refine hK.out _ _ ?_
          clear hK K
          refine done_ (done_of HT_.out (by kernel_rfl)) ?_
          clear HT_ HW_ hHeld

          clear hsl1
          have hv := HRS5.out.put (T := 96) (by decide) hon6 HG.out.2.1 3 (.slice A6 tl.length c6) { g3 with tk := (A6, tl.length, c6), ts := tl } rfl (HRS5.out.rw.tasks (t1 := (A6, tl.length, c6)) hon6 HG.out.1) ⟨rfl, rfl⟩
          have HRE := Aside0.mk (show RE w (w6.setCell ⟨gr, 3, none⟩ (.slice A6 tl.length c6)) gr F op un ps s3.leave from by
            refine ⟨_, hv, ⟨HRep3.out.op, HRep3.out.un, HRep3.out.pl, HRep3.out.vs, HRep3.out.ls, ?_, HRep3.out.ps, HRep3.out.nx, HRep3.out.ms⟩⟩
            show tl.map (fun t : S96 => t.f1) = s3.up.tail.reverse.map ints ++ [ints (s3.up.headD [])]
            rw [HQ3.out.2.1, HQU.out.1]
            simp)
          clear hv hfz hfx hon6 hbp6 HG
          generalize w6.setCell ⟨gr, 3, none⟩ (.slice A6 tl.length c6) = w7 at HRE ⊢
          have HE := Aside0.mk (show ∃ s' L', s'.up.length = up.length ∧ RE w w7 gr F op un ps s' ∧ Bd i s' L' ∧ (∀ y, y ∈ L' → X y) ∧ finish red i s'.up.length s' = play red st ps (l.map dd) from by
            have e : s3.leave.up.length = up.length := by show s3.up.tail.length = _; rw [HQU.out.1]; rfl
            exact ⟨s3.leave, L', e, HRE.out, HBL.out, HXa.out, by rw [e]; exact HFin3.out⟩)
          clear HRE
          go_wp2
          go_roundg up.length
          case measure => have := HMM.out; have := HQU.out; omega
          case rel => exact HE
end Go.Proofs.YtamfkglnejhjdaaDoor.Ref
