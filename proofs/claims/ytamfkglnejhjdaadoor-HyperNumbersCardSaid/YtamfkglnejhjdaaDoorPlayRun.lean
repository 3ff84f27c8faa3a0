/- hyper.play[int64]: its run. -/
import Derived.Test.YtamfkglnejhjdaaDoorPlayAt
import Derived.Test.YtamfkglnejhjdaaDoorBaseA
namespace Go.Proofs.YtamfkglnejhjdaaDoor.PlayState
open Go.RowKit Go.Proofs.YtamfkglnejhjdaaDoorW.PrintWords Go.Proofs.YtamfkglnejhjdaaDoor.Fam Go.Proofs.YtamfkglnejhjdaaDoor.Play
set_option linter.unusedVariables false
theorem addr_inj {a b : Nat} {x y : Nat × Nat} (h : ((some ⟨a, 0, none⟩, x) : Option Addr × Nat × Nat) = (some ⟨b, 0, none⟩, y)) : a = b := by
  injection h with h _
  injection h with h
  injection h
theorem view_facts {F : List Int → Int} {w0 w : World} {gp : Nat} {f : List Value} {g : Gh} {s : St (List Int)} (hr : Rep0 F s g) (hf : f.length = 4) {v : Nat} (hvl : v < s.views.length) (hp : PS w0 w gp f g) :
    ∃ gv vc, g.vo = (some ⟨gv, 0, none⟩, s.views.length, vc) ∧ ∀ w', PS w0 w' gp f g → (w'.cell? ⟨gp, 4, none⟩ = some (.slice (some ⟨gv, 0, none⟩) s.views.length vc) ∧ w'.cell? ⟨gv, v, none⟩ = some (.int .i64 (F (s.views.getD v [])))) ∧ w'.frozen? ⟨gv, v, none⟩ = false := by
  obtain ⟨gv, vc, e1, _, _⟩ := fam_at (h1 := fun _ => rfl) hp.f2 0 rfl 0 v (by rw [hr.views_len]; exact hvl)
  have e2 := slv_form e1
  rw [hr.views_len] at e2
  refine ⟨gv, vc, e2, fun w' h => ?_⟩
  have hc := (h.cell hf).1
  rw [e2] at hc
  obtain ⟨g2, c2, e5, h5, h6⟩ := fam_at (h1 := fun _ => rfl) h.f2 0 rfl 0 v (by rw [hr.views_len]; exact hvl)
  have e6 := slv_form e5
  rw [e2] at e6
  obtain rfl := addr_inj e6
  rw [hr.view hvl] at h5
  exact ⟨⟨hc, h5⟩, h6⟩
theorem AT.write {F : List Int → Int} {w0 w1 : World} {gp gU gO : Nat} {s : St (List Int)} {g : Gh} (hr : Rep F s g) {x : Int} (h : PS w0 w1 gp (fF gU gO) { g with vs := g.vs.set s.hand (F (s.views.getD s.hand [] ++ [x])) }) : AT F w0 w1 gp gU gO (s.write red x) := by
  refine ⟨_, h, ⟨⟨?_, hr.rs, hr.sp, hr.ps, hr.ms⟩, hr.oh⟩⟩
  show g.vs.set s.hand (F (s.views.getD s.hand [] ++ [x])) = (s.views.set s.hand (red.put (s.views.getD s.hand red.fresh) x)).map F
  rw [List.map_set, hr.vs]
  rfl
theorem AT.read {F : List Int → Int} {w0 w1 : World} {gp gU gO : Nat} {s : St (List Int)} (h : AT F w0 w1 gp gU gO s) : AT F w0 w1 gp gU gO (s.read red) := by
  obtain ⟨g, h1, hr⟩ := h
  exact ⟨g, h1, ⟨⟨hr.vs, hr.rs, hr.sp, hr.ps, hr.ms⟩, hr.oh⟩⟩
theorem AT.spawn {F : List Int → Int} {w0 w1 : World} {gp gU gO : Nat} {s : St (List Int)} {g : Gh} (hr : Rep F s g) {t1 ro t2 : Sl} (h : PS w0 w1 gp (fF gU gO) { g with rs := g.rs ++ [(t1, [(s.hand : Int)])], oh := g.oh ++ [t1], ro := ro, sp := (t2, g.sp.2 ++ [(s.count : Int)]) }) : AT F w0 w1 gp gU gO s.spawn := by
  refine ⟨_, h, ⟨⟨hr.vs, ?_, ?_, hr.ps, hr.ms⟩, ?_⟩⟩
  · show (g.rs ++ [(t1, [(s.hand : Int)])]).map (fun h : Hd => h.2) = (s.cur :: s.up).reverse.map ints ++ [ints [s.hand]]
    rw [List.map_append, hr.rs]
    simp [ints]
  · show g.sp.2 ++ [(s.count : Int)] = ints (s.count :: s.spawns).reverse
    rw [hr.sp]
    simp [ints]
  · show g.oh ++ [t1] = (g.rs ++ [(t1, _)]).map (fun h : Hd => h.1)
    rw [List.map_append, ← hr.oh]
    rfl
theorem AT.cut {F : List Int → Int} {w0 w1 : World} {gp gU gO : Nat} {s : St (List Int)} {g : Gh} (hr : Rep F s g) {t2 : Sl} {sn : Nat} (hn : s.spawns.length = sn + 1) (h : PS w0 w1 gp (fF gU gO) { g with sp := (t2, g.sp.2.take sn) }) : AT F w0 w1 gp gU gO { s with spawns := s.spawns.tail } := by
  refine ⟨_, h, ⟨⟨hr.vs, hr.rs, ?_, hr.ps, hr.ms⟩, hr.oh⟩⟩
  show g.sp.2.take sn = ints s.spawns.tail.reverse
  rw [hr.sp]
  cases hs : s.spawns with
  | nil => rw [hs] at hn; simp at hn
  | cons a r =>
    rw [hs] at hn
    have : r.length = sn := by simpa using hn
    subst this
    simp [ints, List.take_left']
theorem spawn_facts {F : List Int → Int} {w0 w : World} {gp : Nat} {f : List Value} {g : Gh} {s : St (List Int)} (hr : Rep0 F s g) (hf : f.length = 4) {sn : Nat} (hn : s.spawns.length = sn + 1) (hp : PS w0 w gp f g) :
    ∃ gs sc, g.sp = ((some ⟨gs, 0, none⟩, sn + 1, sc), g.sp.2) ∧ sn + 1 ≤ sc ∧ ∀ w', PS w0 w' gp f g → w'.cell? ⟨gp, 6, none⟩ = some (.slice (some ⟨gs, 0, none⟩) (sn + 1) sc) ∧ w'.cell? ⟨gs, sn, none⟩ = some (.int .i64 ((s.spawns.headD 0 : Nat) : Int)) := by
  have hq := PS.sp_at g
  have hl : g.sp.2.length = sn + 1 := by rw [hr.sp, ints_length, List.length_reverse]; exact hn
  obtain ⟨gs, sc, e1, _, _⟩ := fam_at (h1 := fun _ => rfl) hp.f3 _ hq 0 sn (by omega)
  have e2 := slv_form e1
  rw [hl] at e2
  have hm : (slv g.sp.1, g.sp.2) ∈ g.rs.map hv ++ [hv g.sp] := List.mem_iff_getElem?.2 ⟨_, hq⟩
  have hcap : sn + 1 ≤ sc := by
    have h1 := Fam.R (h1 := fun _ => rfl) hp.f3 hm
    rw [show (slv g.sp.1, g.sp.2).1 = .slice (some ⟨gs, 0, none⟩) (sn + 1) sc from by rw [e2]; rfl] at h1
    exact (Kd.R_reads' h1).2.1
  refine ⟨gs, sc, by rw [← e2], hcap, fun w' h => ?_⟩
  have hc := (h.cell hf).2.2.1
  rw [e2] at hc
  obtain ⟨g2, c2, e5, h5, _⟩ := fam_at (h1 := fun _ => rfl) h.f3 _ hq 0 sn (by omega)
  have e6 := slv_form e5
  rw [e2] at e6
  obtain rfl := addr_inj e6
  refine ⟨hc, ?_⟩
  rw [h5]
  have : g.sp.2.getD sn 0 = ((s.spawns.headD 0 : Nat) : Int) := by
    rw [hr.sp, ints_getD]
    congr 1
    cases hs : s.spawns with
    | nil => rw [hs] at hn; simp at hn
    | cons a r =>
      rw [hs] at hn
      have : r.length = sn := by simpa using hn
      subst this
      simp [List.getD_eq_getElem?_getD]
  rw [this]
end Go.Proofs.YtamfkglnejhjdaaDoor.PlayState
namespace Go.Proofs.YtamfkglnejhjdaaDoor.PlayState
open Go.Proofs.YtamfkglnejhjdaaDoor.PHyperFold (info3 S46 k46 z46 rd_T46 at_T46 k46_open)
open Go.RowKit Go.Proofs.YtamfkglnejhjdaaDoorW.PrintWords Go.Proofs.YtamfkglnejhjdaaDoorW.PrintLast Go.Proofs.YtamfkglnejhjdaaDoorW.PrintMore Go.Proofs.YtamfkglnejhjdaaDoor.Fam Go.Proofs.YtamfkglnejhjdaaDoor.Play Go.Proofs.YtamfkglnejhjdaaDoor.Base
set_option linter.unusedSimpArgs false
set_option linter.unusedVariables false

def R24a : Bool × List (List Nat × List Nat) := (true, [([], []), ([0], [0]), ([1], [1]), ([2], [2]), ([], []), ([], []), ([5], [5]), ([6], [6]), ([7], [7]), ([8], [8]), ([], []), ([10], [10]), ([11], [11]), ([12], [12]), ([], []), ([13, 14], [13, 14]), ([15], [15]), ([], []), ([17], [17]), ([9, 16, 18], [9, 16, 18]), ([3, 4, 0, 1, 2, 3, 4, 5, 6, 7, 8, 9, 10, 11, 12, 13, 14, 15, 16, 17, 18, 19], [3, 4]), ([20, 19, 19, 0, 1, 2, 3, 4, 5, 6, 7, 8, 9, 10, 11, 12, 13, 14, 15, 16, 17, 18, 19], [19, 20])])
def R24aB : List Nat := [0, 1, 3, 7, 0, 0, 32, 96, 224, 480, 0, 1024, 3072, 7168, 0, 31744, 64512, 0, 131072, 524256, 1048575, 2097151]
theorem R24a_tab : rtab .any (opsOf Tryd.f24 9) = R24a := by kernel_rfl
theorem R24a_bits : waitsOk R24a.2 R24aB = true := by kernel_rfl

def R24b : Bool × List (List Nat × List Nat) := (true, [([], []), ([0], [0]), ([1], [1]), ([2], [2]), ([3], [3]), ([], []), ([5], [5]), ([6], [6]), ([7], [7]), ([], []), ([9], [9]), ([8, 10], [8, 10]), ([11], [11]), ([4, 12, 10], [4, 12])])
def R24bB : List Nat := [0, 1, 3, 7, 15, 0, 32, 96, 224, 0, 512, 2016, 4064, 8191]
theorem R24b_tab : rtab .any (opsOf Tryd.f24 11) = R24b := by kernel_rfl
theorem R24b_bits : waitsOk R24b.2 R24bB = true := by kernel_rfl

def R24c : Bool × List (List Nat × List Nat) := (true, [([], []), ([], []), ([1], [1]), ([2], [2]), ([3], [3]), ([], []), ([5], [5]), ([6], [6]), ([7], [7]), ([4, 8, 6], [4, 8]), ([0, 0, 1, 2, 3, 4, 5, 6, 7, 8, 9], [0]), ([10, 0, 1, 2, 3, 4, 5, 6, 7, 8, 9], [10]), ([11, 9, 9, 0, 1, 2, 3, 4, 5, 6, 7, 8, 9], [9, 11])])
def R24cB : List Nat := [0, 0, 2, 6, 14, 0, 32, 96, 224, 510, 1023, 2047, 4095]
theorem R24c_tab : rtab .any (opsOf Tryd.f24 13) = R24c := by kernel_rfl
theorem R24c_bits : waitsOk R24c.2 R24cB = true := by kernel_rfl

def R24d : Bool × List (List Nat × List Nat) := (true, [([], []), ([0], [0]), ([1], [1]), ([2], [2]), ([], []), ([4], [4]), ([5], [5]), ([6], [6]), ([7], [7]), ([8], [8]), ([3, 9], [3, 9]), ([10], [10]), ([11, 0, 1, 2, 3, 4, 5, 6, 7, 8, 9, 10, 11], [11])])
def R24dB : List Nat := [0, 1, 3, 7, 0, 16, 48, 112, 240, 496, 1023, 2047, 4095]
theorem R24d_tab : rtab .any (opsOf Tryd.f24 21) = R24d := by kernel_rfl
theorem R24d_bits : waitsOk R24d.2 R24dB = true := by kernel_rfl

def R24e : Bool × List (List Nat × List Nat) := (true, [([], []), ([], []), ([1], [1]), ([2], [2]), ([3], [3]), ([], []), ([5], [5]), ([6], [6]), ([7], [7]), ([8], [8]), ([9], [9]), ([4, 10], [4, 10]), ([0, 0, 1, 2, 3, 4, 5, 6, 7, 8, 9, 10, 11], [0]), ([12, 0, 1, 2, 3, 4, 5, 6, 7, 8, 9, 10, 11], [12]), ([13, 11, 0, 1, 2, 3, 4, 5, 6, 7, 8, 9, 10, 11], [11, 13])])
def R24eB : List Nat := [0, 0, 2, 6, 14, 0, 32, 96, 224, 480, 992, 2046, 4095, 8191, 16383]
theorem R24e_tab : rtab .any (opsOf Tryd.f24 22) = R24e := by kernel_rfl
theorem R24e_bits : waitsOk R24e.2 R24eB = true := by kernel_rfl

theorem info24 : (Tryd.prog.info? 24).map (fun i => (i.zero, i.size, i.bytes)) = some (some (.slice none 0 0), 1, 24) := by kernel_rfl
/-- What holds at a round's head: i deeds are behind, c spawns have been met. -/
def RL (F : List Int → Int) (X : Int → Prop) (w0 : World) (gp gU gO : Nat) (l : List S46) (b : List Bool) (ps : List Int) (i c : Nat) (w : World) : Prop :=
  ∃ s, s.count = c ∧ AT F w0 w gp gU gO s ∧ (∃ L, Bd i s L ∧ ∀ y, y ∈ L → X y) ∧ right s.up.length ((l.map dd).drop i) = true ∧ run red b i ((l.map dd).drop i) s = run red b 0 (l.map dd) (Play.start red ps)
theorem RL.next {F : List Int → Int} {X : Int → Prop} {w0 w1 : World} {gp gU gO : Nat} {l : List S46} {b : List Bool} {ps : List Int} {i : Nat} {s : St (List Int)} {L : List Int} {d : Int × Int} (hi : (l.map dd)[i]? = some d)
    (hB : Bd i s L) (hr : right s.up.length ((l.map dd).drop i) = true) (hrun : run red b i ((l.map dd).drop i) s = run red b 0 (l.map dd) (Play.start red ps)) (hXL : ∀ y, y ∈ L → X y) (hXP : ∀ y, y ∈ puts [d] → X y) (h : AT F w0 w1 gp gU gO (Play.step red b i d s)) :
    RL F X w0 gp gU gO l b ps (i + 1) (Play.step red b i d s).count w1 := by
  obtain ⟨h1, h2, h3⟩ := right_at hi hr
  refine ⟨_, rfl, h, ⟨_, hB.step b i d (fun e => List.ne_nil_of_length_pos (h2 e)), fun y hy => (List.mem_append.1 hy).elim (hXL y) (hXP y)⟩, ?_, ?_⟩
  · rw [step_up]; exact h3
  · obtain ⟨hl, he⟩ := List.getElem?_eq_some_iff.1 hi
    rw [← hrun, List.drop_eq_getElem_cons hl, he]
    rfl
/-- What is left behind a merge at the end. -/
def fin (t : Nat) (s : St (List Int)) : St (List Int) := match s.up.length with
  | 0 => s
  | k + 1 => finish red t k s.leave
theorem fin_merge (t : Nat) (s : St (List Int)) : fin t (s.merge red t) = finish red t s.up.length s := by
  unfold fin
  rw [show (s.merge red t).up = s.up from rfl]
  cases s.up.length <;> rfl

set_option maxHeartbeats 40000000 in
set_option maxRecDepth 100000 in
theorem run_walk {F : List Int → Int} {X : Int → Prop} {w0 w : World} {gp gU gO : Nat} (hFn : FnOk w0 gU gO F X) (A : Option Addr) (c0 : Nat) (l : List S46) (sA : Option Addr) (sc : Nat) (b : List Bool) (hC : Kd.C k46 w0 A l.length l) (hc : l.length ≤ c0) (hS : Kd.C Kd.bool w0 sA b.length b) (hsc : b.length ≤ sc)
    (ps : List Int) (pO : Sl) (hp : PS w0 w gp (fF gU gO) { vs := [], rs := [], sp := ((none, 0, 0), []), vo := (none, 0, 0), ro := (none, 0, 0), mo := (none, 0, 0), po := pO, ps := ps, ms := [], oh := [] }) (hl : l.length ≤ 4096) (hb : b.length ≤ 4096) (hr : right 0 (l.map dd) = true) (hXl : ∀ d, d ∈ l → X d.f1) :
    Calls Tryd.prog 24 #[.pointer (some ⟨gp, 0, none⟩), .slice A l.length c0, .slice sA b.length sc] w fun e w' => e = .returned (.tuple #[]) ∧ AT F w0 w' gp gU gO (play red b ps (l.map dd)) := by
  have hlen : (l.map dd).length = l.length := by simp
  obtain ⟨n, hn⟩ : ∃ n, l.length = n := ⟨_, rfl⟩
  have hl3 : (n : Int) ≤ 4096 := by omega
  have hpb := hp.below (below_alloc (Below.refl _ w) (.cells #[.slice none 0 0] 24))
  have hx5 := (hpb.cell (fF_len gU gO)).2.1
  have hf5 := blk_frozen hpb.bp 5
  clear hpb
  have HP := Aside0.mk (hp.rows_begin (fF_len gU gO) rfl)
  have HC := Aside0.mk hC
  have HCc := Aside0.mk hc
  have HS := Aside0.mk hS
  have HSc := Aside0.mk hsc
  have HR := Aside0.mk hr
  have HN := Aside0.mk hn
  have HLen := Aside0.mk hlen
  have HB := Aside0.mk hb
  obtain ⟨bn, hbn⟩ : ∃ bn, b.length = bn := ⟨_, rfl⟩
  have HBN := Aside0.mk hbn
  have HFn := Aside0.mk hFn
  have HXl := Aside0.mk hXl
  rw [hn, hbn]
  clear hp hC hc hS hsc hr hn hlen hb hbn hFn hXl hl
  go_enter Tryd.func24, Tryd.ntmps24
  go_wp2_with fail
  have HA : Aside0 (AT F w0 _ gp gU gO (begun ps)) := ⟨⟨_, HP.out, ⟨⟨rfl, rfl, rfl, rfl, rfl⟩, rfl⟩⟩⟩
  refine (made_at HA.out HFn.out (by show (0 : Nat) ≤ _; omega) (by show (0 : Nat) ≤ _; omega) (by show (0 : Nat) ≤ _; omega)).mono ?_
  rintro e w1 ⟨rfl, hat⟩
  rw [begun_made] at hat
  have HA1 := Aside0.mk hat
  clear hat HA HP hx5 hf5
  go_wp2
  go_loopw [6, 19] (fun v6 v19 w' => ∃ i c : Nat, i ≤ n ∧ v6 = .int .i64 (c : Int) ∧ v19 = .int .i64 (i : Int) ∧ Aside0 (RL F X w0 gp gU gO l b ps i c w')) (fun _ v19 _ => n - (intOf v19).toNat)
  case atStart => exact ⟨0, 0, Nat.zero_le _, rfl, rfl, ⟨⟨_, rfl, HA1.out, ⟨_, Bd.start ps, fun y hy => absurd hy List.not_mem_nil⟩, HR.out, rfl⟩⟩⟩
  case round =>
    clear HA1
    obtain ⟨i, c, hi, rfl, rfl, HRL⟩ := hrel
    by_cases hlt : i < n
    · obtain ⟨s, hcount, hat, ⟨L, hB, hXL⟩, hrt, hrun⟩ := HRL.out
      have HXL := Aside0.mk hXL
      clear hXL
      clear HRL
      have hc4 : c ≤ 4096 := by have := hB.count; omega
      obtain ⟨d, hd⟩ : ∃ d, d = rd_T46 l (i : Int) := ⟨_, rfl⟩
      have hdi : (l.map dd)[i]? = some (dd d) := by
        have hil : i < l.length := by rw [HN.out]; exact hlt
        rw [List.getElem?_map, List.getElem?_eq_getElem hil, hd]
        simp [rd_T46, List.getD_eq_getElem?_getD, hil]
      obtain ⟨hkind, hup, _⟩ := right_at hdi hrt
      have hcw : Kd.C k46 wr A l.length l := by
        obtain ⟨g, hp, _⟩ := hat
        exact Kd.C_below HC.out hp.hb
      obtain ⟨ad, e0, hx0, hx1⟩ := at_T46 hcw (i : Int) (by omega) (by rw [HN.out]; omega)
      cases e0
      rw [Int.toNat_natCast, ← hd] at hx0 hx1
      obtain ⟨x0, hxx0⟩ : ∃ x, x = d.f0 := ⟨_, rfl⟩
      obtain ⟨x, hxx1⟩ : ∃ x, x = d.f1 := ⟨_, rfl⟩
      rw [← hxx0] at hx0
      rw [← hxx1] at hx1
      have hdd : dd d = (x0, x) := by rw [hxx0, hxx1]; rfl
      have hdm : d ∈ l := by
        have hil : i < l.length := by rw [HN.out]; exact hlt
        have e : d = l[i] := by rw [hd]; simp [rd_T46, List.getD_eq_getElem?_getD, hil]
        rw [e]
        exact List.getElem_mem hil
      have hxX : X x := by rw [hxx1]; exact HXl.out d hdm
      have HXx := Aside0.mk hxX
      have HXP := Aside0.mk (show ∀ y, y ∈ puts [(x0, x)] → X y from fun y hy => by
        unfold puts at hy
        rw [List.mem_map] at hy
        obtain ⟨a, ha, rfl⟩ := hy
        rw [List.mem_filter, List.mem_singleton] at ha
        obtain ⟨rfl, _⟩ := ha
        exact hxX)
      clear hdm hxX
      rw [hdd] at hdi hkind hup
      have HAT := Aside0.mk hat
      have HBd := Aside0.mk hB
      have HRt := Aside0.mk hrt
      have HRun := Aside0.mk hrun
      have HDi := Aside0.mk hdi
      have HCnt := Aside0.mk hcount
      have HUp := Aside0.mk hup
      have hdl : decide ((i : Int) < (n : Int)) = true := decide_eq_true (by omega)
      have hlb : ((i : Int) < (n : Int)) = True := eq_true (by omega)
      have HKind := Aside0.mk hkind
      clear hat hB hrt hrun hdi hd hcount hup hkind hcw hxx0 hxx1 hdd
      by_cases k4 : x0 = 4
      · subst k4
        clear HKind
        have HA2 := Aside0.mk (HAT.out.below (below_alloc (Below.refl _ _) (.cells #[.int .i64 4, .int .i64 x] 46)))
        clear HAT

        obtain ⟨g, hp1, hr1⟩ := HA2.out
        obtain ⟨v, hv⟩ : ∃ v, v = s.hand := ⟨_, rfl⟩
        obtain ⟨_, _, hvl, hlenv, hvm⟩ := HBd.out.cur
        rw [← hv] at hvl hvm
        obtain ⟨gv, vc, hvo, hF⟩ := view_facts hr1.toRep0 (fF_len gU gO) hvl hp1
        obtain ⟨ya, hya⟩ : ∃ y, y = s.views.getD v [] := ⟨_, rfl⟩
        rw [← hya] at hF
        obtain ⟨vn, hvn⟩ : ∃ vn, vn = s.views.length := ⟨_, rfl⟩
        rw [← hvn] at hvo hF
        obtain ⟨fy, hfy⟩ : ∃ y, y = F ya := ⟨_, rfl⟩
        rw [← hfy] at hF
        obtain ⟨fz, hfz0⟩ : ∃ y, y = F (ya ++ [x]) := ⟨_, rfl⟩
        have la1 : ((v : Int) < (vn : Int)) = True := eq_true (by omega)
        have hv4 : (v : Int) ≤ 4194304 := by have := HBd.out.views; omega
        have hXy : ∀ y, y ∈ ya → X y := fun y hy => HXL.out y (by
          obtain ⟨pre, hmi, _⟩ := HBd.out.inv.mi
          obtain ⟨hne, hl, _⟩ := HBd.out.cur
          have hpos : 0 < s.cur.length := List.length_pos_iff.2 hne
          refine MI_mem hmi (j := s.cur.length - 1) (by omega) ?_
          have e : s.cur.getD (s.cur.length - 1) 0 = s.hand := by
            unfold St.hand
            rw [List.getLastD_eq_getLast?, List.getLast?_eq_getElem?, List.getD_eq_getElem?_getD]
          rw [e, ← hv, ← hya]
          exact hy)
        have hPut : ∀ w', PS w0 w' gp (fF gU gO) g → Calls Tryd.prog 20 #[.int .i64 fy, .int .i64 x, .pointer (some ⟨gO, 0, none⟩)] w' fun e w'' => e = .returned (.int .i64 fz) ∧ Below w'.heap.size w' w'' := fun w' h => by
          rw [hfy, hfz0]
          exact HFn.out.put w' ya x h.hb hXy HXx.out
        have hC9 : ∀ w', PS w0 w' gp (fF gU gO) g → w'.heap[wr.heap.size]? = some (.cells #[.int .i64 4, .int .i64 x] 46 (0, 0)) → (w'.cell? ⟨gp, 4, none⟩ = some (.slice (some ⟨gv, 0, none⟩) vn vc) ∧ w'.cell? ⟨gp, 1, none⟩ = some (.func (.func 20) #[] #[.pointer (some ⟨gO, 0, none⟩)]) ∧ w'.cell? ⟨gv, v, none⟩ = some (.int .i64 fy) ∧ w'.cell? ⟨wr.heap.size, 1, none⟩ = some (.int .i64 x)) ∧ w'.frozen? ⟨gv, v, none⟩ = false := fun w' h hd => by
          obtain ⟨⟨f1, f2⟩, f3⟩ := hF w' h
          exact ⟨⟨f1, (blk_cell h.bp 1).trans rfl, f2, (blk_cell hd 1).trans rfl⟩, f3⟩
        have hD : (wr.alloc (.cells #[.int .i64 4, .int .i64 x] 46)).heap[wr.heap.size]? = some (.cells #[.int .i64 4, .int .i64 x] 46 (0, 0)) := blk_new wr _
        have HH := Aside0.mk (hand_at HA2.out HBd.out (by omega))
        rw [← hv] at HH
        have HP1 := Aside0.mk hp1
        have HR1 := Aside0.mk hr1
        have HPut := Aside0.mk hPut
        have HC9 := Aside0.mk hC9
        have HD1 := Aside0.mk hD
        have HVO := Aside0.mk (And.intro hvo (And.intro hfz0 (And.intro hv hya)))
        clear hp1 hr1 hPut hC9 hD hvo hvn hF hya hvl hlenv hvm hv HA2 hfy hfz0 hXy
        go_wp2_with fail
        refine HH.out.mono ?_
        rintro e w2 ⟨rfl, hdr⟩
        have HP2 := Aside0.mk (HP1.out.below hdr.below)
        have HD2 := Aside0.mk (blk_below HD1.out hdr.below)
        clear hdr HP1 HD1 HH
        generalize wr.heap.size = gd at HC9 HD2 ⊢
        go_upto_region 9 with fail
        refine start_ (n := 22) (S := (fun w' => w'.cell? ⟨gp, 4, none⟩ = some (.slice (some ⟨gv, 0, none⟩) vn vc) ∧ w'.cell? ⟨gp, 1, none⟩ = some (.func (.func 20) #[] #[.pointer (some ⟨gO, 0, none⟩)]) ∧ w'.cell? ⟨gv, v, none⟩ = some (.int .i64 fy) ∧ w'.cell? ⟨gd, 1, none⟩ = some (.int .i64 x))) (ds := [21]) #[false, false, false, false, false, false, false, false, false, false, false, false, false, false, false, false, false, false, false, false, false, false] (by kernel_rfl) rfl rfl (HC9.out w2 HP2.out HD2.out).1 (fun hHeld => ?_); refine with_tabW R24a_tab R24a_bits (fun HT_ HW_ => ?_)
        have HP3 := Aside0.mk (HP2.out.below (w1 := w2.drew) (Drawn0.below ⟨⟨1, rfl⟩⟩))
        have HD3 := Aside0.mk (show w2.drew.heap[gd]? = _ from HD2.out)
        clear HP2 HD2
        generalize w2.drew = w3 at HP3 HD3 hHeld ⊢
        refine pure_ (i := 0) (N := some 30) (v := ?_) (a' := ?_) #[true, false, false, false, false, false, false, false, false, false, false, false, false, false, false, false, false, false, false, false, false, false] rfl rfl (any_of HT_.out (by kernel_rfl)) (fun _ _ _ h => h) (Or.inl ⟨by rfl, ?_⟩) ?_ ?_
        rotate_left
        · intro w'
          go_simp
          with_reducible rfl
        rotate_left
        · simp only [Act.put, List.setIfInBounds_toArray, List.set_cons_zero, List.set_cons_succ, i64_w, i32_w]
          rfl
        refine pure_ (i := 1) (N := some 31) (v := ?_) (a' := ?_) #[true, true, false, false, false, false, false, false, false, false, false, false, false, false, false, false, false, false, false, false, false, false] rfl rfl (any_of HT_.out (by kernel_rfl)) (fun _ _ _ h => h) (Or.inl ⟨by rfl, ?_⟩) ?_ ?_
        rotate_left
        · intro w'
          go_simp
          with_reducible rfl
        rotate_left
        · simp only [Act.put, List.setIfInBounds_toArray, List.set_cons_zero, List.set_cons_succ, i64_w, i32_w]
          rfl
        refine pure_ (i := 2) (N := some 32) (v := ?_) (a' := ?_) #[true, true, true, false, false, false, false, false, false, false, false, false, false, false, false, false, false, false, false, false, false, false] rfl rfl (any_of HT_.out (by kernel_rfl)) (fun _ _ _ h => h) (Or.inl ⟨by rfl, ?_⟩) ?_ ?_
        rotate_left
        · intro w'
          go_simp
          with_reducible rfl
        rotate_left
        · simp only [Act.put, List.setIfInBounds_toArray, List.set_cons_zero, List.set_cons_succ, i64_w, i32_w]
          rfl
        refine take_ (i := 3) (N := some 33) (v := ?_) (a' := ?_) #[true, true, true, true, false, false, false, false, false, false, false, false, false, false, false, false, false, false, false, false, false, false] rfl rfl (take_ofW HT_.out HW_.out (by kernel_rfl)) (fun _ _ _ h => h) (Or.inl ⟨by rfl, ?_⟩) hHeld ?_ ?_
        rotate_left
        · rintro w' ⟨s0, s1, s2, s3⟩
          go_simp
          with_reducible rfl
        rotate_left
        · simp only [Act.put, List.setIfInBounds_toArray, List.set_cons_zero, List.set_cons_succ, i64_w, i32_w]
          rfl
        refine pure_ (i := 4) (N := some 34) (v := ?_) (a' := ?_) #[true, true, true, true, true, false, false, false, false, false, false, false, false, false, false, false, false, false, false, false, false, false] rfl rfl (any_of HT_.out (by kernel_rfl)) (fun _ _ _ h => h) (Or.inl ⟨by rfl, ?_⟩) ?_ ?_
        rotate_left
        · intro w'
          go_simp
          with_reducible rfl
        rotate_left
        · simp only [Act.put, List.setIfInBounds_toArray, List.set_cons_zero, List.set_cons_succ, i64_w, i32_w]
          rfl
        refine pure_ (i := 5) (N := some 35) (v := ?_) (a' := ?_) #[true, true, true, true, true, true, false, false, false, false, false, false, false, false, false, false, false, false, false, false, false, false] rfl rfl (any_of HT_.out (by kernel_rfl)) (fun _ _ _ h => h) (Or.inl ⟨by rfl, ?_⟩) ?_ ?_
        rotate_left
        · intro w'
          go_simp
          with_reducible rfl
        rotate_left
        · simp only [Act.put, List.setIfInBounds_toArray, List.set_cons_zero, List.set_cons_succ, i64_w, i32_w]
          rfl
        refine pure_ (i := 6) (N := some 36) (v := ?_) (a' := ?_) #[true, true, true, true, true, true, true, false, false, false, false, false, false, false, false, false, false, false, false, false, false, false] rfl rfl (any_of HT_.out (by kernel_rfl)) (fun _ _ _ h => h) (Or.inl ⟨by rfl, ?_⟩) ?_ ?_
        rotate_left
        · intro w'
          go_simp
          with_reducible rfl
        rotate_left
        · simp only [Act.put, List.setIfInBounds_toArray, List.set_cons_zero, List.set_cons_succ, i64_w, i32_w]
          rfl
        refine pure_ (i := 7) (N := some 37) (v := ?_) (a' := ?_) #[true, true, true, true, true, true, true, true, false, false, false, false, false, false, false, false, false, false, false, false, false, false] rfl rfl (any_of HT_.out (by kernel_rfl)) (fun _ _ _ h => h) (Or.inl ⟨by rfl, ?_⟩) ?_ ?_
        rotate_left
        · intro w'
          go_simp
          with_reducible rfl
        rotate_left
        · simp only [Act.put, List.setIfInBounds_toArray, List.set_cons_zero, List.set_cons_succ, i64_w, i32_w]
          rfl
        refine pure_ (i := 8) (N := some 38) (v := ?_) (a' := ?_) #[true, true, true, true, true, true, true, true, true, false, false, false, false, false, false, false, false, false, false, false, false, false] rfl rfl (any_of HT_.out (by kernel_rfl)) (fun _ _ _ h => h) (Or.inl ⟨by rfl, ?_⟩) ?_ ?_
        rotate_left
        · intro w'
          go_simp
          with_reducible rfl
        rotate_left
        · simp only [Act.put, List.setIfInBounds_toArray, List.set_cons_zero, List.set_cons_succ, i64_w, i32_w]
          rfl
        refine take_ (i := 9) (N := some 39) (v := ?_) (a' := ?_) #[true, true, true, true, true, true, true, true, true, true, false, false, false, false, false, false, false, false, false, false, false, false] rfl rfl (take_ofW HT_.out HW_.out (by kernel_rfl)) (fun _ _ _ h => h) (Or.inl ⟨by rfl, ?_⟩) hHeld ?_ ?_
        rotate_left
        · rintro w' ⟨s0, s1, s2, s3⟩
          go_simp
          with_reducible rfl
        rotate_left
        · simp only [Act.put, List.setIfInBounds_toArray, List.set_cons_zero, List.set_cons_succ, i64_w, i32_w]
          rfl
        refine pure_ (i := 10) (N := some 40) (v := ?_) (a' := ?_) #[true, true, true, true, true, true, true, true, true, true, true, false, false, false, false, false, false, false, false, false, false, false] rfl rfl (any_of HT_.out (by kernel_rfl)) (fun _ _ _ h => h) (Or.inl ⟨by rfl, ?_⟩) ?_ ?_
        rotate_left
        · intro w'
          go_simp
          with_reducible rfl
        rotate_left
        · simp only [Act.put, List.setIfInBounds_toArray, List.set_cons_zero, List.set_cons_succ, i64_w, i32_w]
          rfl
        refine pure_ (i := 11) (N := some 41) (v := ?_) (a' := ?_) #[true, true, true, true, true, true, true, true, true, true, true, true, false, false, false, false, false, false, false, false, false, false] rfl rfl (any_of HT_.out (by kernel_rfl)) (fun _ _ _ h => h) (Or.inl ⟨by rfl, ?_⟩) ?_ ?_
        rotate_left
        · intro w'
          go_simp
          with_reducible rfl
        rotate_left
        · simp only [Act.put, List.setIfInBounds_toArray, List.set_cons_zero, List.set_cons_succ, i64_w, i32_w]
          rfl
        refine pure_ (i := 12) (N := some 42) (v := ?_) (a' := ?_) #[true, true, true, true, true, true, true, true, true, true, true, true, true, false, false, false, false, false, false, false, false, false] rfl rfl (any_of HT_.out (by kernel_rfl)) (fun _ _ _ h => h) (Or.inl ⟨by rfl, ?_⟩) ?_ ?_
        rotate_left
        · intro w'
          go_simp
          with_reducible rfl
        rotate_left
        · simp only [Act.put, List.setIfInBounds_toArray, List.set_cons_zero, List.set_cons_succ, i64_w, i32_w]
          rfl
        refine take_ (i := 13) (N := some 43) (v := ?_) (a' := ?_) #[true, true, true, true, true, true, true, true, true, true, true, true, true, true, false, false, false, false, false, false, false, false] rfl rfl (take_ofW HT_.out HW_.out (by kernel_rfl)) (fun _ _ _ h => h) (Or.inl ⟨by rfl, ?_⟩) hHeld ?_ ?_
        rotate_left
        · rintro w' ⟨s0, s1, s2, s3⟩
          go_simp
          with_reducible rfl
        rotate_left
        · simp only [Act.put, List.setIfInBounds_toArray, List.set_cons_zero, List.set_cons_succ, i64_w, i32_w]
          rfl
        refine pure_ (i := 14) (N := some 44) (v := ?_) (a' := ?_) #[true, true, true, true, true, true, true, true, true, true, true, true, true, true, true, false, false, false, false, false, false, false] rfl rfl (any_of HT_.out (by kernel_rfl)) (fun _ _ _ h => h) (Or.inl ⟨by rfl, ?_⟩) ?_ ?_
        rotate_left
        · intro w'
          go_simp
          with_reducible rfl
        rotate_left
        · simp only [Act.put, List.setIfInBounds_toArray, List.set_cons_zero, List.set_cons_succ, i64_w, i32_w]
          rfl
        refine pure_ (i := 15) (N := some 45) (v := ?_) (a' := ?_) #[true, true, true, true, true, true, true, true, true, true, true, true, true, true, true, true, false, false, false, false, false, false] rfl rfl (any_of HT_.out (by kernel_rfl)) (fun _ _ _ h => h) (Or.inl ⟨by rfl, ?_⟩) ?_ ?_
        rotate_left
        · intro w'
          go_simp
          with_reducible rfl
        rotate_left
        · simp only [Act.put, List.setIfInBounds_toArray, List.set_cons_zero, List.set_cons_succ, i64_w, i32_w]
          rfl
        refine take_ (i := 16) (N := some 46) (v := ?_) (a' := ?_) #[true, true, true, true, true, true, true, true, true, true, true, true, true, true, true, true, true, false, false, false, false, false] rfl rfl (take_ofW HT_.out HW_.out (by kernel_rfl)) (fun _ _ _ h => h) (Or.inl ⟨by rfl, ?_⟩) hHeld ?_ ?_
        rotate_left
        · rintro w' ⟨s0, s1, s2, s3⟩
          go_simp
          with_reducible rfl
        rotate_left
        · simp only [Act.put, List.setIfInBounds_toArray, List.set_cons_zero, List.set_cons_succ, i64_w, i32_w]
          rfl
        refine pure_ (i := 17) (N := some 47) (v := ?_) (a' := ?_) #[true, true, true, true, true, true, true, true, true, true, true, true, true, true, true, true, true, true, false, false, false, false] rfl rfl (any_of HT_.out (by kernel_rfl)) (fun _ _ _ h => h) (Or.inl ⟨by rfl, ?_⟩) ?_ ?_
        rotate_left
        · intro w'
          go_simp
          with_reducible rfl
        rotate_left
        · simp only [Act.put, List.setIfInBounds_toArray, List.set_cons_zero, List.set_cons_succ, i64_w, i32_w]
          rfl
        refine take_ (i := 18) (N := some 48) (v := ?_) (a' := ?_) #[true, true, true, true, true, true, true, true, true, true, true, true, true, true, true, true, true, true, true, false, false, false] rfl rfl (take_ofW HT_.out HW_.out (by kernel_rfl)) (fun _ _ _ h => h) (Or.inl ⟨by rfl, ?_⟩) hHeld ?_ ?_
        rotate_left
        · rintro w' ⟨s0, s1, s2, s3⟩
          go_simp
          with_reducible rfl
        rotate_left
        · simp only [Act.put, List.setIfInBounds_toArray, List.set_cons_zero, List.set_cons_succ, i64_w, i32_w]
          rfl
        refine one_ (i := 19) (N := some 49) #[true, true, true, true, true, true, true, true, true, true, true, true, true, true, true, true, true, true, true, true, false, false] rfl rfl (one_of HT_.out (by kernel_rfl)) (by decide) (fun K hK => ?_)
        refine goesC_ Tryd.func20 (by kernel_rfl) rfl #[.int .i64 fy, .int .i64 x, .pointer (some ⟨gO, 0, none⟩)] (by rfl) rfl rfl rfl (by (try simp only [List.map_toArray, List.map_cons, List.map_nil]); first | done | rfl) ?_
        with_reducible refine (HPut.out w3 HP3.out).mono ?_
        rintro e w5 ⟨rfl, hb⟩
        have HP5 := Aside0.mk (HP3.out.below hb)
        have HD5 := Aside0.mk (blk_below HD3.out hb)
        clear hb
        refine ⟨_, rfl, ?_⟩
        refine hK.out _ _ (HC9.out w5 HP5.out HD5.out).1 (fun hHeld => ?_)
        clear hK K
        refine norm_ (a' := ?_) ?_ ?_
        rotate_left
        · show Act.put _ (some 49) _ = _
          simp only [Act.put, List.setIfInBounds_toArray, List.set_cons_zero, List.set_cons_succ, i64_w, i32_w]
          rfl
        refine pure_ (i := 20) (N := some 50) (v := ?_) (a' := ?_) #[true, true, true, true, true, true, true, true, true, true, true, true, true, true, true, true, true, true, true, true, true, false] rfl rfl (any_of HT_.out (by kernel_rfl)) (fun _ _ _ h => h) (Or.inl ⟨by rfl, ?_⟩) ?_ ?_
        rotate_left
        · intro w'
          go_simp
          with_reducible rfl
        rotate_left
        · simp only [Act.put, List.setIfInBounds_toArray, List.set_cons_zero, List.set_cons_succ, i64_w, i32_w]
          rfl
        have hfz := (HC9.out w5 HP5.out HD5.out).2
        refine last_ (i := 21) (N := none) #[true, true, true, true, true, true, true, true, true, true, true, true, true, true, true, true, true, true, true, true, true, true] rfl rfl (one_of HT_.out (by kernel_rfl)) (by decide) (fun K hK => ?_)
        refine skip_ (w1 := ?_) (by rfl) rfl ?_ ?_
        rotate_left
        · go_simp
          rfl
        refine hK.out _ _ ?_
        clear hK K
        refine done_ (done_of HT_.out (by kernel_rfl)) ?_
        clear HT_ HW_ hHeld

        have Fq := HP5.out.view_put (gv := gv) (n := vn) (c := vc) HVO.out.1 v fz
        obtain ⟨_, ez, ev, ey⟩ := HVO.out
        rw [ez, ey, ev] at Fq
        have hat2 := AT.write HR1.out (x := x) Fq
        rw [← ev, ← ey, ← ez] at hat2
        have HA3 := Aside0.mk (show RL F X w0 gp gU gO l b ps (i + 1) c (w5.setCell ⟨gv, v, none⟩ (.int .i64 fz)) from by
          have h := RL.next (d := ((4 : Int), x)) HDi.out HBd.out HRt.out HRun.out HXL.out HXP.out hat2
          rw [show (Play.step red b i ((4 : Int), x) s).count = c from HCnt.out] at h
          exact h)
        clear hat2 Fq ev ey ez hfz HP5 HD5 HP3 HD3 HPut HC9 HVO HR1
        go_wp2
        go_roundw
        case measure => simp [intOf]; omega
        case rel => exact ⟨i + 1, c, by omega, rfl, by go_num, HA3⟩
      · by_cases k3 : x0 = 3
        · subst k3
          clear HKind
          have HA2 := Aside0.mk (HAT.out.below (below_alloc (Below.refl _ _) (.cells #[.int .i64 3, .int .i64 x] 46)))
          clear HAT

          obtain ⟨g, hp1, hr1⟩ := HA2.out
          obtain ⟨v, hv⟩ : ∃ v, v = s.hand := ⟨_, rfl⟩
          obtain ⟨_, _, hvl, hlenv, hvm⟩ := HBd.out.cur
          rw [← hv] at hvl hvm
          obtain ⟨gv, vc, hvo, hF⟩ := view_facts hr1.toRep0 (fF_len gU gO) hvl hp1
          obtain ⟨vn, hvn⟩ : ∃ vn, vn = s.views.length := ⟨_, rfl⟩
          rw [← hvn] at hvo hF
          obtain ⟨fy, hfy⟩ : ∃ y, y = F (s.views.getD v []) := ⟨_, rfl⟩
          rw [← hfy] at hF
          have la1 : ((v : Int) < (vn : Int)) = True := eq_true (by omega)
          have hv4 : (v : Int) ≤ 4194304 := by have := HBd.out.views; omega
          have hC11 : ∀ w', PS w0 w' gp (fF gU gO) g → w'.cell? ⟨gp, 4, none⟩ = some (.slice (some ⟨gv, 0, none⟩) vn vc) ∧ w'.cell? ⟨gp, 3, none⟩ = some (.func (.func 23) #[] #[]) ∧ w'.cell? ⟨gv, v, none⟩ = some (.int .i64 fy) := fun w' h => by
            obtain ⟨⟨f1, f2⟩, _⟩ := hF w' h
            exact ⟨f1, (blk_cell h.bp 3).trans rfl, f2⟩
          have hHand : ∀ w', PS w0 w' gp (fF gU gO) g → Calls Tryd.prog 42 #[.pointer (some ⟨gp, 0, none⟩)] w' fun e w'' => e = .returned (.int .i64 (v : Int)) ∧ Drawn0 w' w'' := fun w' h => by
            have := hand_at ⟨g, h, hr1⟩ HBd.out (by omega)
            rw [← hv] at this
            exact this
          have hLook : ∀ w', PS w0 w' gp (fF gU gO) g → Calls Tryd.prog 23 #[.int .i64 fy] w' fun e w'' => e = .returned (.tuple #[]) ∧ AT F w0 w'' gp gU gO (s.read red) := fun w' h => by
            refine (look_calls fy w').mono ?_
            rintro e w'' ⟨rfl, hb⟩
            exact ⟨rfl, AT.read ⟨g, h.below hb, hr1⟩⟩
          have HP2 := Aside0.mk hp1
          have HHand := Aside0.mk hHand
          have HLook := Aside0.mk hLook
          have HC11 := Aside0.mk hC11
          clear hp1 hr1 hHand hLook hC11 hvo hvn hF hfy hvl hlenv hvm hv HA2
          clear k4
          go_upto_region 11 with fail
          generalize wr.alloc (.cells #[.int .i64 3, .int .i64 x] 46) = w2 at HP2 ⊢
          refine start_ (n := 14) (S := (fun w' => w'.cell? ⟨gp, 4, none⟩ = some (.slice (some ⟨gv, 0, none⟩) vn vc) ∧ w'.cell? ⟨gp, 3, none⟩ = some (.func (.func 23) #[] #[]) ∧ w'.cell? ⟨gv, v, none⟩ = some (.int .i64 fy))) (ds := [13]) #[false, false, false, false, false, false, false, false, false, false, false, false, false, false] (by kernel_rfl) rfl rfl (HC11.out w2 HP2.out) (fun hHeld => ?_); refine with_tabW R24b_tab R24b_bits (fun HT_ HW_ => ?_)
          have HP3 := Aside0.mk (HP2.out.below (w1 := w2.drew) (Drawn0.below ⟨⟨1, rfl⟩⟩))
          clear HP2
          generalize w2.drew = w3 at HP3 hHeld ⊢
          refine pure_ (i := 0) (N := some 53) (v := ?_) (a' := ?_) #[true, false, false, false, false, false, false, false, false, false, false, false, false, false] rfl rfl (any_of HT_.out (by kernel_rfl)) (fun _ _ _ h => h) (Or.inl ⟨by rfl, ?_⟩) ?_ ?_
          rotate_left
          · intro w'
            go_simp
            with_reducible rfl
          rotate_left
          · simp only [Act.put, List.setIfInBounds_toArray, List.set_cons_zero, List.set_cons_succ, i64_w, i32_w]
            rfl
          refine pure_ (i := 1) (N := some 54) (v := ?_) (a' := ?_) #[true, true, false, false, false, false, false, false, false, false, false, false, false, false] rfl rfl (any_of HT_.out (by kernel_rfl)) (fun _ _ _ h => h) (Or.inl ⟨by rfl, ?_⟩) ?_ ?_
          rotate_left
          · intro w'
            go_simp
            with_reducible rfl
          rotate_left
          · simp only [Act.put, List.setIfInBounds_toArray, List.set_cons_zero, List.set_cons_succ, i64_w, i32_w]
            rfl
          refine pure_ (i := 2) (N := some 55) (v := ?_) (a' := ?_) #[true, true, true, false, false, false, false, false, false, false, false, false, false, false] rfl rfl (any_of HT_.out (by kernel_rfl)) (fun _ _ _ h => h) (Or.inl ⟨by rfl, ?_⟩) ?_ ?_
          rotate_left
          · intro w'
            go_simp
            with_reducible rfl
          rotate_left
          · simp only [Act.put, List.setIfInBounds_toArray, List.set_cons_zero, List.set_cons_succ, i64_w, i32_w]
            rfl
          refine pure_ (i := 3) (N := some 56) (v := ?_) (a' := ?_) #[true, true, true, true, false, false, false, false, false, false, false, false, false, false] rfl rfl (any_of HT_.out (by kernel_rfl)) (fun _ _ _ h => h) (Or.inl ⟨by rfl, ?_⟩) ?_ ?_
          rotate_left
          · intro w'
            go_simp
            with_reducible rfl
          rotate_left
          · simp only [Act.put, List.setIfInBounds_toArray, List.set_cons_zero, List.set_cons_succ, i64_w, i32_w]
            rfl
          refine take_ (i := 4) (N := some 57) (v := ?_) (a' := ?_) #[true, true, true, true, true, false, false, false, false, false, false, false, false, false] rfl rfl (take_ofW HT_.out HW_.out (by kernel_rfl)) (fun _ _ _ h => h) (Or.inl ⟨by rfl, ?_⟩) hHeld ?_ ?_
          rotate_left
          · rintro w' ⟨s0, s1, s2⟩
            go_simp
            with_reducible rfl
          rotate_left
          · simp only [Act.put, List.setIfInBounds_toArray, List.set_cons_zero, List.set_cons_succ, i64_w, i32_w]
            rfl
          refine pure_ (i := 5) (N := some 58) (v := ?_) (a' := ?_) #[true, true, true, true, true, true, false, false, false, false, false, false, false, false] rfl rfl (any_of HT_.out (by kernel_rfl)) (fun _ _ _ h => h) (Or.inl ⟨by rfl, ?_⟩) ?_ ?_
          rotate_left
          · intro w'
            go_simp
            with_reducible rfl
          rotate_left
          · simp only [Act.put, List.setIfInBounds_toArray, List.set_cons_zero, List.set_cons_succ, i64_w, i32_w]
            rfl
          refine pure_ (i := 6) (N := some 59) (v := ?_) (a' := ?_) #[true, true, true, true, true, true, true, false, false, false, false, false, false, false] rfl rfl (any_of HT_.out (by kernel_rfl)) (fun _ _ _ h => h) (Or.inl ⟨by rfl, ?_⟩) ?_ ?_
          rotate_left
          · intro w'
            go_simp
            with_reducible rfl
          rotate_left
          · simp only [Act.put, List.setIfInBounds_toArray, List.set_cons_zero, List.set_cons_succ, i64_w, i32_w]
            rfl
          refine pure_ (i := 7) (N := some 60) (v := ?_) (a' := ?_) #[true, true, true, true, true, true, true, true, false, false, false, false, false, false] rfl rfl (any_of HT_.out (by kernel_rfl)) (fun _ _ _ h => h) (Or.inl ⟨by rfl, ?_⟩) ?_ ?_
          rotate_left
          · intro w'
            go_simp
            with_reducible rfl
          rotate_left
          · simp only [Act.put, List.setIfInBounds_toArray, List.set_cons_zero, List.set_cons_succ, i64_w, i32_w]
            rfl
          refine take_ (i := 8) (N := some 61) (v := ?_) (a' := ?_) #[true, true, true, true, true, true, true, true, true, false, false, false, false, false] rfl rfl (take_ofW HT_.out HW_.out (by kernel_rfl)) (fun _ _ _ h => h) (Or.inl ⟨by rfl, ?_⟩) hHeld ?_ ?_
          rotate_left
          · rintro w' ⟨s0, s1, s2⟩
            go_simp
            with_reducible rfl
          rotate_left
          · simp only [Act.put, List.setIfInBounds_toArray, List.set_cons_zero, List.set_cons_succ, i64_w, i32_w]
            rfl
          refine pure_ (i := 9) (N := some 62) (v := ?_) (a' := ?_) #[true, true, true, true, true, true, true, true, true, true, false, false, false, false] rfl rfl (any_of HT_.out (by kernel_rfl)) (fun _ _ _ h => h) (Or.inl ⟨by rfl, ?_⟩) ?_ ?_
          rotate_left
          · intro w'
            go_simp
            with_reducible rfl
          rotate_left
          · simp only [Act.put, List.setIfInBounds_toArray, List.set_cons_zero, List.set_cons_succ, i64_w, i32_w]
            rfl
          refine one_ (i := 10) (N := some 63) #[true, true, true, true, true, true, true, true, true, true, true, false, false, false] rfl rfl (one_of HT_.out (by kernel_rfl)) (by decide) (fun K hK => ?_)
          refine goes_ Tryd.func42 (by kernel_rfl) rfl #[.pointer (some ⟨gp, 0, none⟩)] (by rfl) rfl rfl (by (try simp only [List.map_toArray, List.map_cons, List.map_nil]); first | done | rfl) ?_
          with_reducible refine (HHand.out w3 HP3.out).mono ?_
          rintro e w4 ⟨rfl, hdr⟩
          have HP4 := Aside0.mk (HP3.out.below hdr.below)
          clear hdr HP3
          refine ⟨_, rfl, ?_⟩
          refine hK.out _ _ (HC11.out w4 HP4.out) (fun hHeld => ?_)
          clear hK K
          refine norm_ (a' := ?_) ?_ ?_
          rotate_left
          · show Act.put _ (some 63) _ = _
            simp only [Act.put, List.setIfInBounds_toArray, List.set_cons_zero, List.set_cons_succ, i64_w, i32_w]
            rfl
          refine pure_ (i := 11) (N := some 64) (v := ?_) (a' := ?_) #[true, true, true, true, true, true, true, true, true, true, true, true, false, false] rfl rfl (any_of HT_.out (by kernel_rfl)) (fun _ _ _ h => h) (Or.inl ⟨by rfl, ?_⟩) ?_ ?_
          rotate_left
          · intro w'
            go_simp
            with_reducible rfl
          rotate_left
          · simp only [Act.put, List.setIfInBounds_toArray, List.set_cons_zero, List.set_cons_succ, i64_w, i32_w]
            rfl
          refine take_ (i := 12) (N := some 65) (v := ?_) (a' := ?_) #[true, true, true, true, true, true, true, true, true, true, true, true, true, false] rfl rfl (take_ofW HT_.out HW_.out (by kernel_rfl)) (fun _ _ _ h => h) (Or.inl ⟨by rfl, ?_⟩) hHeld ?_ ?_
          rotate_left
          · rintro w' ⟨s0, s1, s2⟩
            go_simp
            with_reducible rfl
          rotate_left
          · simp only [Act.put, List.setIfInBounds_toArray, List.set_cons_zero, List.set_cons_succ, i64_w, i32_w]
            rfl
          refine last_ (i := 13) (N := some 66) #[true, true, true, true, true, true, true, true, true, true, true, true, true, true] rfl rfl (one_of HT_.out (by kernel_rfl)) (by decide) (fun K hK => ?_)
          refine goesC_ Tryd.func23 (by kernel_rfl) rfl #[.int .i64 fy] (by rfl) rfl rfl rfl (by (try simp only [List.map_toArray, List.map_cons, List.map_nil]); first | done | rfl) ?_
          with_reducible refine (HLook.out w4 HP4.out).mono ?_
          rintro e w5 ⟨rfl, hat⟩
          have HA := Aside0.mk hat
          clear hat
          refine ⟨_, rfl, ?_⟩
          refine hK.out _ _ ?_
          clear hK K
          refine norm_ (a' := ?_) ?_ ?_
          rotate_left
          · show Act.put _ (some 66) _ = _
            simp only [Act.put, List.setIfInBounds_toArray, List.set_cons_zero, List.set_cons_succ, i64_w, i32_w]
            rfl
          refine done_ (done_of HT_.out (by kernel_rfl)) ?_
          clear HT_ HW_ hHeld

          have HA3 := Aside0.mk (show RL F X w0 gp gU gO l b ps (i + 1) c w5 from by
            have h := RL.next (d := ((3 : Int), x)) HDi.out HBd.out HRt.out HRun.out HXL.out HXP.out HA.out
            rw [show (Play.step red b i ((3 : Int), x) s).count = c from HCnt.out] at h
            exact h)
          clear HA HP4 HHand HLook HC11
          go_wp2
          go_roundw
          case measure => simp [intOf]; omega
          case rel => exact ⟨i + 1, c, by omega, rfl, by go_num, HA3⟩
        · by_cases k0 : x0 = 0
          · subst k0
            clear HKind
            have HA2 := Aside0.mk (HAT.out.below (below_alloc (Below.refl _ _) (.cells #[.int .i64 0, .int .i64 x] 46)))
            clear HAT

            clear k4 k3
            obtain ⟨g, hp1, hr1⟩ := HA2.out
            obtain ⟨v, hvv⟩ : ∃ v, v = s.hand := ⟨_, rfl⟩
            obtain ⟨_, _, hvl, hlenv, hvm⟩ := HBd.out.cur
            rw [← hvv] at hvl hvm
            have hv4 : (v : Int) ≤ 4194304 := by have := HBd.out.views; omega
            obtain ⟨⟨rA, rn, rc⟩, hro⟩ : ∃ t : Sl, g.ro = t := ⟨_, rfl⟩
            have hC13 : ∀ w', PS w0 w' gp (fF gU gO) g → w'.cell? ⟨gp, 5, none⟩ = some (.slice rA rn rc) := fun w' h => by
              have h1 := (h.cell (fF_len gU gO)).2.1
              rw [hro] at h1
              exact h1
            have hO13 : ∀ w', PS w0 w' gp (fF gU gO) g → Kd.R kSl 24 w' w0.heap.size (fun b_ => (Value.slice rA rn rc).ownBlock = some b_ ∨ w'.heap.size ≤ b_) (.slice rA rn rc) g.oh := fun w' h => by
              have h2 := Fam.R (h1 := slv_one) h.f24 (List.mem_singleton.2 rfl)
              rw [hro] at h2
              exact Kd.R_mono h2 (fun b hb => .inl hb)
            have hM13 : ∀ w' w1 (t1 t2 : Sl) (ok : Nat → Prop), PS w0 w' gp (fF gU gO) g → Fam (Value.int .i64) 3 w' w0.heap.size ((g.rs.map hv ++ [hv g.sp]) ++ [(slv t1, [(v : Int)])]) → Kd.R kSl 24 w1 w0.heap.size ok (slv t2) (g.oh ++ [t1]) → Below w0.heap.size w0 w1 → w'.grownBy w1 (Value.slice rA rn rc).ownBlock → ((slv t2).ownBlock = (Value.slice rA rn rc).ownBlock ∨ ∃ b, (slv t2).ownBlock = some b ∧ w'.heap.size ≤ b) →
                PS w0 (w1.setCell ⟨gp, 5, none⟩ (slv t2)) gp (fF gU gO) { g with rs := g.rs ++ [(t1, [(v : Int)])], oh := g.oh ++ [t1], ro := t2 } := fun w' w1 t1 t2 ok h hf3 ho hb hg hat =>
              h.row_new (fF_len gU gO) hf3 ho hb (by rw [hro]; exact hg) (by rw [hro]; exact hat)
            have hT13 : ∀ w' w1, PS w0 w' gp (fF gU gO) g → w'.grownBy w1 (Value.slice rA rn rc).ownBlock → w1.cell? ⟨gp, 5, none⟩ = some (.slice rA rn rc) ∧ w1.frozen? ⟨gp, 5, none⟩ = false := fun w' w1 h hg => by
              have e1 : w1.heap[gp]? = w'.heap[gp]? := hg.block gp (blk_lt h.bp) (fun e => by
                obtain ⟨cells, h2⟩ := own_typed (h.f24.own _ (List.mem_singleton.2 rfl)) gp (by show (slv g.ro).ownBlock = _; rw [hro]; exact e.symm)
                rw [h.bp] at h2
                injection h2 with h2
                injection h2 with _ h2
                exact absurd h2 (by decide))
              exact ⟨(World.cell?_of_block e1).trans (hC13 w' h), (World.frozen?_of_block e1).trans (blk_frozen h.bp 5)⟩
            have hHand : ∀ w', PS w0 w' gp (fF gU gO) g → Calls Tryd.prog 42 #[.pointer (some ⟨gp, 0, none⟩)] w' fun e w'' => e = .returned (.int .i64 (v : Int)) ∧ Drawn0 w' w'' := fun w' h => by
              have := hand_at ⟨g, h, hr1⟩ HBd.out (by omega)
              rw [← hvv] at this
              exact this
            obtain ⟨⟨qA, qn, qc⟩, hsp⟩ : ∃ t : Sl, g.sp.1 = t := ⟨_, rfl⟩
            have hspl : g.sp.2.length ≤ 4096 := by rw [hr1.sp, ints_length, List.length_reverse]; have := HBd.out.spawns; omega
            have HSP := Aside0.mk hsp
            have HSPL := Aside0.mk hspl
            have HP2 := Aside0.mk hp1
            have HR1 := Aside0.mk hr1
            have HV := Aside0.mk hvv
            have HHand := Aside0.mk hHand
            have HC13 := Aside0.mk hC13
            have HO13 := Aside0.mk hO13
            have HM13 := Aside0.mk hM13
            have HT13 := Aside0.mk hT13
            have HOL := Aside0.mk (show g.oh.length ≤ 100000 by rw [hr1.oh, List.length_map, hr1.rows_len]; have := HBd.out.up; omega)
            clear hp1 hr1 hHand hC13 hO13 hM13 hT13 hro hvl hlenv hvm hvv HA2 hsp hspl
            go_upto_region 13 with fail
            generalize wr.alloc (.cells #[.int .i64 0, .int .i64 x] 46) = w2 at HP2 ⊢
            refine start_ (n := 13) (S := (fun w' => w'.cell? ⟨gp, 5, none⟩ = some (.slice rA rn rc))) (ds := [12]) #[false, false, false, false, false, false, false, false, false, false, false, false, false] (by kernel_rfl) rfl rfl (HC13.out w2 HP2.out) (fun hHeld => ?_); refine with_tabW R24c_tab R24c_bits (fun HT_ HW_ => ?_)
            have HP3 := Aside0.mk (HP2.out.below (w1 := w2.drew) (Drawn0.below ⟨⟨1, rfl⟩⟩))
            clear HP2
            generalize w2.drew = w3 at HP3 hHeld ⊢
            refine pure_ (i := 0) (N := some 69) (v := ?_) (a' := ?_) #[true, false, false, false, false, false, false, false, false, false, false, false, false] rfl rfl (any_of HT_.out (by kernel_rfl)) (fun _ _ _ h => h) (Or.inl ⟨by rfl, ?_⟩) ?_ ?_
            rotate_left
            · intro w'
              go_simp
              with_reducible rfl
            rotate_left
            · simp only [Act.put, List.setIfInBounds_toArray, List.set_cons_zero, List.set_cons_succ, i64_w, i32_w]
              rfl
            refine pure_ (i := 1) (N := some 70) (v := ?_) (a' := ?_) #[true, true, false, false, false, false, false, false, false, false, false, false, false] rfl rfl (any_of HT_.out (by kernel_rfl)) (fun _ _ _ h => h) (Or.inl ⟨by rfl, ?_⟩) ?_ ?_
            rotate_left
            · intro w'
              go_simp
              with_reducible rfl
            rotate_left
            · simp only [Act.put, List.setIfInBounds_toArray, List.set_cons_zero, List.set_cons_succ, i64_w, i32_w]
              rfl
            refine pure_ (i := 2) (N := some 71) (v := ?_) (a' := ?_) #[true, true, true, false, false, false, false, false, false, false, false, false, false] rfl rfl (any_of HT_.out (by kernel_rfl)) (fun _ _ _ h => h) (Or.inl ⟨by rfl, ?_⟩) ?_ ?_
            rotate_left
            · intro w'
              go_simp
              with_reducible rfl
            rotate_left
            · simp only [Act.put, List.setIfInBounds_toArray, List.set_cons_zero, List.set_cons_succ, i64_w, i32_w]
              rfl
            refine pure_ (i := 3) (N := some 72) (v := ?_) (a' := ?_) #[true, true, true, true, false, false, false, false, false, false, false, false, false] rfl rfl (any_of HT_.out (by kernel_rfl)) (fun _ _ _ h => h) (Or.inl ⟨by rfl, ?_⟩) ?_ ?_
            rotate_left
            · intro w'
              go_simp
              with_reducible rfl
            rotate_left
            · simp only [Act.put, List.setIfInBounds_toArray, List.set_cons_zero, List.set_cons_succ, i64_w, i32_w]
              rfl
            refine take_ (i := 4) (N := some 73) (v := ?_) (a' := ?_) #[true, true, true, true, true, false, false, false, false, false, false, false, false] rfl rfl (take_ofW HT_.out HW_.out (by kernel_rfl)) (fun _ _ _ h => h) (Or.inl ⟨by rfl, ?_⟩) hHeld ?_ ?_
            rotate_left
            · rintro w' s0
              go_simp
              with_reducible rfl
            rotate_left
            · simp only [Act.put, List.setIfInBounds_toArray, List.set_cons_zero, List.set_cons_succ, i64_w, i32_w]
              rfl
            refine pure_ (i := 5) (N := some 74) (v := ?_) (a' := ?_) #[true, true, true, true, true, true, false, false, false, false, false, false, false] rfl rfl (any_of HT_.out (by kernel_rfl)) (fun _ _ _ h => h) (Or.inl ⟨by rfl, ?_⟩) ?_ ?_
            rotate_left
            · intro w'
              go_simp
              with_reducible rfl
            rotate_left
            · simp only [Act.put, List.setIfInBounds_toArray, List.set_cons_zero, List.set_cons_succ, i64_w, i32_w]
              rfl
            refine one_ (i := 6) (N := some 75) #[true, true, true, true, true, true, true, false, false, false, false, false, false] rfl rfl (one_of HT_.out (by kernel_rfl)) (by decide) (fun K hK => ?_)
            refine goes_ Tryd.func42 (by kernel_rfl) rfl #[.pointer (some ⟨gp, 0, none⟩)] (by rfl) rfl rfl (by (try simp only [List.map_toArray, List.map_cons, List.map_nil]); first | done | rfl) ?_
            with_reducible refine (HHand.out w3 HP3.out).mono ?_
            rintro e w4 ⟨rfl, hdr⟩
            have HP4 := Aside0.mk (HP3.out.below hdr.below)
            clear hdr HP3
            refine ⟨_, rfl, ?_⟩
            refine hK.out _ _ (HC13.out w4 HP4.out) (fun hHeld => ?_)
            clear hK K
            refine norm_ (a' := ?_) ?_ ?_
            rotate_left
            · show Act.put _ (some 75) _ = _
              simp only [Act.put, List.setIfInBounds_toArray, List.set_cons_zero, List.set_cons_succ, i64_w, i32_w]
              rfl
            refine one_ (i := 7) (N := some 76) #[true, true, true, true, true, true, true, true, false, false, false, false, false] rfl rfl (one_of HT_.out (by kernel_rfl)) (by decide) (fun K hK => ?_)
            refine value_ (w1 := ?_) (v := ?_) (by rfl) rfl ?_ ?_
            rotate_left 2
            · go_simp
              constructor
              · rfl
              · rfl
            refine hK.out _ _ (HC13.out _ (HP4.out.row_lit (v : Int)).1) (fun hHeld => ?_)
            clear hK K
            refine norm_ (a' := ?_) ?_ ?_
            rotate_left
            · show Act.put _ (some 76) _ = _
              simp only [Act.put, List.setIfInBounds_toArray, List.set_cons_zero, List.set_cons_succ, i64_w, i32_w]
              rfl
            have HP5 := Aside0.mk (HP4.out.row_lit (v : Int))
            clear HP4
            obtain ⟨bk, hbb⟩ : ∃ bk, w4.heap.size = bk := ⟨_, rfl⟩
            rw [hbb] at HP5 ⊢
            generalize w4.alloc (.cells #[.int .i64 (v : Int)] 3) = w5 at HP5 hHeld ⊢
            clear hbb
            refine one_ (i := 8) (N := some 77) #[true, true, true, true, true, true, true, true, true, false, false, false, false] rfl rfl (one_of HT_.out (by kernel_rfl)) (by decide) (fun K hK => ?_)
            refine value_ (w1 := ?_) (v := ?_) (by rfl) rfl ?_ ?_
            rotate_left 2
            · go_simp
              constructor
              · rfl
              · rfl
            refine hK.out _ _ (HC13.out _ (HP5.out.1.below (below_alloc (Below.refl _ _) _))) (fun hHeld => ?_)
            clear hK K
            refine norm_ (a' := ?_) ?_ ?_
            rotate_left
            · show Act.put _ (some 77) _ = _
              simp only [Act.put, List.setIfInBounds_toArray, List.set_cons_zero, List.set_cons_succ, i64_w, i32_w]
              rfl
            refine one_ (i := 9) (N := some 78) #[true, true, true, true, true, true, true, true, true, true, false, false, false] rfl rfl (one_of HT_.out (by kernel_rfl)) (by decide) (fun K hK => ?_)
            refine Kd.R_append_step kSl (w0 := w0) w0.heap.size (by rfl) (.tmp 73) (.tmp 77) 59 24 (.slice none 0 0) 24 rfl Tryd.underlying59 info24 rfl (by decide) (by omega) (.slice rA rn rc) g.oh (some ⟨bk, 0, none⟩, 1, 1) [.slice (some ⟨bk, 0, none⟩) 1 1] (fun b_ => (Value.slice rA rn rc).ownBlock = some b_ ∨ w5.heap.size ≤ b_) (fun _ => False) rfl rfl ?aP (fun _ hk => hk.elim) ?aF ?aO ?aB ?aS ?aL ?_
            (case aP => exact rfl)
            (case aB => exact HP5.out.1.hb)
            (case aF => exact (fun k_ hk => .inr hk))
            (case aO => exact HO13.out w5 HP5.out.1)
            (case aS => exact (below_size HP5.out.1.hb))
            (case aL => have := HOL.out; omega)
            intro v2 w9 ho hb hg hat
            obtain ⟨A2, c2, rfl, _, _⟩ := Kd.R_reads ho
            have HG := Aside0.mk (HM13.out w5 w9 (some ⟨bk, 0, none⟩, 1, 1) (A2, _, c2) _ HP5.out.1 HP5.out.2 ho hb hg hat)
            have hT := HT13.out w5 w9 HP5.out.1 hg
            clear ho hb hg hat
            refine hK.out _ _ hT.1 (fun hHeld => ?_)
            clear hK K
            refine norm_ (a' := ?_) ?_ ?_
            rotate_left
            · show Act.put _ (some 78) _ = _
              simp only [Act.put, List.setIfInBounds_toArray, List.set_cons_zero, List.set_cons_succ, i64_w, i32_w]
              rfl
            refine pure_ (i := 10) (N := some 79) (v := ?_) (a' := ?_) #[true, true, true, true, true, true, true, true, true, true, true, false, false] rfl rfl (any_of HT_.out (by kernel_rfl)) (fun _ _ _ h => h) (Or.inl ⟨by rfl, ?_⟩) ?_ ?_
            rotate_left
            · intro w'
              go_simp
              with_reducible rfl
            rotate_left
            · simp only [Act.put, List.setIfInBounds_toArray, List.set_cons_zero, List.set_cons_succ, i64_w, i32_w]
              rfl
            refine pure_ (i := 11) (N := some 80) (v := ?_) (a' := ?_) #[true, true, true, true, true, true, true, true, true, true, true, true, false] rfl rfl (any_of HT_.out (by kernel_rfl)) (fun _ _ _ h => h) (Or.inl ⟨by rfl, ?_⟩) ?_ ?_
            rotate_left
            · intro w'
              go_simp
              with_reducible rfl
            rotate_left
            · simp only [Act.put, List.setIfInBounds_toArray, List.set_cons_zero, List.set_cons_succ, i64_w, i32_w]
              rfl
            have hfz := hT.2
            refine last_ (i := 12) (N := none) #[true, true, true, true, true, true, true, true, true, true, true, true, true] rfl rfl (one_of HT_.out (by kernel_rfl)) (by decide) (fun K hK => ?_)
            refine skip_ (w1 := ?_) (by rfl) rfl ?_ ?_
            rotate_left
            · go_simp
              rfl
            refine hK.out _ _ ?_
            clear hK K
            refine done_ (done_of HT_.out (by kernel_rfl)) ?_
            clear HT_ HW_ hHeld

            have Fq := HG.out
            rw [show (g.oh ++ [(((some ⟨bk, 0, none⟩, 1, 1)) : Sl)]).length = g.oh.length + 1 from by simp] at Fq
            replace Fq : PS w0 (w9.setCell ⟨gp, 5, none⟩ (.slice A2 (g.oh.length + 1) c2)) gp (fF gU gO) { g with rs := g.rs ++ [((some ⟨bk, 0, none⟩, 1, 1), [(v : Int)])], oh := g.oh ++ [(some ⟨bk, 0, none⟩, 1, 1)], ro := (A2, g.oh.length + 1, c2) } := Fq
            have HP6 := Aside0.mk Fq
            clear Fq HG hT hfz HP5 HM13 HT13 HO13 HC13 HHand HOL
            generalize w9.setCell ⟨gp, 5, none⟩ (.slice A2 (g.oh.length + 1) c2) = w10 at HP6 ⊢
            obtain ⟨hq1, hq2⟩ : w10.cell? ⟨gp, 6, none⟩ = some (.slice qA qn qc) ∧ w10.frozen? ⟨gp, 6, none⟩ = false := by
              have h1 := (HP6.out.cell (fF_len gU gO)).2.2.1
              replace h1 : w10.cell? ⟨gp, 6, none⟩ = some (slv g.sp.1) := h1
              rw [HSP.out] at h1
              exact ⟨h1, blk_frozen HP6.out.bp 6⟩
            have hRq : Kd.R (Kd.int .i64) 3 w10 w0.heap.size (fun _ => True) (.slice qA qn qc) g.sp.2 := by
              have hm := List.mem_iff_getElem?.2 ⟨_, PS.sp_at { g with rs := g.rs ++ [((some ⟨bk, 0, none⟩, 1, 1), [(v : Int)])], oh := g.oh ++ [(some ⟨bk, 0, none⟩, 1, 1)], ro := (A2, g.oh.length + 1, c2) }⟩
              have h1 := Kd.R_mono (Fam.R (h1 := fun _ => rfl) HP6.out.f3 hm) (fun _ _ => trivial)
              replace h1 : Kd.R (Kd.int .i64) 3 w10 w0.heap.size (fun _ => True) (slv g.sp.1) g.sp.2 := h1
              rw [HSP.out] at h1
              exact h1
            have HRQ := Aside0.mk hRq
            have hTq : ∀ w1, w10.grownBy w1 (Value.slice qA qn qc).ownBlock → w1.cell? ⟨gp, 6, none⟩ = some (.slice qA qn qc) ∧ w1.frozen? ⟨gp, 6, none⟩ = false := fun w1 hg => by
              have e1 : w1.heap[gp]? = w10.heap[gp]? := hg.block gp (blk_lt HP6.out.bp) (fun e => by
                obtain ⟨cells, h2⟩ := Kd.R_typed hRq gp e.symm
                rw [HP6.out.bp] at h2
                injection h2 with h2
                injection h2 with _ h2
                exact absurd h2 (by decide))
              exact ⟨(World.cell?_of_block e1).trans hq1, (World.frozen?_of_block e1).trans hq2⟩
            have HTq := Aside0.mk hTq
            clear hRq hTq
            go_wp2_with (first | ((with_reducible refine gate_builtin (b := .append) (xs := #[.tmp 85, .tmp 87]) rfl ?_); at_builtin; refine Kd.R_append (Kd.int .i64) (w0 := w0) w0.heap.size rfl (.tmp 85) (.tmp 87) 24 3 (.int .i64 0) 8 rfl Tryd.underlying24 info3 rfl (by decide) (by omega) (.slice qA qn qc) g.sp.2 (c : Int) [.int .i64 (c : Int)] (fun _ => True) (fun _ => False) rfl rfl ?aP (fun _ hk => hk.elim) ?aF ?aO ?aB ?aS ?aL ?_; (case aP => exact rfl); (case aB => exact HP6.out.hb); (case aF => exact (fun _ _ => trivial)); (case aO => exact HRQ.out); (case aS => exact (below_size HP6.out.hb)); (case aL => have := HSPL.out; omega); intro v103 w11 ho hb hg hat; obtain ⟨A3, c3, rfl, _, _⟩ := Kd.R_reads ho; obtain ⟨hz1, hz2⟩ := HTq.out w11 hg; have HG3 := Aside0.mk (And.intro ho (And.intro hb (And.intro hg hat))); clear ho hb hg hat))
            have Fq := HP6.out.sp_grew (fF_len gU gO) (t1 := (A3, (g.sp.2 ++ [(c : Int)]).length, c3)) (xs1 := g.sp.2 ++ [(c : Int)]) HG3.out.1 HG3.out.2.1 (by show w10.grownBy w11 (slv g.sp.1).ownBlock; rw [HSP.out]; exact HG3.out.2.2.1) (by show _ = (slv g.sp.1).ownBlock ∨ _; rw [HSP.out]; exact HG3.out.2.2.2)
            rw [show (g.sp.2 ++ [(c : Int)]).length = g.sp.2.length + 1 from by simp] at Fq
            rw [HV.out, ← HCnt.out] at Fq
            have hat2 := AT.spawn HR1.out Fq
            have HA3 := Aside0.mk (show RL F X w0 gp gU gO l b ps (i + 1) (c + 1) _ from by
              have h := RL.next (d := ((0 : Int), x)) HDi.out HBd.out HRt.out HRun.out HXL.out HXP.out hat2
              rw [show (Play.step red b i ((0 : Int), x) s).count = c + 1 from by rw [← HCnt.out]; rfl] at h
              exact h)
            clear hat2 Fq HG3 HP6 HRQ HTq hq1 hq2 hz1 hz2 HV HR1 HSP HSPL
            go_wp2
            go_roundw
            case measure => simp [intOf]; omega
            case rel => exact ⟨i + 1, c + 1, by omega, by go_num, by go_num, HA3⟩
          · by_cases k2 : x0 = 2
            · subst k2
              clear HKind k4 k3 k0
              go_wp2_with fail
              have HA2 := Aside0.mk (HAT.out.below (below_alloc (Below.refl _ _) (.cells #[.int .i64 2, .int .i64 x] 46)))
              refine (merge_at HA2.out HFn.out HXL.out HBd.out (by omega) i).mono ?_
              rintro e w2 ⟨rfl, hat2⟩
              have HA3 := Aside0.mk (show RL F X w0 gp gU gO l b ps (i + 1) c w2 from by
                have h := RL.next (d := ((2 : Int), x)) HDi.out HBd.out HRt.out HRun.out HXL.out HXP.out hat2
                rw [show (Play.step red b i ((2 : Int), x) s).count = c from HCnt.out] at h
                exact h)
              clear hat2 HA2 HAT
              go_wp2
              go_roundw
              case measure => simp [intOf]; omega
              case rel => exact ⟨i + 1, c, by omega, rfl, by go_num, HA3⟩
            · obtain rfl : x0 = 1 := by have := HKind.out; simp only at this; omega
              clear HKind
              have HA2 := Aside0.mk (HAT.out.below (below_alloc (Below.refl _ _) (.cells #[.int .i64 1, .int .i64 x] 46)))
              clear HAT

              clear k4 k3 k0 k2
              have hu : s.up ≠ [] := List.ne_nil_of_length_pos (HUp.out rfl)
              obtain ⟨sn, hsn⟩ : ∃ sn, s.spawns.length = sn + 1 := ⟨s.spawns.length - 1, by have := HBd.out.inv.spawns; have := HUp.out rfl; omega⟩
              have hsn4 : (sn : Int) ≤ 4194304 := by have := HBd.out.spawns; omega
              have HSn := Aside0.mk hsn
              have HU := Aside0.mk hu
              clear hsn hu
              go_wp2_with fail
              refine (merge_at HA2.out HFn.out HXL.out HBd.out (by omega) i).mono ?_
              rintro e w2 ⟨rfl, hat2⟩
              have HA3 := Aside0.mk hat2
              clear hat2 HA2
              go_wp2_with fail
              refine (leave_at HA3.out (by show s.up.length ≤ _; have := HBd.out.up; omega) HU.out).mono ?_
              rintro e w4 ⟨rfl, hat3⟩
              clear HA3
              obtain ⟨g, hp4, hr4⟩ := hat3
              obtain ⟨gs, sc1, hsp, hcap, hF⟩ := spawn_facts hr4.toRep0 (fF_len gU gO) (sn := sn) HSn.out hp4
              obtain ⟨kk, hkk⟩ : ∃ kk, kk = s.spawns.headD 0 := ⟨_, rfl⟩
              have hF2 : ∀ w', PS w0 w' gp (fF gU gO) g → w'.cell? ⟨gp, 6, none⟩ = some (.slice (some ⟨gs, 0, none⟩) (sn + 1) sc1) ∧ w'.cell? ⟨gs, sn, none⟩ = some (.int .i64 (kk : Int)) := fun w' h => by
                rw [hkk]
                exact hF w' h
              have HC21 := Aside0.mk hF2
              have HP4 := Aside0.mk hp4
              have HR4 := Aside0.mk hr4
              have HSP := Aside0.mk hsp
              have HKK := Aside0.mk hkk
              clear hp4 hr4 hsp hF hF2 hkk
              have HWS := Aside0.mk (And.intro (show wrap64 ((sn : Int) + 1 - 1) = (sn : Int) by rw [BitMath.wrap_id (by unfold BitMath.In64; omega)]; omega) (show wrap64 (sn : Int) = (sn : Int) from BitMath.wrap_id (by unfold BitMath.In64; omega)))
              have ls1 : ((sn : Int) < (sn : Int) + 1) = True := eq_true (by omega)
              have ls2 : (sn ≤ sc1) = True := eq_true (by omega)
              go_upto_region 21 with fail
              obtain ⟨hw1, hw3⟩ := HWS.out
              refine start_ (n := 13) (S := (fun w' => w'.cell? ⟨gp, 6, none⟩ = some (.slice (some ⟨gs, 0, none⟩) (sn + 1) sc1) ∧ w'.cell? ⟨gs, sn, none⟩ = some (.int .i64 (kk : Int)))) (ds := [12]) #[false, false, false, false, false, false, false, false, false, false, false, false, false] (by kernel_rfl) rfl rfl (HC21.out w4 HP4.out) (fun hHeld => ?_); refine with_tabW R24d_tab R24d_bits (fun HT_ HW_ => ?_)
              have HP5 := Aside0.mk (HP4.out.below (w1 := w4.drew) (Drawn0.below ⟨⟨1, rfl⟩⟩))
              clear HP4
              generalize w4.drew = w5 at HP5 hHeld ⊢
              refine pure_ (i := 0) (N := some 105) (v := ?_) (a' := ?_) #[true, false, false, false, false, false, false, false, false, false, false, false, false] rfl rfl (any_of HT_.out (by kernel_rfl)) (fun _ _ _ h => h) (Or.inl ⟨by rfl, ?_⟩) ?_ ?_
              rotate_left
              · intro w'
                go_simp
                with_reducible rfl
              rotate_left
              · simp only [Act.put, List.setIfInBounds_toArray, List.set_cons_zero, List.set_cons_succ, i64_w, i32_w]
                rfl
              refine pure_ (i := 1) (N := some 106) (v := ?_) (a' := ?_) #[true, true, false, false, false, false, false, false, false, false, false, false, false] rfl rfl (any_of HT_.out (by kernel_rfl)) (fun _ _ _ h => h) (Or.inl ⟨by rfl, ?_⟩) ?_ ?_
              rotate_left
              · intro w'
                go_simp
                with_reducible rfl
              rotate_left
              · simp only [Act.put, List.setIfInBounds_toArray, List.set_cons_zero, List.set_cons_succ, i64_w, i32_w]
                rfl
              refine pure_ (i := 2) (N := some 107) (v := ?_) (a' := ?_) #[true, true, true, false, false, false, false, false, false, false, false, false, false] rfl rfl (any_of HT_.out (by kernel_rfl)) (fun _ _ _ h => h) (Or.inl ⟨by rfl, ?_⟩) ?_ ?_
              rotate_left
              · intro w'
                go_simp
                with_reducible rfl
              rotate_left
              · simp only [Act.put, List.setIfInBounds_toArray, List.set_cons_zero, List.set_cons_succ, i64_w, i32_w]
                rfl
              refine take_ (i := 3) (N := some 108) (v := ?_) (a' := ?_) #[true, true, true, true, false, false, false, false, false, false, false, false, false] rfl rfl (take_ofW HT_.out HW_.out (by kernel_rfl)) (fun _ _ _ h => h) (Or.inl ⟨by rfl, ?_⟩) hHeld ?_ ?_
              rotate_left
              · rintro w' ⟨s0, s1⟩
                go_simp
                with_reducible rfl
              rotate_left
              · simp only [Act.put, List.setIfInBounds_toArray, List.set_cons_zero, List.set_cons_succ, i64_w, i32_w]
                rfl
              refine pure_ (i := 4) (N := some 109) (v := ?_) (a' := ?_) #[true, true, true, true, true, false, false, false, false, false, false, false, false] rfl rfl (any_of HT_.out (by kernel_rfl)) (fun _ _ _ h => h) (Or.inl ⟨by rfl, ?_⟩) ?_ ?_
              rotate_left
              · intro w'
                go_simp
                with_reducible rfl
              rotate_left
              · simp only [Act.put, List.setIfInBounds_toArray, List.set_cons_zero, List.set_cons_succ, i64_w, i32_w]
                rfl
              refine pure_ (i := 5) (N := some 110) (v := ?_) (a' := ?_) #[true, true, true, true, true, true, false, false, false, false, false, false, false] rfl rfl (any_of HT_.out (by kernel_rfl)) (fun _ _ _ h => h) (Or.inl ⟨by rfl, ?_⟩) ?_ ?_
              rotate_left
              · intro w'
                go_simp
                with_reducible rfl
              rotate_left
              · simp only [Act.put, List.setIfInBounds_toArray, List.set_cons_zero, List.set_cons_succ, i64_w, i32_w]
                rfl
              refine pure_ (i := 6) (N := some 111) (v := ?_) (a' := ?_) #[true, true, true, true, true, true, true, false, false, false, false, false, false] rfl rfl (any_of HT_.out (by kernel_rfl)) (fun _ _ _ h => h) (Or.inl ⟨by rfl, ?_⟩) ?_ ?_
              rotate_left
              · intro w'
                go_simp
                with_reducible rfl
              rotate_left
              · simp only [Act.put, List.setIfInBounds_toArray, List.set_cons_zero, List.set_cons_succ, i64_w, i32_w]
                rfl
              refine take_ (i := 7) (N := some 112) (v := ?_) (a' := ?_) #[true, true, true, true, true, true, true, true, false, false, false, false, false] rfl rfl (take_ofW HT_.out HW_.out (by kernel_rfl)) (fun _ _ _ h => h) (Or.inl ⟨by rfl, ?_⟩) hHeld ?_ ?_
              rotate_left
              · rintro w' ⟨s0, s1⟩
                go_simp
                with_reducible rfl
              rotate_left
              · simp only [Act.put, List.setIfInBounds_toArray, List.set_cons_zero, List.set_cons_succ, i64_w, i32_w]
                rfl
              refine pure_ (i := 8) (N := some 113) (v := ?_) (a' := ?_) #[true, true, true, true, true, true, true, true, true, false, false, false, false] rfl rfl (any_of HT_.out (by kernel_rfl)) (fun _ _ _ h => h) (Or.inl ⟨by rfl, ?_⟩) ?_ ?_
              rotate_left
              · intro w'
                go_simp
                with_reducible rfl
              rotate_left
              · simp only [Act.put, List.setIfInBounds_toArray, List.set_cons_zero, List.set_cons_succ, i64_w, i32_w]
                rfl
              refine pure_ (i := 9) (N := some 114) (v := ?_) (a' := ?_) #[true, true, true, true, true, true, true, true, true, true, false, false, false] rfl rfl (any_of HT_.out (by kernel_rfl)) (fun _ _ _ h => h) (Or.inl ⟨by rfl, ?_⟩) ?_ ?_
              rotate_left
              · intro w'
                go_simp
                with_reducible rfl
              rotate_left
              · simp only [Act.put, List.setIfInBounds_toArray, List.set_cons_zero, List.set_cons_succ, i64_w, i32_w]
                rfl
              refine pure_ (i := 10) (N := some 115) (v := ?_) (a' := ?_) #[true, true, true, true, true, true, true, true, true, true, true, false, false] rfl rfl (any_of HT_.out (by kernel_rfl)) (fun _ _ _ h => h) (Or.inl ⟨by rfl, ?_⟩) ?_ ?_
              rotate_left
              · intro w'
                go_simp
                with_reducible rfl
              rotate_left
              · simp only [Act.put, List.setIfInBounds_toArray, List.set_cons_zero, List.set_cons_succ, i64_w, i32_w]
                rfl
              refine take_ (i := 11) (N := some 116) (v := ?_) (a' := ?_) #[true, true, true, true, true, true, true, true, true, true, true, true, false] rfl rfl (take_ofW HT_.out HW_.out (by kernel_rfl)) (fun _ _ _ h => h) (Or.inl ⟨by rfl, ?_⟩) hHeld ?_ ?_
              rotate_left
              · rintro w' ⟨s0, s1⟩
                go_simp
                with_reducible rfl
              rotate_left
              · simp only [Act.put, List.setIfInBounds_toArray, List.set_cons_zero, List.set_cons_succ, i64_w, i32_w]
                rfl
              refine pure_ (i := 12) (N := some 10) (v := ?_) (a' := ?_) #[true, true, true, true, true, true, true, true, true, true, true, true, true] rfl rfl (any_of HT_.out (by kernel_rfl)) (fun _ _ _ h => h) (Or.inl ⟨by rfl, ?_⟩) ?_ ?_
              rotate_left
              · intro w'
                go_simp
                with_reducible rfl
              rotate_left
              · simp only [Act.put, List.setIfInBounds_toArray, List.set_cons_zero, List.set_cons_succ, i64_w, i32_w]
                rfl
              refine done_ (done_of HT_.out (by kernel_rfl)) ?_
              clear HT_ HW_ hHeld

              clear hw1 hw3
              go_upto_region 22 with fail
              obtain ⟨hw1, hw3⟩ := HWS.out
              refine start_ (n := 15) (S := (fun w' => w'.cell? ⟨gp, 6, none⟩ = some (.slice (some ⟨gs, 0, none⟩) (sn + 1) sc1))) (ds := [14]) #[false, false, false, false, false, false, false, false, false, false, false, false, false, false, false] (by kernel_rfl) rfl rfl (HC21.out w5 HP5.out).1 (fun hHeld => ?_); refine with_tabW R24e_tab R24e_bits (fun HT_ HW_ => ?_)
              have HP6 := Aside0.mk (HP5.out.below (w1 := w5.drew) (Drawn0.below ⟨⟨1, rfl⟩⟩))
              clear HP5
              generalize w5.drew = w6 at HP6 hHeld ⊢
              refine pure_ (i := 0) (N := some 117) (v := ?_) (a' := ?_) #[true, false, false, false, false, false, false, false, false, false, false, false, false, false, false] rfl rfl (any_of HT_.out (by kernel_rfl)) (fun _ _ _ h => h) (Or.inl ⟨by rfl, ?_⟩) ?_ ?_
              rotate_left
              · intro w'
                go_simp
                with_reducible rfl
              rotate_left
              · simp only [Act.put, List.setIfInBounds_toArray, List.set_cons_zero, List.set_cons_succ, i64_w, i32_w]
                rfl
              refine pure_ (i := 1) (N := some 118) (v := ?_) (a' := ?_) #[true, true, false, false, false, false, false, false, false, false, false, false, false, false, false] rfl rfl (any_of HT_.out (by kernel_rfl)) (fun _ _ _ h => h) (Or.inl ⟨by rfl, ?_⟩) ?_ ?_
              rotate_left
              · intro w'
                go_simp
                with_reducible rfl
              rotate_left
              · simp only [Act.put, List.setIfInBounds_toArray, List.set_cons_zero, List.set_cons_succ, i64_w, i32_w]
                rfl
              refine pure_ (i := 2) (N := some 119) (v := ?_) (a' := ?_) #[true, true, true, false, false, false, false, false, false, false, false, false, false, false, false] rfl rfl (any_of HT_.out (by kernel_rfl)) (fun _ _ _ h => h) (Or.inl ⟨by rfl, ?_⟩) ?_ ?_
              rotate_left
              · intro w'
                go_simp
                with_reducible rfl
              rotate_left
              · simp only [Act.put, List.setIfInBounds_toArray, List.set_cons_zero, List.set_cons_succ, i64_w, i32_w]
                rfl
              refine pure_ (i := 3) (N := some 120) (v := ?_) (a' := ?_) #[true, true, true, true, false, false, false, false, false, false, false, false, false, false, false] rfl rfl (any_of HT_.out (by kernel_rfl)) (fun _ _ _ h => h) (Or.inl ⟨by rfl, ?_⟩) ?_ ?_
              rotate_left
              · intro w'
                go_simp
                with_reducible rfl
              rotate_left
              · simp only [Act.put, List.setIfInBounds_toArray, List.set_cons_zero, List.set_cons_succ, i64_w, i32_w]
                rfl
              refine take_ (i := 4) (N := some 121) (v := ?_) (a' := ?_) #[true, true, true, true, true, false, false, false, false, false, false, false, false, false, false] rfl rfl (take_ofW HT_.out HW_.out (by kernel_rfl)) (fun _ _ _ h => h) (Or.inl ⟨by rfl, ?_⟩) hHeld ?_ ?_
              rotate_left
              · rintro w' s0
                go_simp
                with_reducible rfl
              rotate_left
              · simp only [Act.put, List.setIfInBounds_toArray, List.set_cons_zero, List.set_cons_succ, i64_w, i32_w]
                rfl
              refine pure_ (i := 5) (N := some 122) (v := ?_) (a' := ?_) #[true, true, true, true, true, true, false, false, false, false, false, false, false, false, false] rfl rfl (any_of HT_.out (by kernel_rfl)) (fun _ _ _ h => h) (Or.inl ⟨by rfl, ?_⟩) ?_ ?_
              rotate_left
              · intro w'
                go_simp
                with_reducible rfl
              rotate_left
              · simp only [Act.put, List.setIfInBounds_toArray, List.set_cons_zero, List.set_cons_succ, i64_w, i32_w]
                rfl
              refine pure_ (i := 6) (N := some 123) (v := ?_) (a' := ?_) #[true, true, true, true, true, true, true, false, false, false, false, false, false, false, false] rfl rfl (any_of HT_.out (by kernel_rfl)) (fun _ _ _ h => h) (Or.inl ⟨by rfl, ?_⟩) ?_ ?_
              rotate_left
              · intro w'
                go_simp
                with_reducible rfl
              rotate_left
              · simp only [Act.put, List.setIfInBounds_toArray, List.set_cons_zero, List.set_cons_succ, i64_w, i32_w]
                rfl
              refine pure_ (i := 7) (N := some 124) (v := ?_) (a' := ?_) #[true, true, true, true, true, true, true, true, false, false, false, false, false, false, false] rfl rfl (any_of HT_.out (by kernel_rfl)) (fun _ _ _ h => h) (Or.inl ⟨by rfl, ?_⟩) ?_ ?_
              rotate_left
              · intro w'
                go_simp
                with_reducible rfl
              rotate_left
              · simp only [Act.put, List.setIfInBounds_toArray, List.set_cons_zero, List.set_cons_succ, i64_w, i32_w]
                rfl
              refine take_ (i := 8) (N := some 125) (v := ?_) (a' := ?_) #[true, true, true, true, true, true, true, true, true, false, false, false, false, false, false] rfl rfl (take_ofW HT_.out HW_.out (by kernel_rfl)) (fun _ _ _ h => h) (Or.inl ⟨by rfl, ?_⟩) hHeld ?_ ?_
              rotate_left
              · rintro w' s0
                go_simp
                with_reducible rfl
              rotate_left
              · simp only [Act.put, List.setIfInBounds_toArray, List.set_cons_zero, List.set_cons_succ, i64_w, i32_w]
                rfl
              refine pure_ (i := 9) (N := some 126) (v := ?_) (a' := ?_) #[true, true, true, true, true, true, true, true, true, true, false, false, false, false, false] rfl rfl (any_of HT_.out (by kernel_rfl)) (fun _ _ _ h => h) (Or.inl ⟨by rfl, ?_⟩) ?_ ?_
              rotate_left
              · intro w'
                go_simp
                with_reducible rfl
              rotate_left
              · simp only [Act.put, List.setIfInBounds_toArray, List.set_cons_zero, List.set_cons_succ, i64_w, i32_w]
                rfl
              refine pure_ (i := 10) (N := some 127) (v := ?_) (a' := ?_) #[true, true, true, true, true, true, true, true, true, true, true, false, false, false, false] rfl rfl (any_of HT_.out (by kernel_rfl)) (fun _ _ _ h => h) (Or.inl ⟨by rfl, ?_⟩) ?_ ?_
              rotate_left
              · intro w'
                go_simp
                with_reducible rfl
              rotate_left
              · simp only [Act.put, List.setIfInBounds_toArray, List.set_cons_zero, List.set_cons_succ, i64_w, i32_w]
                rfl
              refine pure_ (i := 11) (N := some 128) (v := ?_) (a' := ?_) #[true, true, true, true, true, true, true, true, true, true, true, true, false, false, false] rfl rfl (any_of HT_.out (by kernel_rfl)) (fun _ _ _ h => h) (Or.inl ⟨by rfl, ?_⟩) ?_ ?_
              rotate_left
              · intro w'
                go_simp
                with_reducible rfl
              rotate_left
              · simp only [Act.put, List.setIfInBounds_toArray, List.set_cons_zero, List.set_cons_succ, i64_w, i32_w]
                rfl
              refine pure_ (i := 12) (N := some 129) (v := ?_) (a' := ?_) #[true, true, true, true, true, true, true, true, true, true, true, true, true, false, false] rfl rfl (any_of HT_.out (by kernel_rfl)) (fun _ _ _ h => h) (Or.inl ⟨by rfl, ?_⟩) ?_ ?_
              rotate_left
              · intro w'
                go_simp
                with_reducible rfl
              rotate_left
              · simp only [Act.put, List.setIfInBounds_toArray, List.set_cons_zero, List.set_cons_succ, i64_w, i32_w]
                rfl
              refine pure_ (i := 13) (N := some 130) (v := ?_) (a' := ?_) #[true, true, true, true, true, true, true, true, true, true, true, true, true, true, false] rfl rfl (any_of HT_.out (by kernel_rfl)) (fun _ _ _ h => h) (Or.inl ⟨by rfl, ?_⟩) ?_ ?_
              rotate_left
              · intro w'
                go_simp
                with_reducible rfl
              rotate_left
              · simp only [Act.put, List.setIfInBounds_toArray, List.set_cons_zero, List.set_cons_succ, i64_w, i32_w]
                rfl
              have hfz := blk_frozen HP6.out.bp 6
              refine last_ (i := 14) (N := none) #[true, true, true, true, true, true, true, true, true, true, true, true, true, true, true] rfl rfl (one_of HT_.out (by kernel_rfl)) (by decide) (fun K hK => ?_)
              refine skip_ (w1 := ?_) (by rfl) rfl ?_ ?_
              rotate_left
              · go_simp
                rfl
              refine hK.out _ _ ?_
              clear hK K
              refine done_ (done_of HT_.out (by kernel_rfl)) ?_
              clear HT_ HW_ hHeld

              clear hw1 hw3
              have Fq := HP6.out.sp_cut (fF_len gU gO) HSP.out sn (by omega)
              have hat4 := AT.cut HR4.out (sn := sn) HSn.out Fq
              have HA4 := Aside0.mk hat4
              clear Fq hat4 hfz HP6 HR4 HC21 HSP
              generalize w6.setCell ⟨gp, 6, none⟩ (.slice (some ⟨gs, 0, none⟩) sn sc1) = w7 at HA4 ⊢
              obtain ⟨s2, hs2⟩ : ∃ s2, s2 = { (s.merge red i).leave with spawns := (s.merge red i).spawns.tail } := ⟨_, rfl⟩
              replace HA4 : Aside0 (AT F w0 w7 gp gU gO s2) := by rw [hs2]; exact HA4
              have hstep : Play.step red b i ((1 : Int), x) s = if b.getD kk false = true then St.made red s2 else s2 := by rw [hs2, HKK.out]; rfl
              have hcnt2 : s2.count = c := by rw [hs2]; exact HCnt.out
              have hbd2 : s2.up.length ≤ 100000 ∧ s2.views.length ≤ 100000 ∧ s2.cur.length ≤ 100000 := by
                obtain ⟨hm1, y, _, hcur, hvl, _⟩ := HBd.out.inv.merge i
                have h1 := HBd.out.up
                have h2 := HBd.out.views
                rw [hs2]
                refine ⟨by show s.up.tail.length ≤ _; rw [List.length_tail]; omega, by show (s.merge red i).views.length ≤ _; omega, ?_⟩
                show (s.up.headD []).length ≤ _
                obtain ⟨r, up, e⟩ := List.exists_cons_of_ne_nil HU.out
                have hi2 := (hm1.leave hcur (r := r) (up := up) (show (s.merge red i).up = r :: up from e) s.spawns (by have := HBd.out.inv.spawns; rw [e] at this; simp at this; omega)).count
                have hb3 := hm1.leave hcur (r := r) (up := up) (show (s.merge red i).up = r :: up from e) s.spawns (by have := HBd.out.inv.spawns; rw [e] at this; simp at this; omega)
                obtain ⟨pre, _, epre⟩ := hb3.mi
                rw [epre, List.length_append] at hi2
                rw [e]
                replace hi2 : (s.merge red i).merges.length + (pre.length + ((s.merge red i).up.headD []).length) = (s.merge red i).views.length := hi2
                rw [show (s.merge red i).up = r :: up from e] at hi2
                omega
              have HStep := Aside0.mk hstep
              have HCn2 := Aside0.mk hcnt2
              have HBd2 := Aside0.mk hbd2
              clear hstep hcnt2 hbd2 hs2
              by_cases hkb : kk < bn
              · have hcb : Kd.C Kd.bool w7 sA b.length b := by
                  obtain ⟨g, hp, _⟩ := HA4.out
                  exact Kd.C_below HS.out hp.hb
                obtain ⟨sad, es, hxb⟩ := Kd.at_bool hcb (kk : Int) (by omega) (by rw [HBN.out]; omega)
                cases es
                rw [Int.toNat_natCast] at hxb
                have dk : decide (kk < bn) = true := decide_eq_true hkb
                have dk2 : decide ((kk : Int) < (bn : Int)) = true := decide_eq_true (by omega)
                have lk : ((kk : Int) < (bn : Int)) = True := eq_true (by omega)
                have ek : rdOf false b (kk : Int) = b.getD kk false := by unfold rdOf; rw [Int.toNat_natCast]
                by_cases hbk : b.getD kk false = true
                · rw [ek, hbk] at hxb
                  have HBK := Aside0.mk hbk
                  clear hbk ek hcb
                  go_wp2_with fail
                  refine (made_at HA4.out HFn.out HBd2.out.1 HBd2.out.2.1 HBd2.out.2.2).mono ?_
                  rintro e w8 ⟨rfl, hat5⟩
                  have HA3 := Aside0.mk (show RL F X w0 gp gU gO l b ps (i + 1) c w8 from by
                    have hs := HStep.out
                    rw [if_pos HBK.out] at hs
                    have h := RL.next (d := ((1 : Int), x)) HDi.out HBd.out HRt.out HRun.out HXL.out HXP.out (by rw [hs]; exact hat5)
                    rw [hs, show (St.made red s2).count = c from HCn2.out] at h
                    exact h)
                  clear hat5 HA4 hxb HBd2
                  go_wp2
                  go_roundw
                  case measure => simp [intOf]; omega
                  case rel => exact ⟨i + 1, c, by omega, rfl, by go_num, HA3⟩
                · have hbk2 : b.getD kk false = false := by simpa using hbk
                  rw [ek, hbk2] at hxb
                  have HA3 := Aside0.mk (show RL F X w0 gp gU gO l b ps (i + 1) c w7 from by
                    have hs := HStep.out
                    rw [if_neg hbk] at hs
                    have h := RL.next (d := ((1 : Int), x)) HDi.out HBd.out HRt.out HRun.out HXL.out HXP.out (by rw [hs]; exact HA4.out)
                    rw [hs, HCn2.out] at h
                    exact h)
                  clear hbk hbk2 ek hcb HA4
                  go_wp2
                  go_roundw
                  case measure => simp [intOf]; omega
                  case rel => exact ⟨i + 1, c, by omega, rfl, by go_num, HA3⟩
              · have hbk : ¬ b.getD kk false = true := by
                  rw [List.getD_eq_getElem?_getD, List.getElem?_eq_none (by rw [HBN.out]; omega)]
                  simp
                have dk : decide (kk < bn) = false := decide_eq_false hkb
                have dk2 : decide ((kk : Int) < (bn : Int)) = false := decide_eq_false (by omega)
                have HA3 := Aside0.mk (show RL F X w0 gp gU gO l b ps (i + 1) c w7 from by
                  have hs := HStep.out
                  rw [if_neg hbk] at hs
                  have h := RL.next (d := ((1 : Int), x)) HDi.out HBd.out HRt.out HRun.out HXL.out HXP.out (by rw [hs]; exact HA4.out)
                  rw [hs, HCn2.out] at h
                  exact h)
                clear hbk HA4
                go_wp2
                go_roundw
                case measure => simp [intOf]; omega
                case rel => exact ⟨i + 1, c, by omega, rfl, by go_num, HA3⟩
    · obtain rfl : i = n := by omega
      obtain ⟨s, hcount, hat, ⟨L, hB, hXL⟩, hrt, hrun⟩ := HRL.out
      have HXL := Aside0.mk hXL
      clear hXL
      have hdl : decide ((i : Int) < (i : Int)) = false := decide_eq_false (by omega)
      rw [List.drop_eq_nil_of_le (by rw [HLen.out, HN.out]; omega)] at hrun
      replace hrun : s = run red b 0 (l.map dd) (Play.start red ps) := hrun
      have HPl := Aside0.mk (show finish red i s.up.length s = play red b ps (l.map dd) by unfold play; rw [← hrun, HLen.out, HN.out])
      have HAT := Aside0.mk hat
      have HBd := Aside0.mk hB
      clear hat hB hrun hrt hcount HRL hlt
      go_wp2_with fail
      refine (merge_at HAT.out HFn.out HXL.out HBd.out (by omega) i).mono ?_
      rintro e w2 ⟨rfl, hat2⟩
      clear HXl
      have HE := Aside0.mk (show ∃ s', s'.up.length < s.up.length + 1 ∧ AT F w0 w2 gp gU gO s' ∧ (∃ L, Bd i s' L ∧ ∀ y, y ∈ L → X y) ∧ (∃ y, s'.cur = [y]) ∧ fin i s' = play red b ps (l.map dd) from by
        obtain ⟨_, y, _, hcur, _⟩ := HBd.out.inv.merge i
        exact ⟨s.merge red i, by show s.up.length < _; omega, hat2, ⟨_, HBd.out.merge i, HXL.out⟩, ⟨y, hcur⟩, by rw [fin_merge]; exact HPl.out⟩)
      clear hat2 HAT HPl
      obtain ⟨K0, hK0⟩ : ∃ K0, K0 = s.up.length + 1 := ⟨_, rfl⟩
      rw [← hK0] at HE
      clear hK0
      go_wp2
      go_loopg [158] K0 (fun kq v158 w' => Aside0 (∃ s', s'.up.length < kq ∧ AT F w0 w' gp gU gO s' ∧ (∃ L, Bd i s' L ∧ ∀ y, y ∈ L → X y) ∧ (∃ y, s'.cur = [y]) ∧ fin i s' = play red b ps (l.map dd)))
      case atStart => exact HE
      case round =>
        clear HE
        have HE := hrel
        clear hrel
        obtain ⟨s', hk, hat, ⟨L', hB, hXL⟩, ⟨y, hcur⟩, hfin⟩ := HE.out
        have HXL := Aside0.mk hXL
        clear hXL
        clear HE
        obtain ⟨g, hp, hr⟩ := hat
        have hx5 := (hp.cell (fF_len gU gO)).2.1
        obtain ⟨⟨rA, rn, rc⟩, hro⟩ : ∃ t : Sl, g.ro = t := ⟨_, rfl⟩
        obtain ⟨m, hm⟩ : ∃ m, m = s'.up.length := ⟨_, rfl⟩
        have hrn : rn = m + 1 := by
          have h2 := Fam.R (h1 := slv_one) hp.f24 (List.mem_singleton.2 rfl)
          rw [hro] at h2
          have h3 : rn = g.oh.length := (Kd.R_reads' h2).1
          rw [h3, hr.oh, List.length_map, hr.rows_len, hm]
        rw [hro] at hx5
        subst hrn
        replace hx5 : wr.cell? ⟨gp, 5, none⟩ = some (.slice rA (m + 1) rc) := hx5
        have hm4 : (m : Int) ≤ 4096 := by have := hB.up; omega
        by_cases hm0 : m = 0
        · subst hm0
          have HF := Aside0.mk (show AT F w0 wr gp gU gO (play red b ps (l.map dd)) from by
            rw [← hfin]
            unfold fin
            rw [← hm]
            exact ⟨g, hp, hr⟩)
          clear hp hr hB hcur hfin hm hro hk
          go_wp2
          go_end0
          exact ⟨rfl, HF.out⟩
        · have d1 : decide (1 < m + 1) = true := decide_eq_true (by omega)
          have d2 : decide ((1 : Int) < (m : Int) + 1) = true := decide_eq_true (by omega)
          have hu : s'.up ≠ [] := List.ne_nil_of_length_pos (by omega)
          have HAT := Aside0.mk (show AT F w0 wr gp gU gO s' from ⟨g, hp, hr⟩)
          have HB3 := Aside0.mk hB
          have HCur := Aside0.mk hcur
          have HU := Aside0.mk hu
          have HFin := Aside0.mk hfin
          have HMM := Aside0.mk (And.intro hm hk)
          clear hp hr hB hcur hfin hm hro hk hu
          go_wp2_with fail
          refine (leave_at HAT.out (by have := HB3.out.up; omega) HU.out).mono ?_
          rintro e w3 ⟨rfl, hat3⟩
          have HL := Aside0.mk hat3
          clear hat3 HAT
          have HBL := Aside0.mk (show Bd i s'.leave L' from by
            obtain ⟨r, up, e⟩ := List.exists_cons_of_ne_nil HU.out
            exact HB3.out.leave HCur.out e)
          go_wp2_with fail
          refine (merge_at HL.out HFn.out HXL.out HBL.out (by omega) i).mono ?_
          rintro e w4 ⟨rfl, hat4⟩
          have HE := Aside0.mk (show ∃ s', s'.up.length < m ∧ AT F w0 w4 gp gU gO s' ∧ (∃ L, Bd i s' L ∧ ∀ y, y ∈ L → X y) ∧ (∃ y, s'.cur = [y]) ∧ fin i s' = play red b ps (l.map dd) from by
            obtain ⟨_, y2, _, hcur2, _⟩ := HBL.out.inv.merge i
            have e1 : s'.leave.up.length = m - 1 := by show s'.up.tail.length = _; rw [List.length_tail, ← HMM.out.1]
            refine ⟨s'.leave.merge red i, by show s'.leave.up.length < _; omega, hat4, ⟨_, HBL.out.merge i, HXL.out⟩, ⟨y2, hcur2⟩, ?_⟩
            rw [fin_merge, ← HFin.out, e1]
            unfold fin
            rw [← HMM.out.1]
            obtain ⟨m2, rfl⟩ : ∃ m2, m = m2 + 1 := ⟨m - 1, by omega⟩
            rfl)
          clear hat4 HL HBL HB3 HCur HU HFin
          go_wp2
          go_roundg m
          case measure => have := HMM.out; omega
          case rel => exact HE
end Go.Proofs.YtamfkglnejhjdaaDoor.PlayState
