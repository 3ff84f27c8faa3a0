/- hyper.play[int64]: its merge. -/
import Derived.Test.YtamfkglnejhjdaaDoorPlayRep
namespace Go.Proofs.YtamfkglnejhjdaaDoor.PlayState
open Go.Proofs.YtamfkglnejhjdaaDoor.Play
theorem MI_mem {pre row : List Nat} {vs : List (List Int)} {L : List Int} (h : MI pre row vs L) {j : Nat} (hj : j < row.length) {y : Int} (hy : y ∈ vs.getD (row.getD j 0) []) : y ∈ L := by
  have hm : row.getD j 0 ∈ pre ++ row := List.mem_append_right _ (by rw [List.getD_eq_getElem?_getD, List.getElem?_eq_getElem hj]; exact List.getElem_mem hj)
  obtain ⟨A, B, e⟩ := List.append_of_mem hm
  have hv := h.value
  rw [e, flat_append, flat_cons] at hv
  rw [← hv]
  exact List.mem_append_right _ (List.mem_append_left _ hy)

end Go.Proofs.YtamfkglnejhjdaaDoor.PlayState
namespace Go.Proofs.YtamfkglnejhjdaaDoor.PlayState
open Go.Proofs.YtamfkglnejhjdaaDoor.PHyperFold (info3)
open Go.RowKit Go.Proofs.YtamfkglnejhjdaaDoorW.PrintWords Go.Proofs.YtamfkglnejhjdaaDoorW.PrintLast Go.Proofs.YtamfkglnejhjdaaDoorW.PrintMore Go.Proofs.YtamfkglnejhjdaaDoor.Fam Go.Proofs.YtamfkglnejhjdaaDoor.Play
set_option linter.unusedSimpArgs false
set_option linter.unusedVariables false

def M43a : Bool × List (List Nat × List Nat) := (true, [([], []), ([], []), ([0, 1], [0, 1]), ([2], [2]), ([], []), ([], []), ([5], [5]), ([4, 6], [4, 6]), ([7], [7]), ([3, 0, 1, 2, 3], [3]), ([8, 9, 0, 1, 2, 3, 4, 5, 6, 7, 8, 9], [8])])
def M43aB : List Nat := [0, 0, 3, 7, 0, 0, 32, 112, 240, 15, 1023]
theorem M43a_tab : rtab .any (opsOf Tryd.f43 6) = M43a := by kernel_rfl
theorem M43a_bits : waitsOk M43a.2 M43aB = true := by kernel_rfl
def M43b : Bool × List (List Nat × List Nat) := (true, [([], []), ([0], [0]), ([1], [1]), ([2], [2]), ([], []), ([], []), ([5], [5]), ([6], [6]), ([7], [7]), ([8], [8]), ([], []), ([10], [10]), ([11], [11]), ([12], [12]), ([], []), ([13, 14], [13, 14]), ([15], [15]), ([], []), ([17], [17]), ([18], [18]), ([19], [19]), ([], []), ([20, 21], [20, 21]), ([22], [22]), ([9, 16, 23], [9, 16, 23]), ([3, 4, 0, 1, 2, 3, 4, 5, 6, 7, 8, 9, 10, 11, 12, 13, 14, 15, 16, 17, 18, 19, 20, 21, 22, 23, 24], [3, 4]), ([25, 24, 24, 0, 1, 2, 3, 4, 5, 6, 7, 8, 9, 10, 11, 12, 13, 14, 15, 16, 17, 18, 19, 20, 21, 22, 23, 24], [24, 25])])
def M43bB : List Nat := [0, 1, 3, 7, 0, 0, 32, 96, 224, 480, 0, 1024, 3072, 7168, 0, 31744, 64512, 0, 131072, 393216, 917504, 0, 4063232, 8257536, 16777184, 33554431, 67108863]
theorem M43b_tab : rtab .any (opsOf Tryd.f43 7) = M43b := by kernel_rfl
theorem M43b_bits : waitsOk M43b.2 M43bB = true := by kernel_rfl
def M43c : Bool × List (List Nat × List Nat) := (true, [([], []), ([], []), ([1], [1]), ([0, 2], [0, 2]), ([], []), ([], []), ([5], [5]), ([4, 6], [4, 6]), ([3, 7], [3, 7]), ([8, 8, 0, 1, 2, 3, 4, 5, 6, 7, 8], [0, 4, 8])])
def M43cB : List Nat := [0, 0, 2, 7, 0, 0, 32, 112, 255, 511]
theorem M43c_tab : rtab .any (opsOf Tryd.f43 9) = M43c := by kernel_rfl
theorem M43c_bits : waitsOk M43c.2 M43cB = true := by kernel_rfl

theorem mod_pick (ps : List Int) (m : Nat) (hm : 0 < m) (hm2 : m ≤ 4194304) (x y : Int) (hx : x = ps.headD 0) (hy : y = (m : Int)) (w : World) :
    Calls Tryd.prog 58 #[.int .i64 x, .int .i64 y] w fun e w' => e = .returned (.int .i64 ((pickOf ps m : Nat) : Int)) ∧ Drawn0 w w' := by
  subst hx hy
  have h1 := Int.emod_nonneg (ps.headD 0) (show (m : Int) ≠ 0 by omega)
  have e : ((pickOf ps m : Nat) : Int) = ps.headD 0 % (m : Int) := by unfold pickOf; omega
  rw [e]
  exact mod_calls _ m hm hm2 w
theorem ML.step {F : List Int → Int} {w0 w wn : World} {gp : Nat} {f : List Value} {t : Nat} {pre : List Nat} {L : List Int} {s0 s : St (List Int)} {g : Gh} {rs : List Hd} {ro : Sl} {oh : List Sl} {tr : Sl} {V M : Nat} (h : ML F w0 w gp f t pre L s0 s g rs ro oh tr V M)
    {n j xa xb : Nat} {ya yb : List Int} (hn : s.cur.length = n) (h1n : 1 < n) (hj : j = pickOf s.picks (n - 1)) (hxa : xa = s.cur.getD j 0) (hxb : xb = s.cur.getD (j + 1) 0) (hya : ya = s.views.getD xa []) (hyb : yb = s.views.getD xb []) (hjl : j + 1 < n) {fab : Int} (hfab : fab = F (ya ++ yb)) {po mo tr1 : Sl}
    (hps : PS w0 wn gp f { g with ps := g.ps.tail, po := po, vs := g.vs.set xa fab, ms := g.ms ++ [((t : Int), (xa : Int), (xb : Int))], mo := mo, rs := rs ++ [(tr1, (ints s.cur).eraseIdx (j + 1))] }) :
    ML F w0 wn gp f t pre L s0 (mstep t s) { g with ps := g.ps.tail, po := po, vs := g.vs.set xa fab, ms := g.ms ++ [((t : Int), (xa : Int), (xb : Int))], mo := mo, rs := rs ++ [(tr1, (ints s.cur).eraseIdx (j + 1))] } rs ro oh tr1 V M := by
  have e1 : (mstep t s).cur = s.cur.eraseIdx (j + 1) := by show s.cur.eraseIdx _ = _; rw [hn, ← hj]
  have e2 : (mstep t s).views = s.views.set xa (red.join (s.views.getD xa red.fresh) (s.views.getD xb red.fresh)) := by show s.views.set _ _ = _; rw [hn, ← hj, ← hxa, ← hxb]
  have e3 : (mstep t s).merges = s.merges ++ [(t, xa, xb)] := by show s.merges ++ _ = _; rw [hn, ← hj, ← hxa, ← hxb]
  have hr := h.rep.rs
  rw [h.hrs, List.map_append] at hr
  have hr2 := (List.append_inj' hr rfl).1
  refine ⟨hps, ⟨?_, ?_, h.rep.sp, ?_, ?_⟩, ?_, h.hro, h.hoh, ?_, ?_, ?_, ?_⟩
  · show g.vs.set xa fab = _
    rw [e2, List.map_set, h.rep.vs, hfab, hya, hyb]
    rfl
  · show (rs ++ [(tr1, (ints s.cur).eraseIdx (j + 1))]).map (·.2) = _
    rw [List.map_append, hr2, e1, ints_erase]
    rfl
  · show g.ps.tail = s.picks.tail
    rw [h.rep.ps]
  · show g.ms ++ _ = _
    rw [e3, h.rep.ms]
    simp [mgs]
  · rw [e1, ints_erase]
  · rw [e1, e2, hxa, hxb]
    exact h.mi.step (by omega)
  · rw [mstep_merge t s (by omega)]
    exact h.go
  · rw [e2, List.length_set]
    exact h.hV
  · have := h.hM
    rw [e1, e3, List.length_append, List.length_eraseIdx_of_lt (by omega)]
    simp only [List.length_singleton]
    omega
theorem info3s : (Tryd.prog.info? 3).map (·.size) = some (Kd.int .i64).sz := by kernel_rfl

set_option maxHeartbeats 16000000 in
set_option maxRecDepth 100000 in
theorem merge_walk {F : List Int → Int} {gO : Nat} {X : Int → Prop} {w0 w : World} {gp : Nat} {f : List Value} (t : Nat) (pre : List Nat) (L : List Int) (s0 : St (List Int)) (g0 : Gh) (rs : List Hd) (gr k cr : Nat) (oh : List Sl) (o : Sl) (tr : Sl) (V M : Nat)
    (hf : f.length = 4) (hjoin : f[2]? = some (.func (.func 20) #[] #[.pointer (some ⟨gO, 0, none⟩)])) (hJoin : ∀ w' a b, Below w0.heap.size w0 w' → (∀ y, y ∈ a → X y) → (∀ y, y ∈ b → X y) → Calls Tryd.prog 20 #[.int .i64 (F a), .int .i64 (F b), .pointer (some ⟨gO, 0, none⟩)] w' fun e w'' => e = .returned (.int .i64 (F (a ++ b))) ∧ Below w'.heap.size w' w'') (hX : ∀ y, y ∈ L → X y) (hml : ML F w0 w gp f t pre L s0 s0 g0 rs (some ⟨gr, 0, none⟩, k + 1, cr) (oh ++ [o]) tr V M) (hok : o = tr) (hk : oh.length = k) (hk2 : k ≤ 4194304) (hL : L.length ≤ 2097152) (hV : V ≤ 4194304) (hM : M ≤ 2097152) (hn0 : s0.cur.length = tr.2.1) (Pst : World → Prop)
    (hP : ∀ w' s g tr', ML F w0 w' gp f t pre L s0 s g rs (some ⟨gr, 0, none⟩, k + 1, cr) (oh ++ [tr']) tr' V M → s.cur.length ≤ 1 → Pst w') :
    Calls Tryd.prog 43 #[.pointer (some ⟨gp, 0, none⟩), .int .i64 (t : Int)] w fun e w' => e = .returned (.tuple #[]) ∧ Pst w' := by
  obtain ⟨trA, trn, trc⟩ := tr
  have hOut : ∀ (w' : World) (s : St (List Int)) (g : Gh) (tr' : Sl) (o' : Sl), ML F w0 w' gp f t pre L s0 s g rs (some ⟨gr, 0, none⟩, k + 1, cr) (oh ++ [o']) tr' V M → w'.cell? ⟨gp, 5, none⟩ = some (.slice (some ⟨gr, 0, none⟩) (k + 1) cr) ∧ w'.cell? ⟨gr, k, none⟩ = some (slv o') ∧ w'.frozen? ⟨gr, k, none⟩ = false := fun w' s g tr' o' h => by
    have h1 := (h.ps.cell hf).2.1
    rw [h.hro] at h1
    obtain ⟨g2, c2, e1, hx, hfz⟩ := fam_at (h1 := slv_one) h.ps.f24 0 rfl (none, 0, 0) k (by rw [h.hoh, List.length_append, hk]; simp)
    have e2 := slv_form e1
    rw [h.hro] at e2
    obtain rfl : gr = g2 := by injection e2 with e2; injection e2 with e2; injection e2
    rw [h.hoh, show (oh ++ [o']).getD k (none, 0, 0) = o' from by rw [List.getD_eq_getElem?_getD, List.getElem?_append_right (by omega)]; simp [hk]] at hx
    exact ⟨h1, hx, hfz⟩
  obtain ⟨hx5, hxr, _⟩ := hOut w s0 g0 _ _ hml
  subst hok
  replace hxr : w.cell? ⟨gr, k, none⟩ = some (.slice trA trn trc) := hxr
  replace hn0 : s0.cur.length = trn := hn0
  have hk3 : (k : Int) ≤ 4194304 := by omega
  have hw1 : wrap64 ((k : Int) + 1 - 1) = (k : Int) := by rw [BitMath.wrap_id (by unfold BitMath.In64; omega)]; omega
  have hw3 : wrap64 (k : Int) = (k : Int) := BitMath.wrap_id (by unfold BitMath.In64; omega)
  have l1 : ((k : Int) < (k : Int) + 1) = True := eq_true (by omega)
  have HML := Aside0.mk hml
  have HJoin := Aside0.mk hJoin
  have HX := Aside0.mk hX
  have HOut := Aside0.mk hOut
  have HP := Aside0.mk hP
  have HJn := Aside0.mk hjoin
  have HK := Aside0.mk hk
  have HN0 := Aside0.mk hn0
  have HL := Aside0.mk (And.intro hL (And.intro hV hM))
  have hnb : (trn : Int) ≤ 4194304 := by have := hml.hM; omega
  clear hml hOut hP hjoin hk hn0 hL hV hM hJoin hX
  go_enter Tryd.func43, Tryd.ntmps43
  go_wp2
  go_loopw [5, 6] (fun v5 v6 w' => ∃ (A : Option Addr) (n c : Nat), v5 = .slice A n c ∧ v6 = .int .i64 (n : Int) ∧ (n : Int) ≤ 4194304 ∧ Aside0 (∃ s g, s.cur.length = n ∧ ML F w0 w' gp f t pre L s0 s g rs (some ⟨gr, 0, none⟩, k + 1, cr) (oh ++ [(trA, trn, trc)]) (A, n, c) V M)) (fun _ v6 _ => (intOf v6).toNat)
  case atStart => exact ⟨trA, trn, trc, rfl, by go_num, hnb, ⟨⟨s0, g0, HN0.out, HML.out⟩⟩⟩
  case round =>
    clear HML hx5 hxr hnb hw1 hw3
    obtain ⟨A, n, c, rfl, rfl, hnb, HS⟩ := hrel
    by_cases hn : 1 < n
    · obtain ⟨s, g, hsn, hml⟩ := HS.out
      clear HS
      have hd2 : decide ((1 : Int) < (n : Int)) = true := decide_eq_true (by omega)
      obtain ⟨j, hj⟩ : ∃ j, j = pickOf s.picks (n - 1) := ⟨_, rfl⟩
      have hjl : j + 1 < n := by
        have := pick_lt s.picks (n - 2)
        rw [show n - 2 + 1 = n - 1 from by omega] at this
        omega
      obtain ⟨xa, hxa⟩ : ∃ x, x = s.cur.getD j 0 := ⟨_, rfl⟩
      obtain ⟨xb, hxb⟩ : ∃ x, x = s.cur.getD (j + 1) 0 := ⟨_, rfl⟩
      have hla : xa < s.views.length := by rw [hxa]; exact hml.mi.lt (by omega)
      have hlb : xb < s.views.length := by rw [hxb]; exact hml.mi.lt (by omega)
      obtain ⟨ya, hya⟩ : ∃ y, y = s.views.getD xa [] := ⟨_, rfl⟩
      obtain ⟨yb, hyb⟩ : ∃ y, y = s.views.getD xb [] := ⟨_, rfl⟩
      obtain ⟨fa, hfa⟩ : ∃ x, x = F ya := ⟨_, rfl⟩
      obtain ⟨fb, hfb⟩ : ∃ x, x = F yb := ⟨_, rfl⟩
      obtain ⟨fab, hfab⟩ : ∃ x, x = F (ya ++ yb) := ⟨_, rfl⟩
      have hva : g.vs.getD xa 0 = fa := by rw [hml.rep.view hla, ← hya, hfa]
      have hvb : g.vs.getD xb 0 = fb := by rw [hml.rep.view hlb, ← hyb, hfb]
      have HXa := Aside0.mk (show ∀ y, y ∈ ya → X y from fun y hy => HX.out y (MI_mem hml.mi (j := j) (by omega) (by rw [← hxa, ← hya]; exact hy)))
      have HXb := Aside0.mk (show ∀ y, y ∈ yb → X y from fun y hy => HX.out y (MI_mem hml.mi (j := j + 1) (by omega) (by rw [← hxb, ← hyb]; exact hy)))
      have hmem : (slv (A, n, c), ints s.cur) ∈ g.rs.map hv ++ [hv g.sp] := by rw [hml.hrs]; simp [hv]
      obtain ⟨gi, hgi⟩ : ∃ gi, A = some ⟨gi, 0, none⟩ := by
        obtain ⟨g2, c2, e1, _⟩ := Kd.R_form (Fam.R (h1 := fun _ => rfl) hml.ps.f3 hmem) (by rw [ints_length, hsn]; omega)
        exact ⟨g2, by have := slv_form e1; injection this⟩
      subst hgi
      have hnc : n ≤ c := (Kd.R_reads' (Fam.R (h1 := fun _ => rfl) hml.ps.f3 hmem)).2.1
      obtain ⟨x, hx⟩ : ∃ x, x = g.ps.headD 0 := ⟨_, rfl⟩
      have hps : g.ps = s.picks := hml.rep.ps
      have HPk := pick_calls hml.ps hf
      rw [← hx] at HPk
      have HPK := Aside0.mk HPk
      have HMd := Aside0.mk (fun w y hy => mod_pick s.picks (n - 1) (by omega) (by omega) x y (by rw [hx, hps]) hy w)
      obtain ⟨vn, hvn⟩ : ∃ vn, vn = s.views.length := ⟨_, rfl⟩
      obtain ⟨gv, vc, hgv⟩ : ∃ gv vc, g.vo = (some ⟨gv, 0, none⟩, vn, vc) := by
        obtain ⟨g2, c2, e1, _, _⟩ := fam_at (h1 := fun _ => rfl) hml.ps.f2 0 rfl 0 xa (by rw [hml.rep.views_len]; exact hla)
        have e2 := slv_form e1
        rw [hml.rep.views_len, ← hvn] at e2
        exact ⟨g2, c2, e2⟩
      have HMl := Aside0.mk hml
      have HSN := Aside0.mk hsn
      have HJJ := Aside0.mk hj
      have HXX := Aside0.mk (And.intro hxa hxb)
      have HLL := Aside0.mk (And.intro hla hlb)
      have HFab := Aside0.mk hfab
      have HV := Aside0.mk (And.intro hva hvb)
      have HY := Aside0.mk (And.intro hya hyb)
      have HMem := Aside0.mk hmem
      have HGV := Aside0.mk hgv
      have hf2 : f[2]? = some (.func (.func 20) #[] #[.pointer (some ⟨gO, 0, none⟩)]) := HJn.out
      have e4 : ∀ (g' : Gh), (cells f g')[2]? = some (.func (.func 20) #[] #[.pointer (some ⟨gO, 0, none⟩)]) := fun g' => by
        obtain ⟨a, b, c', d, rfl⟩ : ∃ a b c' d, f = [a, b, c', d] := by
          match f, hf with
          | [a, b, c', d], _ => exact ⟨a, b, c', d, rfl⟩
        simpa [cells] using hf2
      have hC6 : ∀ (g' : Gh), g'.rs = g.rs → g'.sp = g.sp → ∀ w', PS w0 w' gp f g' → w'.cell? ⟨gi, j, none⟩ = some (.int .i64 (xa : Int)) ∧ w'.cell? ⟨gi, j + 1, none⟩ = some (.int .i64 (xb : Int)) := fun g' e1 e2 w' h => by
        have hq : (slv (some ⟨gi, 0, none⟩, n, c), ints s.cur) ∈ g'.rs.map hv ++ [hv g'.sp] := by rw [e1, e2]; exact hmem
        obtain ⟨i, hi⟩ := List.mem_iff_getElem?.1 hq
        have hl : (ints s.cur).length = n := by rw [ints_length]; exact hsn
        obtain ⟨g2, c2, e5, h5, _⟩ := fam_at (h1 := fun _ => rfl) h.f3 i hi 0 j (by omega)
        obtain ⟨g3, c3, e6, h6, _⟩ := fam_at (h1 := fun _ => rfl) h.f3 i hi 0 (j + 1) (by omega)
        have e5' := slv_form e5
        have e6' := slv_form e6
        injection e5' with e5' _
        injection e5' with e5'
        injection e5' with e5'
        injection e6' with e6' _
        injection e6' with e6'
        injection e6' with e6'
        subst e5' e6'
        rw [ints_getD, ← hxa] at h5
        rw [ints_getD, ← hxb] at h6
        exact ⟨h5, h6⟩
      have hC7 : ∀ (g' : Gh), g'.vs = g.vs → g'.vo = g.vo → ∀ w', PS w0 w' gp f g' → (w'.cell? ⟨gp, 4, none⟩ = some (.slice (some ⟨gv, 0, none⟩) vn vc) ∧ w'.cell? ⟨gp, 2, none⟩ = some (.func (.func 20) #[] #[.pointer (some ⟨gO, 0, none⟩)]) ∧ w'.cell? ⟨gv, xa, none⟩ = some (.int .i64 fa) ∧ w'.cell? ⟨gv, xb, none⟩ = some (.int .i64 fb)) ∧ w'.frozen? ⟨gv, xa, none⟩ = false := fun g' e1 e2 w' h => by
        have h1 := (h.cell hf).1
        rw [e2, hgv] at h1
        have hq : ∀ i, i < g.vs.length → w'.cell? ⟨gv, i, none⟩ = some (.int .i64 (g.vs.getD i 0)) ∧ w'.frozen? ⟨gv, i, none⟩ = false := fun i hlt => by
          obtain ⟨g2, c2, e5, h5, h6⟩ := fam_at (h1 := fun _ => rfl) h.f2 0 rfl 0 i (by rw [e1]; exact hlt)
          have e6 := slv_form e5
          rw [e2, hgv] at e6
          injection e6 with e6 _
          injection e6 with e6
          injection e6 with e6
          subst e6
          rw [h5, e1]
          exact ⟨rfl, h6⟩
        have qa := hq xa (by rw [hml.rep.views_len]; exact hla)
        have qb := hq xb (by rw [hml.rep.views_len]; exact hlb)
        rw [hva] at qa
        rw [hvb] at qb
        exact ⟨⟨h1, (blk_cell h.bp 2).trans (e4 g'), qa.1, qb.1⟩, qa.2⟩
      have hJ : ∀ w', Below w0.heap.size w0 w' → Calls Tryd.prog 20 #[.int .i64 fa, .int .i64 fb, .pointer (some ⟨gO, 0, none⟩)] w' fun e w'' => e = .returned (.int .i64 fab) ∧ Below w'.heap.size w' w'' := fun w' hb => by
        rw [hfa, hfb, hfab]
        exact HJoin.out w' ya yb hb HXa.out HXb.out
      obtain ⟨⟨mA, mn, mc⟩, hmo⟩ : ∃ t : Sl, g.mo = t := ⟨_, rfl⟩
      have hC8 : ∀ (g' : Gh), g'.mo = g.mo → ∀ w', PS w0 w' gp f g' → w'.cell? ⟨gp, 8, none⟩ = some (.slice mA mn mc) ∧ w'.frozen? ⟨gp, 8, none⟩ = false := fun g' e1 w' h => by
        have h1 := (h.cell hf).2.2.2.2
        rw [e1, hmo] at h1
        exact ⟨h1, blk_frozen h.bp 8⟩
      have hS8 : ∀ (g' : Gh), g'.mo = g.mo → ∀ w' w1, PS w0 w' gp f g' → w'.grownBy w1 (Value.slice mA mn mc).ownBlock → w1.cell? ⟨gp, 8, none⟩ = some (.slice mA mn mc) ∧ w1.frozen? ⟨gp, 8, none⟩ = false := fun g' e1 w' w1 h hg => by
        have s1 := h.stays103 (by rw [e1, hmo]; exact hg) h.bp (by decide)
        have h1 := hC8 g' e1 w' h
        exact ⟨(World.cell?_of_block s1).trans h1.1, (World.frozen?_of_block s1).trans h1.2⟩
      have hR8 : ∀ (g' : Gh), g'.mo = g.mo → ∀ w', PS w0 w' gp f g' → Kd.R k3 103 w' w0.heap.size (fun _ => True) (.slice mA mn mc) g'.ms := fun g' e1 w' h => by
        have h1 := h.mg
        rw [e1, hmo] at h1
        exact h1
      have hR9 : ∀ (g' : Gh), g'.rs = g.rs → g'.sp = g.sp → ∀ w', PS w0 w' gp f g' → Kd.R (Kd.int .i64) 3 w' w0.heap.size (fun _ => True) (.slice (some ⟨gi, 0, none⟩) n c) (ints s.cur) := fun g' e1 e2 w' h => by
        have hq : (slv (some ⟨gi, 0, none⟩, n, c), ints s.cur) ∈ g'.rs.map hv ++ [hv g'.sp] := by rw [e1, e2]; exact hmem
        exact Kd.R_mono (Fam.R (h1 := fun _ => rfl) h.f3 hq) (fun _ _ => trivial)
      have HC6 := Aside0.mk hC6
      have HC7 := Aside0.mk hC7
      have HJ := Aside0.mk hJ
      have HC8 := Aside0.mk hC8
      have HS8 := Aside0.mk hS8
      have HR8 := Aside0.mk hR8
      have HR9 := Aside0.mk hR9
      have HMo := Aside0.mk hmo
      have HML2 := Aside0.mk (show g.ms.length ≤ 2097152 by have := hml.hM; have := HL.out.2.2; rw [hml.rep.ms]; simp only [mgs, List.length_map]; omega)
      have hj2 : (j : Int) ≤ 4194304 := by omega
      have hxa2 : (xa : Int) ≤ 4194304 := by have := hml.hV; have := HL.out.2.1; omega
      have hxb2 : (xb : Int) ≤ 4194304 := by have := hml.hV; have := HL.out.2.1; omega
      have lj1 : ((j : Int) < (n : Int)) = True := eq_true (by omega)
      have lj2 : ((j : Int) + 1 < (n : Int)) = True := eq_true (by omega)
      have lj3 : (0 ≤ (j : Int) + 1) = True := eq_true (by omega)
      have la1 : ((xa : Int) < (vn : Int)) = True := eq_true (by omega)
      have lb1 : ((xb : Int) < (vn : Int)) = True := eq_true (by omega)
      have tj1 : ((j : Int) + 1).toNat = j + 1 := by omega
      obtain ⟨i0, hi0, hz1⟩ : ∃ i, Tryd.prog.info? 3 = some i ∧ i.size = 1 := by
        have h := info3
        cases e : Tryd.prog.info? 3 with
        | none => rw [e] at h; cases h
        | some i => rw [e] at h; injection h with h; injection h with _ h; injection h with h _; exact ⟨i, rfl, h⟩
      have hsl1 := cut_to (P := Tryd.prog) 24 3 .i64 Tryd.underlying24 hi0 (some ⟨gi, 0, none⟩) n c ((j : Int) + 1) (by omega) (by omega) hnc
      rw [tj1] at hsl1
      obtain ⟨Q, hQ, hsl2⟩ : ∃ Q : Option Addr, (Q = if c = j + 1 + 1 then some ⟨gi, 0, none⟩ else (some (⟨gi, 0, none⟩ : Addr)).map (·.add ((j + 1 + 1) * (Kd.int .i64).sz))) ∧ ∀ W : World, (Instr.slice 24 (.slice (some ⟨gi, 0, none⟩) n c) (some (.int .i64 ((j : Int) + 2))) none none).run Tryd.prog W = .ok (.slice Q (n - (j + 1 + 1)) (c - (j + 1 + 1))) W := by
        refine ⟨_, rfl, fun W => ?_⟩
        have h := cut_from (P := Tryd.prog) 24 3 .i64 Tryd.underlying24 hi0 1 hz1 (some ⟨gi, 0, none⟩) n c ((j : Int) + 2) (by omega) (by omega) W
        rw [show ((j : Int) + 2).toNat = j + 1 + 1 from by omega] at h
        exact h
      have HQ := Aside0.mk hQ
      have HVn := Aside0.mk hvn
      have HWJ := Aside0.mk (And.intro (show wrap64 ((j : Int) + 1) = (j : Int) + 1 from wrap_add j 1 (by omega)) (And.intro (show wrap64 ((j : Int) + 2) = (j : Int) + 2 from wrap_add j 2 (by omega)) (And.intro lj3 tj1)))
      clear lj3 tj1
      clear hf2 e4 hC6 hC7 hJ hfa hfb hfab hC8 hS8 hR8 hR9 hmo hi0 hz1 hQ hvn
      clear hml hsn hj hxa hxb hla hlb hva hvb hya hyb hmem hps HPk hx hgv
      go_wp2_with fail
      refine HPK.out.mono ?_
      rintro e w1 ⟨rfl, po, hps⟩
      have HP1 := Aside0.mk hps
      clear hps
      go_wp2_with fail
      refine (HMd.out _ _ (by omega)).mono ?_
      rintro e w2 ⟨rfl, hdr⟩
      have HP2 := Aside0.mk (HP1.out.below hdr.below)
      clear hdr HP1 HMd HPK
      rw [← HJJ.out]
      go_upto_region 6 with fail
      obtain ⟨wj1, -, lj3, tj1⟩ := HWJ.out
      refine start_ (n := 11) (S := (fun w' => w'.cell? ⟨gi, j, none⟩ = some (.int .i64 (xa : Int)) ∧ w'.cell? ⟨gi, j + 1, none⟩ = some (.int .i64 (xb : Int)))) (ds := [10]) #[false, false, false, false, false, false, false, false, false, false, false] (by kernel_rfl) rfl rfl (HC6.out { g with ps := g.ps.tail, po := po } rfl rfl w2 HP2.out) (fun hHeld => ?_); refine with_tabW M43a_tab M43a_bits (fun HT_ HW_ => ?_)
      have HP3 := Aside0.mk (HP2.out.below (w1 := w2.drew) (Drawn0.below ⟨⟨1, rfl⟩⟩))
      clear HP2
      generalize w2.drew = w3 at HP3 hHeld ⊢
      refine pure_ (i := 0) (N := some 34) (v := ?_) (a' := ?_) #[true, false, false, false, false, false, false, false, false, false, false] rfl rfl (any_of HT_.out (by kernel_rfl)) (fun _ _ _ h => h) (Or.inl ⟨by rfl, ?_⟩) ?_ ?_
      rotate_left
      · intro w'
        go_simp
        with_reducible rfl
      rotate_left
      · simp only [Act.put, List.setIfInBounds_toArray, List.set_cons_zero, List.set_cons_succ, i64_w, i32_w]
        rfl
      refine pure_ (i := 1) (N := some 35) (v := ?_) (a' := ?_) #[true, true, false, false, false, false, false, false, false, false, false] rfl rfl (any_of HT_.out (by kernel_rfl)) (fun _ _ _ h => h) (Or.inl ⟨by rfl, ?_⟩) ?_ ?_
      rotate_left
      · intro w'
        go_simp
        with_reducible rfl
      rotate_left
      · simp only [Act.put, List.setIfInBounds_toArray, List.set_cons_zero, List.set_cons_succ, i64_w, i32_w]
        rfl
      refine pure_ (i := 2) (N := some 36) (v := ?_) (a' := ?_) #[true, true, true, false, false, false, false, false, false, false, false] rfl rfl (any_of HT_.out (by kernel_rfl)) (fun _ _ _ h => h) (Or.inl ⟨by rfl, ?_⟩) ?_ ?_
      rotate_left
      · intro w'
        go_simp
        with_reducible rfl
      rotate_left
      · simp only [Act.put, List.setIfInBounds_toArray, List.set_cons_zero, List.set_cons_succ, i64_w, i32_w]
        rfl
      refine take_ (i := 3) (N := some 37) (v := ?_) (a' := ?_) #[true, true, true, true, false, false, false, false, false, false, false] rfl rfl (take_ofW HT_.out HW_.out (by kernel_rfl)) (fun _ _ _ h => h) (Or.inl ⟨by rfl, ?_⟩) hHeld ?_ ?_
      rotate_left
      · rintro w' ⟨s0, s1⟩
        go_simp
        with_reducible rfl
      rotate_left
      · simp only [Act.put, List.setIfInBounds_toArray, List.set_cons_zero, List.set_cons_succ, i64_w, i32_w]
        rfl
      refine pure_ (i := 4) (N := some 38) (v := ?_) (a' := ?_) #[true, true, true, true, true, false, false, false, false, false, false] rfl rfl (any_of HT_.out (by kernel_rfl)) (fun _ _ _ h => h) (Or.inl ⟨by rfl, ?_⟩) ?_ ?_
      rotate_left
      · intro w'
        go_simp
        with_reducible rfl
      rotate_left
      · simp only [Act.put, List.setIfInBounds_toArray, List.set_cons_zero, List.set_cons_succ, i64_w, i32_w]
        rfl
      refine pure_ (i := 5) (N := some 39) (v := ?_) (a' := ?_) #[true, true, true, true, true, true, false, false, false, false, false] rfl rfl (any_of HT_.out (by kernel_rfl)) (fun _ _ _ h => h) (Or.inl ⟨by rfl, ?_⟩) ?_ ?_
      rotate_left
      · intro w'
        go_simp
        with_reducible rfl
      rotate_left
      · simp only [Act.put, List.setIfInBounds_toArray, List.set_cons_zero, List.set_cons_succ, i64_w, i32_w]
        rfl
      refine pure_ (i := 6) (N := some 40) (v := ?_) (a' := ?_) #[true, true, true, true, true, true, true, false, false, false, false] rfl rfl (any_of HT_.out (by kernel_rfl)) (fun _ _ _ h => h) (Or.inl ⟨by rfl, ?_⟩) ?_ ?_
      rotate_left
      · intro w'
        go_simp
        with_reducible rfl
      rotate_left
      · simp only [Act.put, List.setIfInBounds_toArray, List.set_cons_zero, List.set_cons_succ, i64_w, i32_w]
        rfl
      refine pure_ (i := 7) (N := some 41) (v := ?_) (a' := ?_) #[true, true, true, true, true, true, true, true, false, false, false] rfl rfl (any_of HT_.out (by kernel_rfl)) (fun _ _ _ h => h) (Or.inl ⟨by rfl, ?_⟩) ?_ ?_
      rotate_left
      · intro w'
        go_simp
        with_reducible rfl
      rotate_left
      · simp only [Act.put, List.setIfInBounds_toArray, List.set_cons_zero, List.set_cons_succ, i64_w, i32_w]
        rfl
      refine take_ (i := 8) (N := some 42) (v := ?_) (a' := ?_) #[true, true, true, true, true, true, true, true, true, false, false] rfl rfl (take_ofW HT_.out HW_.out (by kernel_rfl)) (fun _ _ _ h => h) (Or.inl ⟨by rfl, ?_⟩) hHeld ?_ ?_
      rotate_left
      · rintro w' ⟨s0, s1⟩
        go_simp
        with_reducible rfl
      rotate_left
      · simp only [Act.put, List.setIfInBounds_toArray, List.set_cons_zero, List.set_cons_succ, i64_w, i32_w]
        rfl
      refine pure_ (i := 9) (N := some 8) (v := ?_) (a' := ?_) #[true, true, true, true, true, true, true, true, true, true, false] rfl rfl (any_of HT_.out (by kernel_rfl)) (fun _ _ _ h => h) (Or.inl ⟨by rfl, ?_⟩) ?_ ?_
      rotate_left
      · intro w'
        go_simp
        with_reducible rfl
      rotate_left
      · simp only [Act.put, List.setIfInBounds_toArray, List.set_cons_zero, List.set_cons_succ, i64_w, i32_w]
        rfl
      refine pure_ (i := 10) (N := some 9) (v := ?_) (a' := ?_) #[true, true, true, true, true, true, true, true, true, true, true] rfl rfl (any_of HT_.out (by kernel_rfl)) (fun _ _ _ h => h) (Or.inl ⟨by rfl, ?_⟩) ?_ ?_
      rotate_left
      · intro w'
        go_simp
        with_reducible rfl
      rotate_left
      · simp only [Act.put, List.setIfInBounds_toArray, List.set_cons_zero, List.set_cons_succ, i64_w, i32_w]
        rfl
      refine done_ (done_of HT_.out (by kernel_rfl)) ?_
      clear HT_ HW_ hHeld

      clear wj1 lj3 tj1
      go_upto_region 7 with fail
      refine start_ (n := 27) (S := (fun w' => w'.cell? ⟨gp, 4, none⟩ = some (.slice (some ⟨gv, 0, none⟩) vn vc) ∧ w'.cell? ⟨gp, 2, none⟩ = some (.func (.func 20) #[] #[.pointer (some ⟨gO, 0, none⟩)]) ∧ w'.cell? ⟨gv, xa, none⟩ = some (.int .i64 fa) ∧ w'.cell? ⟨gv, xb, none⟩ = some (.int .i64 fb))) (ds := [26]) #[false, false, false, false, false, false, false, false, false, false, false, false, false, false, false, false, false, false, false, false, false, false, false, false, false, false, false] (by kernel_rfl) rfl rfl (HC7.out { g with ps := g.ps.tail, po := po } rfl rfl w3 HP3.out).1 (fun hHeld => ?_); refine with_tabW M43b_tab M43b_bits (fun HT_ HW_ => ?_)
      have HP4 := Aside0.mk (HP3.out.below (w1 := w3.drew) (Drawn0.below ⟨⟨1, rfl⟩⟩))
      clear HP3
      generalize w3.drew = w4 at HP4 hHeld ⊢
      refine pure_ (i := 0) (N := some 43) (v := ?_) (a' := ?_) #[true, false, false, false, false, false, false, false, false, false, false, false, false, false, false, false, false, false, false, false, false, false, false, false, false, false, false] rfl rfl (any_of HT_.out (by kernel_rfl)) (fun _ _ _ h => h) (Or.inl ⟨by rfl, ?_⟩) ?_ ?_
      rotate_left
      · intro w'
        go_simp
        with_reducible rfl
      rotate_left
      · simp only [Act.put, List.setIfInBounds_toArray, List.set_cons_zero, List.set_cons_succ, i64_w, i32_w]
        rfl
      refine pure_ (i := 1) (N := some 44) (v := ?_) (a' := ?_) #[true, true, false, false, false, false, false, false, false, false, false, false, false, false, false, false, false, false, false, false, false, false, false, false, false, false, false] rfl rfl (any_of HT_.out (by kernel_rfl)) (fun _ _ _ h => h) (Or.inl ⟨by rfl, ?_⟩) ?_ ?_
      rotate_left
      · intro w'
        go_simp
        with_reducible rfl
      rotate_left
      · simp only [Act.put, List.setIfInBounds_toArray, List.set_cons_zero, List.set_cons_succ, i64_w, i32_w]
        rfl
      refine pure_ (i := 2) (N := some 45) (v := ?_) (a' := ?_) #[true, true, true, false, false, false, false, false, false, false, false, false, false, false, false, false, false, false, false, false, false, false, false, false, false, false, false] rfl rfl (any_of HT_.out (by kernel_rfl)) (fun _ _ _ h => h) (Or.inl ⟨by rfl, ?_⟩) ?_ ?_
      rotate_left
      · intro w'
        go_simp
        with_reducible rfl
      rotate_left
      · simp only [Act.put, List.setIfInBounds_toArray, List.set_cons_zero, List.set_cons_succ, i64_w, i32_w]
        rfl
      refine take_ (i := 3) (N := some 46) (v := ?_) (a' := ?_) #[true, true, true, true, false, false, false, false, false, false, false, false, false, false, false, false, false, false, false, false, false, false, false, false, false, false, false] rfl rfl (take_ofW HT_.out HW_.out (by kernel_rfl)) (fun _ _ _ h => h) (Or.inl ⟨by rfl, ?_⟩) hHeld ?_ ?_
      rotate_left
      · rintro w' ⟨s0, s1, s2, s3⟩
        go_simp
        with_reducible rfl
      rotate_left
      · simp only [Act.put, List.setIfInBounds_toArray, List.set_cons_zero, List.set_cons_succ, i64_w, i32_w]
        rfl
      refine pure_ (i := 4) (N := some 47) (v := ?_) (a' := ?_) #[true, true, true, true, true, false, false, false, false, false, false, false, false, false, false, false, false, false, false, false, false, false, false, false, false, false, false] rfl rfl (any_of HT_.out (by kernel_rfl)) (fun _ _ _ h => h) (Or.inl ⟨by rfl, ?_⟩) ?_ ?_
      rotate_left
      · intro w'
        go_simp
        with_reducible rfl
      rotate_left
      · simp only [Act.put, List.setIfInBounds_toArray, List.set_cons_zero, List.set_cons_succ, i64_w, i32_w]
        rfl
      refine pure_ (i := 5) (N := some 48) (v := ?_) (a' := ?_) #[true, true, true, true, true, true, false, false, false, false, false, false, false, false, false, false, false, false, false, false, false, false, false, false, false, false, false] rfl rfl (any_of HT_.out (by kernel_rfl)) (fun _ _ _ h => h) (Or.inl ⟨by rfl, ?_⟩) ?_ ?_
      rotate_left
      · intro w'
        go_simp
        with_reducible rfl
      rotate_left
      · simp only [Act.put, List.setIfInBounds_toArray, List.set_cons_zero, List.set_cons_succ, i64_w, i32_w]
        rfl
      refine pure_ (i := 6) (N := some 49) (v := ?_) (a' := ?_) #[true, true, true, true, true, true, true, false, false, false, false, false, false, false, false, false, false, false, false, false, false, false, false, false, false, false, false] rfl rfl (any_of HT_.out (by kernel_rfl)) (fun _ _ _ h => h) (Or.inl ⟨by rfl, ?_⟩) ?_ ?_
      rotate_left
      · intro w'
        go_simp
        with_reducible rfl
      rotate_left
      · simp only [Act.put, List.setIfInBounds_toArray, List.set_cons_zero, List.set_cons_succ, i64_w, i32_w]
        rfl
      refine pure_ (i := 7) (N := some 50) (v := ?_) (a' := ?_) #[true, true, true, true, true, true, true, true, false, false, false, false, false, false, false, false, false, false, false, false, false, false, false, false, false, false, false] rfl rfl (any_of HT_.out (by kernel_rfl)) (fun _ _ _ h => h) (Or.inl ⟨by rfl, ?_⟩) ?_ ?_
      rotate_left
      · intro w'
        go_simp
        with_reducible rfl
      rotate_left
      · simp only [Act.put, List.setIfInBounds_toArray, List.set_cons_zero, List.set_cons_succ, i64_w, i32_w]
        rfl
      refine pure_ (i := 8) (N := some 51) (v := ?_) (a' := ?_) #[true, true, true, true, true, true, true, true, true, false, false, false, false, false, false, false, false, false, false, false, false, false, false, false, false, false, false] rfl rfl (any_of HT_.out (by kernel_rfl)) (fun _ _ _ h => h) (Or.inl ⟨by rfl, ?_⟩) ?_ ?_
      rotate_left
      · intro w'
        go_simp
        with_reducible rfl
      rotate_left
      · simp only [Act.put, List.setIfInBounds_toArray, List.set_cons_zero, List.set_cons_succ, i64_w, i32_w]
        rfl
      refine take_ (i := 9) (N := some 52) (v := ?_) (a' := ?_) #[true, true, true, true, true, true, true, true, true, true, false, false, false, false, false, false, false, false, false, false, false, false, false, false, false, false, false] rfl rfl (take_ofW HT_.out HW_.out (by kernel_rfl)) (fun _ _ _ h => h) (Or.inl ⟨by rfl, ?_⟩) hHeld ?_ ?_
      rotate_left
      · rintro w' ⟨s0, s1, s2, s3⟩
        go_simp
        with_reducible rfl
      rotate_left
      · simp only [Act.put, List.setIfInBounds_toArray, List.set_cons_zero, List.set_cons_succ, i64_w, i32_w]
        rfl
      refine pure_ (i := 10) (N := some 53) (v := ?_) (a' := ?_) #[true, true, true, true, true, true, true, true, true, true, true, false, false, false, false, false, false, false, false, false, false, false, false, false, false, false, false] rfl rfl (any_of HT_.out (by kernel_rfl)) (fun _ _ _ h => h) (Or.inl ⟨by rfl, ?_⟩) ?_ ?_
      rotate_left
      · intro w'
        go_simp
        with_reducible rfl
      rotate_left
      · simp only [Act.put, List.setIfInBounds_toArray, List.set_cons_zero, List.set_cons_succ, i64_w, i32_w]
        rfl
      refine pure_ (i := 11) (N := some 54) (v := ?_) (a' := ?_) #[true, true, true, true, true, true, true, true, true, true, true, true, false, false, false, false, false, false, false, false, false, false, false, false, false, false, false] rfl rfl (any_of HT_.out (by kernel_rfl)) (fun _ _ _ h => h) (Or.inl ⟨by rfl, ?_⟩) ?_ ?_
      rotate_left
      · intro w'
        go_simp
        with_reducible rfl
      rotate_left
      · simp only [Act.put, List.setIfInBounds_toArray, List.set_cons_zero, List.set_cons_succ, i64_w, i32_w]
        rfl
      refine pure_ (i := 12) (N := some 55) (v := ?_) (a' := ?_) #[true, true, true, true, true, true, true, true, true, true, true, true, true, false, false, false, false, false, false, false, false, false, false, false, false, false, false] rfl rfl (any_of HT_.out (by kernel_rfl)) (fun _ _ _ h => h) (Or.inl ⟨by rfl, ?_⟩) ?_ ?_
      rotate_left
      · intro w'
        go_simp
        with_reducible rfl
      rotate_left
      · simp only [Act.put, List.setIfInBounds_toArray, List.set_cons_zero, List.set_cons_succ, i64_w, i32_w]
        rfl
      refine take_ (i := 13) (N := some 56) (v := ?_) (a' := ?_) #[true, true, true, true, true, true, true, true, true, true, true, true, true, true, false, false, false, false, false, false, false, false, false, false, false, false, false] rfl rfl (take_ofW HT_.out HW_.out (by kernel_rfl)) (fun _ _ _ h => h) (Or.inl ⟨by rfl, ?_⟩) hHeld ?_ ?_
      rotate_left
      · rintro w' ⟨s0, s1, s2, s3⟩
        go_simp
        with_reducible rfl
      rotate_left
      · simp only [Act.put, List.setIfInBounds_toArray, List.set_cons_zero, List.set_cons_succ, i64_w, i32_w]
        rfl
      refine pure_ (i := 14) (N := some 57) (v := ?_) (a' := ?_) #[true, true, true, true, true, true, true, true, true, true, true, true, true, true, true, false, false, false, false, false, false, false, false, false, false, false, false] rfl rfl (any_of HT_.out (by kernel_rfl)) (fun _ _ _ h => h) (Or.inl ⟨by rfl, ?_⟩) ?_ ?_
      rotate_left
      · intro w'
        go_simp
        with_reducible rfl
      rotate_left
      · simp only [Act.put, List.setIfInBounds_toArray, List.set_cons_zero, List.set_cons_succ, i64_w, i32_w]
        rfl
      refine pure_ (i := 15) (N := some 58) (v := ?_) (a' := ?_) #[true, true, true, true, true, true, true, true, true, true, true, true, true, true, true, true, false, false, false, false, false, false, false, false, false, false, false] rfl rfl (any_of HT_.out (by kernel_rfl)) (fun _ _ _ h => h) (Or.inl ⟨by rfl, ?_⟩) ?_ ?_
      rotate_left
      · intro w'
        go_simp
        with_reducible rfl
      rotate_left
      · simp only [Act.put, List.setIfInBounds_toArray, List.set_cons_zero, List.set_cons_succ, i64_w, i32_w]
        rfl
      refine take_ (i := 16) (N := some 59) (v := ?_) (a' := ?_) #[true, true, true, true, true, true, true, true, true, true, true, true, true, true, true, true, true, false, false, false, false, false, false, false, false, false, false] rfl rfl (take_ofW HT_.out HW_.out (by kernel_rfl)) (fun _ _ _ h => h) (Or.inl ⟨by rfl, ?_⟩) hHeld ?_ ?_
      rotate_left
      · rintro w' ⟨s0, s1, s2, s3⟩
        go_simp
        with_reducible rfl
      rotate_left
      · simp only [Act.put, List.setIfInBounds_toArray, List.set_cons_zero, List.set_cons_succ, i64_w, i32_w]
        rfl
      refine pure_ (i := 17) (N := some 60) (v := ?_) (a' := ?_) #[true, true, true, true, true, true, true, true, true, true, true, true, true, true, true, true, true, true, false, false, false, false, false, false, false, false, false] rfl rfl (any_of HT_.out (by kernel_rfl)) (fun _ _ _ h => h) (Or.inl ⟨by rfl, ?_⟩) ?_ ?_
      rotate_left
      · intro w'
        go_simp
        with_reducible rfl
      rotate_left
      · simp only [Act.put, List.setIfInBounds_toArray, List.set_cons_zero, List.set_cons_succ, i64_w, i32_w]
        rfl
      refine pure_ (i := 18) (N := some 61) (v := ?_) (a' := ?_) #[true, true, true, true, true, true, true, true, true, true, true, true, true, true, true, true, true, true, true, false, false, false, false, false, false, false, false] rfl rfl (any_of HT_.out (by kernel_rfl)) (fun _ _ _ h => h) (Or.inl ⟨by rfl, ?_⟩) ?_ ?_
      rotate_left
      · intro w'
        go_simp
        with_reducible rfl
      rotate_left
      · simp only [Act.put, List.setIfInBounds_toArray, List.set_cons_zero, List.set_cons_succ, i64_w, i32_w]
        rfl
      refine pure_ (i := 19) (N := some 62) (v := ?_) (a' := ?_) #[true, true, true, true, true, true, true, true, true, true, true, true, true, true, true, true, true, true, true, true, false, false, false, false, false, false, false] rfl rfl (any_of HT_.out (by kernel_rfl)) (fun _ _ _ h => h) (Or.inl ⟨by rfl, ?_⟩) ?_ ?_
      rotate_left
      · intro w'
        go_simp
        with_reducible rfl
      rotate_left
      · simp only [Act.put, List.setIfInBounds_toArray, List.set_cons_zero, List.set_cons_succ, i64_w, i32_w]
        rfl
      refine take_ (i := 20) (N := some 63) (v := ?_) (a' := ?_) #[true, true, true, true, true, true, true, true, true, true, true, true, true, true, true, true, true, true, true, true, true, false, false, false, false, false, false] rfl rfl (take_ofW HT_.out HW_.out (by kernel_rfl)) (fun _ _ _ h => h) (Or.inl ⟨by rfl, ?_⟩) hHeld ?_ ?_
      rotate_left
      · rintro w' ⟨s0, s1, s2, s3⟩
        go_simp
        with_reducible rfl
      rotate_left
      · simp only [Act.put, List.setIfInBounds_toArray, List.set_cons_zero, List.set_cons_succ, i64_w, i32_w]
        rfl
      refine pure_ (i := 21) (N := some 64) (v := ?_) (a' := ?_) #[true, true, true, true, true, true, true, true, true, true, true, true, true, true, true, true, true, true, true, true, true, true, false, false, false, false, false] rfl rfl (any_of HT_.out (by kernel_rfl)) (fun _ _ _ h => h) (Or.inl ⟨by rfl, ?_⟩) ?_ ?_
      rotate_left
      · intro w'
        go_simp
        with_reducible rfl
      rotate_left
      · simp only [Act.put, List.setIfInBounds_toArray, List.set_cons_zero, List.set_cons_succ, i64_w, i32_w]
        rfl
      refine pure_ (i := 22) (N := some 65) (v := ?_) (a' := ?_) #[true, true, true, true, true, true, true, true, true, true, true, true, true, true, true, true, true, true, true, true, true, true, true, false, false, false, false] rfl rfl (any_of HT_.out (by kernel_rfl)) (fun _ _ _ h => h) (Or.inl ⟨by rfl, ?_⟩) ?_ ?_
      rotate_left
      · intro w'
        go_simp
        with_reducible rfl
      rotate_left
      · simp only [Act.put, List.setIfInBounds_toArray, List.set_cons_zero, List.set_cons_succ, i64_w, i32_w]
        rfl
      refine take_ (i := 23) (N := some 66) (v := ?_) (a' := ?_) #[true, true, true, true, true, true, true, true, true, true, true, true, true, true, true, true, true, true, true, true, true, true, true, true, false, false, false] rfl rfl (take_ofW HT_.out HW_.out (by kernel_rfl)) (fun _ _ _ h => h) (Or.inl ⟨by rfl, ?_⟩) hHeld ?_ ?_
      rotate_left
      · rintro w' ⟨s0, s1, s2, s3⟩
        go_simp
        with_reducible rfl
      rotate_left
      · simp only [Act.put, List.setIfInBounds_toArray, List.set_cons_zero, List.set_cons_succ, i64_w, i32_w]
        rfl
      refine one_ (i := 24) (N := some 67) #[true, true, true, true, true, true, true, true, true, true, true, true, true, true, true, true, true, true, true, true, true, true, true, true, true, false, false] rfl rfl (one_of HT_.out (by kernel_rfl)) (by decide) (fun K hK => ?_)
      refine goesC_ Tryd.func20 (by kernel_rfl) rfl #[.int .i64 fa, .int .i64 fb, .pointer (some ⟨gO, 0, none⟩)] (by rfl) rfl rfl rfl (by (try simp only [List.map_toArray, List.map_cons, List.map_nil]); first | done | rfl) ?_
      with_reducible refine (HJ.out w4 HP4.out.hb).mono ?_
      rintro e w5 ⟨rfl, hb⟩
      have HP5 := Aside0.mk (HP4.out.below hb)
      clear hb HP4
      refine ⟨_, rfl, ?_⟩
      refine hK.out _ _ (HC7.out { g with ps := g.ps.tail, po := po } rfl rfl w5 HP5.out).1 (fun hHeld => ?_)
      clear hK K
      refine norm_ (a' := ?_) ?_ ?_
      rotate_left
      · show Act.put _ (some 67) _ = _
        simp only [Act.put, List.setIfInBounds_toArray, List.set_cons_zero, List.set_cons_succ, i64_w, i32_w]
        rfl
      refine pure_ (i := 25) (N := some 68) (v := ?_) (a' := ?_) #[true, true, true, true, true, true, true, true, true, true, true, true, true, true, true, true, true, true, true, true, true, true, true, true, true, true, false] rfl rfl (any_of HT_.out (by kernel_rfl)) (fun _ _ _ h => h) (Or.inl ⟨by rfl, ?_⟩) ?_ ?_
      rotate_left
      · intro w'
        go_simp
        with_reducible rfl
      rotate_left
      · simp only [Act.put, List.setIfInBounds_toArray, List.set_cons_zero, List.set_cons_succ, i64_w, i32_w]
        rfl
      have hfz := (HC7.out { g with ps := g.ps.tail, po := po } rfl rfl w5 HP5.out).2
      refine last_ (i := 26) (N := none) #[true, true, true, true, true, true, true, true, true, true, true, true, true, true, true, true, true, true, true, true, true, true, true, true, true, true, true] rfl rfl (one_of HT_.out (by kernel_rfl)) (by decide) (fun K hK => ?_)
      refine skip_ (w1 := ?_) (by rfl) rfl ?_ ?_
      rotate_left
      · go_simp
        rfl
      refine hK.out _ _ ?_
      clear hK K
      refine done_ (done_of HT_.out (by kernel_rfl)) ?_
      clear HT_ HW_ hHeld

      have hv6 := HP5.out.view_put (gv := gv) (n := vn) (c := vc) HGV.out xa fab
      replace hv6 : PS w0 (w5.setCell ⟨gv, xa, none⟩ (.int .i64 fab)) gp f { g with ps := g.ps.tail, po := po, vs := g.vs.set xa fab } := hv6
      have HP6 := Aside0.mk hv6
      clear hv6 hfz HP5
      generalize w5.setCell ⟨gv, xa, none⟩ (.int .i64 fab) = w6 at HP6 ⊢
      obtain ⟨hm1, hm2⟩ := HC8.out { g with ps := g.ps.tail, po := po, vs := g.vs.set xa fab } rfl w6 HP6.out
      go_upto_region 9 with (first | ((with_reducible refine gate_builtin (b := .append) (xs := #[.tmp 73, .tmp 78]) rfl ?_); at_builtin; refine Kd.R_append k3 (w0 := w0) w0.heap.size rfl (.tmp 73) (.tmp 78) 38 103 (.agg #[.int .i64 0, .int .i64 0, .int .i64 0]) 24 rfl Tryd.underlying38 info103 rfl (by decide) (by omega) (.slice mA mn mc) g.ms ((t : Int), (xa : Int), (xb : Int)) [.int .i64 (t : Int), .int .i64 (xa : Int), .int .i64 (xb : Int)] (fun _ => True) (fun _ => False) rfl rfl ?aP (fun _ hk => hk.elim) ?aF ?aO ?aB ?aS ?aL ?_; (case aP => exact ⟨[_], [_, _], rfl, rfl, [_], [_], rfl, rfl, rfl⟩); (case aB => exact HP6.out.hb); (case aF => exact fun _ _ => trivial); (case aO => exact HR8.out { g with ps := g.ps.tail, po := po, vs := g.vs.set xa fab } rfl w6 HP6.out); (case aS => exact below_size HP6.out.hb); (case aL => have := HML2.out; omega); intro v8 w9 ho hb hg hat; obtain ⟨A8, c8, rfl, _, _⟩ := Kd.R_reads ho; obtain ⟨hz1, hz2⟩ := HS8.out { g with ps := g.ps.tail, po := po, vs := g.vs.set xa fab } rfl w6 w9 HP6.out hg; have HG8 := Aside0.mk (And.intro ho (And.intro hb hg)); clear ho hb hg hat))
      have hv7 := HP6.out.told hf (t1 := (A8, (g.ms ++ [((t : Int), (xa : Int), (xb : Int))]).length, c8)) HG8.out.1 HG8.out.2.1 (by rw [HMo.out]; exact HG8.out.2.2)
      rw [show (g.ms ++ [((t : Int), (xa : Int), (xb : Int))]).length = g.ms.length + 1 from by simp] at hv7
      replace hv7 : PS w0 (w9.setCell ⟨gp, 8, none⟩ (.slice A8 (g.ms.length + 1) c8)) gp f { g with ps := g.ps.tail, po := po, vs := g.vs.set xa fab, ms := g.ms ++ [((t : Int), (xa : Int), (xb : Int))], mo := (A8, g.ms.length + 1, c8) } := hv7
      have HP7 := Aside0.mk hv7
      clear hv7 hm1 hm2 hz1 hz2 HG8 HP6
      generalize w9.setCell ⟨gp, 8, none⟩ (.slice A8 (g.ms.length + 1) c8) = w7 at HP7 ⊢
      obtain ⟨wj1, wj2, lj3, tj1⟩ := HWJ.out
      refine start_ (n := 10) (S := (fun w' => True)) (ds := [9]) #[false, false, false, false, false, false, false, false, false, false] (by kernel_rfl) rfl rfl trivial (fun hHeld => ?_); refine with_tabW M43c_tab M43c_bits (fun HT_ HW_ => ?_)
      have HP8 := Aside0.mk (HP7.out.below (w1 := w7.drew) (Drawn0.below ⟨⟨1, rfl⟩⟩))
      clear HP7
      generalize w7.drew = w8 at HP8 hHeld ⊢
      refine pure_ (i := 0) (N := some 82) (v := ?_) (a' := ?_) #[true, false, false, false, false, false, false, false, false, false] rfl rfl (any_of HT_.out (by kernel_rfl)) (fun _ _ _ h => h) (Or.inl ⟨by rfl, ?_⟩) ?_ ?_
      rotate_left
      · intro w'
        go_simp
        with_reducible rfl
      rotate_left
      · simp only [Act.put, List.setIfInBounds_toArray, List.set_cons_zero, List.set_cons_succ, i64_w, i32_w]
        rfl
      refine pure_ (i := 1) (N := some 83) (v := ?_) (a' := ?_) #[true, true, false, false, false, false, false, false, false, false] rfl rfl (any_of HT_.out (by kernel_rfl)) (fun _ _ _ h => h) (Or.inl ⟨by rfl, ?_⟩) ?_ ?_
      rotate_left
      · intro w'
        go_simp
        with_reducible rfl
      rotate_left
      · simp only [Act.put, List.setIfInBounds_toArray, List.set_cons_zero, List.set_cons_succ, i64_w, i32_w]
        rfl
      refine pure_ (i := 2) (N := some 84) (v := ?_) (a' := ?_) #[true, true, true, false, false, false, false, false, false, false] rfl rfl (any_of HT_.out (by kernel_rfl)) (fun _ _ _ h => h) (Or.inl ⟨by rfl, ?_⟩) ?_ ?_
      rotate_left
      · intro w'
        go_simp
        with_reducible rfl
      rotate_left
      · simp only [Act.put, List.setIfInBounds_toArray, List.set_cons_zero, List.set_cons_succ, i64_w, i32_w]
        rfl
      refine pure_ (i := 3) (N := some 85) (v := ?_) (a' := ?_) #[true, true, true, true, false, false, false, false, false, false] rfl rfl (any_of HT_.out (by kernel_rfl)) (fun _ _ _ h => h) (Or.inl ⟨by rfl, ?_⟩) ?_ ?_
      rotate_left
      · intro w'
        go_simp
        with_reducible rfl
      rotate_left
      · simp only [Act.put, List.setIfInBounds_toArray, List.set_cons_zero, List.set_cons_succ, i64_w, i32_w]
        rfl
      refine pure_ (i := 4) (N := some 86) (v := ?_) (a' := ?_) #[true, true, true, true, true, false, false, false, false, false] rfl rfl (any_of HT_.out (by kernel_rfl)) (fun _ _ _ h => h) (Or.inl ⟨by rfl, ?_⟩) ?_ ?_
      rotate_left
      · intro w'
        go_simp
        with_reducible rfl
      rotate_left
      · simp only [Act.put, List.setIfInBounds_toArray, List.set_cons_zero, List.set_cons_succ, i64_w, i32_w]
        rfl
      refine pure_ (i := 5) (N := some 87) (v := ?_) (a' := ?_) #[true, true, true, true, true, true, false, false, false, false] rfl rfl (any_of HT_.out (by kernel_rfl)) (fun _ _ _ h => h) (Or.inl ⟨by rfl, ?_⟩) ?_ ?_
      rotate_left
      · intro w'
        go_simp
        with_reducible rfl
      rotate_left
      · simp only [Act.put, List.setIfInBounds_toArray, List.set_cons_zero, List.set_cons_succ, i64_w, i32_w]
        rfl
      refine pure_ (i := 6) (N := some 88) (v := ?_) (a' := ?_) #[true, true, true, true, true, true, true, false, false, false] rfl rfl (any_of HT_.out (by kernel_rfl)) (fun _ _ _ h => h) (Or.inl ⟨by rfl, ?_⟩) ?_ ?_
      rotate_left
      · intro w'
        go_simp
        with_reducible rfl
      rotate_left
      · simp only [Act.put, List.setIfInBounds_toArray, List.set_cons_zero, List.set_cons_succ, i64_w, i32_w]
        rfl
      refine pure_ (i := 7) (N := some 89) (v := ?_) (a' := ?_) #[true, true, true, true, true, true, true, true, false, false] rfl rfl (any_of HT_.out (by kernel_rfl)) (fun _ _ _ h => h) (Or.inl ⟨by rfl, ?_⟩) ?_ ?_
      rotate_left
      · intro w'
        go_simp
        with_reducible rfl
      rotate_left
      · simp only [Act.put, List.setIfInBounds_toArray, List.set_cons_zero, List.set_cons_succ, i64_w, i32_w]
        rfl
      refine one_ (i := 8) (N := some 90) #[true, true, true, true, true, true, true, true, true, false] rfl rfl (one_of HT_.out (by kernel_rfl)) (by decide) (fun K hK => ?_)
      refine Kd.R_delete_step (Kd.int .i64) (w0 := w0) w0.heap.size (by rfl) (.tmp 85) (.tmp 89) 24 3 rfl Tryd.underlying24 info3s (g := gi) (n := n) (c := c) (k := j + 1) (m := n - (j + 1 + 1)) (c2 := c - (j + 1 + 1)) (A := Q) (xs := ints s.cur) (ok := fun _ => True) rfl rfl HQ.out (by omega) ?aO ?aK ?aB ?aS ?_
      (case aO => exact HR9.out { g with ps := g.ps.tail, po := po, vs := g.vs.set xa fab, ms := g.ms ++ [((t : Int), (xa : Int), (xb : Int))], mo := (A8, g.ms.length + 1, c8) } rfl rfl w8 HP8.out)
      (case aK => omega)
      (case aB => exact HP8.out.hb)
      (case aS => exact below_size HP8.out.hb)
      intro w9 ho hb hg
      have HG9 := Aside0.mk (And.intro ho (And.intro hb hg))
      clear ho hb hg
      refine hK.out _ _ trivial (fun hHeld => ?_)
      clear hK K
      refine norm_ (a' := ?_) ?_ ?_
      rotate_left
      · show Act.put _ (some 90) _ = _
        simp only [Act.put, List.setIfInBounds_toArray, List.set_cons_zero, List.set_cons_succ, i64_w, i32_w]
        rfl
      refine pure_ (i := 9) (N := some 5) (v := ?_) (a' := ?_) #[true, true, true, true, true, true, true, true, true, true] rfl rfl (any_of HT_.out (by kernel_rfl)) (fun _ _ _ h => h) (Or.inl ⟨by rfl, ?_⟩) ?_ ?_
      rotate_left
      · intro w'
        go_simp
        with_reducible rfl
      rotate_left
      · simp only [Act.put, List.setIfInBounds_toArray, List.set_cons_zero, List.set_cons_succ, i64_w, i32_w]
        rfl
      refine done_ (done_of HT_.out (by kernel_rfl)) ?_
      clear HT_ HW_ hHeld

      clear wj1 wj2 lj3 tj1
      have hrs3 := HMl.out.hrs
      have F := HP8.out.row_cut (rs := rs) (c := ((some ⟨gi, 0, none⟩, n, c), ints s.cur)) hrs3 (t1 := (some ⟨gi, 0, none⟩, n - 1, c)) (xs1 := (ints s.cur).eraseIdx (j + 1)) HG9.out.1 HG9.out.2.1 HG9.out.2.2 (.inl rfl)
      have F2 := HMl.out.step HSN.out hn HJJ.out HXX.out.1 HXX.out.2 HY.out.1 HY.out.2 hjl HFab.out (po := po) (mo := (A8, g.ms.length + 1, c8)) (tr1 := (some ⟨gi, 0, none⟩, n - 1, c)) F
      have HF := Aside0.mk (And.intro (show (mstep t s).cur.length = n - 1 by rw [mstep_len t s (by have := HSN.out; omega), HSN.out]) F2)
      clear F F2 hrs3 HP8 HG9
      go_wp2
      go_roundw
      case measure => simp [intOf]; omega
      case rel => exact ⟨some ⟨gi, 0, none⟩, n - 1, c, rfl, by rw [show ((n - 1 : Nat) : Int) = (n : Int) - 1 from by omega], by omega, ⟨⟨mstep t s, _, HF.out.1, HF.out.2⟩⟩⟩
    · have hd1 : decide (1 < n) = false := decide_eq_false hn
      have hd2 : decide ((1 : Int) < (n : Int)) = false := decide_eq_false (by omega)
      have hle : (n : Int) ≤ 1 := by omega
      obtain ⟨s, g, hsn, hml⟩ := HS.out
      obtain ⟨hx5, hxr, hfz⟩ := HOut.out _ s g _ _ hml
      replace hxr : wr.cell? ⟨gr, k, none⟩ = some (.slice trA trn trc) := hxr
      have HM1 := Aside0.mk hml
      have HS1 := Aside0.mk hsn
      clear hml hsn HS hn
      go_wp2
      go_end0
      refine ⟨rfl, HP.out _ s { g with oh := oh ++ [(A, n, c)] } (A, n, c) ?_ (by have := HS1.out; omega)⟩
      have h := HM1.out
      have h2 := h.ps.row_put h.hoh h.hro (A, n, c)
      rw [HK.out] at h2
      exact ⟨h2, ⟨h.rep.vs, h.rep.rs, h.rep.sp, h.rep.ps, h.rep.ms⟩, h.hrs, h.hro, rfl, h.mi, h.go, h.hV, h.hM⟩

/-- The play's merge, at a play. -/
theorem merge_calls {F : List Int → Int} {gO : Nat} {X : Int → Prop} {w0 w : World} {gp : Nat} {f : List Value} {g : Gh} {s : St (List Int)} (h : PS w0 w gp f g) (hrep : Rep F s g) (hf : f.length = 4) (hjoin : f[2]? = some (.func (.func 20) #[] #[.pointer (some ⟨gO, 0, none⟩)])) (t : Nat) {pre : List Nat} {L : List Int} (hmi : MI pre s.cur s.views L) (hJoin : ∀ w' a b, Below w0.heap.size w0 w' → (∀ y, y ∈ a → X y) → (∀ y, y ∈ b → X y) → Calls Tryd.prog 20 #[.int .i64 (F a), .int .i64 (F b), .pointer (some ⟨gO, 0, none⟩)] w' fun e w'' => e = .returned (.int .i64 (F (a ++ b))) ∧ Below w'.heap.size w' w'') (hX : ∀ y, y ∈ L → X y)
    (hL : L.length ≤ 2097152) (hV : s.views.length ≤ 4194304) (hM : s.merges.length + s.cur.length ≤ 2097152) (hR : s.up.length ≤ 4194304) (hc : s.cur ≠ []) :
    Calls Tryd.prog 43 #[.pointer (some ⟨gp, 0, none⟩), .int .i64 (t : Int)] w fun e w' => e = .returned (.tuple #[]) ∧ ∃ g', PS w0 w' gp f g' ∧ Rep F (s.merge red t) g' := by
  obtain ⟨rs, ⟨tr, xs⟩, hr, hx, hr2, hl⟩ := hrep.last
  replace hx : xs = ints s.cur := hx
  subst hx
  have hoh := hrep.oh
  rw [hr, List.map_append] at hoh
  obtain ⟨gr, cr, hro⟩ : ∃ gr cr, g.ro = (some ⟨gr, 0, none⟩, rs.length + 1, cr) := by
    obtain ⟨g2, c2, e1, _, _⟩ := fam_at (h1 := slv_one) h.f24 0 rfl (none, 0, 0) rs.length (by rw [hoh]; simp)
    have e2 := slv_form e1
    rw [hoh, List.length_append, List.length_map] at e2
    exact ⟨g2, c2, e2⟩
  have hmem : (slv tr, ints s.cur) ∈ g.rs.map hv ++ [hv g.sp] := by rw [hr]; simp [hv]
  have hn : s.cur.length = tr.2.1 := by
    have := (Kd.R_reads' (Fam.R (h1 := fun _ => rfl) h.f3 hmem)).1
    rw [this, ints_length]
  refine (merge_walk t pre L s g rs gr rs.length cr (rs.map (·.1)) tr tr s.views.length (s.merges.length + s.cur.length) hf hjoin hJoin hX ⟨h, hrep.toRep0, hr, hro, hoh, hmi, rfl, Nat.le_refl _, Nat.le_refl _⟩ rfl (by rw [List.length_map]) (by omega) hL hV hM hn (fun w' => ∃ g', PS w0 w' gp f g' ∧ Rep F (s.merge red t) g') ?_)
  intro w' s' g' tr' hml hle
  have e1 : s' = s.merge red t := by rw [← hml.go]; exact (merge_done t s' hle).symm
  subst e1
  refine ⟨g', hml.ps, ⟨hml.rep, ?_⟩⟩
  rw [hml.hoh, hml.hrs, List.map_append]
  rfl
end Go.Proofs.YtamfkglnejhjdaaDoor.PlayState
