/- The document's run: its merge: the last row's views are joined, pick by pick. -/
import Derived.Test.YtamfkglnejhjdaaDoorRefRep
namespace Go.Proofs.YtamfkglnejhjdaaDoor.Ref
open Go.RowKit Go.Proofs.YtamfkglnejhjdaaDoorW.PrintWords Go.Proofs.YtamfkglnejhjdaaDoorW.PrintLast Go.Proofs.YtamfkglnejhjdaaDoorW.PrintMore Go.Proofs.YtamfkglnejhjdaaDoor.PHyperFold
set_option linter.unusedVariables false
set_option linter.unusedSimpArgs false

open Go.Proofs.YtamfkglnejhjdaaDoor.Play
open Go.Proofs.YtamfkglnejhjdaaDoor.PlayState (ints ints_length ints_getD ints_erase mstep mstep_len mstep_merge merge_done wrap_add)
theorem infoI64 : (Tryd.prog.info? 2).map (fun i => (i.zero, i.size, i.bytes)) = some (some (.int .i64 0), 1, 8) := by kernel_rfl
theorem infoInt : (Tryd.prog.info? 3).map (fun i => (i.zero, i.size, i.bytes)) = some (some (.int .i64 0), 1, 8) := by kernel_rfl
theorem infoMerge : (Tryd.prog.info? 103).map (fun i => (i.zero, i.size, i.bytes)) = some (some (.agg #[.int .i64 0, .int .i64 0, .int .i64 0]), 3, 24) := by kernel_rfl
theorem sizeView : (Tryd.prog.info? 66).map (·.size) = some 2 := by kernel_rfl
theorem sizeInts : (Tryd.prog.info? 24).map (·.size) = some 1 := by kernel_rfl
/-- What the run's operation does to numbers that lists stand for. -/
def JoinOk (w0 : World) (gr : Nat) (op : Int) (F : List Int → Int) (X : Int → Prop) : Prop := ∀ (w : World) (g : Gr) (a b : List Int), RS w0 w gr g → g.op = op → (∀ y, y ∈ a → X y) → (∀ y, y ∈ b → X y) →
  Calls Tryd.prog 66 #[.pointer (some ⟨gr, 0, none⟩), .int .i64 (F a), .int .i64 (F b)] w fun e w' => e = .returned (.int .i64 (F (a ++ b))) ∧ Below w.heap.size w w'
theorem JoinOk.at_ {w0 : World} {gr : Nat} {op : Int} {F : List Int → Int} {X : Int → Prop} (h : JoinOk w0 gr op F X) (w : World) (g : Gr) (a b : List Int) (h1 : RS w0 w gr g) (h2 : g.op = op) (h3 : ∀ y, y ∈ a → X y) (h4 : ∀ y, y ∈ b → X y) :
    Calls Tryd.prog 66 #[.pointer (some ⟨gr, 0, none⟩), .int .i64 (F a), .int .i64 (F b)] w fun e w' => e = .returned (.int .i64 (F (a ++ b))) ∧ Below w.heap.size w w' := h w g a b h1 h2 h3 h4
theorem MI_mem {pre row : List Nat} {vs : List (List Int)} {L : List Int} (h : MI pre row vs L) {j : Nat} (hj : j < row.length) {y : Int} (hy : y ∈ vs.getD (row.getD j 0) []) : y ∈ L := by
  have hm : row.getD j 0 ∈ pre ++ row := List.mem_append_right _ (by rw [List.getD_eq_getElem?_getD, List.getElem?_eq_getElem hj]; exact List.getElem_mem hj)
  obtain ⟨A, B, e⟩ := List.append_of_mem hm
  have hv := h.value
  rw [e, flat_append, flat_cons] at hv
  rw [← hv]
  exact List.mem_append_right _ (List.mem_append_left _ hy)
/-- A view is written where it lies. -/
theorem RS.view_put {w0 w w1 : World} {gr : Nat} {g : Gr} (h : RS w0 w gr g) {b n c : Nat} (hvo : g.vo = (some ⟨b, 0, none⟩, n, c)) {vs : List S66} (ho : k66.R 66 w1 w0.heap.size (fun _ => True) (.slice (some ⟨b, 0, none⟩) n c) vs) (hb : Below w0.heap.size w0 w1) (hg : w.grownBy w1 (some b)) : RS w0 w1 gr { g with vs := vs } := by
  have hon : Only 66 w w1 := Only.grown hg (fun k e => by injection e with e; subst e; exact typed_of h.rw.v b (by rw [hvo]; rfl))
  have h2 := h.rw.views hon (t1 := g.vo) (vs := vs) (by rw [hvo]; exact ho)
  exact h.stay (T := 66) (by decide) hon hb { g with vs := vs } rfl h2 ⟨rfl, rfl⟩
/-- A task is written where it lies. -/
theorem RS.task_put {w0 w w1 : World} {gr : Nat} {g : Gr} (h : RS w0 w gr g) {b n c : Nat} (hvo : g.tk = (some ⟨b, 0, none⟩, n, c)) {ts : List S96} (ho : k96.R 96 w1 w0.heap.size (fun _ => True) (.slice (some ⟨b, 0, none⟩) n c) ts) (hb : Below w0.heap.size w0 w1) (hg : w.grownBy w1 (some b)) : RS w0 w1 gr { g with ts := ts } := by
  have hon : Only 96 w w1 := Only.grown hg (fun k e => by injection e with e; subst e; exact typed_of h.rw.t b (by rw [hvo]; rfl))
  have h2 := h.rw.tasks hon (t1 := g.tk) (ts := ts) (by rw [hvo]; exact ho)
  exact h.stay (T := 96) (by decide) hon hb { g with ts := ts } rfl h2 ⟨rfl, rfl⟩
theorem two_cells {w : World} {b i : Nat} {x y : Value} (h0 : w.cell? ⟨b, i * 2, none⟩ = some x) (h1 : w.cell? ⟨b, i * 2 + 1, none⟩ = some y) : ∀ (j : Nat) (u : Value), [x, y][j]? = some u → w.cell? ⟨b, ((i : Nat) : Int).toNat * 2 + j, none⟩ = some u := by
  intro j u hj
  rw [Int.toNat_natCast]
  match j, hj with
  | 0, hj => injection hj with hj; subst hj; exact h0
  | 1, hj => injection hj with hj; subst hj; exact h1
theorem RS.merges_only {w0 w w1 : World} {gr : Nat} {g : Gr} (h : RS w0 w gr g) (hg : w.grownBy w1 (slv g.mo).ownBlock) : Only 103 w w1 := Only.grown hg (typed_of h.rw.m)
theorem RS.told {w0 w w1 : World} {gr : Nat} {g : Gr} (h : RS w0 w gr g) {t1 : Sl} {m : S103} (ho : k103.R 103 w1 w0.heap.size (fun _ => True) (slv t1) (g.ms ++ [m])) (hb : Below w0.heap.size w0 w1) (hg : w.grownBy w1 (slv g.mo).ownBlock) :
    RS w0 (w1.setCell ⟨gr, 9, none⟩ (slv t1)) gr { g with mo := t1, ms := g.ms ++ [m] } :=
  h.put (T := 103) (by decide) (h.merges_only hg) hb 9 _ _ rfl (h.rw.merges (h.merges_only hg) ho) ⟨rfl, rfl⟩
def R41 : Bool × List (List Nat × List Nat) := (true, [([], []), ([], []), ([1], [1]), ([2], [2]), ([3], [3]), ([], []), ([4, 5], [4, 5]), ([6], [6]), ([7], [7]), ([], []), ([9], [9]), ([10], [10]), ([11], [11]), ([], []), ([12, 13], [12, 13]), ([14], [14]), ([15], [15]), ([0, 8, 16], [0, 8, 16]), ([17, 17, 0, 1, 2, 3, 4, 5, 6, 7, 8, 9, 10, 11, 12, 13, 14, 15, 16, 17], [17])])
def R41B : List Nat := [0, 0, 2, 6, 14, 0, 62, 126, 254, 0, 512, 1536, 3584, 0, 15872, 32256, 65024, 131071, 262143]
theorem R41_tab : rtab .any (opsOf Tryd.f50 8) = R41 := by kernel_rfl
theorem R41_bits : waitsOk R41.2 R41B = true := by kernel_rfl

set_option maxHeartbeats 16000000 in
set_option maxRecDepth 100000 in
theorem merge_walk {w0 w : World} {gr : Nat} {F : List Int → Int} {op un : Int} {ps : List Int} (t : Nat) (pre : List Nat) (L : List Int) (s0 : St (List Int)) (g0 : Gr) (tl : List S96) (sp : Int) (sn V M : Nat) (X : Int → Prop)
    (hrm : RM w0 w gr F op un ps t pre L s0 s0 g0 tl sp sn V M) (hAp : JoinOk w0 gr op F X) (hX : ∀ y, y ∈ L → X y) (hk2 : tl.length ≤ 4000000) (hL : L.length ≤ 2097152) (hV : V ≤ 4194304) (hM : M ≤ 2097152) (hps : ps.length ≤ 1048576) (Pst : World → Prop)
    (hP : ∀ w' s g, RM w0 w' gr F op un ps t pre L s0 s g tl sp sn V M → s.cur.length ≤ 1 → Pst w') :
    Calls Tryd.prog 50 #[.pointer (some ⟨gr, 0, none⟩), .int .i64 (t : Int)] w fun e w' => e = .returned (.tuple #[]) ∧ Pst w' := by
  obtain ⟨k, hk⟩ : ∃ k, tl.length = k := ⟨_, rfl⟩
  rw [hk] at hk2
  have hk3 : (k : Int) ≤ 4000000 := by omega
  have HRM := Aside0.mk hrm
  have HP := Aside0.mk hP
  have HK := Aside0.mk hk
  have HLim := Aside0.mk (And.intro hL (And.intro hV (And.intro hM hps)))
  have HAp := Aside0.mk hAp
  have HX := Aside0.mk hX
  have HLast := Aside0.mk (show Calls Tryd.prog 51 #[.pointer (some ⟨gr, 0, none⟩)] w fun e w' => e = .returned (.int .i64 (k : Int)) ∧ w' = w from by
    have h1 := last_calls hrm.rs (by rw [hrm.ts, List.length_append, hk]; simp; omega)
    rw [hrm.ts, List.length_append, hk] at h1
    rw [show (((k + [(⟨sp, ints s0.cur⟩ : S96)].length : Nat) : Int) - 1) = (k : Int) by simp] at h1
    exact h1)
  clear hrm hP hk hL hV hM hps hAp hX
  have l1 : ((k : Int) < (k : Int) + 1) = True := eq_true (by omega)
  go_enter Tryd.func50, Tryd.ntmps50
  go_wp2_with fail
  refine HLast.out.mono ?_
  rintro e w' ⟨rfl, rfl⟩
  clear HLast
  go_wp2
  go_loopg [5] s0.cur.length (fun m v5 w' => Aside0 (∃ s g, s.cur.length = m ∧ RM w0 w' gr F op un ps t pre L s0 s g tl sp sn V M))
  case atStart => exact ⟨⟨s0, g0, rfl, HRM.out⟩⟩
  case round =>
    clear HRM
    obtain ⟨s, g, hsn, hrm⟩ := hrel.out
    clear hrel
    obtain ⟨n, hng⟩ : ∃ n, n = gk := ⟨_, rfl⟩
    rw [← hng] at hsn
    have HNG := Aside0.mk hng
    clear hng
    have htl : g.ts.length = k + 1 := by rw [hrm.ts, List.length_append, HK.out]; rfl
    obtain ⟨tb, tc, A, c, htk, _, y3, yf, hRow⟩ := hrm.rs.task_R k (by omega)
    rw [show g.ts.getD k z96 = ⟨sp, ints s.cur⟩ by rw [hrm.ts, ← HK.out]; simp] at y3 hRow
    simp only at y3 hRow
    rw [ints_length, hsn] at y3 hRow
    rw [htl] at htk
    have x3 : wr.cell? ⟨gr, 3, none⟩ = some (.slice (some ⟨tb, 0, none⟩) (k + 1) tc) := by rw [hrm.rs.cell.2.2.2.1, htk]; rfl
    by_cases hn : 1 < n
    · have hd1 : decide (1 < n) = true := decide_eq_true hn
      have hd2 : decide ((1 : Int) < (n : Int)) = true := decide_eq_true (by omega)
      obtain ⟨j, hj⟩ : ∃ j, j = pickOf s.picks (n - 1) := ⟨_, rfl⟩
      have hjl : j + 1 < n := by
        have := pick_lt s.picks (n - 2)
        rw [show n - 2 + 1 = n - 1 from by omega] at this
        omega
      obtain ⟨xa, hxa⟩ : ∃ x, x = s.cur.getD j 0 := ⟨_, rfl⟩
      obtain ⟨xb, hxb⟩ : ∃ x, x = s.cur.getD (j + 1) 0 := ⟨_, rfl⟩
      have hla : xa < s.views.length := by rw [hxa]; exact hrm.mi.lt (by omega)
      have hlb : xb < s.views.length := by rw [hxb]; exact hrm.mi.lt (by omega)
      have hlen := hrm.mi.len (j := j) (by omega)
      rw [← hxa, ← hxb] at hlen
      obtain ⟨ya, hya⟩ : ∃ y, y = s.views.getD xa [] := ⟨_, rfl⟩
      obtain ⟨yb, hyb⟩ : ∃ y, y = s.views.getD xb [] := ⟨_, rfl⟩
      have hXa : ∀ y, y ∈ ya → X y := fun y hy => HX.out y (MI_mem hrm.mi (j := j) (by omega) (by rw [← hxa, ← hya]; exact hy))
      have hXb : ∀ y, y ∈ yb → X y := fun y hy => HX.out y (MI_mem hrm.mi (j := j + 1) (by omega) (by rw [← hxb, ← hyb]; exact hy))
      rw [← hya, ← hyb] at hlen
      obtain ⟨gi, hgi⟩ : ∃ gi, A = some ⟨gi, 0, none⟩ := by
        obtain ⟨g2, c2, e1, _⟩ := Kd.R_form hRow (by rw [ints_length, hsn]; omega)
        injection e1 with e1
        exact ⟨g2, e1⟩
      subst hgi
      have hnc : n ≤ c := by have := (Kd.R_reads' hRow).2.1; omega
      have hvl := hrm.rep.views_len
      have hmsl : g.ms.length ≤ 2097152 := by have := hrm.hM; have := HLim.out.2.2.1; rw [hrm.rep.ms, List.length_map]; omega
      have HPick := Aside0.mk (fun y hy => pick_at hrm.rs (n - 1) (by omega) (by have := hrm.hM; have := HLim.out.2.2.1; omega) (by rw [hrm.rep.pl]; exact HLim.out.2.2.2) hrm.rep.nx y hy)
      rw [hrm.rep.ps, ← hj] at HPick
      obtain ⟨vn, hvn⟩ : ∃ vn, g.vs.length = vn := ⟨_, rfl⟩
      have HRow := Aside0.mk hRow
      have HRM := Aside0.mk hrm
      have HSN := Aside0.mk hsn
      have HJJ := Aside0.mk hj
      have HXX := Aside0.mk (And.intro hxa hxb)
      have HY := Aside0.mk (And.intro hya hyb)
      have HXY := Aside0.mk (And.intro hXa hXb)
      have HLen := Aside0.mk hlen
      have HTK := Aside0.mk htk
      have HVn := Aside0.mk hvn
      have HML := Aside0.mk hmsl
      have hj2 : (j : Int) ≤ 4194304 := by have := hrm.hM; have := HLim.out.2.2.1; omega
      have hnb : (n : Int) ≤ 4194304 := by have := hrm.hM; have := HLim.out.2.2.1; omega
      have hxa2 : (xa : Int) ≤ 4194304 := by have := hrm.hV; have := HLim.out.2.1; omega
      have hxb2 : (xb : Int) ≤ 4194304 := by have := hrm.hV; have := HLim.out.2.1; omega
      have hlav : xa < vn := by omega
      have hlbv : xb < vn := by omega
      have la1 : ((xa : Int) < (vn : Int)) = True := eq_true (by omega)
      have lb1 : ((xb : Int) < (vn : Int)) = True := eq_true (by omega)
      have lj1 : ((j : Int) < (n : Int)) = True := eq_true (by omega)
      have lj2 : ((j : Int) + 1 < (n : Int)) = True := eq_true (by omega)
      have HOp := Aside0.mk (show (picked g).op = op from hrm.rep.op)
      have HLV := Aside0.mk (And.intro hlav hlbv)
      obtain ⟨i0, hi0, hz1⟩ : ∃ i, Tryd.prog.info? 3 = some i ∧ i.size = 1 := by
        have h := infoInt
        cases e : Tryd.prog.info? 3 with
        | none => rw [e] at h; cases h
        | some i => rw [e] at h; injection h with h; injection h with _ h; injection h with h _; exact ⟨i, rfl, h⟩
      have hsl1 := cut_to (P := Tryd.prog) 24 3 .i64 Tryd.underlying24 hi0 (some ⟨gi, 0, none⟩) n c ((j : Int) + 1) (by omega) (by omega) hnc
      rw [show ((j : Int) + 1).toNat = j + 1 by omega] at hsl1
      obtain ⟨Q, hQ, hsl2⟩ : ∃ Q : Option Addr, (Q = if c = j + 1 + 1 then some ⟨gi, 0, none⟩ else (some (⟨gi, 0, none⟩ : Addr)).map (·.add ((j + 1 + 1) * (Kd.int .i64).sz))) ∧ ∀ W : World, (Instr.slice 24 (.slice (some ⟨gi, 0, none⟩) n c) (some (.int .i64 ((j : Int) + 2))) none none).run Tryd.prog W = .ok (.slice Q (n - (j + 1 + 1)) (c - (j + 1 + 1))) W := by
        refine ⟨_, rfl, fun W => ?_⟩
        have h := cut_from (P := Tryd.prog) 24 3 .i64 Tryd.underlying24 hi0 1 hz1 (some ⟨gi, 0, none⟩) n c ((j : Int) + 2) (by omega) (by omega) W
        rw [show ((j : Int) + 2).toNat = j + 1 + 1 from by omega] at h
        exact h
      have HQ := Aside0.mk hQ
      have HSL := Aside0.mk (And.intro hsl1 hsl2)
      clear hsl1 hsl2 hQ hi0 hz1
      clear hrm hRow hsn hj hxa hxb hya hyb hXa hXb hlen htk hvn hmsl hla hlb hvl htl hlav hlbv
      go_wp2_with fail
      refine (HPick.out _ (by omega)).mono ?_
      rintro e w1 ⟨rfl, hrs1, ho1⟩
      have HRS1 := Aside0.mk hrs1
      clear HPick x3 y3 yf
      have hRow1 := R_only HRow.out (T := 70) (by intro q hq; simp [Kd.int, Kd.scalar] at hq; subst hq; decide) ho1
      obtain ⟨cj1, _⟩ := Kd.R_celln (0 : Int) hRow1 (j : Int) (by omega) (by omega)
      obtain ⟨cj2, _⟩ := Kd.R_celln (0 : Int) hRow1 ((j : Int) + 1) (by omega) (by omega)
      rw [Int.toNat_natCast, show rdOf 0 (ints s.cur) (j : Int) = (xa : Int) by unfold rdOf; rw [Int.toNat_natCast, ints_getD, ← HXX.out.1]] at cj1
      rw [show ((j : Int) + 1).toNat = j + 1 by omega, show rdOf 0 (ints s.cur) ((j : Int) + 1) = (xb : Int) by unfold rdOf; rw [show ((j : Int) + 1).toNat = j + 1 by omega, ints_getD, ← HXX.out.2]] at cj2
      have HRow1 := Aside0.mk hRow1
      have hvp : (picked g).vs = g.vs := rfl
      obtain ⟨vb, vc, aA, ac, hvo, za, na, hRa⟩ := hrs1.view_R xa (by rw [hvp, HVn.out]; exact HLV.out.1)
      obtain ⟨vb2, vc2, bA, bc, hvo2, zb, nb, hRb⟩ := hrs1.view_R xb (by rw [hvp, HVn.out]; exact HLV.out.2)
      rw [hvo] at hvo2
      injection hvo2 with e1 e2
      injection e2 with _ e2
      injection e1 with e1
      injection e1 with e1
      subst e1 e2
      have hga : g.vs.getD xa z66 = vS F ya := by rw [HRM.out.rep.view (by have := HLV.out.1; have := HRM.out.rep.views_len; have := HVn.out; omega), ← HY.out.1]
      have hgb : g.vs.getD xb z66 = vS F yb := by rw [HRM.out.rep.view (by have := HLV.out.2; have := HRM.out.rep.views_len; have := HVn.out; omega), ← HY.out.2]
      rw [hvp, hga] at za na hRa
      rw [hvp, hgb] at zb nb hRb
      rw [hvp, HVn.out] at hvo
      replace za : w1.cell? ⟨vb, xa * 2, none⟩ = some (.slice aA ya.length ac) := za
      replace na : w1.cell? ⟨vb, xa * 2 + 1, none⟩ = some (.int .i64 (F ya)) := na
      replace zb : w1.cell? ⟨vb, xb * 2, none⟩ = some (.slice bA yb.length bc) := zb
      replace nb : w1.cell? ⟨vb, xb * 2 + 1, none⟩ = some (.int .i64 (F yb)) := nb
      have x2 : w1.cell? ⟨gr, 2, none⟩ = some (.slice (some ⟨vb, 0, none⟩) vn vc) := by rw [hrs1.cell.2.2.1, hvo]; rfl
      have HCa := Aside0.mk (Kd.R_reads' hRa).2.2
      have HCb := Aside0.mk (Kd.R_reads' hRb).2.2
      have HVO := Aside0.mk hvo
      have HBlk := Aside0.mk (show vb < w1.heap.size ∧ gr < w1.heap.size from by
        obtain ⟨cells, hc⟩ := typed_of hrs1.rw.v vb (by rw [hvo]; rfl)
        exact ⟨blk_lt hc, blk_lt hrs1.bp⟩)
      have HC := Aside0.mk (And.intro x2 (And.intro za (And.intro zb (And.intro na nb))))
      clear hRow1 hrs1 ho1 hRa hRb hga hgb hvp hvo
      go_upto_region 6 with fail
      clear cj1 cj2
      obtain ⟨hb1, hb2⟩ := HBlk.out
      go_upto_region 7 with (first | ((with_reducible refine gate_builtin (b := .append) (xs := #[.tmp 46, .tmp 54]) rfl ?_); at_builtin; refine Kd.R_append_rows (Kd.int .i64) (w0 := w1) w1.heap.size rfl (.tmp 46) (.tmp 54) 36 2 (.int .i64 0) 8 rfl Tryd.underlying36 infoI64 rfl (by decide) (by omega) (.slice (some ⟨w1.heap.size, 0, none⟩) 0 0) [] ya _ _ _ (fun _ => True) (fun _ => False) rfl rfl ?aO ?aR (fun _ _ h => h) (fun _ h => h.elim) ?aF ?aB ?aS ?aL ?_; (case aO => exact R_lit0 _ _ _); (case aR => exact Kd.C_alloc HCa.out _); (case aF => exact fun _ _ => trivial); (case aB => exact below_alloc (Below.refl _ _) _); (case aS => simp); (case aL => have := HLen.out; have := HLim.out.1; simp only [List.length_nil]; omega); intro v2 w2 ho hb hg hat; obtain ⟨A2, c2, rfl, _, _⟩ := Kd.R_reads ho; have HA := Aside0.mk ho; have HBA := Aside0.mk hb; clear ho hb hg hat))
      replace HA : Aside0 ((Kd.int .i64).R 2 w2 w1.heap.size (fun _ => True) (.slice A2 ([] ++ ya).length c2) ya) := HA
      have x2' : w2.cell? ⟨gr, 2, none⟩ = some (.slice (some ⟨vb, 0, none⟩) vn vc) := (HBA.out.cell (p := ⟨gr, 2, none⟩) HBlk.out.2).trans HC.out.1
      have zb' : w2.cell? ⟨vb, xb * 2, none⟩ = some (.slice bA yb.length bc) := (HBA.out.cell (p := ⟨vb, xb * 2, none⟩) HBlk.out.1).trans HC.out.2.2.1
      clear x2 za zb na nb hb1 hb2
      go_upto_region 8 with (first | ((with_reducible refine gate_builtin (b := .append) (xs := #[.tmp 56, .tmp 64]) rfl ?_); at_builtin; refine Kd.R_append_rows (Kd.int .i64) (w0 := w1) w1.heap.size rfl (.tmp 56) (.tmp 64) 36 2 (.int .i64 0) 8 rfl Tryd.underlying36 infoI64 rfl (by decide) (by omega) (.slice A2 ya.length c2) ya yb _ _ _ (fun _ => True) (fun _ => False) rfl rfl ?aO ?aR (fun _ _ h => h) (fun _ h => h.elim) ?aF ?aB ?aS ?aL ?_; (case aO => exact HA.out); (case aR => exact Kd.C_below HCb.out HBA.out); (case aF => exact fun _ _ => trivial); (case aB => exact HBA.out); (case aS => exact HBA.out.size); (case aL => have := HLen.out; have := HLim.out.1; omega); intro v3 w3 ho hb hg hat; obtain ⟨A3, c3, rfl, _, _⟩ := Kd.R_reads ho; have HA3 := Aside0.mk ho; have HB3 := Aside0.mk hb; clear ho hb hg hat))
      clear x2' zb'
      have HC3 := Aside0.mk (show ∀ w', Below w3.heap.size w3 w' → w'.cell? ⟨gr, 2, none⟩ = some (.slice (some ⟨vb, 0, none⟩) vn vc) ∧ w'.cell? ⟨vb, xa * 2 + 1, none⟩ = some (.int .i64 (F ya)) ∧ w'.cell? ⟨vb, xb * 2 + 1, none⟩ = some (.int .i64 (F yb)) from fun w' hb => by
        have hs := HB3.out.size
        have hq : ∀ b i, b < w1.heap.size → w'.cell? ⟨b, i, none⟩ = w1.cell? ⟨b, i, none⟩ := fun b i hlt => (hb.cell (p := ⟨b, i, none⟩) (Nat.lt_of_lt_of_le hlt hs)).trans (HB3.out.cell (p := ⟨b, i, none⟩) hlt)
        exact ⟨(hq _ _ HBlk.out.2).trans HC.out.1, (hq _ _ HBlk.out.1).trans HC.out.2.2.2.1, (hq _ _ HBlk.out.1).trans HC.out.2.2.2.2⟩)
      refine start_ (n := 19) (S := (fun w' => w'.cell? ⟨gr, 2, none⟩ = some (.slice (some ⟨vb, 0, none⟩) vn vc) ∧ w'.cell? ⟨vb, xa * 2 + 1, none⟩ = some (.int .i64 (F ya)) ∧ w'.cell? ⟨vb, xb * 2 + 1, none⟩ = some (.int .i64 (F yb)))) (ds := [18]) #[false, false, false, false, false, false, false, false, false, false, false, false, false, false, false, false, false, false, false] (by kernel_rfl) rfl rfl (HC3.out w3 (Below.refl _ _)) (fun hHeld => ?_); refine with_tabW R41_tab R41_bits (fun HT_ HW_ => ?_)
      have HB3b := Aside0.mk (show Below w3.heap.size w3 w3.drew from Drawn0.below ⟨⟨1, rfl⟩⟩)
      generalize w3.drew = w3b at HB3b hHeld ⊢
      refine pure_ (i := 0) (N := some 66) (v := ?_) (a' := ?_) #[true, false, false, false, false, false, false, false, false, false, false, false, false, false, false, false, false, false, false] rfl rfl (any_of HT_.out (by kernel_rfl)) (fun _ _ _ h => h) (Or.inl ⟨by rfl, ?_⟩) ?_ ?_
      rotate_left
      · intro w'
        go_simp
        with_reducible rfl
      rotate_left
      · simp only [Act.put, List.setIfInBounds_toArray, List.set_cons_zero, List.set_cons_succ, i64_w, i32_w]
        rfl
      refine pure_ (i := 1) (N := some 67) (v := ?_) (a' := ?_) #[true, true, false, false, false, false, false, false, false, false, false, false, false, false, false, false, false, false, false] rfl rfl (any_of HT_.out (by kernel_rfl)) (fun _ _ _ h => h) (Or.inl ⟨by rfl, ?_⟩) ?_ ?_
      rotate_left
      · intro w'
        go_simp
        with_reducible rfl
      rotate_left
      · simp only [Act.put, List.setIfInBounds_toArray, List.set_cons_zero, List.set_cons_succ, i64_w, i32_w]
        rfl
      refine pure_ (i := 2) (N := some 68) (v := ?_) (a' := ?_) #[true, true, true, false, false, false, false, false, false, false, false, false, false, false, false, false, false, false, false] rfl rfl (any_of HT_.out (by kernel_rfl)) (fun _ _ _ h => h) (Or.inl ⟨by rfl, ?_⟩) ?_ ?_
      rotate_left
      · intro w'
        go_simp
        with_reducible rfl
      rotate_left
      · simp only [Act.put, List.setIfInBounds_toArray, List.set_cons_zero, List.set_cons_succ, i64_w, i32_w]
        rfl
      refine pure_ (i := 3) (N := some 69) (v := ?_) (a' := ?_) #[true, true, true, true, false, false, false, false, false, false, false, false, false, false, false, false, false, false, false] rfl rfl (any_of HT_.out (by kernel_rfl)) (fun _ _ _ h => h) (Or.inl ⟨by rfl, ?_⟩) ?_ ?_
      rotate_left
      · intro w'
        go_simp
        with_reducible rfl
      rotate_left
      · simp only [Act.put, List.setIfInBounds_toArray, List.set_cons_zero, List.set_cons_succ, i64_w, i32_w]
        rfl
      refine take_ (i := 4) (N := some 70) (v := ?_) (a' := ?_) #[true, true, true, true, true, false, false, false, false, false, false, false, false, false, false, false, false, false, false] rfl rfl (take_ofW HT_.out HW_.out (by kernel_rfl)) (fun _ _ _ h => h) (Or.inl ⟨by rfl, ?_⟩) hHeld ?_ ?_
      rotate_left
      · rintro w' ⟨s0, s1, s2⟩
        go_simp
        with_reducible rfl
      rotate_left
      · simp only [Act.put, List.setIfInBounds_toArray, List.set_cons_zero, List.set_cons_succ, i64_w, i32_w]
        rfl
      refine pure_ (i := 5) (N := some 71) (v := ?_) (a' := ?_) #[true, true, true, true, true, true, false, false, false, false, false, false, false, false, false, false, false, false, false] rfl rfl (any_of HT_.out (by kernel_rfl)) (fun _ _ _ h => h) (Or.inl ⟨by rfl, ?_⟩) ?_ ?_
      rotate_left
      · intro w'
        go_simp
        with_reducible rfl
      rotate_left
      · simp only [Act.put, List.setIfInBounds_toArray, List.set_cons_zero, List.set_cons_succ, i64_w, i32_w]
        rfl
      refine pure_ (i := 6) (N := some 72) (v := ?_) (a' := ?_) #[true, true, true, true, true, true, true, false, false, false, false, false, false, false, false, false, false, false, false] rfl rfl (any_of HT_.out (by kernel_rfl)) (fun _ _ _ h => h) (Or.inl ⟨by rfl, ?_⟩) ?_ ?_
      rotate_left
      · intro w'
        go_simp
        with_reducible rfl
      rotate_left
      · simp only [Act.put, List.setIfInBounds_toArray, List.set_cons_zero, List.set_cons_succ, i64_w, i32_w]
        rfl
      refine pure_ (i := 7) (N := some 73) (v := ?_) (a' := ?_) #[true, true, true, true, true, true, true, true, false, false, false, false, false, false, false, false, false, false, false] rfl rfl (any_of HT_.out (by kernel_rfl)) (fun _ _ _ h => h) (Or.inl ⟨by rfl, ?_⟩) ?_ ?_
      rotate_left
      · intro w'
        go_simp
        with_reducible rfl
      rotate_left
      · simp only [Act.put, List.setIfInBounds_toArray, List.set_cons_zero, List.set_cons_succ, i64_w, i32_w]
        rfl
      refine take_ (i := 8) (N := some 74) (v := ?_) (a' := ?_) #[true, true, true, true, true, true, true, true, true, false, false, false, false, false, false, false, false, false, false] rfl rfl (take_ofW HT_.out HW_.out (by kernel_rfl)) (fun _ _ _ h => h) (Or.inl ⟨by rfl, ?_⟩) hHeld ?_ ?_
      rotate_left
      · rintro w' ⟨s0, s1, s2⟩
        go_simp
        with_reducible rfl
      rotate_left
      · simp only [Act.put, List.setIfInBounds_toArray, List.set_cons_zero, List.set_cons_succ, i64_w, i32_w]
        rfl
      refine pure_ (i := 9) (N := some 75) (v := ?_) (a' := ?_) #[true, true, true, true, true, true, true, true, true, true, false, false, false, false, false, false, false, false, false] rfl rfl (any_of HT_.out (by kernel_rfl)) (fun _ _ _ h => h) (Or.inl ⟨by rfl, ?_⟩) ?_ ?_
      rotate_left
      · intro w'
        go_simp
        with_reducible rfl
      rotate_left
      · simp only [Act.put, List.setIfInBounds_toArray, List.set_cons_zero, List.set_cons_succ, i64_w, i32_w]
        rfl
      refine pure_ (i := 10) (N := some 76) (v := ?_) (a' := ?_) #[true, true, true, true, true, true, true, true, true, true, true, false, false, false, false, false, false, false, false] rfl rfl (any_of HT_.out (by kernel_rfl)) (fun _ _ _ h => h) (Or.inl ⟨by rfl, ?_⟩) ?_ ?_
      rotate_left
      · intro w'
        go_simp
        with_reducible rfl
      rotate_left
      · simp only [Act.put, List.setIfInBounds_toArray, List.set_cons_zero, List.set_cons_succ, i64_w, i32_w]
        rfl
      refine pure_ (i := 11) (N := some 77) (v := ?_) (a' := ?_) #[true, true, true, true, true, true, true, true, true, true, true, true, false, false, false, false, false, false, false] rfl rfl (any_of HT_.out (by kernel_rfl)) (fun _ _ _ h => h) (Or.inl ⟨by rfl, ?_⟩) ?_ ?_
      rotate_left
      · intro w'
        go_simp
        with_reducible rfl
      rotate_left
      · simp only [Act.put, List.setIfInBounds_toArray, List.set_cons_zero, List.set_cons_succ, i64_w, i32_w]
        rfl
      refine take_ (i := 12) (N := some 78) (v := ?_) (a' := ?_) #[true, true, true, true, true, true, true, true, true, true, true, true, true, false, false, false, false, false, false] rfl rfl (take_ofW HT_.out HW_.out (by kernel_rfl)) (fun _ _ _ h => h) (Or.inl ⟨by rfl, ?_⟩) hHeld ?_ ?_
      rotate_left
      · rintro w' ⟨s0, s1, s2⟩
        go_simp
        with_reducible rfl
      rotate_left
      · simp only [Act.put, List.setIfInBounds_toArray, List.set_cons_zero, List.set_cons_succ, i64_w, i32_w]
        rfl
      refine pure_ (i := 13) (N := some 79) (v := ?_) (a' := ?_) #[true, true, true, true, true, true, true, true, true, true, true, true, true, true, false, false, false, false, false] rfl rfl (any_of HT_.out (by kernel_rfl)) (fun _ _ _ h => h) (Or.inl ⟨by rfl, ?_⟩) ?_ ?_
      rotate_left
      · intro w'
        go_simp
        with_reducible rfl
      rotate_left
      · simp only [Act.put, List.setIfInBounds_toArray, List.set_cons_zero, List.set_cons_succ, i64_w, i32_w]
        rfl
      refine pure_ (i := 14) (N := some 80) (v := ?_) (a' := ?_) #[true, true, true, true, true, true, true, true, true, true, true, true, true, true, true, false, false, false, false] rfl rfl (any_of HT_.out (by kernel_rfl)) (fun _ _ _ h => h) (Or.inl ⟨by rfl, ?_⟩) ?_ ?_
      rotate_left
      · intro w'
        go_simp
        with_reducible rfl
      rotate_left
      · simp only [Act.put, List.setIfInBounds_toArray, List.set_cons_zero, List.set_cons_succ, i64_w, i32_w]
        rfl
      refine pure_ (i := 15) (N := some 81) (v := ?_) (a' := ?_) #[true, true, true, true, true, true, true, true, true, true, true, true, true, true, true, true, false, false, false] rfl rfl (any_of HT_.out (by kernel_rfl)) (fun _ _ _ h => h) (Or.inl ⟨by rfl, ?_⟩) ?_ ?_
      rotate_left
      · intro w'
        go_simp
        with_reducible rfl
      rotate_left
      · simp only [Act.put, List.setIfInBounds_toArray, List.set_cons_zero, List.set_cons_succ, i64_w, i32_w]
        rfl
      refine take_ (i := 16) (N := some 82) (v := ?_) (a' := ?_) #[true, true, true, true, true, true, true, true, true, true, true, true, true, true, true, true, true, false, false] rfl rfl (take_ofW HT_.out HW_.out (by kernel_rfl)) (fun _ _ _ h => h) (Or.inl ⟨by rfl, ?_⟩) hHeld ?_ ?_
      rotate_left
      · rintro w' ⟨s0, s1, s2⟩
        go_simp
        with_reducible rfl
      rotate_left
      · simp only [Act.put, List.setIfInBounds_toArray, List.set_cons_zero, List.set_cons_succ, i64_w, i32_w]
        rfl
      refine one_ (i := 17) (N := some 83) #[true, true, true, true, true, true, true, true, true, true, true, true, true, true, true, true, true, true, false] rfl rfl (one_of HT_.out (by kernel_rfl)) (by decide) (fun K hK => ?_)
      refine goes_ Tryd.func66 (by kernel_rfl) rfl #[.pointer (some ⟨gr, 0, none⟩), .int .i64 (F ya), .int .i64 (F yb)] (by rfl) rfl rfl (by (try simp only [List.map_toArray, List.map_cons, List.map_nil]); first | done | rfl) ?_
      with_reducible refine (HAp.out.at_ w3b (picked g) ya yb ((HRS1.out.below HB3.out).below HB3b.out) HOp.out HXY.out.1 HXY.out.2).mono ?_
      rintro e w4 ⟨rfl, hd⟩
      have HB4 := Aside0.mk (below_step HB3b.out hd)
      clear hd
      refine ⟨_, rfl, ?_⟩
      refine hK.out _ _ (HC3.out w4 HB4.out) (fun hHeld => ?_)
      clear hK K
      refine norm_ (a' := ?_) ?_ ?_
      rotate_left
      · show Act.put _ (some 83) _ = _
        simp only [Act.put, List.setIfInBounds_toArray, List.set_cons_zero, List.set_cons_succ, i64_w, i32_w]
        rfl
      refine pure_ (i := 18) (N := some 10) (v := ?_) (a' := ?_) #[true, true, true, true, true, true, true, true, true, true, true, true, true, true, true, true, true, true, true] rfl rfl (any_of HT_.out (by kernel_rfl)) (fun _ _ _ h => h) (Or.inl ⟨by rfl, ?_⟩) ?_ ?_
      rotate_left
      · intro w'
        go_simp
        with_reducible rfl
      rotate_left
      · simp only [Act.put, List.setIfInBounds_toArray, List.set_cons_zero, List.set_cons_succ, i64_w, i32_w]
        rfl
      refine done_ (done_of HT_.out (by kernel_rfl)) ?_
      clear HT_ HW_ hHeld
      have HRS4 := Aside0.mk ((HRS1.out.below HB3.out).below HB4.out)
      have HB14 := Aside0.mk (show Below w1.heap.size w1 w4 from below_step HB3.out HB4.out)
      have hA4 := Kd.R_below HA3.out HB4.out
      rw [List.length_append] at hA4
      have HA4 := Aside0.mk hA4
      clear hA4 HA HA3
      have x2 : w4.cell? ⟨gr, 2, none⟩ = some (.slice (some ⟨vb, 0, none⟩) vn vc) := (HC3.out w4 HB4.out).1
      have za : w4.cell? ⟨vb, xa * 2, none⟩ = some (.slice aA ya.length ac) := (HB14.out.cell (p := ⟨vb, xa * 2, none⟩) HBlk.out.1).trans HC.out.2.1
      have na : w4.cell? ⟨vb, xa * 2 + 1, none⟩ = some (.int .i64 (F ya)) := (HC3.out w4 HB4.out).2.1
      have HZN := Aside0.mk (And.intro za na)
      clear za na
      go_upto_region 10 with (first | ((with_reducible refine gate_store (t := 66) (p := 92) (v := .tmp 91) rfl ?_); refine Kd.R_store k66 (w0 := w0) w0.heap.size rfl rfl 66 (.tmp 92) (.tmp 91) rfl 66 (g := vb) (n := vn) (cap := vc) (o' := xa * 2) (xa : Int) 0 g.vs (vS F (ya ++ yb)) (.agg #[.slice A3 (ya.length + yb.length) c3, .int .i64 (F (ya ++ yb))]) [.slice A3 (ya.length + yb.length) c3, .int .i64 (F (ya ++ yb))] [.slice aA ya.length ac, .int .i64 (F ya)] (fun _ => True) (fun q => q ≠ vb) rfl ?hoff rfl rfl sizeView ?h1 ?HO ?h0 ?hi rfl (two_cells HZN.out.1 HZN.out.2) (show 2 ≤ 2 from Nat.le_refl 2) ?hM ?hokp ?HB ?_; (case hoff => rw [Int.toNat_natCast]; rfl); (case h1 => intro q hq; simp at hq; rcases hq with rfl | rfl <;> rfl); (case HO => have h := HRS4.out.rw.v; rw [HVO.out] at h; exact h); (case h0 => omega); (case hi => have := HLV.out.1; omega); (case hM => exact k66_mkM w4 w0.heap.size (fun q => q ≠ vb) (vS F (ya ++ yb)) (Kd.R_mono (Kd.R_lower (Kd.R_bound HA4.out) (HRS1.out.hb.size)) (fun q hq e => by have := hq.2.1; have := HBlk.out.1; omega))); (case hokp => exact fun q hq => ⟨trivial, hq⟩); (case HB => exact HRS4.out.hb); intro w5 ho hb hg; have HG5 := Aside0.mk (And.intro ho (And.intro hb hg)); clear ho hb hg))
      obtain ⟨ho5, hb5, hg5⟩ := HG5.out
      rw [Int.toNat_natCast] at ho5
      have hrs5 := HRS4.out.view_put HVO.out ho5 hb5 hg5
      have hon5 : Only 66 w4 w5 := Only.grown hg5 (fun q e => by injection e with e; subst e; exact typed_of HRS4.out.rw.v vb (by rw [HVO.out]; rfl))
      have HRS5 := Aside0.mk hrs5
      have hRow5 := R_only (Kd.R_below HRow1.out HB14.out) (T := 66) (by intro q hq; simp [Kd.int, Kd.scalar] at hq; subst hq; decide) hon5
      have hC5 := (Kd.R_reads' hRow5).2.2
      obtain ⟨t1, ht1⟩ : ∃ t1, t1 = (ints s.cur).take (j + 1) := ⟨_, rfl⟩
      obtain ⟨t2, ht2⟩ : ∃ t2, t2 = (ints s.cur).drop (j + 1 + 1) := ⟨_, rfl⟩
      have hl1 : t1.length = j + 1 := by rw [ht1, List.length_take, ints_length, HSN.out]; omega
      have hl2 : t2.length = n - (j + 1 + 1) := by rw [ht2, List.length_drop, ints_length, HSN.out]
      have hCt := Kd.C_take hC5 (m := j + 1) (by rw [ints_length, HSN.out]; omega)
      rw [← ht1, hl1] at hCt
      have hCd := Kd.C_drop hC5 (m := j + 1 + 1) (c := c) (by rw [ints_length, HSN.out]; omega) (by rw [ints_length, HSN.out]; omega)
      rw [← ht2, hl2, ← HQ.out] at hCd
      have HCT := Aside0.mk hCt
      have HCD := Aside0.mk hCd
      have HT12 := Aside0.mk (And.intro ht1 ht2)
      have HL12 := Aside0.mk (And.intro hl1 hl2)
      clear ho5 hb5 hg5 hrs5 hon5 hRow5 hC5 ht1 ht2 hl1 hl2 hCt hCd x2 HG5
      obtain ⟨hsl1, hsl2⟩ := HSL.out
      go_upto_region 11 with (first | ((with_reducible refine gate_builtin (b := .append) (xs := #[.tmp 93, .tmp 97]) rfl ?_); at_builtin; refine Kd.R_append_rows (Kd.int .i64) (w0 := w5) w5.heap.size rfl (.tmp 93) (.tmp 97) 24 3 (.int .i64 0) 8 rfl Tryd.underlying24 infoInt rfl (by decide) (by omega) (.slice (some ⟨w5.heap.size, 0, none⟩) 0 0) [] t1 _ _ _ (fun _ => True) (fun _ => False) rfl rfl ?aO ?aR (fun _ _ h => h) (fun _ h => h.elim) ?aF ?aB ?aS ?aL ?_; (case aO => exact R_lit0 _ _ _); (case aR => exact Kd.C_alloc HCT.out _); (case aF => exact fun _ _ => trivial); (case aB => exact below_alloc (Below.refl _ _) _); (case aS => simp); (case aL => simp only [List.length_nil]; omega); intro v6 w6 ho hb hg hat; obtain ⟨A6, c6, rfl, _, _⟩ := Kd.R_reads ho; have HA6 := Aside0.mk ho; have HB6 := Aside0.mk hb; clear ho hb hg hat))
      replace HA6 : Aside0 ((Kd.int .i64).R 3 w6 w5.heap.size (fun _ => True) (.slice A6 t1.length c6) t1) := HA6
      go_upto_region 12 with (first | ((with_reducible refine gate_builtin (b := .append) (xs := #[.tmp 99, .tmp 103]) rfl ?_); at_builtin; refine Kd.R_append_rows (Kd.int .i64) (w0 := w5) w5.heap.size rfl (.tmp 99) (.tmp 103) 24 3 (.int .i64 0) 8 rfl Tryd.underlying24 infoInt rfl (by decide) (by omega) (.slice A6 t1.length c6) t1 t2 _ _ _ (fun _ => True) (fun _ => False) rfl rfl ?aO ?aR (fun _ _ h => h) (fun _ h => h.elim) ?aF ?aB ?aS ?aL ?_; (case aO => exact HA6.out); (case aR => exact Kd.C_below HCD.out HB6.out); (case aF => exact fun _ _ => trivial); (case aB => exact HB6.out); (case aS => exact HB6.out.size); (case aL => have := HL12.out.1; omega); intro v7 w7 ho hb hg hat; obtain ⟨A7, c7, rfl, _, _⟩ := Kd.R_reads ho; have HA7 := Aside0.mk ho; have HB7 := Aside0.mk hb; clear ho hb hg hat))
      clear hsl1 hsl2
      have hA7 := HA7.out
      rw [List.length_append] at hA7
      replace HA7 := Aside0.mk hA7
      clear hA7
      have HRS7 := Aside0.mk (HRS5.out.below HB7.out)
      obtain ⟨tb2, tc2, A2', c2', htk2, y2, y3, _, _⟩ := HRS7.out.task_R k (by show k < g.ts.length; rw [HRM.out.ts, List.length_append, HK.out]; simp)
      have htk3 : g.tk = (some ⟨tb2, 0, none⟩, g.ts.length, tc2) := htk2
      rw [HTK.out] at htk3
      injection htk3 with e1 e2
      injection e1 with e1
      injection e1 with e1
      injection e2 with e2 e3
      subst e1 e3
      have hgt : g.ts.getD k z96 = ⟨sp, ints s.cur⟩ := by rw [HRM.out.ts, ← HK.out]; simp
      replace y2 : w7.cell? ⟨tb, k * 2, none⟩ = some (.int .i64 (g.ts.getD k z96).f0) := y2
      replace y3 : w7.cell? ⟨tb, k * 2 + 1, none⟩ = some (.slice A2' (g.ts.getD k z96).f1.length c2') := y3
      rw [hgt] at y2 y3
      replace y2 : w7.cell? ⟨tb, k * 2, none⟩ = some (.int .i64 sp) := y2
      replace y3 : w7.cell? ⟨tb, k * 2 + 1, none⟩ = some (.slice A2' (ints s.cur).length c2') := y3
      have HYY := Aside0.mk (And.intro y2 y3)
      have HTB := Aside0.mk (show tb < w5.heap.size from by
        obtain ⟨cells, hc⟩ := typed_of HRS5.out.rw.t tb (by show (slv g.tk).ownBlock = _; rw [HTK.out]; rfl)
        exact blk_lt hc)
      have x3 : w7.cell? ⟨gr, 3, none⟩ = some (.slice (some ⟨tb, 0, none⟩) (k + 1) tc) := by rw [HRS7.out.cell.2.2.2.1]; show some (slv g.tk) = _; rw [HTK.out]; rfl
      clear htk2 e2 hgt y2 y3
      go_upto_region 13 with (first | ((with_reducible refine gate_store (t := 24) (p := 112) (v := .tmp 110) rfl ?_); refine Kd.R_store k96 (w0 := w0) w0.heap.size rfl rfl 24 (.tmp 112) (.tmp 110) rfl 96 (g := tb) (n := k + 1) (cap := tc) (o' := k * 2 + 1) (k : Int) 1 g.ts ⟨sp, t1 ++ t2⟩ (.slice A7 (t1.length + t2.length) c7) [.slice A7 (t1.length + t2.length) c7] [.int .i64 sp, .slice A2' (ints s.cur).length c2'] (fun _ => True) (fun q => q ≠ tb) rfl ?hoff rfl rfl sizeInts ?h1 ?HO ?h0 ?hi rfl (two_cells HYY.out.1 HYY.out.2) (show 2 ≤ 2 from Nat.le_refl 2) ?hM ?hokp ?HB ?_; (case hoff => rw [Int.toNat_natCast]; rfl); (case h1 => intro q hq; simp at hq; rcases hq with rfl; rfl); (case HO => have h := HRS7.out.rw.t; replace h : k96.R 96 w7 w0.heap.size (fun _ => True) (slv g.tk) g.ts := h; rw [HTK.out] at h; exact h); (case h0 => omega); (case hi => omega); (case hM => exact k96_mkM w7 w0.heap.size (fun q => q ≠ tb) ⟨sp, t1 ++ t2⟩ (Kd.R_mono (Kd.R_lower (Kd.R_bound HA7.out) (HRS5.out.hb.size)) (fun q hq e => by have := hq.2.1; have := HTB.out; omega))); (case hokp => exact fun q hq => ⟨trivial, hq⟩); (case HB => exact HRS7.out.hb); intro w8 ho hb hg; have HG8 := Aside0.mk (And.intro ho (And.intro hb hg)); clear ho hb hg))
      obtain ⟨ho8, hb8, hg8⟩ := HG8.out
      rw [Int.toNat_natCast] at ho8
      have hrs8 := HRS7.out.task_put HTK.out ho8 hb8 hg8
      have hset : g.ts.set k ⟨sp, t1 ++ t2⟩ = tl ++ [⟨sp, (ints s.cur).eraseIdx (j + 1)⟩] := by
        rw [HRM.out.ts, List.set_append_right _ _ (by have := HK.out; omega), HK.out, Nat.sub_self, HT12.out.1, HT12.out.2, List.eraseIdx_eq_take_drop_succ]
        rfl
      rw [hset] at hrs8
      have HRS8 := Aside0.mk hrs8
      obtain ⟨⟨mA, mn, mc⟩, hmo⟩ : ∃ t : Sl, g.mo = t := ⟨_, rfl⟩
      have HMo := Aside0.mk hmo
      have x9 : w8.cell? ⟨gr, 9, none⟩ = some (.slice mA mn mc) := by rw [hrs8.cell.2.2.2.2.2.2.2.1]; show some (slv g.mo) = _; rw [hmo]; rfl
      clear ho8 hb8 hg8 hrs8 hset hmo x3 HG8
      go_wp2_with (first | ((with_reducible refine gate_builtin (b := .append) (xs := #[.tmp 118, .tmp 123]) rfl ?_); at_builtin; refine Kd.R_append k103 (w0 := w0) w0.heap.size rfl (.tmp 118) (.tmp 123) 38 103 (.agg #[.int .i64 0, .int .i64 0, .int .i64 0]) 24 rfl Tryd.underlying38 infoMerge rfl (by decide) (by omega) (.slice mA mn mc) g.ms ⟨(t : Int), (xa : Int), (xb : Int)⟩ [.int .i64 (t : Int), .int .i64 (xa : Int), .int .i64 (xb : Int)] (fun _ => True) (fun _ => False) rfl rfl ?aP (fun _ hk => hk.elim) ?aF ?aO ?aB ?aS ?aL ?_; (case aP => exact k103_mkM _ _ _ _); (case aB => exact HRS8.out.hb); (case aF => exact fun _ _ => trivial); (case aO => have h := HRS8.out.rw.m; replace h : k103.R 103 w8 w0.heap.size (fun _ => True) (slv g.mo) g.ms := h; rw [HMo.out] at h; exact h); (case aS => exact below_size HRS8.out.hb); (case aL => have := HML.out; omega); intro v9 w9 ho hb hg hat; obtain ⟨A9, c9, rfl, _, _⟩ := Kd.R_reads ho; have HG9 := Aside0.mk (And.intro ho (And.intro hb hg)); have hbp9 := (HRS8.out.merges_only (by show w8.grownBy w9 (slv g.mo).ownBlock; rw [HMo.out]; exact hg)) gr _ _ HRS8.out.bp (by decide); have hz9 := blk_frozen hbp9 9; have hx9 : w9.cell? ⟨gr, 9, none⟩ = some (.slice mA mn mc) := (blk_cell hbp9 9).trans (by show some (slv g.mo) = _; rw [HMo.out]; rfl); clear hbp9 ho hb hg hat))
      have hv := HRS8.out.told (t1 := (A9, (g.ms ++ [(⟨(t : Int), (xa : Int), (xb : Int)⟩ : S103)]).length, c9)) HG9.out.1 HG9.out.2.1 (by show w8.grownBy w9 (slv g.mo).ownBlock; rw [HMo.out]; exact HG9.out.2.2)
      rw [show (g.ms ++ [(⟨(t : Int), (xa : Int), (xb : Int)⟩ : S103)]).length = g.ms.length + 1 by simp] at hv
      have hF := HRM.out.step HSN.out hn HJJ.out HXX.out.1 HXX.out.2 HY.out.1 HY.out.2 hjl (vo := g.vo) (tk := g.tk) (mo := (A9, g.ms.length + 1, c9)) hv
      have HF := Aside0.mk (And.intro (show (mstep t s).cur.length = n - 1 by rw [mstep_len t s (by have := HSN.out; omega), HSN.out]) hF)
      clear hv hF hz9 hx9 x9
      go_roundg (n - 1)
      case measure => have := HNG.out; omega
      case rel => exact ⟨⟨mstep t s, _, HF.out.1, HF.out.2⟩⟩
    · have hd1 : decide (1 < n) = false := decide_eq_false hn
      have hd2 : decide ((1 : Int) < (n : Int)) = false := decide_eq_false (by omega)
      have hle : (n : Int) ≤ 1 := by omega
      have HRM := Aside0.mk hrm
      have HSN := Aside0.mk hsn
      clear hrm hsn hRow htk htl hn
      go_wp2
      go_end0
      exact ⟨rfl, HP.out _ s g HRM.out (by have := HSN.out; omega)⟩
/-- The run's merge, at a play. -/
theorem merge_calls {w0 w : World} {gr : Nat} {F : List Int → Int} {op un : Int} {ps : List Int} {s : St (List Int)} {g : Gr} (h : RS w0 w gr g) (hrep : RepR F op un ps s g) (t : Nat) {pre : List Nat} {L : List Int} (hmi : MI pre s.cur s.views L) {X : Int → Prop} (hAp : JoinOk w0 gr op F X) (hX : ∀ y, y ∈ L → X y)
    (hL : L.length ≤ 2097152) (hV : s.views.length ≤ 4194304) (hM : s.merges.length + s.cur.length ≤ 2097152) (hR : s.up.length ≤ 4000000) (hps : ps.length ≤ 1048576) :
    Calls Tryd.prog 50 #[.pointer (some ⟨gr, 0, none⟩), .int .i64 (t : Int)] w fun e w' => e = .returned (.tuple #[]) ∧ ∃ g', RS w0 w' gr g' ∧ RepR F op un ps (s.merge red t) g' ∧ g'.sn = g.sn ∧ g'.ts.map (fun t : S96 => t.f0) = g.ts.map (fun t : S96 => t.f0) := by
  obtain ⟨tl, sp, hts, htl, hl⟩ := hrep.last
  refine merge_walk t pre L s g tl sp g.sn s.views.length (s.merges.length + s.cur.length) X ⟨h, hrep, hts, rfl, hmi, rfl, Nat.le_refl _, Nat.le_refl _⟩ hAp hX (by omega) hL hV hM hps (fun w' => ∃ g', RS w0 w' gr g' ∧ RepR F op un ps (s.merge red t) g' ∧ g'.sn = g.sn ∧ g'.ts.map (fun t : S96 => t.f0) = g.ts.map (fun t : S96 => t.f0)) ?_
  intro w' s' g' hrm hle
  have e1 : s' = s.merge red t := by rw [← hrm.go]; exact (merge_done t s' hle).symm
  subst e1
  exact ⟨g', hrm.rs, hrm.rep, hrm.sn, by rw [hrm.ts, hts, List.map_append, List.map_append]; rfl⟩
end Go.Proofs.YtamfkglnejhjdaaDoor.Ref
