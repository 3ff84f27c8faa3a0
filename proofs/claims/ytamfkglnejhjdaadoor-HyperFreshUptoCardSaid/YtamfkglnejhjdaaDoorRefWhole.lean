/- The document's run, whole: its beginning, its deeds, its end. -/
import Derived.Test.YtamfkglnejhjdaaDoorPHyperFoldx0
import Derived.Test.YtamfkglnejhjdaaDoorPlayPure
import Derived.Test.YtamfkglnejhjdaaDoorBitMath
import Derived.Deep.DeepCutAuto
import Derived.Test.YtamfkglnejhjdaaDoorWShort
import Derived.Test.YtamfkglnejhjdaaDoorPlayB
import Derived.Test.YtamfkglnejhjdaaDoorQuietCall
import Derived.Test.YtamfkglnejhjdaaDoorPlayC
namespace Go.Proofs.YtamfkglnejhjdaaDoor.Ref
open Go.Proofs.YtamfkglnejhjdaaDoorW.PrintLast (pA pS tS lb sI sZ sC)
open Go.RowKit Go.Proofs.YtamfkglnejhjdaaDoorW.PrintWords Go.Proofs.YtamfkglnejhjdaaDoorW.PrintLast Go.Proofs.YtamfkglnejhjdaaDoorW.PrintMore Go.Proofs.YtamfkglnejhjdaaDoor.PHyperFold
set_option linter.unusedVariables false
set_option linter.unusedSimpArgs false

def Only (T : Nat) (w w1 : World) : Prop := ∀ (k : Nat) (cs : Array Value) (t : Nat), w.heap[k]? = some (Obj.cells cs t (0, 0)) → t ≠ T → w1.heap[k]? = some (Obj.cells cs t (0, 0))
theorem Only.refl (T : Nat) (w : World) : Only T w w := fun _ _ _ h _ => h
theorem Only.trans {T : Nat} {a b c : World} (h : Only T a b) (k : Only T b c) : Only T a c := fun _ _ _ h1 h2 => k _ _ _ (h _ _ _ h1 h2) h2
theorem Only.below {T : Nat} {w w1 : World} (h : Below w.heap.size w w1) : Only T w w1 := fun _ _ _ h1 _ => blk_below h1 h
theorem Only.grown {T : Nat} {w w1 : World} {row : Option Nat} (hg : w.grownBy w1 row) (hty : ∀ b, row = some b → ∃ cells, w.heap[b]? = some (.cells cells T (0, 0))) : Only T w w1 := fun k cs t h1 h2 => by
 refine (hg.block k (blk_lt h1) (fun e => ?_)).trans h1
 obtain ⟨cells, h3⟩ := hty k e.symm
 rw [h1] at h3
 injection h3 with h3
 injection h3 with _ h3
 exact h2 h3
theorem Only.set {w : World} {T b i : Nat} {u : Value} {cells : Array Value} (h : w.heap[b]? = some (.cells cells T (0, 0))) : Only T w (w.setCell ⟨b, i, none⟩ u) := fun k cs t h1 h2 => by
 refine (Below.heap_setCell w ⟨b, i, none⟩ u k (fun e => ?_)).trans h1
 subst e
 rw [h] at h1
 injection h1 with h1
 injection h1 with _ h1
 exact h2 h1.symm
theorem R_only {α : Type} {d : Kd α} {e base T : Nat} {ok : Nat → Prop} {w w1 : World} {v : Value} {xs : List α} (h : d.R e w base ok v xs) (hT : ∀ q, q ∈ e :: d.E → q ≠ T) (ho : Only T w w1) : d.R e w1 base ok v xs :=
 Kd.R_mono (Kd.R_step (Kd.R_bound h) (fun k hk _ => by
  obtain ⟨_, _, _, q, hq, cells, hc⟩ := hk
  rw [hc]
  exact ho k cells q hc (hT q hq))) (fun _ hk => hk.1)
theorem typed_of {α : Type} {d : Kd α} {e base : Nat} {ok : Nat → Prop} {w : World} {v : Value} {xs : List α} (h : d.R e w base ok v xs) : ∀ b, v.ownBlock = some b → ∃ cells, w.heap[b]? = some (.cells cells e (0, 0)) := Kd.R_typed h

abbrev Sl := Option Addr × Nat × Nat
def slv (t : Sl) : Value := .slice t.1 t.2.1 t.2.2
abbrev kL : Kd (List Int) := Kd.slice 2 (Kd.int .i64)
structure Gr where
 op : Int
 un : Int
 vo : Sl
 tk : Sl
 po : Sl
 nx : Nat
 sn : Nat
 fo : Sl
 md : Int
 mo : Sl
 lo : Sl
 vs : List S66
 ts : List S96
 ps : List Int
 ms : List S103
 ls : List (List Int)
def cells (g : Gr) : Array Value := #[.int .i64 g.op, .int .i64 g.un, slv g.vo, slv g.tk, slv g.po, .int .i64 g.nx, .int .i64 g.sn, slv g.fo, .int .i64 g.md, slv g.mo, slv g.lo]
structure Rows (w : World) (base : Nat) (g : Gr) : Prop where
 v : k66.R 66 w base (fun _ => True) (slv g.vo) g.vs
 t : k96.R 96 w base (fun _ => True) (slv g.tk) g.ts
 m : k103.R 103 w base (fun _ => True) (slv g.mo) g.ms
 l : kL.R 36 w base (fun _ => True) (slv g.lo) g.ls
structure RS (w0 w : World) (gr : Nat) (g : Gr) : Prop where
 hb : Below w0.heap.size w0 w
 bp : w.heap[gr]? = some (.cells (cells g) 70 (0, 0))
 ge : w0.heap.size ≤ gr
 rw : Rows w w0.heap.size g
 pk : (Kd.int .i64).C w0 g.po.1 g.ps.length g.ps ∧ g.po.2.1 = g.ps.length ∧ g.ps.length ≤ g.po.2.2
theorem E_v : ∀ q, q ∈ (66 : Nat) :: k66.E → q = 66 ∨ q = 2 := fun q hq => by simpa [k66, Kd.iso, Kd.pair, Kd.slice, Kd.int, Kd.scalar] using hq
theorem E_t : ∀ q, q ∈ (96 : Nat) :: k96.E → q = 96 ∨ q = 3 := fun q hq => by simpa [k96, Kd.iso, Kd.pair, Kd.slice, Kd.int, Kd.scalar] using hq
theorem E_m : ∀ q, q ∈ (103 : Nat) :: k103.E → q = 103 := fun q hq => by simpa [k103, Kd.iso, Kd.pair, Kd.slice, Kd.int, Kd.scalar] using hq
theorem E_l : ∀ q, q ∈ (36 : Nat) :: kL.E → q = 36 ∨ q = 2 := fun q hq => by simpa [kL, Kd.iso, Kd.pair, Kd.slice, Kd.int, Kd.scalar] using hq
section
variable {w0 w w1 : World} {gr base T : Nat} {g g2 : Gr}
theorem v_only (h : k66.R 66 w base (fun _ => True) (slv g.vo) g.vs) (hT : T ≠ 66 ∧ T ≠ 2) (ho : Only T w w1) : k66.R 66 w1 base (fun _ => True) (slv g.vo) g.vs := R_only h (fun q hq => by rcases E_v q hq with rfl | rfl <;> first | exact hT.1.symm | exact hT.2.symm) ho
theorem t_only (h : k96.R 96 w base (fun _ => True) (slv g.tk) g.ts) (hT : T ≠ 96 ∧ T ≠ 3) (ho : Only T w w1) : k96.R 96 w1 base (fun _ => True) (slv g.tk) g.ts := R_only h (fun q hq => by rcases E_t q hq with rfl | rfl <;> first | exact hT.1.symm | exact hT.2.symm) ho
theorem m_only (h : k103.R 103 w base (fun _ => True) (slv g.mo) g.ms) (hT : T ≠ 103) (ho : Only T w w1) : k103.R 103 w1 base (fun _ => True) (slv g.mo) g.ms := R_only h (fun q hq => by rw [E_m q hq]; exact hT.symm) ho
theorem l_only (h : kL.R 36 w base (fun _ => True) (slv g.lo) g.ls) (hT : T ≠ 36 ∧ T ≠ 2) (ho : Only T w w1) : kL.R 36 w1 base (fun _ => True) (slv g.lo) g.ls := R_only h (fun q hq => by rcases E_l q hq with rfl | rfl <;> first | exact hT.1.symm | exact hT.2.symm) ho
theorem Rows.run (h : Rows w base g) (ho : Only 70 w w1) : Rows w1 base g := ⟨v_only h.v (by decide) ho, t_only h.t (by decide) ho, m_only h.m (by decide) ho, l_only h.l (by decide) ho⟩
theorem Rows.below (h : Rows w base g) (hb : Below w.heap.size w w1) : Rows w1 base g := h.run (Only.below hb)
theorem RS.below (h : RS w0 w gr g) (hb : Below w.heap.size w w1) : RS w0 w1 gr g := ⟨below_step h.hb hb, blk_below h.bp hb, h.ge, h.rw.below hb, h.pk⟩
theorem RS.put (h : RS w0 w gr g) (hT : 70 ≠ T) (ho : Only T w w1) (hb : Below w0.heap.size w0 w1) (i : Nat) (u : Value) (g2 : Gr) (hc : (cells g).setIfInBounds i u = cells g2) (hr : Rows w1 w0.heap.size g2) (hp : g2.po = g.po ∧ g2.ps = g.ps) : RS w0 (w1.setCell ⟨gr, i, none⟩ u) gr g2 := by
 have bp1 := ho gr _ _ h.bp hT
 exact ⟨hb.setCell (p := ⟨gr, i, none⟩) h.ge _, blk_put bp1 i u hc, h.ge, hr.run (Only.set bp1), by rw [hp.1, hp.2]; exact h.pk⟩
theorem RS.num (h : RS w0 w gr g) (i : Nat) (u : Value) (g2 : Gr) (hc : (cells g).setIfInBounds i u = cells g2) (hr : Rows w w0.heap.size g2) (hp : g2.po = g.po ∧ g2.ps = g.ps) : RS w0 (w.setCell ⟨gr, i, none⟩ u) gr g2 :=
 h.put (T := 0) (by decide) (Only.refl 0 w) h.hb i u g2 hc hr hp
theorem RS.stay (h : RS w0 w gr g) (hT : 70 ≠ T) (ho : Only T w w1) (hb : Below w0.heap.size w0 w1) (g2 : Gr) (hc : cells g = cells g2) (hr : Rows w1 w0.heap.size g2) (hp : g2.po = g.po ∧ g2.ps = g.ps) : RS w0 w1 gr g2 :=
 ⟨hb, by rw [← hc]; exact ho gr _ _ h.bp hT, h.ge, hr, by rw [hp.1, hp.2]; exact h.pk⟩
theorem Rows.views (h : Rows w base g) (ho : Only 66 w w1) {t1 : Sl} {vs : List S66} (hv : k66.R 66 w1 base (fun _ => True) (slv t1) vs) : Rows w1 base { g with vo := t1, vs := vs } := ⟨hv, t_only h.t (by decide) ho, m_only h.m (by decide) ho, l_only h.l (by decide) ho⟩
theorem Rows.tasks (h : Rows w base g) (ho : Only 96 w w1) {t1 : Sl} {ts : List S96} (hv : k96.R 96 w1 base (fun _ => True) (slv t1) ts) : Rows w1 base { g with tk := t1, ts := ts } := ⟨v_only h.v (by decide) ho, hv, m_only h.m (by decide) ho, l_only h.l (by decide) ho⟩
theorem Rows.merges (h : Rows w base g) (ho : Only 103 w w1) {t1 : Sl} {ms : List S103} (hv : k103.R 103 w1 base (fun _ => True) (slv t1) ms) : Rows w1 base { g with mo := t1, ms := ms } := ⟨v_only h.v (by decide) ho, t_only h.t (by decide) ho, hv, l_only h.l (by decide) ho⟩
theorem Rows.looks (h : Rows w base g) (ho : Only 36 w w1) {t1 : Sl} {ls : List (List Int)} (hv : kL.R 36 w1 base (fun _ => True) (slv t1) ls) : Rows w1 base { g with lo := t1, ls := ls } := ⟨v_only h.v (by decide) ho, t_only h.t (by decide) ho, m_only h.m (by decide) ho, hv⟩
theorem RS.cell (h : RS w0 w gr g) : w.cell? ⟨gr, 0, none⟩ = some (.int .i64 g.op) ∧ w.cell? ⟨gr, 1, none⟩ = some (.int .i64 g.un) ∧ w.cell? ⟨gr, 2, none⟩ = some (slv g.vo) ∧ w.cell? ⟨gr, 3, none⟩ = some (slv g.tk) ∧ w.cell? ⟨gr, 4, none⟩ = some (slv g.po) ∧
  w.cell? ⟨gr, 5, none⟩ = some (.int .i64 g.nx) ∧ w.cell? ⟨gr, 6, none⟩ = some (.int .i64 g.sn) ∧ w.cell? ⟨gr, 9, none⟩ = some (slv g.mo) ∧ w.cell? ⟨gr, 10, none⟩ = some (slv g.lo) :=
 ⟨(blk_cell h.bp 0).trans rfl, (blk_cell h.bp 1).trans rfl, (blk_cell h.bp 2).trans rfl, (blk_cell h.bp 3).trans rfl, (blk_cell h.bp 4).trans rfl, (blk_cell h.bp 5).trans rfl, (blk_cell h.bp 6).trans rfl, (blk_cell h.bp 9).trans rfl, (blk_cell h.bp 10).trans rfl⟩
theorem R_header {α : Type} {d : Kd α} {e : Nat} {ok : Nat → Prop} {t : Sl} {xs : List α} (h : d.R e w base ok (slv t) xs) : t.2.1 = xs.length ∧ xs.length ≤ t.2.2 ∧ d.C w t.1 xs.length xs := by
 obtain ⟨A, c, e1, h1, h2⟩ := Kd.R_reads h
 obtain ⟨a, b, d'⟩ := t
 injection e1 with e1 e2 e3
 subst e1 e2 e3
 exact ⟨rfl, h1, h2⟩
theorem R_head {α : Type} {d : Kd α} {e : Nat} {ok : Nat → Prop} {t : Sl} {xs : List α} (h : d.R e w base ok (slv t) xs) (hx : 0 < xs.length) : ∃ b, t.1 = some ⟨b, 0, none⟩ ∧ base ≤ b ∧ b < w.heap.size ∧ ∃ cells, w.heap[b]? = some (.cells cells e (0, 0)) := by
 obtain ⟨b, c, e1, _, _, _, _⟩ := Kd.R_form h hx
 obtain ⟨a, n, d'⟩ := t
 injection e1 with e1 e2 e3
 subst e1
 obtain ⟨cells, hc⟩ := Kd.R_typed h b rfl
 exact ⟨b, rfl, Kd.R_base h b rfl, blk_lt hc, cells, hc⟩
end
end Go.Proofs.YtamfkglnejhjdaaDoor.Ref
namespace Go.Proofs.YtamfkglnejhjdaaDoor.Ref
open Go.Proofs.YtamfkglnejhjdaaDoorW.PrintLast (pA pS tS lb sI sZ sC)
open Go.RowKit Go.Proofs.YtamfkglnejhjdaaDoorW.PrintWords Go.Proofs.YtamfkglnejhjdaaDoorW.PrintLast Go.Proofs.YtamfkglnejhjdaaDoorW.PrintMore Go.Proofs.YtamfkglnejhjdaaDoor.PHyperFold
set_option linter.unusedVariables false
set_option linter.unusedSimpArgs false

theorem add0 (b m : Nat) : (⟨b, 0, none⟩ : Addr).add m = ⟨b, m, none⟩ := by unfold Addr.add; split <;> simp_all
section
variable {w0 w w1 : World} {gr base T : Nat} {g g2 : Gr}
theorem RS.task_at (h : RS w0 w gr g) (k : Nat) (hk : k < g.ts.length) : ∃ b c A1 c1, w.cell? ⟨gr, 3, none⟩ = some (.slice (some ⟨b, 0, none⟩) g.ts.length c) ∧ g.tk = (some ⟨b, 0, none⟩, g.ts.length, c) ∧ w.cell? ⟨b, k * 2, none⟩ = some (.int .i64 (g.ts.getD k z96).f0) ∧
  w.cell? ⟨b, k * 2 + 1, none⟩ = some (.slice A1 (g.ts.getD k z96).f1.length c1) ∧ (g.ts.getD k z96).f1.length ≤ c1 ∧ (Kd.int .i64).C w A1 (g.ts.getD k z96).f1.length (g.ts.getD k z96).f1 ∧ w.frozen? ⟨b, k * 2 + 1, none⟩ = false ∧ ∃ cells, w.heap[b]? = some (.cells cells 96 (0, 0)) := by
 obtain ⟨e1, e2, e3⟩ := R_header h.rw.t
 obtain ⟨b, e4, _, _, cells, hc⟩ := R_head h.rw.t (by omega)
 obtain ⟨ad, A1, c1, e5, x1, x2, l1, C1⟩ := at_T96 e3 (k : Int) (by omega) (by omega)
 rw [e4] at e5
 injection e5 with e5
 subst e5
 have hs : g.tk = (some ⟨b, 0, none⟩, g.ts.length, g.tk.2.2) := by rw [← e4, ← e1]
 rw [Int.toNat_natCast, add0] at x1 x2
 refine ⟨b, g.tk.2.2, A1, c1, ?_, hs, ?_, ?_, l1, C1, blk_frozen hc _, cells, hc⟩
 ·rw [h.cell.2.2.2.1]; exact congrArg some (by show Value.slice g.tk.1 g.tk.2.1 g.tk.2.2 = _; rw [e4, e1])
 ·simpa [rd_T96] using x1
 ·simpa [rd_T96] using x2
end
set_option maxHeartbeats 4000000 in
set_option maxRecDepth 100000 in
theorem last_calls {w0 w : World} {gr : Nat} {g : Gr} (h : RS w0 w gr g) (hl : g.ts.length ≤ 4194304) :
  Calls Tryd.prog 51 #[.pointer (some ⟨gr, 0, none⟩)] w fun e w' => e = .returned (.int .i64 ((g.ts.length : Int) - 1)) ∧ w' = w := by
 obtain ⟨A, n, c, hx, hn⟩ : ∃ A n c, w.cell? ⟨gr, 3, none⟩ = some (.slice A n c) ∧ n = g.ts.length := ⟨_, _, _, h.cell.2.2.2.1, (R_header h.rw.t).1⟩
 subst hn
 have hl2 : (g.ts.length : Int) ≤ 4194304 := by omega
 have hw : wrap64 ((g.ts.length : Int) - 1) = (g.ts.length : Int) - 1 := BitMath.wrap_id (by unfold BitMath.In64; omega)
 clear h hl
 go_enter Tryd.func51, Tryd.ntmps51
 go_wp2
 go_ret
 exact ⟨by first | rfl | rw [hw], rfl⟩
def R45 : Bool × List (List Nat × List Nat) := (true, [([], []), ([0], [0]), ([1], [1]), ([2], [2]), ([], []), ([4], [4]), ([3, 5], [3, 5]), ([6], [6]), ([7], [7]), ([8, 5, 0, 1, 2, 3, 4, 5, 6, 7, 8], [8])])
def R45B : List Nat := [0, 1, 3, 7, 0, 16, 63, 127, 255, 511]
theorem R45_tab : rtab .any (opsOf Tryd.f65 1) = R45 := by kernel_rfl
theorem R45_bits : waitsOk R45.2 R45B = true := by kernel_rfl

set_option maxHeartbeats 8000000 in
set_option maxRecDepth 100000 in
theorem hand_calls {w0 w : World} {gr : Nat} {g : Gr} (h : RS w0 w gr g) {tl : List S96} {x : S96} (ht : g.ts = tl ++ [x]) (hx : 0 < x.f1.length) (hx2 : x.f1.length ≤ 4194304) (hl : g.ts.length ≤ 4194304) :
  Calls Tryd.prog 65 #[.pointer (some ⟨gr, 0, none⟩)] w fun e w' => e = .returned (.int .i64 (x.f1.getD (x.f1.length - 1) 0)) ∧ Drawn0 w w' := by
 obtain ⟨k, hk⟩ : ∃ k, tl.length = k := ⟨_, rfl⟩
 have hlen : g.ts.length = k + 1 := by rw [ht, List.length_append, hk]; rfl
 have hget : g.ts.getD k z96 = x := by rw [ht, ← hk]; simp
 obtain ⟨b, c, A1, c1, y1, y2, _, y3, _, yC, _, _⟩ := h.task_at k (by omega)
 rw [hget] at y3 yC
 rw [hlen] at y1 y2
 obtain ⟨ad, rfl, yx⟩ := (Kd.reads_of_C (d := (0 : Int)) yC).at_ ((x.f1.length : Int) - 1) (by omega) (by omega)
 obtain ⟨n, hn⟩ : ∃ n, x.f1.length = n + 1 := ⟨x.f1.length - 1, by omega⟩
 have HV := Aside0.mk (show rdOf 0 x.f1 ((x.f1.length : Int) - 1) = x.f1.getD (x.f1.length - 1) 0 by unfold rdOf; congr 1; omega)
 have HL := Aside0.mk hl
 have HW := Aside0.mk h
 rw [HV.out] at yx
 rw [hn] at y3 yx hx2 ⊢
 rw [show ((((n + 1 : Nat) : Int) - 1).toNat) = n by omega] at yx
 obtain ⟨v, hv⟩ : ∃ v, x.f1.getD (n + 1 - 1) 0 = v := ⟨_, rfl⟩
 rw [hv] at yx ⊢
 have HYX := Aside0.mk yx
 have HLen := Aside0.mk (show (g.ts.length : Int) - 1 = (k : Int) by omega)
 have hk4 : (k : Int) ≤ 4194304 := by omega
 have hn4 : (n : Int) + 1 ≤ 4194304 := by omega
 have l1 : ((k : Int) < (k : Int) + 1) = True := eq_true (by omega)
 have l2 : ((n : Int) < (n : Int) + 1) = True := eq_true (by omega)
 have hw2 : wrap64 ((n : Int) + 1 - 1) = (n : Int) := by rw [BitMath.wrap_id (by unfold BitMath.In64; omega)]; omega
 have hw4 : wrap64 (n : Int) = (n : Int) := BitMath.wrap_id (by unfold BitMath.In64; omega)
 clear h ht hx hx2 hl hk hlen hget y2 hn HV hv yx yC
 go_enter Tryd.func65, Tryd.ntmps65
 go_upto_region 1 with fail
 refine start_ (n := 10) (S := (fun w' => w'.cell? ⟨gr, 3, none⟩ = some (.slice (some ⟨b, 0, none⟩) (k + 1) c) ∧ w'.cell? ⟨b, k * 2 + 1, none⟩ = some (.slice (some ad) (n + 1) c1))) (ds := [9]) (lb 10 0) (by kernel_rfl) rfl rfl ⟨y1, y3⟩ (fun hHeld => ?_); refine with_tabW R45_tab R45_bits (fun HT_ HW_ => ?_)
 have HW2 := Aside0.mk (HW.out.below (Drawn0.below (w := w) (w' := w.drew) ⟨⟨1, rfl⟩⟩))
 have HX2 := Aside0.mk (show w.drew.cell? (ad.add n) = some (.int .i64 v) from HYX.out)
 have HD2 := Aside0.mk (show Drawn0 w w.drew from ⟨⟨1, rfl⟩⟩)
 have HS2 := Aside0.mk (show w.drew.cell? ⟨gr, 3, none⟩ = some (.slice (some ⟨b, 0, none⟩) (k + 1) c) ∧ w.drew.cell? ⟨b, k * 2 + 1, none⟩ = some (.slice (some ad) (n + 1) c1) from ⟨y1, y3⟩)
 clear HW HYX y1 y3
 generalize w.drew = w2 at HW2 HX2 HD2 HS2 hHeld ⊢
 refine pS 0 4 1 10 HT_.out ?_
 refine pS 1 5 3 10 HT_.out ?_
 refine pS 2 6 7 10 HT_.out ?_
 refine pS 4 8 23 10 HT_.out ?_
 refine tS 3 7 31 10 HT_.out HW_.out hHeld ?_
 refine one_ (i := 5) (N := some 9) (lb 10 63) rfl rfl (one_of HT_.out (by kernel_rfl)) (by decide) (fun K hK => ?_)
 refine goes_ Tryd.func51 (by kernel_rfl) rfl #[.pointer (some ⟨gr, 0, none⟩)] (by rfl) rfl rfl (by (try simp only [List.map_toArray, List.map_cons, List.map_nil]); first | done | rfl) ?_
 with_reducible refine (last_calls HW2.out HL.out).mono ?_
 rintro e w3 ⟨rfl, rfl⟩
 rw [HLen.out]
 refine ⟨_, rfl, ?_⟩
 refine hK.out _ _ HS2.out (fun hHeld => ?_)
 clear hK K
 refine norm_ (a' := ?_) ?_ ?_
 rotate_left
 ·show Act.put _ (some 9) _ = _
  simp only [Act.put, sI, sZ, sC, i64_w, i32_w]
  rfl
 refine pS 6 10 127 10 HT_.out ?_
 refine pS 7 11 255 10 HT_.out ?_
 refine tS 8 12 511 10 HT_.out HW_.out hHeld ?_
 refine pS 9 3 1023 10 HT_.out ?_
 refine done_ (done_of HT_.out (by kernel_rfl)) ?_
 clear HT_ HW_ hHeld

 have yx := HX2.out
 go_wp2
 go_ret
 exact ⟨rfl, HD2.out⟩
end Go.Proofs.YtamfkglnejhjdaaDoor.Ref
namespace Go.Proofs.YtamfkglnejhjdaaDoor.Ref
open Go.Proofs.YtamfkglnejhjdaaDoorW.PrintLast (pA pS tS lb sI sZ sC)
open Go.RowKit Go.Proofs.YtamfkglnejhjdaaDoorW.PrintWords Go.Proofs.YtamfkglnejhjdaaDoorW.PrintLast Go.Proofs.YtamfkglnejhjdaaDoorW.PrintMore Go.Proofs.YtamfkglnejhjdaaDoor.PHyperFold
set_option linter.unusedVariables false
set_option linter.unusedSimpArgs false

theorem pick_eq (x : Int) (n : Nat) (hn : 0 < n) (hn2 : n ≤ 4194304) : (if x.tmod n < 0 then wrap64 (x.tmod n + n) else x.tmod n) = ((x % (n : Int)).toNat : Int) := by
 have h1 := Int.emod_nonneg x (b := (n : Int)) (by omega)
 have h2 := Int.emod_lt_of_pos x (b := (n : Int)) (by omega)
 have h3 := Int.tmod_eq_emod (a := x) (b := (n : Int))
 split
 ·rename_i h
  split at h3
  ·omega
  ·rw [BitMath.wrap_id (by unfold BitMath.In64; omega)]; omega
 ·rename_i h
  split at h3 <;> omega
def R47a : Bool × List (List Nat × List Nat) := (true, [([], []), ([0], [0]), ([1], [1]), ([2], [2]), ([], []), ([4], [4]), ([5], [5]), ([6], [6]), ([7], [7]), ([3, 8], [3, 8])])
def R47aB : List Nat := [0, 1, 3, 7, 0, 16, 48, 112, 240, 511]
theorem R47a_tab : rtab .any (opsOf Tryd.f67 2) = R47a := by kernel_rfl
theorem R47a_bits : waitsOk R47a.2 R47aB = true := by kernel_rfl
def R47b : Bool × List (List Nat × List Nat) := (true, [([], []), ([0], [0]), ([1], [1]), ([2], [2]), ([], []), ([4], [4]), ([5], [5]), ([6], [6]), ([3, 7], [3, 7]), ([8], [8]), ([9, 0, 1, 2, 3, 4, 5, 6, 7, 8, 9], [9])])
def R47bB : List Nat := [0, 1, 3, 7, 0, 16, 48, 112, 255, 511, 1023]
theorem R47b_tab : rtab .any (opsOf Tryd.f67 3) = R47b := by kernel_rfl
theorem R47b_bits : waitsOk R47b.2 R47bB = true := by kernel_rfl

def picked (g : Gr) : Gr := { g with nx := if g.nx < g.ps.length then g.nx + 1 else g.nx }
set_option maxHeartbeats 8000000 in
set_option maxRecDepth 100000 in
theorem pick_calls {w0 w : World} {gr : Nat} {g : Gr} (h : RS w0 w gr g) (n : Nat) (hn : 0 < n) (hn2 : n ≤ 4194304) (hp : g.ps.length ≤ 1048576) (hnx : g.nx ≤ g.ps.length) :
  Calls Tryd.prog 67 #[.pointer (some ⟨gr, 0, none⟩), .int .i64 n] w fun e w' => e = .returned (.int .i64 (Play.pickOf (g.ps.drop g.nx) n)) ∧ RS w0 w' gr (picked g) ∧ Only 70 w w' := by
 obtain ⟨pA, pc, hpo, hC⟩ : ∃ pA pc, g.po = (pA, g.ps.length, pc) ∧ (Kd.int .i64).C w pA g.ps.length g.ps := ⟨g.po.1, g.po.2.2, by rw [← h.pk.2.1], Kd.C_below h.pk.1 h.hb⟩
 have z5 := h.cell.2.2.2.2.2.1
 have z4 : w.cell? ⟨gr, 4, none⟩ = some (.slice pA g.ps.length pc) := by rw [h.cell.2.2.2.2.1, hpo]; rfl
 have HW := Aside0.mk h
 have hp2 : (g.ps.length : Int) ≤ 1048576 := by omega
 have hn0 : ¬ (n : Int) = 0 := by omega
 have hn0b : ((n : Int) == 0) = false := by simp; omega
 have hnb : (n : Int) ≤ 4194304 := by omega
 have HN := Aside0.mk (And.intro hn hn2)
 by_cases hlt : g.nx < g.ps.length
 ·obtain ⟨ad, rfl, zx⟩ := (Kd.reads_of_C (d := (0 : Int)) hC).at_ (g.nx : Int) (by omega) (by omega)
  rw [Int.toNat_natCast] at zx
  have hhead : (g.ps.drop g.nx).headD 0 = rdOf 0 g.ps (g.nx : Int) := by
   unfold rdOf
   rw [Int.toNat_natCast, List.drop_eq_getElem_cons hlt]
   simp [List.getD_eq_getElem?_getD, List.getElem?_eq_getElem hlt]
  have hpk : Play.pickOf (g.ps.drop g.nx) n = (rdOf 0 g.ps (g.nx : Int) % (n : Int)).toNat := by unfold Play.pickOf; rw [hhead]
  obtain ⟨x, hx⟩ : ∃ x, rdOf 0 g.ps (g.nx : Int) = x := ⟨_, rfl⟩
  rw [hx] at zx hpk
  have HPK := Aside0.mk hpk
  have HZX := Aside0.mk (show w.drew.cell? (ad.add g.nx) = some (.int .i64 x) from zx)
  have HLT := Aside0.mk hlt
  have d1 : decide (g.nx < g.ps.length) = true := decide_eq_true hlt
  have d2 : decide ((g.nx : Int) < (g.ps.length : Int)) = true := decide_eq_true (by omega)
  have d3 : g.nx < g.ps.length := hlt
  have d4 : (g.nx : Int) < (g.ps.length : Int) := by omega
  have hnx2 : (g.nx : Int) + 1 ≤ 1048577 := by omega
  clear h hC hn hn2 hp hnx hhead hpk hx zx hlt
  go_enter Tryd.func67, Tryd.ntmps67
  go_upto_region 2 with fail
  refine start_ (n := 10) (S := (fun w' => w'.cell? ⟨gr, 5, none⟩ = some (.int .i64 (g.nx : Int)) ∧ w'.cell? ⟨gr, 4, none⟩ = some (.slice (some ad) g.ps.length pc))) (ds := [9]) (lb 10 0) (by kernel_rfl) rfl rfl ⟨z5, z4⟩ (fun hHeld => ?_); refine with_tabW R47a_tab R47a_bits (fun HT_ HW_ => ?_)
  have HW2 := Aside0.mk (HW.out.below (Drawn0.below (w := w) (w' := w.drew) ⟨⟨1, rfl⟩⟩))
  have HC2 := Aside0.mk (show w.drew.cell? ⟨gr, 5, none⟩ = some (.int .i64 (g.nx : Int)) ∧ w.drew.cell? ⟨gr, 4, none⟩ = some (.slice (some ad) g.ps.length pc) from ⟨z5, z4⟩)
  have HO2 := Aside0.mk (show Only 70 w w.drew from fun _ _ _ h _ => h)
  clear HW z5 z4
  generalize w.drew = w2 at HW2 HC2 HO2 HZX hHeld ⊢
  refine pS 0 6 1 10 HT_.out ?_
  refine pS 1 7 3 10 HT_.out ?_
  refine pS 2 8 7 10 HT_.out ?_
  refine tS 3 9 15 10 HT_.out HW_.out hHeld ?_
  refine pS 4 10 31 10 HT_.out ?_
  refine pS 5 11 63 10 HT_.out ?_
  refine pS 6 12 127 10 HT_.out ?_
  refine tS 7 13 255 10 HT_.out HW_.out hHeld ?_
  refine pS 8 14 511 10 HT_.out ?_
  refine pS 9 15 1023 10 HT_.out ?_
  refine done_ (done_of HT_.out (by kernel_rfl)) ?_
  clear HT_ HW_ hHeld

  go_upto_region 3 with fail
  obtain ⟨z5, z4⟩ := HC2.out
  have zx := HZX.out
  refine start_ (n := 11) (S := (fun w' => w'.cell? ⟨gr, 5, none⟩ = some (.int .i64 (g.nx : Int)) ∧ w'.cell? ⟨gr, 4, none⟩ = some (.slice (some ad) g.ps.length pc) ∧ w'.cell? (ad.add g.nx) = some (.int .i64 x))) (ds := [10]) (lb 11 0) (by kernel_rfl) rfl rfl ⟨z5, z4, zx⟩ (fun hHeld => ?_); refine with_tabW R47b_tab R47b_bits (fun HT_ HW_ => ?_)
  have HW3 := Aside0.mk (HW2.out.below (Drawn0.below (w := w2) (w' := w2.drew) ⟨⟨1, rfl⟩⟩))
  have HC3 := Aside0.mk (show w2.drew.cell? ⟨gr, 5, none⟩ = some (.int .i64 (g.nx : Int)) from z5)
  have HO3 := Aside0.mk (show Only 70 w w2.drew from fun _ _ _ h h2 => HO2.out _ _ _ h h2)
  clear HW2 z5 z4 zx
  generalize w2.drew = w3 at HW3 HC3 HO3 hHeld ⊢
  refine pS 0 16 1 11 HT_.out ?_
  refine pS 1 17 3 11 HT_.out ?_
  refine pS 2 18 7 11 HT_.out ?_
  refine tS 3 19 15 11 HT_.out HW_.out hHeld ?_
  refine pS 4 20 31 11 HT_.out ?_
  refine pS 5 21 63 11 HT_.out ?_
  refine pS 6 22 127 11 HT_.out ?_
  refine tS 7 23 255 11 HT_.out HW_.out hHeld ?_
  refine pS 8 24 511 11 HT_.out ?_
  refine tS 9 25 1023 11 HT_.out HW_.out hHeld ?_
  refine pS 10 5 2047 11 HT_.out ?_
  refine done_ (done_of HT_.out (by kernel_rfl)) ?_
  clear HT_ HW_ hHeld

  have z5 := HC3.out
  have zf : w3.frozen? ⟨gr, 5, none⟩ = false := blk_frozen HW3.out.bp 5
  obtain ⟨W4, hW4⟩ : ∃ W4, w3.setCell ⟨gr, 5, none⟩ (.int .i64 ((g.nx : Int) + 1)) = W4 := ⟨_, rfl⟩
  have HO4 := Aside0.mk (show Only 70 w W4 from hW4 ▸ HO3.out.trans (Only.set HW3.out.bp))
  have HW4 := Aside0.mk (show RS w0 W4 gr (picked g) from by
   rw [← hW4]
   refine HW3.out.num 5 _ (picked g) ?_ ?_ ⟨rfl, rfl⟩
   ·simp [cells, picked, HLT.out]
   ·exact ⟨HW3.out.rw.v, HW3.out.rw.t, HW3.out.rw.m, HW3.out.rw.l⟩)
  clear d1 d2 d3 d4
  have he := pick_eq x n HN.out.1 HN.out.2
  by_cases hneg : x.tmod n < 0
  ·rw [if_pos hneg] at he
   have h1 := Int.lt_tmod_of_pos x (show (0 : Int) < (n : Int) by omega)
   rw [BitMath.wrap_id (by unfold BitMath.In64; omega)] at he
   have HE := Aside0.mk he
   clear he
   go_wp2
   go_ret
   exact ⟨by rw [HPK.out, ← HE.out]; rfl, HW4.out, HO4.out⟩
  ·rw [if_neg hneg] at he
   have HE := Aside0.mk he
   clear he
   have hneg2 : 0 ≤ x.tmod n := by omega
   go_wp2
   go_ret
   exact ⟨by rw [HPK.out, ← HE.out]; rfl, HW4.out, HO4.out⟩
 ·have hhead : (g.ps.drop g.nx).headD 0 = 0 := by rw [List.drop_eq_nil_of_le (by omega)]; rfl
  have hpk : Play.pickOf (g.ps.drop g.nx) n = 0 := by unfold Play.pickOf; rw [hhead]; simp
  have HPK := Aside0.mk hpk
  have HLT := Aside0.mk hlt
  have d1 : decide (g.nx < g.ps.length) = false := decide_eq_false hlt
  have d2 : decide ((g.nx : Int) < (g.ps.length : Int)) = false := decide_eq_false (by omega)
  have hnx2 : (g.nx : Int) ≤ 1048577 := by omega
  clear h hC hn hn2 hp hnx hhead hpk hlt
  go_enter Tryd.func67, Tryd.ntmps67
  go_upto_region 2 with fail
  refine start_ (n := 10) (S := (fun w' => w'.cell? ⟨gr, 5, none⟩ = some (.int .i64 (g.nx : Int)) ∧ w'.cell? ⟨gr, 4, none⟩ = some (.slice pA g.ps.length pc))) (ds := [9]) (lb 10 0) (by kernel_rfl) rfl rfl ⟨z5, z4⟩ (fun hHeld => ?_); refine with_tabW R47a_tab R47a_bits (fun HT_ HW_ => ?_)
  have HW2 := Aside0.mk (HW.out.below (Drawn0.below (w := w) (w' := w.drew) ⟨⟨1, rfl⟩⟩))
  have HC2 := Aside0.mk (show w.drew.cell? ⟨gr, 5, none⟩ = some (.int .i64 (g.nx : Int)) ∧ w.drew.cell? ⟨gr, 4, none⟩ = some (.slice pA g.ps.length pc) from ⟨z5, z4⟩)
  have HO2 := Aside0.mk (show Only 70 w w.drew from fun _ _ _ h _ => h)
  clear HW z5 z4
  generalize w.drew = w2 at HW2 HC2 HO2 hHeld ⊢
  refine pS 0 6 1 10 HT_.out ?_
  refine pS 1 7 3 10 HT_.out ?_
  refine pS 2 8 7 10 HT_.out ?_
  refine tS 3 9 15 10 HT_.out HW_.out hHeld ?_
  refine pS 4 10 31 10 HT_.out ?_
  refine pS 5 11 63 10 HT_.out ?_
  refine pS 6 12 127 10 HT_.out ?_
  refine tS 7 13 255 10 HT_.out HW_.out hHeld ?_
  refine pS 8 14 511 10 HT_.out ?_
  refine pS 9 15 1023 10 HT_.out ?_
  refine done_ (done_of HT_.out (by kernel_rfl)) ?_
  clear HT_ HW_ hHeld

  go_wp2
  go_ret
  refine ⟨by rw [HPK.out]; simp, ?_, HO2.out⟩
  rw [show picked g = g from by unfold picked; rw [if_neg HLT.out]]
  exact HW2.out
theorem pick_at {w0 w : World} {gr : Nat} {g : Gr} (h : RS w0 w gr g) (n : Nat) (hn : 0 < n) (hn2 : n ≤ 4194304) (hp : g.ps.length ≤ 1048576) (hnx : g.nx ≤ g.ps.length) (y : Int) (hy : y = (n : Int)) :
  Calls Tryd.prog 67 #[.pointer (some ⟨gr, 0, none⟩), .int .i64 y] w fun e w' => e = .returned (.int .i64 (Play.pickOf (g.ps.drop g.nx) n)) ∧ RS w0 w' gr (picked g) ∧ Only 70 w w' := by
 subst hy
 exact pick_calls h n hn hn2 hp hnx
end Go.Proofs.YtamfkglnejhjdaaDoor.Ref
namespace Go.Proofs.YtamfkglnejhjdaaDoor.Ref
open Go.Proofs.YtamfkglnejhjdaaDoorW.PrintLast (pS tS lb sI sZ sC)
open Go.RowKit Go.Proofs.YtamfkglnejhjdaaDoorW.PrintWords Go.Proofs.YtamfkglnejhjdaaDoorW.PrintLast Go.Proofs.YtamfkglnejhjdaaDoorW.PrintMore Go.Proofs.YtamfkglnejhjdaaDoor.PHyperFold
set_option linter.unusedVariables false
set_option linter.unusedSimpArgs false

theorem infoView : (Tryd.prog.info? 66).map (fun i => (i.zero, i.size, i.bytes)) = some (some (.agg #[.slice none 0 0, .int .i64 0]), 2, 32) := by kernel_rfl
section
variable {w0 w w1 : World} {gr base T : Nat} {g g2 : Gr}
theorem RS.views_only (h : RS w0 w gr g) (hg : w.grownBy w1 (slv g.vo).ownBlock) : Only 66 w w1 := Only.grown hg (typed_of h.rw.v)
theorem RS.view_made (h : RS w0 w gr g) {t1 : Sl} {v : S66} (ho : k66.R 66 w1 w0.heap.size (fun _ => True) (slv t1) (g.vs ++ [v])) (hb : Below w0.heap.size w0 w1) (hg : w.grownBy w1 (slv g.vo).ownBlock) :
  RS w0 (w1.setCell ⟨gr, 2, none⟩ (slv t1)) gr { g with vo := t1, vs := g.vs ++ [v] } :=
 h.put (T := 66) (by decide) (h.views_only hg) hb 2 _ _ rfl (h.rw.views (h.views_only hg) ho) ⟨rfl, rfl⟩
end
def R39 : Bool × List (List Nat × List Nat) := (true, [([], []), ([], []), ([1], [1]), ([2], [2]), ([3], [3]), ([], []), ([5], [5]), ([6], [6]), ([7], [7]), ([8], [8]), ([9], [9]), ([4, 10], [4, 10]), ([0, 0, 1, 2, 3, 4, 5, 6, 7, 8, 9, 10, 11], [0]), ([12, 0, 1, 2, 3, 4, 5, 6, 7, 8, 9, 10, 11], [12]), ([13, 11, 11, 0, 1, 2, 3, 4, 5, 6, 7, 8, 9, 10, 11], [11, 13])])
def R39B : List Nat := [0, 0, 2, 6, 14, 0, 32, 96, 224, 480, 992, 2046, 4095, 8191, 16383]
theorem R39_tab : rtab .any (opsOf Tryd.f48 1) = R39 := by kernel_rfl
theorem R39_bits : waitsOk R39.2 R39B = true := by kernel_rfl

set_option maxHeartbeats 8000000 in
set_option maxRecDepth 100000 in
theorem made_calls {w0 w : World} {gr : Nat} {g : Gr} (h : RS w0 w gr g) (hl : g.vs.length ≤ 4194304) :
  Calls Tryd.prog 48 #[.pointer (some ⟨gr, 0, none⟩)] w fun e w' => e = .returned (.int .i64 (g.vs.length : Int)) ∧ ∃ vo, RS w0 w' gr { g with vo := vo, vs := g.vs ++ [⟨[], g.un⟩] } := by
 obtain ⟨vA, vc, hvo⟩ : ∃ vA vc, g.vo = (vA, g.vs.length, vc) := ⟨g.vo.1, g.vo.2.2, by rw [← (R_header h.rw.v).1]⟩
 have HCells := Aside0.mk (show ∀ w', RS w0 w' gr g → w'.cell? ⟨gr, 2, none⟩ = some (.slice vA g.vs.length vc) ∧ w'.cell? ⟨gr, 1, none⟩ = some (.int .i64 g.un) from fun w' h' => ⟨by rw [h'.cell.2.2.1, hvo]; rfl, h'.cell.2.1⟩)
 have HGrown := Aside0.mk (show ∀ w' w1, RS w0 w' gr g → w'.grownBy w1 (Value.slice vA g.vs.length vc).ownBlock → (w1.cell? ⟨gr, 2, none⟩ = some (.slice vA g.vs.length vc) ∧ w1.cell? ⟨gr, 1, none⟩ = some (.int .i64 g.un)) ∧ w1.frozen? ⟨gr, 2, none⟩ = false from fun w' w1 h' hg => by
  have ho := h'.views_only (by rw [hvo]; exact hg)
  have bp := ho gr _ _ h'.bp (by decide)
  refine ⟨⟨(blk_cell bp 2).trans ?_, (blk_cell bp 1).trans rfl⟩, blk_frozen bp 2⟩
  show some (slv g.vo) = _
  rw [hvo]; rfl)
 have HRow := Aside0.mk (show ∀ w', RS w0 w' gr g → k66.R 66 w' w0.heap.size (fun _ => True) (.slice vA g.vs.length vc) g.vs from fun w' h' => by
  have h1 := h'.rw.v
  rw [hvo] at h1
  exact h1)
 have HL := Aside0.mk hl
 have HW := Aside0.mk h
 have HVo := Aside0.mk hvo
 have hl2 : (g.vs.length : Int) ≤ 4194304 := by omega
 clear h hl hvo
 obtain ⟨Pst, hI, hE⟩ : ∃ Pst : World → Prop, (∀ vo w', RS w0 w' gr { g with vo := vo, vs := g.vs ++ [⟨[], g.un⟩] } → Pst w') ∧ (∀ w', Pst w' → ∃ vo, RS w0 w' gr { g with vo := vo, vs := g.vs ++ [⟨[], g.un⟩] }) := ⟨fun w' => ∃ vo, RS w0 w' gr { g with vo := vo, vs := g.vs ++ [⟨[], g.un⟩] }, fun vo w' h => ⟨vo, h⟩, fun w' h => h⟩
 have HI := Aside0.mk hI
 refine Calls.mono (?_ : Calls Tryd.prog 48 #[.pointer (some ⟨gr, 0, none⟩)] w fun e w' => e = .returned (.int .i64 (g.vs.length : Int)) ∧ Pst w') (fun e w' ⟨h1, h2⟩ => ⟨h1, hE w' h2⟩)
 clear hI hE
 go_enter Tryd.func48, Tryd.ntmps48
 go_upto_region 1 with fail
 refine start_ (n := 15) (S := (fun w' => w'.cell? ⟨gr, 2, none⟩ = some (.slice vA g.vs.length vc) ∧ w'.cell? ⟨gr, 1, none⟩ = some (.int .i64 g.un))) (ds := [14]) (lb 15 0) (by kernel_rfl) rfl rfl (HCells.out w HW.out) (fun hHeld => ?_); refine with_tabW R39_tab R39_bits (fun HT_ HW_ => ?_)
 have HW2 := Aside0.mk (HW.out.below (Drawn0.below (w := w) (w' := w.drew) ⟨⟨1, rfl⟩⟩))
 clear HW
 generalize w.drew = w2 at HW2 hHeld ⊢
 refine pS 0 3 1 15 HT_.out ?_
 refine pS 1 4 3 15 HT_.out ?_
 refine pS 2 5 7 15 HT_.out ?_
 refine pS 3 6 15 15 HT_.out ?_
 refine tS 4 7 31 15 HT_.out HW_.out hHeld ?_
 refine pS 5 8 63 15 HT_.out ?_
 refine pS 6 9 127 15 HT_.out ?_
 refine pS 7 10 255 15 HT_.out ?_
 refine tS 8 11 511 15 HT_.out HW_.out hHeld ?_
 refine pS 9 12 1023 15 HT_.out ?_
 refine one_ (i := 10) (N := some 13) (lb 15 2047) rfl rfl (one_of HT_.out (by kernel_rfl)) (by decide) (fun K hK => ?_)
 refine value_ (w1 := ?_) (v := ?_) (by rfl) rfl ?_ ?_
 rotate_left 2
 ·go_simp
  constructor
  ·rfl
  ·rfl
 refine hK.out _ _ (HCells.out _ (HW2.out.below (below_alloc (Below.refl _ _) _))) (fun hHeld => ?_)
 clear hK K
 refine norm_ (a' := ?_) ?_ ?_
 rotate_left
 ·show Act.put _ (some 13) _ = _
  simp only [Act.put, sI, sZ, sC, i64_w, i32_w]
  rfl
 refine one_ (i := 11) (N := some 14) (lb 15 4095) rfl rfl (one_of HT_.out (by kernel_rfl)) (by decide) (fun K hK => ?_)
 refine Kd.R_append_step k66 (w0 := w0) w0.heap.size (by rfl) (.tmp 7) (.tmp 13) 67 66 (.agg #[.slice none 0 0, .int .i64 0]) 32 rfl Tryd.underlying67 infoView rfl (by decide) (by omega) (.slice vA g.vs.length vc) g.vs ⟨[], g.un⟩ [.slice none 0 0, .int .i64 g.un] (fun _ => True) (fun _ => False) rfl rfl ?aP (fun _ hk => hk.elim) ?aF ?aO ?aB ?aS ?aL ?_
 (case aP => exact k66_mkM _ _ _ ⟨[], g.un⟩ (Kd.R_nil _ _ _ _ _))
 (case aB => exact HW2.out.hb)
 (case aF => exact fun _ _ => trivial)
 (case aO => exact HRow.out w2 HW2.out)
 (case aS => exact below_size HW2.out.hb)
 (case aL => have := HL.out; omega)
 intro v1 w5 ho hb hg hat
 obtain ⟨A1, c1, rfl, _, _⟩ := Kd.R_reads ho
 have HG := Aside0.mk (And.intro ho (And.intro hb hg))
 clear ho hb hg hat
 refine hK.out _ _ (HGrown.out w2 w5 HW2.out HG.out.2.2).1 (fun hHeld => ?_)
 clear hK K
 refine norm_ (a' := ?_) ?_ ?_
 rotate_left
 ·show Act.put _ (some 14) _ = _
  simp only [Act.put, sI, sZ, sC, i64_w, i32_w]
  rfl
 refine pS 12 15 8191 15 HT_.out ?_
 refine pS 13 16 16383 15 HT_.out ?_
 have hfz := (HGrown.out w2 w5 HW2.out HG.out.2.2).2
 refine last_ (i := 14) (N := none) (lb 15 32767) rfl rfl (one_of HT_.out (by kernel_rfl)) (by decide) (fun K hK => ?_)
 refine skip_ (w1 := ?_) (by rfl) rfl ?_ ?_
 rotate_left
 ·go_simp
  rfl
 refine hK.out _ _ ?_
 clear hK K
 refine done_ (done_of HT_.out (by kernel_rfl)) ?_
 clear HT_ HW_ hHeld

 have hv := HW2.out.view_made (t1 := (A1, (g.vs ++ [(⟨[], g.un⟩ : S66)]).length, c1)) HG.out.1 HG.out.2.1 (by rw [HVo.out]; exact HG.out.2.2)
 have hl5 : (g.vs ++ [(⟨[], g.un⟩ : S66)]).length = g.vs.length + 1 := by simp
 rw [hl5] at hv
 replace hv : RS w0 (w5.setCell ⟨gr, 2, none⟩ (.slice A1 (g.vs.length + 1) c1)) gr { g with vo := (A1, g.vs.length + 1, c1), vs := g.vs ++ [⟨[], g.un⟩] } := hv
 have HV := Aside0.mk hv
 generalize w5.setCell ⟨gr, 2, none⟩ (.slice A1 (g.vs.length + 1) c1) = w6 at HV ⊢
 clear hv HG HW2 hfz hl5
 have x2 : w6.cell? ⟨gr, 2, none⟩ = some (.slice A1 (g.vs.length + 1) c1) := HV.out.cell.2.2.1
 have hw2 : wrap64 ((g.vs.length : Int) + 1 - 1) = (g.vs.length : Int) := by rw [BitMath.wrap_id (by unfold BitMath.In64; omega)]; omega
 have hw4 : wrap64 (g.vs.length : Int) = (g.vs.length : Int) := BitMath.wrap_id (by unfold BitMath.In64; omega)
 go_wp2
 go_ret
 exact ⟨rfl, HI.out _ _ HV.out⟩
end Go.Proofs.YtamfkglnejhjdaaDoor.Ref
namespace Go.Proofs.YtamfkglnejhjdaaDoor.Ref
open Go.Proofs.YtamfkglnejhjdaaDoorW.PrintLast (pS tS lb sI sZ sC)
open Go.RowKit Go.Proofs.YtamfkglnejhjdaaDoorW.PrintWords Go.Proofs.YtamfkglnejhjdaaDoorW.PrintLast Go.Proofs.YtamfkglnejhjdaaDoorW.PrintMore Go.Proofs.YtamfkglnejhjdaaDoor.PHyperFold
set_option linter.unusedVariables false
set_option linter.unusedSimpArgs false

open Go.Proofs.YtamfkglnejhjdaaDoor.Play
open Go.Proofs.YtamfkglnejhjdaaDoor.PlayState (ints ints_length ints_getD ints_erase mstep mstep_len mstep_merge merge_done)
section
variable {w0 w w1 : World} {gr base T : Nat} {g g2 : Gr}
theorem RS.task_R (h : RS w0 w gr g) (k : Nat) (hk : k < g.ts.length) : ∃ b c A1 c1, g.tk = (some ⟨b, 0, none⟩, g.ts.length, c) ∧ w.cell? ⟨b, k * 2, none⟩ = some (.int .i64 (g.ts.getD k z96).f0) ∧
  w.cell? ⟨b, k * 2 + 1, none⟩ = some (.slice A1 (g.ts.getD k z96).f1.length c1) ∧ w.frozen? ⟨b, k * 2 + 1, none⟩ = false ∧ (Kd.int .i64).R 3 w w0.heap.size (fun q => q ≠ b) (.slice A1 (g.ts.getD k z96).f1.length c1) (g.ts.getD k z96).f1 := by
 obtain ⟨e1, e2, e3⟩ := R_header h.rw.t
 obtain ⟨b, e4, _, _, cells, hc⟩ := R_head h.rw.t (by omega)
 have hs : g.tk = (some ⟨b, 0, none⟩, g.ts.length, g.tk.2.2) := by rw [← e4, ← e1]
 have hR := h.rw.t
 rw [show slv g.tk = .slice (some ⟨b, 0, none⟩) g.ts.length g.tk.2.2 from by show Value.slice g.tk.1 g.tk.2.1 g.tk.2.2 = _; rw [e4, e1]] at hR
 obtain ⟨c, hcl, hM, hcc, _⟩ := Kd.R_elem hR z96 (k : Int) (by omega) (by omega)
 rw [Int.toNat_natCast] at hM
 simp only [Int.toNat_natCast] at hcc
 obtain ⟨v1, rfl, hr⟩ := k96_openM hM
 obtain ⟨A1, c1, rfl, _, _⟩ := Kd.R_reads hr
 exact ⟨b, g.tk.2.2, A1, c1, hs, hcc 0 _ rfl, hcc 1 _ rfl, blk_frozen hc _, Kd.R_mono hr (fun q hq => hq.2)⟩
theorem RS.view_R (h : RS w0 w gr g) (k : Nat) (hk : k < g.vs.length) : ∃ b c A1 c1, g.vo = (some ⟨b, 0, none⟩, g.vs.length, c) ∧ w.cell? ⟨b, k * 2, none⟩ = some (.slice A1 (g.vs.getD k z66).f0.length c1) ∧
  w.cell? ⟨b, k * 2 + 1, none⟩ = some (.int .i64 (g.vs.getD k z66).f1) ∧ (Kd.int .i64).R 2 w w0.heap.size (fun q => q ≠ b) (.slice A1 (g.vs.getD k z66).f0.length c1) (g.vs.getD k z66).f0 := by
 obtain ⟨e1, e2, e3⟩ := R_header h.rw.v
 obtain ⟨b, e4, _, _, cells, hc⟩ := R_head h.rw.v (by omega)
 have hs : g.vo = (some ⟨b, 0, none⟩, g.vs.length, g.vo.2.2) := by rw [← e4, ← e1]
 have hR := h.rw.v
 rw [show slv g.vo = .slice (some ⟨b, 0, none⟩) g.vs.length g.vo.2.2 from by show Value.slice g.vo.1 g.vo.2.1 g.vo.2.2 = _; rw [e4, e1]] at hR
 obtain ⟨c, hcl, hM, hcc, _⟩ := Kd.R_elem hR z66 (k : Int) (by omega) (by omega)
 rw [Int.toNat_natCast] at hM
 simp only [Int.toNat_natCast] at hcc
 obtain ⟨v0, rfl, hr⟩ := k66_openM hM
 obtain ⟨A1, c1, rfl, _, _⟩ := Kd.R_reads hr
 exact ⟨b, g.vo.2.2, A1, c1, hs, hcc 0 _ rfl, hcc 1 _ rfl, Kd.R_mono hr (fun q hq => hq.2)⟩
end
theorem R_lit0 {α : Type} (d : Kd α) (e : Nat) (W : World) : d.R e (W.alloc (.cells #[] e)) W.heap.size (fun _ => True) (.slice (some ⟨W.heap.size, 0, none⟩) 0 0) [] := by
 refine ⟨fun _ _ => trivial, [], ?_, Reps.none _ _⟩
 have h2 := World.ownsRow_lit (base := W.heap.size) (e := e) (size := d.sz) W #[] 0 (Nat.le_refl _) (by simp [maxLen]) (by simp)
 simpa using h2
def mS (m : Mg) : S103 := ⟨m.1, m.2.1, m.2.2⟩
def vS (F : List Int → Int) (l : List Int) : S66 := ⟨l, F l⟩
structure RepR (F : List Int → Int) (op un : Int) (ps : List Int) (s : St (List Int)) (g : Gr) : Prop where
 op : g.op = op
 un : g.un = un
 pl : g.ps = ps
 vs : g.vs = s.views.map (vS F)
 ls : g.ls = s.looks
 ts : g.ts.map (fun t : S96 => t.f1) = s.up.reverse.map ints ++ [ints s.cur]
 ps : g.ps.drop g.nx = s.picks
 nx : g.nx ≤ g.ps.length
 ms : g.ms = s.merges.map mS
section
variable {F : List Int → Int} {op un : Int} {ps : List Int} {s : St (List Int)} {g : Gr}
theorem RepR.views_len (h : RepR F op un ps s g) : g.vs.length = s.views.length := by rw [h.vs, List.length_map]
theorem RepR.tasks_len (h : RepR F op un ps s g) : g.ts.length = s.up.length + 1 := by
 have := congrArg List.length h.ts
 simpa using this
theorem RepR.view (h : RepR F op un ps s g) {i : Nat} (hi : i < s.views.length) : g.vs.getD i z66 = vS F (s.views.getD i []) := by
 rw [h.vs]; simp [List.getD_eq_getElem?_getD, hi]
theorem RepR.last (h : RepR F op un ps s g) : ∃ (tl : List S96) (sp : Int), g.ts = tl ++ [⟨sp, ints s.cur⟩] ∧ tl.map (fun t : S96 => t.f1) = s.up.reverse.map ints ∧ tl.length = s.up.length := by
 have hl := h.tasks_len
 have hne : g.ts ≠ [] := fun e => by rw [e] at hl; simp at hl
 have e := h.ts
 rw [← List.dropLast_concat_getLast hne, List.map_append] at e
 have e2 := List.append_inj' e rfl
 have e3 : (g.ts.getLast hne).f1 = ints s.cur := by simpa using e2.2
 refine ⟨g.ts.dropLast, (g.ts.getLast hne).f0, ?_, e2.1, by rw [List.length_dropLast]; omega⟩
 rw [← e3]
 exact (List.dropLast_concat_getLast hne).symm
end
structure RM (w0 w : World) (gr : Nat) (F : List Int → Int) (op un : Int) (ps : List Int) (t : Nat) (pre : List Nat) (L : List Int) (s0 s : St (List Int)) (g : Gr) (tl : List S96) (sp : Int) (sn : Nat) (V M : Nat) : Prop where
 rs : RS w0 w gr g
 rep : RepR F op un ps s g
 ts : g.ts = tl ++ [⟨sp, ints s.cur⟩]
 sn : g.sn = sn
 mi : MI pre s.cur s.views L
 go : s.merge red t = s0.merge red t
 hV : s.views.length ≤ V
 hM : s.merges.length + s.cur.length ≤ M
theorem picked_drop (g : Gr) : (picked g).ps.drop (picked g).nx = (g.ps.drop g.nx).tail := by
 unfold picked
 by_cases h : g.nx < g.ps.length
 ·simp only [if_pos h]
  rw [List.tail_drop]
 ·simp only [if_neg h]
  rw [List.drop_eq_nil_of_le (by omega)]
  rfl
theorem picked_le (g : Gr) (h : g.nx ≤ g.ps.length) : (picked g).nx ≤ (picked g).ps.length := by
 unfold picked
 by_cases h : g.nx < g.ps.length
 ·simp only [if_pos h]; omega
 ·simp only [if_neg h]; assumption
theorem RM.step {w0 w wn : World} {gr : Nat} {F : List Int → Int} {op un : Int} {ps : List Int} {t : Nat} {pre : List Nat} {L : List Int} {s0 s : St (List Int)} {g : Gr} {tl : List S96} {sp : Int} {sn V M : Nat} (h : RM w0 w gr F op un ps t pre L s0 s g tl sp sn V M)
  {n j xa xb : Nat} {ya yb : List Int} (hn : s.cur.length = n) (h1n : 1 < n) (hj : j = pickOf s.picks (n - 1)) (hxa : xa = s.cur.getD j 0) (hxb : xb = s.cur.getD (j + 1) 0) (hya : ya = s.views.getD xa []) (hyb : yb = s.views.getD xb []) (hjl : j + 1 < n) {vo tk mo : Sl}
  (hps : RS w0 wn gr { picked g with vo := vo, vs := g.vs.set xa (vS F (ya ++ yb)), tk := tk, ts := tl ++ [⟨sp, (ints s.cur).eraseIdx (j + 1)⟩], mo := mo, ms := g.ms ++ [⟨(t : Int), (xa : Int), (xb : Int)⟩] }) :
  RM w0 wn gr F op un ps t pre L s0 (mstep t s) { picked g with vo := vo, vs := g.vs.set xa (vS F (ya ++ yb)), tk := tk, ts := tl ++ [⟨sp, (ints s.cur).eraseIdx (j + 1)⟩], mo := mo, ms := g.ms ++ [⟨(t : Int), (xa : Int), (xb : Int)⟩] } tl sp sn V M := by
 have e1 : (mstep t s).cur = s.cur.eraseIdx (j + 1) := by show s.cur.eraseIdx _ = _; rw [hn, ← hj]
 have e2 : (mstep t s).views = s.views.set xa (red.join (s.views.getD xa red.fresh) (s.views.getD xb red.fresh)) := by show s.views.set _ _ = _; rw [hn, ← hj, ← hxa, ← hxb]
 have e3 : (mstep t s).merges = s.merges ++ [(t, xa, xb)] := by show s.merges ++ _ = _; rw [hn, ← hj, ← hxa, ← hxb]
 have hr := h.rep.ts
 rw [h.ts, List.map_append] at hr
 have hr2 := (List.append_inj' hr rfl).1
 refine ⟨hps, ⟨h.rep.op, h.rep.un, h.rep.pl, ?_, h.rep.ls, ?_, ?_, picked_le g h.rep.nx, ?_⟩, ?_, h.sn, ?_, ?_, ?_, ?_⟩
 ·show g.vs.set xa (vS F (ya ++ yb)) = _
  rw [e2, List.map_set, h.rep.vs, hya, hyb]
  rfl
 ·show (tl ++ [(⟨sp, (ints s.cur).eraseIdx (j + 1)⟩ : S96)]).map (fun t : S96 => t.f1) = _
  rw [List.map_append, hr2, e1, ints_erase]
  rfl
 ·show (picked g).ps.drop (picked g).nx = s.picks.tail
  rw [picked_drop, h.rep.ps]
 ·show g.ms ++ _ = _
  rw [e3, h.rep.ms, List.map_append]
  rfl
 ·rw [e1, ints_erase]
 ·rw [e1, e2, hxa, hxb]
  exact h.mi.step (by omega)
 ·rw [mstep_merge t s (by omega)]
  exact h.go
 ·rw [e2, List.length_set]
  exact h.hV
 ·have := h.hM
  rw [e1, e3, List.length_append, List.length_eraseIdx_of_lt (by omega)]
  simp only [List.length_singleton]
  omega
end Go.Proofs.YtamfkglnejhjdaaDoor.Ref
namespace Go.Proofs.YtamfkglnejhjdaaDoor.Ref
open Go.Proofs.YtamfkglnejhjdaaDoorW.PrintLast (pS tS lb sI sZ sC)
open Go.RowKit Go.Proofs.YtamfkglnejhjdaaDoorW.PrintWords Go.Proofs.YtamfkglnejhjdaaDoorW.PrintLast Go.Proofs.YtamfkglnejhjdaaDoorW.PrintMore Go.Proofs.YtamfkglnejhjdaaDoor.PHyperFold
set_option linter.unusedVariables false
set_option linter.unusedSimpArgs false

open Go.Proofs.YtamfkglnejhjdaaDoor.Play
open Go.Proofs.YtamfkglnejhjdaaDoor.PlayState (ints ints_length ints_getD ints_erase mstep mstep_len mstep_merge merge_done wrap_add)
theorem infoI64 : (Tryd.prog.info? 2).map (fun i => (i.zero, i.size, i.bytes)) = some (some (.int .i64 0), 1, 8) := by kernel_rfl
theorem infoInt : (Tryd.prog.info? 3).map (fun i => (i.zero, i.size, i.bytes)) = some (some (.int .i64 0), 1, 8) := by kernel_rfl
theorem infoMerge : (Tryd.prog.info? 103).map (fun i => (i.zero, i.size, i.bytes)) = some (some (.agg #[.int .i64 0, .int .i64 0, .int .i64 0]), 3, 24) := by kernel_rfl
theorem sizeView : (Tryd.prog.info? 66).map (·.size) = some 2 := by kernel_rfl
theorem sizeInts : (Tryd.prog.info? 24).map (·.size) = some 1 := by kernel_rfl
def JoinOk (w0 : World) (gr : Nat) (op : Int) (F : List Int → Int) (X : Int → Prop) : Prop := ∀ (w : World) (g : Gr) (a b : List Int), RS w0 w gr g → g.op = op → (∀ y, y ∈ a → X y) → (∀ y, y ∈ b → X y) →
 Calls Tryd.prog 66 #[.pointer (some ⟨gr, 0, none⟩), .int .i64 (F a), .int .i64 (F b)] w fun e w' => e = .returned (.int .i64 (F (a ++ b))) ∧ Below w.heap.size w w'
theorem JoinOk.at_ {w0 : World} {gr : Nat} {op : Int} {F : List Int → Int} {X : Int → Prop} (h : JoinOk w0 gr op F X) (w : World) (g : Gr) (a b : List Int) (h1 : RS w0 w gr g) (h2 : g.op = op) (h3 : ∀ y, y ∈ a → X y) (h4 : ∀ y, y ∈ b → X y) :
  Calls Tryd.prog 66 #[.pointer (some ⟨gr, 0, none⟩), .int .i64 (F a), .int .i64 (F b)] w fun e w' => e = .returned (.int .i64 (F (a ++ b))) ∧ Below w.heap.size w w' := h w g a b h1 h2 h3 h4
theorem MI_mem {pre row : List Nat} {vs : List (List Int)} {L : List Int} (h : MI pre row vs L) {j : Nat} (hj : j < row.length) {y : Int} (hy : y ∈ vs.getD (row.getD j 0) []) : y ∈ L := by
 have hm : row.getD j 0 ∈ pre ++ row := List.mem_append_right _ (by rw [List.getD_eq_getElem?_getD, List.getElem?_eq_getElem hj]; exact List.getElem_mem hj)
 obtain ⟨A, B, e⟩ := List.append_of_mem hm
 have hv := h.value
 rw [e, flat_append, flat_cons] at hv
 rw [← hv]
 exact List.mem_append_right _ (List.mem_append_left _ hy)
theorem RS.view_put {w0 w w1 : World} {gr : Nat} {g : Gr} (h : RS w0 w gr g) {b n c : Nat} (hvo : g.vo = (some ⟨b, 0, none⟩, n, c)) {vs : List S66} (ho : k66.R 66 w1 w0.heap.size (fun _ => True) (.slice (some ⟨b, 0, none⟩) n c) vs) (hb : Below w0.heap.size w0 w1) (hg : w.grownBy w1 (some b)) : RS w0 w1 gr { g with vs := vs } := by
 have hon : Only 66 w w1 := Only.grown hg (fun k e => by injection e with e; subst e; exact typed_of h.rw.v b (by rw [hvo]; rfl))
 have h2 := h.rw.views hon (t1 := g.vo) (vs := vs) (by rw [hvo]; exact ho)
 exact h.stay (T := 66) (by decide) hon hb { g with vs := vs } rfl h2 ⟨rfl, rfl⟩
theorem RS.task_put {w0 w w1 : World} {gr : Nat} {g : Gr} (h : RS w0 w gr g) {b n c : Nat} (hvo : g.tk = (some ⟨b, 0, none⟩, n, c)) {ts : List S96} (ho : k96.R 96 w1 w0.heap.size (fun _ => True) (.slice (some ⟨b, 0, none⟩) n c) ts) (hb : Below w0.heap.size w0 w1) (hg : w.grownBy w1 (some b)) : RS w0 w1 gr { g with ts := ts } := by
 have hon : Only 96 w w1 := Only.grown hg (fun k e => by injection e with e; subst e; exact typed_of h.rw.t b (by rw [hvo]; rfl))
 have h2 := h.rw.tasks hon (t1 := g.tk) (ts := ts) (by rw [hvo]; exact ho)
 exact h.stay (T := 96) (by decide) hon hb { g with ts := ts } rfl h2 ⟨rfl, rfl⟩
theorem two_cells {w : World} {b i : Nat} {x y : Value} (h0 : w.cell? ⟨b, i * 2, none⟩ = some x) (h1 : w.cell? ⟨b, i * 2 + 1, none⟩ = some y) : ∀ (j : Nat) (u : Value), [x, y][j]? = some u → w.cell? ⟨b, ((i : Nat) : Int).toNat * 2 + j, none⟩ = some u := by
 intro j u hj
 rw [Int.toNat_natCast]
 match j, hj with
 | 0, hj => injection hj with hj; subst hj; exact h0
 | 1, hj => injection hj with hj; subst hj; exact h1
theorem RS.merges_only {w0 w w1 : World} {gr : Nat} {g : Gr} (h : RS w0 w gr g) (hg : w.grownBy w1 (slv g.mo).ownBlock) : Only 103 w w1 := Only.grown hg (typed_of h.rw.m)
theorem RS.told {w0 w w1 : World} {gr : Nat} {g : Gr} (h : RS w0 w gr g) {t1 : Sl} {m : S103} (ho : k103.R 103 w1 w0.heap.size (fun _ => True) (slv t1) (g.ms ++ [m])) (hb : Below w0.heap.size w0 w1) (hg : w.grownBy w1 (slv g.mo).ownBlock) :
  RS w0 (w1.setCell ⟨gr, 9, none⟩ (slv t1)) gr { g with mo := t1, ms := g.ms ++ [m] } :=
 h.put (T := 103) (by decide) (h.merges_only hg) hb 9 _ _ rfl (h.rw.merges (h.merges_only hg) ho) ⟨rfl, rfl⟩
def R41 : Bool × List (List Nat × List Nat) := (true, [([], []), ([], []), ([1], [1]), ([2], [2]), ([3], [3]), ([], []), ([4, 5], [4, 5]), ([6], [6]), ([7], [7]), ([], []), ([9], [9]), ([10], [10]), ([11], [11]), ([], []), ([12, 13], [12, 13]), ([14], [14]), ([15], [15]), ([0, 8, 16], [0, 8, 16]), ([17, 17, 0, 1, 2, 3, 4, 5, 6, 7, 8, 9, 10, 11, 12, 13, 14, 15, 16, 17], [17])])
def R41B : List Nat := [0, 0, 2, 6, 14, 0, 62, 126, 254, 0, 512, 1536, 3584, 0, 15872, 32256, 65024, 131071, 262143]
theorem R41_tab : rtab .any (opsOf Tryd.f50 8) = R41 := by kernel_rfl
theorem R41_bits : waitsOk R41.2 R41B = true := by kernel_rfl

set_option maxHeartbeats 16000000 in
set_option maxRecDepth 100000 in
theorem merge_walk {w0 w : World} {gr : Nat} {F : List Int → Int} {op un : Int} {ps : List Int} (t : Nat) (pre : List Nat) (L : List Int) (s0 : St (List Int)) (g0 : Gr) (tl : List S96) (sp : Int) (sn V M : Nat) (X : Int → Prop)
  (hrm : RM w0 w gr F op un ps t pre L s0 s0 g0 tl sp sn V M) (hAp : JoinOk w0 gr op F X) (hX : ∀ y, y ∈ L → X y) (hk2 : tl.length ≤ 4000000) (hL : L.length ≤ 2097152) (hV : V ≤ 4194304) (hM : M ≤ 2097152) (hps : ps.length ≤ 1048576) (Pst : World → Prop)
  (hP : ∀ w' s g, RM w0 w' gr F op un ps t pre L s0 s g tl sp sn V M → s.cur.length ≤ 1 → Pst w') :
  Calls Tryd.prog 50 #[.pointer (some ⟨gr, 0, none⟩), .int .i64 (t : Int)] w fun e w' => e = .returned (.tuple #[]) ∧ Pst w' := by
 obtain ⟨k, hk⟩ : ∃ k, tl.length = k := ⟨_, rfl⟩
 rw [hk] at hk2
 have hk3 : (k : Int) ≤ 4000000 := by omega
 have HRM := Aside0.mk hrm
 have HP := Aside0.mk hP
 have HK := Aside0.mk hk
 have HLim := Aside0.mk (And.intro hL (And.intro hV (And.intro hM hps)))
 have HAp := Aside0.mk hAp
 have HX := Aside0.mk hX
 have HLast := Aside0.mk (show Calls Tryd.prog 51 #[.pointer (some ⟨gr, 0, none⟩)] w fun e w' => e = .returned (.int .i64 (k : Int)) ∧ w' = w from by
  have h1 := last_calls hrm.rs (by rw [hrm.ts, List.length_append, hk]; simp; omega)
  rw [hrm.ts, List.length_append, hk] at h1
  rw [show (((k + [(⟨sp, ints s0.cur⟩ : S96)].length : Nat) : Int) - 1) = (k : Int) by simp] at h1
  exact h1)
 clear hrm hP hk hL hV hM hps hAp hX
 have l1 : ((k : Int) < (k : Int) + 1) = True := eq_true (by omega)
 go_enter Tryd.func50, Tryd.ntmps50
 go_wp2_with fail
 refine HLast.out.mono ?_
 rintro e w' ⟨rfl, rfl⟩
 clear HLast
 go_wp2
 go_loopg [5] s0.cur.length (fun m v5 w' => Aside0 (∃ s g, s.cur.length = m ∧ RM w0 w' gr F op un ps t pre L s0 s g tl sp sn V M))
 case atStart => exact ⟨⟨s0, g0, rfl, HRM.out⟩⟩
 case round =>
  clear HRM
  obtain ⟨s, g, hsn, hrm⟩ := hrel.out
  clear hrel
  obtain ⟨n, hng⟩ : ∃ n, n = gk := ⟨_, rfl⟩
  rw [← hng] at hsn
  have HNG := Aside0.mk hng
  clear hng
  have htl : g.ts.length = k + 1 := by rw [hrm.ts, List.length_append, HK.out]; rfl
  obtain ⟨tb, tc, A, c, htk, _, y3, yf, hRow⟩ := hrm.rs.task_R k (by omega)
  rw [show g.ts.getD k z96 = ⟨sp, ints s.cur⟩ by rw [hrm.ts, ← HK.out]; simp] at y3 hRow
  simp only at y3 hRow
  rw [ints_length, hsn] at y3 hRow
  rw [htl] at htk
  have x3 : wr.cell? ⟨gr, 3, none⟩ = some (.slice (some ⟨tb, 0, none⟩) (k + 1) tc) := by rw [hrm.rs.cell.2.2.2.1, htk]; rfl
  by_cases hn : 1 < n
  ·have hd1 : decide (1 < n) = true := decide_eq_true hn
   have hd2 : decide ((1 : Int) < (n : Int)) = true := decide_eq_true (by omega)
   obtain ⟨j, hj⟩ : ∃ j, j = pickOf s.picks (n - 1) := ⟨_, rfl⟩
   have hjl : j + 1 < n := by
    have := pick_lt s.picks (n - 2)
    rw [show n - 2 + 1 = n - 1 from by omega] at this
    omega
   obtain ⟨xa, hxa⟩ : ∃ x, x = s.cur.getD j 0 := ⟨_, rfl⟩
   obtain ⟨xb, hxb⟩ : ∃ x, x = s.cur.getD (j + 1) 0 := ⟨_, rfl⟩
   have hla : xa < s.views.length := by rw [hxa]; exact hrm.mi.lt (by omega)
   have hlb : xb < s.views.length := by rw [hxb]; exact hrm.mi.lt (by omega)
   have hlen := hrm.mi.len (j := j) (by omega)
   rw [← hxa, ← hxb] at hlen
   obtain ⟨ya, hya⟩ : ∃ y, y = s.views.getD xa [] := ⟨_, rfl⟩
   obtain ⟨yb, hyb⟩ : ∃ y, y = s.views.getD xb [] := ⟨_, rfl⟩
   have hXa : ∀ y, y ∈ ya → X y := fun y hy => HX.out y (MI_mem hrm.mi (j := j) (by omega) (by rw [← hxa, ← hya]; exact hy))
   have hXb : ∀ y, y ∈ yb → X y := fun y hy => HX.out y (MI_mem hrm.mi (j := j + 1) (by omega) (by rw [← hxb, ← hyb]; exact hy))
   rw [← hya, ← hyb] at hlen
   obtain ⟨gi, hgi⟩ : ∃ gi, A = some ⟨gi, 0, none⟩ := by
    obtain ⟨g2, c2, e1, _⟩ := Kd.R_form hRow (by rw [ints_length, hsn]; omega)
    injection e1 with e1
    exact ⟨g2, e1⟩
   subst hgi
   have hnc : n ≤ c := by have := (Kd.R_reads' hRow).2.1; omega
   have hvl := hrm.rep.views_len
   have hmsl : g.ms.length ≤ 2097152 := by have := hrm.hM; have := HLim.out.2.2.1; rw [hrm.rep.ms, List.length_map]; omega
   have HPick := Aside0.mk (fun y hy => pick_at hrm.rs (n - 1) (by omega) (by have := hrm.hM; have := HLim.out.2.2.1; omega) (by rw [hrm.rep.pl]; exact HLim.out.2.2.2) hrm.rep.nx y hy)
   rw [hrm.rep.ps, ← hj] at HPick
   obtain ⟨vn, hvn⟩ : ∃ vn, g.vs.length = vn := ⟨_, rfl⟩
   have HRow := Aside0.mk hRow
   have HRM := Aside0.mk hrm
   have HSN := Aside0.mk hsn
   have HJJ := Aside0.mk hj
   have HXX := Aside0.mk (And.intro hxa hxb)
   have HY := Aside0.mk (And.intro hya hyb)
   have HXY := Aside0.mk (And.intro hXa hXb)
   have HLen := Aside0.mk hlen
   have HTK := Aside0.mk htk
   have HVn := Aside0.mk hvn
   have HML := Aside0.mk hmsl
   have hj2 : (j : Int) ≤ 4194304 := by have := hrm.hM; have := HLim.out.2.2.1; omega
   have hnb : (n : Int) ≤ 4194304 := by have := hrm.hM; have := HLim.out.2.2.1; omega
   have hxa2 : (xa : Int) ≤ 4194304 := by have := hrm.hV; have := HLim.out.2.1; omega
   have hxb2 : (xb : Int) ≤ 4194304 := by have := hrm.hV; have := HLim.out.2.1; omega
   have hlav : xa < vn := by omega
   have hlbv : xb < vn := by omega
   have la1 : ((xa : Int) < (vn : Int)) = True := eq_true (by omega)
   have lb1 : ((xb : Int) < (vn : Int)) = True := eq_true (by omega)
   have lj1 : ((j : Int) < (n : Int)) = True := eq_true (by omega)
   have lj2 : ((j : Int) + 1 < (n : Int)) = True := eq_true (by omega)
   have HOp := Aside0.mk (show (picked g).op = op from hrm.rep.op)
   have HLV := Aside0.mk (And.intro hlav hlbv)
   obtain ⟨i0, hi0, hz1⟩ : ∃ i, Tryd.prog.info? 3 = some i ∧ i.size = 1 := by
    have h := infoInt
    cases e : Tryd.prog.info? 3 with
    | none => rw [e] at h; cases h
    | some i => rw [e] at h; injection h with h; injection h with _ h; injection h with h _; exact ⟨i, rfl, h⟩
   have hsl1 := cut_to (P := Tryd.prog) 24 3 .i64 Tryd.underlying24 hi0 (some ⟨gi, 0, none⟩) n c ((j : Int) + 1) (by omega) (by omega) hnc
   rw [show ((j : Int) + 1).toNat = j + 1 by omega] at hsl1
   obtain ⟨Q, hQ, hsl2⟩ : ∃ Q : Option Addr, (Q = if c = j + 1 + 1 then some ⟨gi, 0, none⟩ else (some (⟨gi, 0, none⟩ : Addr)).map (·.add ((j + 1 + 1) * (Kd.int .i64).sz))) ∧ ∀ W : World, (Instr.slice 24 (.slice (some ⟨gi, 0, none⟩) n c) (some (.int .i64 ((j : Int) + 2))) none none).run Tryd.prog W = .ok (.slice Q (n - (j + 1 + 1)) (c - (j + 1 + 1))) W := by
    refine ⟨_, rfl, fun W => ?_⟩
    have h := cut_from (P := Tryd.prog) 24 3 .i64 Tryd.underlying24 hi0 1 hz1 (some ⟨gi, 0, none⟩) n c ((j : Int) + 2) (by omega) (by omega) W
    rw [show ((j : Int) + 2).toNat = j + 1 + 1 from by omega] at h
    exact h
   have HQ := Aside0.mk hQ
   have HSL := Aside0.mk (And.intro hsl1 hsl2)
   clear hsl1 hsl2 hQ hi0 hz1
   clear hrm hRow hsn hj hxa hxb hya hyb hXa hXb hlen htk hvn hmsl hla hlb hvl htl hlav hlbv
   go_wp2_with fail
   refine (HPick.out _ (by omega)).mono ?_
   rintro e w1 ⟨rfl, hrs1, ho1⟩
   have HRS1 := Aside0.mk hrs1
   clear HPick x3 y3 yf
   have hRow1 := R_only HRow.out (T := 70) (by intro q hq; simp [Kd.int, Kd.scalar] at hq; subst hq; decide) ho1
   obtain ⟨cj1, _⟩ := Kd.R_celln (0 : Int) hRow1 (j : Int) (by omega) (by omega)
   obtain ⟨cj2, _⟩ := Kd.R_celln (0 : Int) hRow1 ((j : Int) + 1) (by omega) (by omega)
   rw [Int.toNat_natCast, show rdOf 0 (ints s.cur) (j : Int) = (xa : Int) by unfold rdOf; rw [Int.toNat_natCast, ints_getD, ← HXX.out.1]] at cj1
   rw [show ((j : Int) + 1).toNat = j + 1 by omega, show rdOf 0 (ints s.cur) ((j : Int) + 1) = (xb : Int) by unfold rdOf; rw [show ((j : Int) + 1).toNat = j + 1 by omega, ints_getD, ← HXX.out.2]] at cj2
   have HRow1 := Aside0.mk hRow1
   have hvp : (picked g).vs = g.vs := rfl
   obtain ⟨vb, vc, aA, ac, hvo, za, na, hRa⟩ := hrs1.view_R xa (by rw [hvp, HVn.out]; exact HLV.out.1)
   obtain ⟨vb2, vc2, bA, bc, hvo2, zb, nb, hRb⟩ := hrs1.view_R xb (by rw [hvp, HVn.out]; exact HLV.out.2)
   rw [hvo] at hvo2
   injection hvo2 with e1 e2
   injection e2 with _ e2
   injection e1 with e1
   injection e1 with e1
   subst e1 e2
   have hga : g.vs.getD xa z66 = vS F ya := by rw [HRM.out.rep.view (by have := HLV.out.1; have := HRM.out.rep.views_len; have := HVn.out; omega), ← HY.out.1]
   have hgb : g.vs.getD xb z66 = vS F yb := by rw [HRM.out.rep.view (by have := HLV.out.2; have := HRM.out.rep.views_len; have := HVn.out; omega), ← HY.out.2]
   rw [hvp, hga] at za na hRa
   rw [hvp, hgb] at zb nb hRb
   rw [hvp, HVn.out] at hvo
   replace za : w1.cell? ⟨vb, xa * 2, none⟩ = some (.slice aA ya.length ac) := za
   replace na : w1.cell? ⟨vb, xa * 2 + 1, none⟩ = some (.int .i64 (F ya)) := na
   replace zb : w1.cell? ⟨vb, xb * 2, none⟩ = some (.slice bA yb.length bc) := zb
   replace nb : w1.cell? ⟨vb, xb * 2 + 1, none⟩ = some (.int .i64 (F yb)) := nb
   have x2 : w1.cell? ⟨gr, 2, none⟩ = some (.slice (some ⟨vb, 0, none⟩) vn vc) := by rw [hrs1.cell.2.2.1, hvo]; rfl
   have HCa := Aside0.mk (Kd.R_reads' hRa).2.2
   have HCb := Aside0.mk (Kd.R_reads' hRb).2.2
   have HVO := Aside0.mk hvo
   have HBlk := Aside0.mk (show vb < w1.heap.size ∧ gr < w1.heap.size from by
    obtain ⟨cells, hc⟩ := typed_of hrs1.rw.v vb (by rw [hvo]; rfl)
    exact ⟨blk_lt hc, blk_lt hrs1.bp⟩)
   have HC := Aside0.mk (And.intro x2 (And.intro za (And.intro zb (And.intro na nb))))
   clear hRow1 hrs1 ho1 hRa hRb hga hgb hvp hvo
   go_upto_region 6 with fail
   clear cj1 cj2
   obtain ⟨hb1, hb2⟩ := HBlk.out
   go_upto_region 7 with (first | ((with_reducible refine gate_builtin (b := .append) (xs := #[.tmp 46, .tmp 54]) rfl ?_); at_builtin; refine Kd.R_append_rows (Kd.int .i64) (w0 := w1) w1.heap.size rfl (.tmp 46) (.tmp 54) 36 2 (.int .i64 0) 8 rfl Tryd.underlying36 infoI64 rfl (by decide) (by omega) (.slice (some ⟨w1.heap.size, 0, none⟩) 0 0) [] ya _ _ _ (fun _ => True) (fun _ => False) rfl rfl ?aO ?aR (fun _ _ h => h) (fun _ h => h.elim) ?aF ?aB ?aS ?aL ?_; (case aO => exact R_lit0 _ _ _); (case aR => exact Kd.C_alloc HCa.out _); (case aF => exact fun _ _ => trivial); (case aB => exact below_alloc (Below.refl _ _) _); (case aS => simp); (case aL => have := HLen.out; have := HLim.out.1; simp only [List.length_nil]; omega); intro v2 w2 ho hb hg hat; obtain ⟨A2, c2, rfl, _, _⟩ := Kd.R_reads ho; have HA := Aside0.mk ho; have HBA := Aside0.mk hb; clear ho hb hg hat))
   replace HA : Aside0 ((Kd.int .i64).R 2 w2 w1.heap.size (fun _ => True) (.slice A2 ([] ++ ya).length c2) ya) := HA
   have x2' : w2.cell? ⟨gr, 2, none⟩ = some (.slice (some ⟨vb, 0, none⟩) vn vc) := (HBA.out.cell (p := ⟨gr, 2, none⟩) HBlk.out.2).trans HC.out.1
   have zb' : w2.cell? ⟨vb, xb * 2, none⟩ = some (.slice bA yb.length bc) := (HBA.out.cell (p := ⟨vb, xb * 2, none⟩) HBlk.out.1).trans HC.out.2.2.1
   clear x2 za zb na nb hb1 hb2
   go_upto_region 8 with (first | ((with_reducible refine gate_builtin (b := .append) (xs := #[.tmp 56, .tmp 64]) rfl ?_); at_builtin; refine Kd.R_append_rows (Kd.int .i64) (w0 := w1) w1.heap.size rfl (.tmp 56) (.tmp 64) 36 2 (.int .i64 0) 8 rfl Tryd.underlying36 infoI64 rfl (by decide) (by omega) (.slice A2 ya.length c2) ya yb _ _ _ (fun _ => True) (fun _ => False) rfl rfl ?aO ?aR (fun _ _ h => h) (fun _ h => h.elim) ?aF ?aB ?aS ?aL ?_; (case aO => exact HA.out); (case aR => exact Kd.C_below HCb.out HBA.out); (case aF => exact fun _ _ => trivial); (case aB => exact HBA.out); (case aS => exact HBA.out.size); (case aL => have := HLen.out; have := HLim.out.1; omega); intro v3 w3 ho hb hg hat; obtain ⟨A3, c3, rfl, _, _⟩ := Kd.R_reads ho; have HA3 := Aside0.mk ho; have HB3 := Aside0.mk hb; clear ho hb hg hat))
   clear x2' zb'
   have HC3 := Aside0.mk (show ∀ w', Below w3.heap.size w3 w' → w'.cell? ⟨gr, 2, none⟩ = some (.slice (some ⟨vb, 0, none⟩) vn vc) ∧ w'.cell? ⟨vb, xa * 2 + 1, none⟩ = some (.int .i64 (F ya)) ∧ w'.cell? ⟨vb, xb * 2 + 1, none⟩ = some (.int .i64 (F yb)) from fun w' hb => by
    have hs := HB3.out.size
    have hq : ∀ b i, b < w1.heap.size → w'.cell? ⟨b, i, none⟩ = w1.cell? ⟨b, i, none⟩ := fun b i hlt => (hb.cell (p := ⟨b, i, none⟩) (Nat.lt_of_lt_of_le hlt hs)).trans (HB3.out.cell (p := ⟨b, i, none⟩) hlt)
    exact ⟨(hq _ _ HBlk.out.2).trans HC.out.1, (hq _ _ HBlk.out.1).trans HC.out.2.2.2.1, (hq _ _ HBlk.out.1).trans HC.out.2.2.2.2⟩)
   refine start_ (n := 19) (S := (fun w' => w'.cell? ⟨gr, 2, none⟩ = some (.slice (some ⟨vb, 0, none⟩) vn vc) ∧ w'.cell? ⟨vb, xa * 2 + 1, none⟩ = some (.int .i64 (F ya)) ∧ w'.cell? ⟨vb, xb * 2 + 1, none⟩ = some (.int .i64 (F yb)))) (ds := [18]) (lb 19 0) (by kernel_rfl) rfl rfl (HC3.out w3 (Below.refl _ _)) (fun hHeld => ?_); refine with_tabW R41_tab R41_bits (fun HT_ HW_ => ?_)
   have HB3b := Aside0.mk (show Below w3.heap.size w3 w3.drew from Drawn0.below ⟨⟨1, rfl⟩⟩)
   generalize w3.drew = w3b at HB3b hHeld ⊢
   refine pS 0 66 1 19 HT_.out ?_
   refine pS 1 67 3 19 HT_.out ?_
   refine pS 2 68 7 19 HT_.out ?_
   refine pS 3 69 15 19 HT_.out ?_
   refine tS 4 70 31 19 HT_.out HW_.out hHeld ?_
   refine pS 5 71 63 19 HT_.out ?_
   refine pS 6 72 127 19 HT_.out ?_
   refine pS 7 73 255 19 HT_.out ?_
   refine tS 8 74 511 19 HT_.out HW_.out hHeld ?_
   refine pS 9 75 1023 19 HT_.out ?_
   refine pS 10 76 2047 19 HT_.out ?_
   refine pS 11 77 4095 19 HT_.out ?_
   refine tS 12 78 8191 19 HT_.out HW_.out hHeld ?_
   refine pS 13 79 16383 19 HT_.out ?_
   refine pS 14 80 32767 19 HT_.out ?_
   refine pS 15 81 65535 19 HT_.out ?_
   refine tS 16 82 131071 19 HT_.out HW_.out hHeld ?_
   refine one_ (i := 17) (N := some 83) (lb 19 262143) rfl rfl (one_of HT_.out (by kernel_rfl)) (by decide) (fun K hK => ?_)
   refine goes_ Tryd.func66 (by kernel_rfl) rfl #[.pointer (some ⟨gr, 0, none⟩), .int .i64 (F ya), .int .i64 (F yb)] (by rfl) rfl rfl (by (try simp only [List.map_toArray, List.map_cons, List.map_nil]); first | done | rfl) ?_
   with_reducible refine (HAp.out.at_ w3b (picked g) ya yb ((HRS1.out.below HB3.out).below HB3b.out) HOp.out HXY.out.1 HXY.out.2).mono ?_
   rintro e w4 ⟨rfl, hd⟩
   have HB4 := Aside0.mk (below_step HB3b.out hd)
   clear hd
   refine ⟨_, rfl, ?_⟩
   refine hK.out _ _ (HC3.out w4 HB4.out) (fun hHeld => ?_)
   clear hK K
   refine norm_ (a' := ?_) ?_ ?_
   rotate_left
   ·show Act.put _ (some 83) _ = _
    simp only [Act.put, sI, sZ, sC, i64_w, i32_w]
    rfl
   refine pS 18 10 524287 19 HT_.out ?_
   refine done_ (done_of HT_.out (by kernel_rfl)) ?_
   clear HT_ HW_ hHeld
   have HRS4 := Aside0.mk ((HRS1.out.below HB3.out).below HB4.out)
   have HB14 := Aside0.mk (show Below w1.heap.size w1 w4 from below_step HB3.out HB4.out)
   have hA4 := Kd.R_below HA3.out HB4.out
   rw [List.length_append] at hA4
   have HA4 := Aside0.mk hA4
   clear hA4 HA HA3
   have x2 : w4.cell? ⟨gr, 2, none⟩ = some (.slice (some ⟨vb, 0, none⟩) vn vc) := (HC3.out w4 HB4.out).1
   have za : w4.cell? ⟨vb, xa * 2, none⟩ = some (.slice aA ya.length ac) := (HB14.out.cell (p := ⟨vb, xa * 2, none⟩) HBlk.out.1).trans HC.out.2.1
   have na : w4.cell? ⟨vb, xa * 2 + 1, none⟩ = some (.int .i64 (F ya)) := (HC3.out w4 HB4.out).2.1
   have HZN := Aside0.mk (And.intro za na)
   clear za na
   go_upto_region 10 with (first | ((with_reducible refine gate_store (t := 66) (p := 92) (v := .tmp 91) rfl ?_); refine Kd.R_store k66 (w0 := w0) w0.heap.size rfl rfl 66 (.tmp 92) (.tmp 91) rfl 66 (g := vb) (n := vn) (cap := vc) (o' := xa * 2) (xa : Int) 0 g.vs (vS F (ya ++ yb)) (.agg #[.slice A3 (ya.length + yb.length) c3, .int .i64 (F (ya ++ yb))]) [.slice A3 (ya.length + yb.length) c3, .int .i64 (F (ya ++ yb))] [.slice aA ya.length ac, .int .i64 (F ya)] (fun _ => True) (fun q => q ≠ vb) rfl ?hoff rfl rfl sizeView ?h1 ?HO ?h0 ?hi rfl (two_cells HZN.out.1 HZN.out.2) (show 2 ≤ 2 from Nat.le_refl 2) ?hM ?hokp ?HB ?_; (case hoff => rw [Int.toNat_natCast]; rfl); (case h1 => intro q hq; simp at hq; rcases hq with rfl | rfl <;> rfl); (case HO => have h := HRS4.out.rw.v; rw [HVO.out] at h; exact h); (case h0 => omega); (case hi => have := HLV.out.1; omega); (case hM => exact k66_mkM w4 w0.heap.size (fun q => q ≠ vb) (vS F (ya ++ yb)) (Kd.R_mono (Kd.R_lower (Kd.R_bound HA4.out) (HRS1.out.hb.size)) (fun q hq e => by have := hq.2.1; have := HBlk.out.1; omega))); (case hokp => exact fun q hq => ⟨trivial, hq⟩); (case HB => exact HRS4.out.hb); intro w5 ho hb hg; have HG5 := Aside0.mk (And.intro ho (And.intro hb hg)); clear ho hb hg))
   obtain ⟨ho5, hb5, hg5⟩ := HG5.out
   rw [Int.toNat_natCast] at ho5
   have hrs5 := HRS4.out.view_put HVO.out ho5 hb5 hg5
   have hon5 : Only 66 w4 w5 := Only.grown hg5 (fun q e => by injection e with e; subst e; exact typed_of HRS4.out.rw.v vb (by rw [HVO.out]; rfl))
   have HRS5 := Aside0.mk hrs5
   have hRow5 := R_only (Kd.R_below HRow1.out HB14.out) (T := 66) (by intro q hq; simp [Kd.int, Kd.scalar] at hq; subst hq; decide) hon5
   have hC5 := (Kd.R_reads' hRow5).2.2
   obtain ⟨t1, ht1⟩ : ∃ t1, t1 = (ints s.cur).take (j + 1) := ⟨_, rfl⟩
   obtain ⟨t2, ht2⟩ : ∃ t2, t2 = (ints s.cur).drop (j + 1 + 1) := ⟨_, rfl⟩
   have hl1 : t1.length = j + 1 := by rw [ht1, List.length_take, ints_length, HSN.out]; omega
   have hl2 : t2.length = n - (j + 1 + 1) := by rw [ht2, List.length_drop, ints_length, HSN.out]
   have hCt := Kd.C_take hC5 (m := j + 1) (by rw [ints_length, HSN.out]; omega)
   rw [← ht1, hl1] at hCt
   have hCd := Kd.C_drop hC5 (m := j + 1 + 1) (c := c) (by rw [ints_length, HSN.out]; omega) (by rw [ints_length, HSN.out]; omega)
   rw [← ht2, hl2, ← HQ.out] at hCd
   have HCT := Aside0.mk hCt
   have HCD := Aside0.mk hCd
   have HT12 := Aside0.mk (And.intro ht1 ht2)
   have HL12 := Aside0.mk (And.intro hl1 hl2)
   clear ho5 hb5 hg5 hrs5 hon5 hRow5 hC5 ht1 ht2 hl1 hl2 hCt hCd x2 HG5
   obtain ⟨hsl1, hsl2⟩ := HSL.out
   go_upto_region 11 with (first | ((with_reducible refine gate_builtin (b := .append) (xs := #[.tmp 93, .tmp 97]) rfl ?_); at_builtin; refine Kd.R_append_rows (Kd.int .i64) (w0 := w5) w5.heap.size rfl (.tmp 93) (.tmp 97) 24 3 (.int .i64 0) 8 rfl Tryd.underlying24 infoInt rfl (by decide) (by omega) (.slice (some ⟨w5.heap.size, 0, none⟩) 0 0) [] t1 _ _ _ (fun _ => True) (fun _ => False) rfl rfl ?aO ?aR (fun _ _ h => h) (fun _ h => h.elim) ?aF ?aB ?aS ?aL ?_; (case aO => exact R_lit0 _ _ _); (case aR => exact Kd.C_alloc HCT.out _); (case aF => exact fun _ _ => trivial); (case aB => exact below_alloc (Below.refl _ _) _); (case aS => simp); (case aL => simp only [List.length_nil]; omega); intro v6 w6 ho hb hg hat; obtain ⟨A6, c6, rfl, _, _⟩ := Kd.R_reads ho; have HA6 := Aside0.mk ho; have HB6 := Aside0.mk hb; clear ho hb hg hat))
   replace HA6 : Aside0 ((Kd.int .i64).R 3 w6 w5.heap.size (fun _ => True) (.slice A6 t1.length c6) t1) := HA6
   go_upto_region 12 with (first | ((with_reducible refine gate_builtin (b := .append) (xs := #[.tmp 99, .tmp 103]) rfl ?_); at_builtin; refine Kd.R_append_rows (Kd.int .i64) (w0 := w5) w5.heap.size rfl (.tmp 99) (.tmp 103) 24 3 (.int .i64 0) 8 rfl Tryd.underlying24 infoInt rfl (by decide) (by omega) (.slice A6 t1.length c6) t1 t2 _ _ _ (fun _ => True) (fun _ => False) rfl rfl ?aO ?aR (fun _ _ h => h) (fun _ h => h.elim) ?aF ?aB ?aS ?aL ?_; (case aO => exact HA6.out); (case aR => exact Kd.C_below HCD.out HB6.out); (case aF => exact fun _ _ => trivial); (case aB => exact HB6.out); (case aS => exact HB6.out.size); (case aL => have := HL12.out.1; omega); intro v7 w7 ho hb hg hat; obtain ⟨A7, c7, rfl, _, _⟩ := Kd.R_reads ho; have HA7 := Aside0.mk ho; have HB7 := Aside0.mk hb; clear ho hb hg hat))
   clear hsl1 hsl2
   have hA7 := HA7.out
   rw [List.length_append] at hA7
   replace HA7 := Aside0.mk hA7
   clear hA7
   have HRS7 := Aside0.mk (HRS5.out.below HB7.out)
   obtain ⟨tb2, tc2, A2', c2', htk2, y2, y3, _, _⟩ := HRS7.out.task_R k (by show k < g.ts.length; rw [HRM.out.ts, List.length_append, HK.out]; simp)
   have htk3 : g.tk = (some ⟨tb2, 0, none⟩, g.ts.length, tc2) := htk2
   rw [HTK.out] at htk3
   injection htk3 with e1 e2
   injection e1 with e1
   injection e1 with e1
   injection e2 with e2 e3
   subst e1 e3
   have hgt : g.ts.getD k z96 = ⟨sp, ints s.cur⟩ := by rw [HRM.out.ts, ← HK.out]; simp
   replace y2 : w7.cell? ⟨tb, k * 2, none⟩ = some (.int .i64 (g.ts.getD k z96).f0) := y2
   replace y3 : w7.cell? ⟨tb, k * 2 + 1, none⟩ = some (.slice A2' (g.ts.getD k z96).f1.length c2') := y3
   rw [hgt] at y2 y3
   replace y2 : w7.cell? ⟨tb, k * 2, none⟩ = some (.int .i64 sp) := y2
   replace y3 : w7.cell? ⟨tb, k * 2 + 1, none⟩ = some (.slice A2' (ints s.cur).length c2') := y3
   have HYY := Aside0.mk (And.intro y2 y3)
   have HTB := Aside0.mk (show tb < w5.heap.size from by
    obtain ⟨cells, hc⟩ := typed_of HRS5.out.rw.t tb (by show (slv g.tk).ownBlock = _; rw [HTK.out]; rfl)
    exact blk_lt hc)
   have x3 : w7.cell? ⟨gr, 3, none⟩ = some (.slice (some ⟨tb, 0, none⟩) (k + 1) tc) := by rw [HRS7.out.cell.2.2.2.1]; show some (slv g.tk) = _; rw [HTK.out]; rfl
   clear htk2 e2 hgt y2 y3
   go_upto_region 13 with (first | ((with_reducible refine gate_store (t := 24) (p := 112) (v := .tmp 110) rfl ?_); refine Kd.R_store k96 (w0 := w0) w0.heap.size rfl rfl 24 (.tmp 112) (.tmp 110) rfl 96 (g := tb) (n := k + 1) (cap := tc) (o' := k * 2 + 1) (k : Int) 1 g.ts ⟨sp, t1 ++ t2⟩ (.slice A7 (t1.length + t2.length) c7) [.slice A7 (t1.length + t2.length) c7] [.int .i64 sp, .slice A2' (ints s.cur).length c2'] (fun _ => True) (fun q => q ≠ tb) rfl ?hoff rfl rfl sizeInts ?h1 ?HO ?h0 ?hi rfl (two_cells HYY.out.1 HYY.out.2) (show 2 ≤ 2 from Nat.le_refl 2) ?hM ?hokp ?HB ?_; (case hoff => rw [Int.toNat_natCast]; rfl); (case h1 => intro q hq; simp at hq; rcases hq with rfl; rfl); (case HO => have h := HRS7.out.rw.t; replace h : k96.R 96 w7 w0.heap.size (fun _ => True) (slv g.tk) g.ts := h; rw [HTK.out] at h; exact h); (case h0 => omega); (case hi => omega); (case hM => exact k96_mkM w7 w0.heap.size (fun q => q ≠ tb) ⟨sp, t1 ++ t2⟩ (Kd.R_mono (Kd.R_lower (Kd.R_bound HA7.out) (HRS5.out.hb.size)) (fun q hq e => by have := hq.2.1; have := HTB.out; omega))); (case hokp => exact fun q hq => ⟨trivial, hq⟩); (case HB => exact HRS7.out.hb); intro w8 ho hb hg; have HG8 := Aside0.mk (And.intro ho (And.intro hb hg)); clear ho hb hg))
   obtain ⟨ho8, hb8, hg8⟩ := HG8.out
   rw [Int.toNat_natCast] at ho8
   have hrs8 := HRS7.out.task_put HTK.out ho8 hb8 hg8
   have hset : g.ts.set k ⟨sp, t1 ++ t2⟩ = tl ++ [⟨sp, (ints s.cur).eraseIdx (j + 1)⟩] := by
    rw [HRM.out.ts, List.set_append_right _ _ (by have := HK.out; omega), HK.out, Nat.sub_self, HT12.out.1, HT12.out.2, List.eraseIdx_eq_take_drop_succ]
    rfl
   rw [hset] at hrs8
   have HRS8 := Aside0.mk hrs8
   obtain ⟨⟨mA, mn, mc⟩, hmo⟩ : ∃ t : Sl, g.mo = t := ⟨_, rfl⟩
   have HMo := Aside0.mk hmo
   have x9 : w8.cell? ⟨gr, 9, none⟩ = some (.slice mA mn mc) := by rw [hrs8.cell.2.2.2.2.2.2.2.1]; show some (slv g.mo) = _; rw [hmo]; rfl
   clear ho8 hb8 hg8 hrs8 hset hmo x3 HG8
   go_wp2_with (first | ((with_reducible refine gate_builtin (b := .append) (xs := #[.tmp 118, .tmp 123]) rfl ?_); at_builtin; refine Kd.R_append k103 (w0 := w0) w0.heap.size rfl (.tmp 118) (.tmp 123) 38 103 (.agg #[.int .i64 0, .int .i64 0, .int .i64 0]) 24 rfl Tryd.underlying38 infoMerge rfl (by decide) (by omega) (.slice mA mn mc) g.ms ⟨(t : Int), (xa : Int), (xb : Int)⟩ [.int .i64 (t : Int), .int .i64 (xa : Int), .int .i64 (xb : Int)] (fun _ => True) (fun _ => False) rfl rfl ?aP (fun _ hk => hk.elim) ?aF ?aO ?aB ?aS ?aL ?_; (case aP => exact k103_mkM _ _ _ _); (case aB => exact HRS8.out.hb); (case aF => exact fun _ _ => trivial); (case aO => have h := HRS8.out.rw.m; replace h : k103.R 103 w8 w0.heap.size (fun _ => True) (slv g.mo) g.ms := h; rw [HMo.out] at h; exact h); (case aS => exact below_size HRS8.out.hb); (case aL => have := HML.out; omega); intro v9 w9 ho hb hg hat; obtain ⟨A9, c9, rfl, _, _⟩ := Kd.R_reads ho; have HG9 := Aside0.mk (And.intro ho (And.intro hb hg)); have hbp9 := (HRS8.out.merges_only (by show w8.grownBy w9 (slv g.mo).ownBlock; rw [HMo.out]; exact hg)) gr _ _ HRS8.out.bp (by decide); have hz9 := blk_frozen hbp9 9; have hx9 : w9.cell? ⟨gr, 9, none⟩ = some (.slice mA mn mc) := (blk_cell hbp9 9).trans (by show some (slv g.mo) = _; rw [HMo.out]; rfl); clear hbp9 ho hb hg hat))
   have hv := HRS8.out.told (t1 := (A9, (g.ms ++ [(⟨(t : Int), (xa : Int), (xb : Int)⟩ : S103)]).length, c9)) HG9.out.1 HG9.out.2.1 (by show w8.grownBy w9 (slv g.mo).ownBlock; rw [HMo.out]; exact HG9.out.2.2)
   rw [show (g.ms ++ [(⟨(t : Int), (xa : Int), (xb : Int)⟩ : S103)]).length = g.ms.length + 1 by simp] at hv
   have hF := HRM.out.step HSN.out hn HJJ.out HXX.out.1 HXX.out.2 HY.out.1 HY.out.2 hjl (vo := g.vo) (tk := g.tk) (mo := (A9, g.ms.length + 1, c9)) hv
   have HF := Aside0.mk (And.intro (show (mstep t s).cur.length = n - 1 by rw [mstep_len t s (by have := HSN.out; omega), HSN.out]) hF)
   clear hv hF hz9 hx9 x9
   go_roundg (n - 1)
   case measure => have := HNG.out; omega
   case rel => exact ⟨⟨mstep t s, _, HF.out.1, HF.out.2⟩⟩
  ·have hd1 : decide (1 < n) = false := decide_eq_false hn
   have hd2 : decide ((1 : Int) < (n : Int)) = false := decide_eq_false (by omega)
   have hle : (n : Int) ≤ 1 := by omega
   have HRM := Aside0.mk hrm
   have HSN := Aside0.mk hsn
   clear hrm hsn hRow htk htl hn
   go_wp2
   go_end0
   exact ⟨rfl, HP.out _ s g HRM.out (by have := HSN.out; omega)⟩
theorem merge_calls {w0 w : World} {gr : Nat} {F : List Int → Int} {op un : Int} {ps : List Int} {s : St (List Int)} {g : Gr} (h : RS w0 w gr g) (hrep : RepR F op un ps s g) (t : Nat) {pre : List Nat} {L : List Int} (hmi : MI pre s.cur s.views L) {X : Int → Prop} (hAp : JoinOk w0 gr op F X) (hX : ∀ y, y ∈ L → X y)
  (hL : L.length ≤ 2097152) (hV : s.views.length ≤ 4194304) (hM : s.merges.length + s.cur.length ≤ 2097152) (hR : s.up.length ≤ 4000000) (hps : ps.length ≤ 1048576) :
  Calls Tryd.prog 50 #[.pointer (some ⟨gr, 0, none⟩), .int .i64 (t : Int)] w fun e w' => e = .returned (.tuple #[]) ∧ ∃ g', RS w0 w' gr g' ∧ RepR F op un ps (s.merge red t) g' ∧ g'.sn = g.sn ∧ g'.ts.map (fun t : S96 => t.f0) = g.ts.map (fun t : S96 => t.f0) := by
 obtain ⟨tl, sp, hts, htl, hl⟩ := hrep.last
 refine merge_walk t pre L s g tl sp g.sn s.views.length (s.merges.length + s.cur.length) X ⟨h, hrep, hts, rfl, hmi, rfl, Nat.le_refl _, Nat.le_refl _⟩ hAp hX (by omega) hL hV hM hps (fun w' => ∃ g', RS w0 w' gr g' ∧ RepR F op un ps (s.merge red t) g' ∧ g'.sn = g.sn ∧ g'.ts.map (fun t : S96 => t.f0) = g.ts.map (fun t : S96 => t.f0)) ?_
 intro w' s' g' hrm hle
 have e1 : s' = s.merge red t := by rw [← hrm.go]; exact (merge_done t s' hle).symm
 subst e1
 exact ⟨g', hrm.rs, hrm.rep, hrm.sn, by rw [hrm.ts, hts, List.map_append, List.map_append]; rfl⟩
end Go.Proofs.YtamfkglnejhjdaaDoor.Ref
namespace Go.Proofs.YtamfkglnejhjdaaDoor.Ref
open Go.Proofs.YtamfkglnejhjdaaDoorW.PrintLast (pS tS lb sI sZ sC)
open Go.RowKit Go.Proofs.YtamfkglnejhjdaaDoorW.PrintWords Go.Proofs.YtamfkglnejhjdaaDoorW.PrintLast Go.Proofs.YtamfkglnejhjdaaDoorW.PrintMore Go.Proofs.YtamfkglnejhjdaaDoor.PHyperFold
set_option linter.unusedVariables false
set_option linter.unusedSimpArgs false

open Go.Proofs.YtamfkglnejhjdaaDoor.Play Go.Proofs.YtamfkglnejhjdaaDoor.QuietCall
open Go.Proofs.YtamfkglnejhjdaaDoor.PlayState (ints ints_length ints_getD ints_erase Bd)
theorem infoI64s : (Tryd.prog.info? 36).map (fun i => (i.zero, i.size, i.bytes)) = some (some (.slice none 0 0), 1, 24) := by kernel_rfl
theorem infoTask : (Tryd.prog.info? 96).map (fun i => (i.zero, i.size, i.bytes)) = some (some (.agg #[.int .i64 0, .slice none 0 0]), 2, 32) := by kernel_rfl
def PutOk (w0 : World) (gr : Nat) (op : Int) (F : List Int → Int) (X : Int → Prop) : Prop := ∀ (w : World) (g : Gr) (a : List Int) (x : Int), RS w0 w gr g → g.op = op → (∀ y, y ∈ a → X y) → X x →
 Calls Tryd.prog 66 #[.pointer (some ⟨gr, 0, none⟩), .int .i64 (F a), .int .i64 x] w fun e w' => e = .returned (.int .i64 (F (a ++ [x]))) ∧ Below w.heap.size w w'
theorem PutOk.at_ {w0 : World} {gr : Nat} {op : Int} {F : List Int → Int} {X : Int → Prop} (h : PutOk w0 gr op F X) (w : World) (g : Gr) (a : List Int) (x : Int) (h1 : RS w0 w gr g) (h2 : g.op = op) (h3 : ∀ y, y ∈ a → X y) (h4 : X x) :
  Calls Tryd.prog 66 #[.pointer (some ⟨gr, 0, none⟩), .int .i64 (F a), .int .i64 x] w fun e w' => e = .returned (.int .i64 (F (a ++ [x]))) ∧ Below w.heap.size w w' := h w g a x h1 h2 h3 h4
theorem R_lit1 {α : Type} {enc : α → Value} {h1 : ∀ x, (enc x).oneCell' = true} (e : Nat) (W : World) (x : α) : (Kd.scalar enc h1).R e (W.alloc (.cells #[enc x] e)) W.heap.size (fun _ => True) (.slice (some ⟨W.heap.size, 0, none⟩) 1 1) [x] := by
 refine Kd.R_of_own (xs := [x]) ?_ (fun _ _ => trivial)
 have h2 := World.ownsRow_lit (base := W.heap.size) (e := e) (size := 1) W #[enc x] 1 (Nat.le_refl _) (by simp [maxLen]) (by simp)
 simpa [encs] using h2
theorem R_readsM {α : Type} {d : Kd α} {e base : Nat} {ok : Nat → Prop} {W : World} {g n cap : Nat} {xs : List α} (z : α) (h : d.R e W base ok (.slice (some ⟨g, 0, none⟩) n cap) xs) : ReadsRow (d.M W base (fun k => ok k ∧ k ≠ g)) d.sz W (some ⟨g, 0, none⟩) n xs := by
 obtain ⟨hn, hc, hC⟩ := Kd.R_reads' h
 refine ⟨hn.symm, by rw [hn]; exact hC.2.1, fun _ => ⟨⟨g, 0, none⟩, rfl, fun j p hj => ?_⟩⟩
 have hlt := (List.getElem?_eq_some_iff.1 hj).1
 obtain ⟨c, h1, h2, h3, _⟩ := Kd.R_elem h z (j : Int) (by omega) (by omega)
 rw [Int.toNat_natCast, List.getD_eq_getElem?_getD, hj] at h2
 refine ⟨c, h1, h2, fun i u hu => ?_⟩
 rw [add0]
 have := h3 i u hu
 rwa [Int.toNat_natCast] at this
theorem reads_take {α : Type} {R : α → List Value → Prop} {sz : Nat} {W : World} {A : Option Addr} {n : Nat} {xs : List α} (h : ReadsRow R sz W A n xs) (m : Nat) (hm : m ≤ n) : ReadsRow R sz W A m (xs.take m) := by
 refine ⟨by rw [List.length_take]; have := h.1; omega, by have := h.2.1; omega, fun hp => ?_⟩
 obtain ⟨ad, e, hc⟩ := h.2.2 (by omega)
 refine ⟨ad, e, fun j p hj => hc j p ?_⟩
 rw [List.getElem?_take] at hj
 split at hj
 ·exact hj
 ·cases hj
def RT (w0 w : World) (gr : Nat) (F : List Int → Int) (op un : Int) (ps : List Int) (s : St (List Int)) : Prop := ∃ g, RS w0 w gr g ∧ RepR F op un ps s g ∧ g.sn = s.count ∧ g.ts.map (fun t : S96 => t.f0) = (-1) :: ints s.spawns.reverse
theorem C_lit1 {w : World} {b e : Nat} {x : Int} (h : w.heap[b]? = some (.cells #[.int .i64 x] e (0, 0))) : (Kd.int .i64).C w (some ⟨b, 0, none⟩) 1 [x] := by
 refine Kd.C_of_reads (d := (0 : Int)) (h1 := fun _ => rfl) ⟨rfl, by omega, fun _ => ⟨⟨b, 0, none⟩, rfl, fun j hj => ?_⟩⟩
 obtain rfl : j = 0 := by omega
 rw [add0]
 exact (blk_cell h 0).trans rfl
theorem ReadsRow.weaken {α : Type} {R R' : α → List Value → Prop} {sz : Nat} {W : World} {A : Option Addr} {n : Nat} {xs : List α} (h : ReadsRow R sz W A n xs) (hR : ∀ x cs, R x cs → R' x cs) : ReadsRow R' sz W A n xs := by
 refine ⟨h.1, h.2.1, fun hp => ?_⟩
 obtain ⟨ad, e, hc⟩ := h.2.2 hp
 exact ⟨ad, e, fun j p hj => by obtain ⟨c, h1, h2, h3⟩ := hc j p hj; exact ⟨c, h1, hR _ _ h2, h3⟩⟩
set_option maxHeartbeats 4000000 in
set_option maxRecDepth 100000 in
theorem last_at (w : World) (gr : Nat) (A : Option Addr) (k c : Nat) (hx : w.cell? ⟨gr, 3, none⟩ = some (.slice A (k + 1) c)) (hk : k ≤ 100000) :
  Calls Tryd.prog 51 #[.pointer (some ⟨gr, 0, none⟩)] w fun e w' => e = .returned (.int .i64 (k : Int)) ∧ w' = w := by
 have hl2 : (k : Int) ≤ 100000 := by omega
 have hw : wrap64 ((k : Int) + 1 - 1) = (k : Int) := by rw [BitMath.wrap_id (by unfold BitMath.In64; omega)]; omega
 clear hk
 go_enter Tryd.func51, Tryd.ntmps51
 go_wp2
 go_ret
 refine ⟨?_, rfl⟩
 first | rfl | (congr 2; show (k : Int) + 1 - 1 = k; omega)
section
variable {w0 w w1 : World} {gr : Nat} {F : List Int → Int} {op un : Int} {ps : List Int} {s : St (List Int)} {g : Gr} {L : List Int} {n : Nat}
theorem hand_at (h : RS w0 w gr g) (hr : RepR F op un ps s g) (hB : Bd n s L) (hn : n ≤ 100000) :
  Calls Tryd.prog 65 #[.pointer (some ⟨gr, 0, none⟩)] w fun e w' => e = .returned (.int .i64 (s.hand : Int)) ∧ Drawn0 w w' := by
 obtain ⟨tl, sp, h1, h2, h3⟩ := hr.last
 obtain ⟨hne, hl, _⟩ := hB.cur
 have hpos : 0 < s.cur.length := List.length_pos_iff.2 hne
 have e : (ints s.cur).getD ((ints s.cur).length - 1) 0 = (s.hand : Int) := by
  rw [ints_length, ints_getD]
  congr 1
  unfold St.hand
  rw [List.getLastD_eq_getLast?, List.getLast?_eq_getElem?, List.getD_eq_getElem?_getD]
 have := hand_calls h h1 (by show 0 < (ints s.cur).length; rw [ints_length]; exact hpos) (by show (ints s.cur).length ≤ 4194304; rw [ints_length]; omega) (by have := hr.tasks_len; have := hB.up; omega)
 rw [show (⟨sp, ints s.cur⟩ : S96).f1 = ints s.cur from rfl, e] at this
 exact this
theorem RS.looks_only (h : RS w0 w gr g) (hg : w.grownBy w1 (slv g.lo).ownBlock) : Only 36 w w1 := Only.grown hg (typed_of h.rw.l)
theorem RS.looked (h : RS w0 w gr g) {t1 : Sl} {m : List Int} (ho : kL.R 36 w1 w0.heap.size (fun _ => True) (slv t1) (g.ls ++ [m])) (hb : Below w0.heap.size w0 w1) (hg : w.grownBy w1 (slv g.lo).ownBlock) :
  RS w0 (w1.setCell ⟨gr, 10, none⟩ (slv t1)) gr { g with lo := t1, ls := g.ls ++ [m] } :=
 h.put (T := 36) (by decide) (h.looks_only hg) hb 10 _ _ rfl (h.rw.looks (h.looks_only hg) ho) ⟨rfl, rfl⟩
theorem RS.tasks_only (h : RS w0 w gr g) (hg : w.grownBy w1 (slv g.tk).ownBlock) : Only 96 w w1 := Only.grown hg (typed_of h.rw.t)
theorem RS.task_made (h : RS w0 w gr g) {t1 : Sl} {m : S96} (ho : k96.R 96 w1 w0.heap.size (fun _ => True) (slv t1) (g.ts ++ [m])) (hb : Below w0.heap.size w0 w1) (hg : w.grownBy w1 (slv g.tk).ownBlock) :
  RS w0 (w1.setCell ⟨gr, 3, none⟩ (slv t1)) gr { g with tk := t1, ts := g.ts ++ [m] } :=
 h.put (T := 96) (by decide) (h.tasks_only hg) hb 3 _ _ rfl (h.rw.tasks (h.tasks_only hg) ho) ⟨rfl, rfl⟩
theorem hand_mem (hB : Bd n s L) {y : Int} (hy : y ∈ s.views.getD s.hand []) : y ∈ L := by
 obtain ⟨pre, hmi, _⟩ := hB.inv.mi
 obtain ⟨hne, hl, _⟩ := hB.cur
 have hpos : 0 < s.cur.length := List.length_pos_iff.2 hne
 refine MI_mem hmi (j := s.cur.length - 1) (by omega) ?_
 have e : s.cur.getD (s.cur.length - 1) 0 = s.hand := by
  unfold St.hand
  rw [List.getLastD_eq_getLast?, List.getLast?_eq_getElem?, List.getD_eq_getElem?_getD]
 rw [e]
 exact hy
end
def R40a : Bool × List (List Nat × List Nat) := (true, [([], []), ([], []), ([1], [1]), ([2], [2]), ([3], [3]), ([], []), ([4, 5], [4, 5]), ([6], [6]), ([7], [7]), ([], []), ([9], [9]), ([0, 8, 10], [0, 8, 10]), ([11, 11, 0, 1, 2, 3, 4, 5, 6, 7, 8, 9, 10, 11], [11])])
def R40aB : List Nat := [0, 0, 2, 6, 14, 0, 62, 126, 254, 0, 512, 2047, 4095]
theorem R40a_tab : rtab .any (opsOf Tryd.f49 6) = R40a := by kernel_rfl
theorem R40a_bits : waitsOk R40a.2 R40aB = true := by kernel_rfl

set_option maxHeartbeats 8000000 in
set_option maxRecDepth 100000 in
theorem deed_write {w0 w : World} {gr : Nat} {F : List Int → Int} {op un : Int} {ps : List Int} {s : St (List Int)} {L : List Int} {n : Nat} (h : RT w0 w gr F op un ps s) (hB : Bd n s L) (hn : n ≤ 100000) {X : Int → Prop} (hPut : PutOk w0 gr op F X) (hX : ∀ y, y ∈ L → X y) (x at_ : Int) (hXx : X x) (sl : Value) :
  Calls Tryd.prog 49 #[.pointer (some ⟨gr, 0, none⟩), .int .i64 at_, .agg #[.int .i64 4, .int .i64 x], sl] w fun e w' => e = .returned (.tuple #[]) ∧ RT w0 w' gr F op un ps (s.write red x) := by
 obtain ⟨g, hrs, hrep, hsn, hsp⟩ := h
 obtain ⟨Pst, hI, hE⟩ : ∃ Pst : World → Prop, (∀ w', RT w0 w' gr F op un ps (s.write red x) → Pst w') ∧ (∀ w', Pst w' → RT w0 w' gr F op un ps (s.write red x)) := ⟨_, fun _ h => h, fun _ h => h⟩
 have HI := Aside0.mk hI
 refine Calls.mono (?_ : Calls Tryd.prog 49 #[.pointer (some ⟨gr, 0, none⟩), .int .i64 at_, .agg #[.int .i64 4, .int .i64 x], sl] w fun e w' => e = .returned (.tuple #[]) ∧ Pst w') (fun e w' ⟨h1, h2⟩ => ⟨h1, hE w' h2⟩)
 clear hI hE
 have hhl := hB.cur.2.2.1
 obtain ⟨hd, hhd⟩ : ∃ hd, s.hand = hd := ⟨_, rfl⟩
 have hvl := hrep.views_len
 obtain ⟨y, hy⟩ : ∃ y, s.views.getD hd [] = y := ⟨_, rfl⟩
 have hyl : y.length ≤ n := by
  have := hB.cur
  rw [← hy, ← hhd]
  exact this.2.2.2.1 _ this.2.2.1 this.2.2.2.2
 have hd2 : (hd : Int) ≤ 4194304 := by have := hB.views; omega
 have HXY := Aside0.mk (show ∀ z, z ∈ y → X z from fun z hz => hX z (hand_mem hB (by rw [hhd, hy]; exact hz)))
 have HPut := Aside0.mk hPut
 have HXx := Aside0.mk hXx
 clear hX hPut hXx
 obtain ⟨b, hb⟩ : ∃ b, w.heap.size = b := ⟨_, rfl⟩
 have HW1 := Aside0.mk (below_alloc (Below.refl w.heap.size w) (.cells #[.int .i64 4, .int .i64 x] 46))
 have HBk := Aside0.mk (show (w.alloc (.cells #[.int .i64 4, .int .i64 x] 46)).heap[b]? = some (.cells #[.int .i64 4, .int .i64 x] 46 (0, 0)) from hb ▸ heap_alloc_new _ _)
 have HRS := Aside0.mk hrs
 have HRep := Aside0.mk hrep
 have HB := Aside0.mk hB
 have HN := Aside0.mk hn
 have HH := Aside0.mk (And.intro hhd (And.intro hhl hy))
 have HYL := Aside0.mk hyl
 have HSp := Aside0.mk (And.intro hsn hsp)
 have HVL := Aside0.mk hvl
 have HOp := Aside0.mk hrep.op
 clear hrs hrep hB hn hhl hy hsn hsp hyl
 go_enter Tryd.func49, Tryd.ntmps49
 go_wp2_with fail
 refine (hand_at (HRS.out.below HW1.out) HRep.out HB.out HN.out).mono ?_
 rintro e w2 ⟨rfl, hdr⟩
 rw [HH.out.1]
 have HRS2 := Aside0.mk ((HRS.out.below HW1.out).below hdr.below)
 have HBk2 := Aside0.mk (blk_below HBk.out hdr.below)
 clear hdr HRS HW1 HBk hhd hvl
 obtain ⟨vb, vc, aA, ac, hvo, za, na, hRa⟩ := HRS2.out.view_R hd (by rw [HVL.out, ← HH.out.1]; exact HH.out.2.1)
 obtain ⟨vn, hvn⟩ : ∃ vn, g.vs.length = vn := ⟨_, rfl⟩
 have hga : g.vs.getD hd z66 = vS F y := by rw [HRep.out.view (by rw [← HH.out.1]; exact HH.out.2.1), HH.out.2.2]
 rw [hga] at za na hRa
 rw [hvn] at hvo
 replace za : w2.cell? ⟨vb, hd * 2, none⟩ = some (.slice aA y.length ac) := za
 replace na : w2.cell? ⟨vb, hd * 2 + 1, none⟩ = some (.int .i64 (F y)) := na
 have x2 : w2.cell? ⟨gr, 2, none⟩ = some (.slice (some ⟨vb, 0, none⟩) vn vc) := by rw [HRS2.out.cell.2.2.1, hvo]; rfl
 have HVn := Aside0.mk hvn
 have hlv : hd < vn := by rw [← hvn, HVL.out, ← HH.out.1]; exact HH.out.2.1
 have lv1 : ((hd : Int) < (vn : Int)) = True := eq_true (by omega)
 have HLV := Aside0.mk hlv
 have HCa := Aside0.mk (Kd.R_reads' hRa).2.2
 have HVO := Aside0.mk hvo
 obtain ⟨hb1, hb2, hb3⟩ : vb < w2.heap.size ∧ gr < w2.heap.size ∧ b < w2.heap.size := by
  obtain ⟨cells, hc⟩ := typed_of HRS2.out.rw.v vb (by rw [hvo]; rfl)
  exact ⟨blk_lt hc, blk_lt HRS2.out.bp, blk_lt HBk2.out⟩
 have HBlk := Aside0.mk (And.intro hb1 (And.intro hb2 hb3))
 have xk : w2.cell? ⟨b, 0, none⟩ = some (.int .i64 4) := (blk_cell HBk2.out 0).trans rfl
 have x1 : w2.cell? ⟨b, 1, none⟩ = some (.int .i64 x) := (blk_cell HBk2.out 1).trans rfl
 have HC := Aside0.mk (And.intro x2 (And.intro za (And.intro na (And.intro xk x1))))
 clear hRa hga hvo hvn hlv
 have HHb := Aside0.mk hb
 clear hb
 go_upto_region 5 with (first | ((with_reducible refine gate_builtin (b := .append) (xs := #[.tmp 19, .tmp 27]) rfl ?_); at_builtin; refine Kd.R_append_rows (Kd.int .i64) (w0 := w2) w2.heap.size rfl (.tmp 19) (.tmp 27) 36 2 (.int .i64 0) 8 rfl Tryd.underlying36 infoI64 rfl (by decide) (by omega) (.slice (some ⟨w2.heap.size, 0, none⟩) 0 0) [] y _ _ _ (fun _ => True) (fun _ => False) rfl rfl ?aO ?aR (fun _ _ h => h) (fun _ h => h.elim) ?aF ?aB ?aS ?aL ?_; (case aO => exact R_lit0 _ _ _); (case aR => exact Kd.C_alloc HCa.out _); (case aF => exact fun _ _ => trivial); (case aB => exact below_alloc (Below.refl _ _) _); (case aS => simp); (case aL => have := HYL.out; have := HN.out; simp only [List.length_nil]; omega); intro v3 w3 ho hb hg hat; obtain ⟨A3, c3, rfl, _, _⟩ := Kd.R_reads ho; have HA3 := Aside0.mk ho; have HB3 := Aside0.mk hb; clear ho hb hg hat))
 replace HA3 : Aside0 ((Kd.int .i64).R 2 w3 w2.heap.size (fun _ => True) (.slice A3 y.length c3) y) := HA3
 have x1' : w3.cell? ⟨b, 1, none⟩ = some (.int .i64 x) := (HB3.out.cell (p := ⟨b, 1, none⟩) HBlk.out.2.2).trans HC.out.2.2.2.2
 clear x2 za na xk x1 hb1 hb2 hb3
 go_upto_region 6 with (first | ((with_reducible refine gate_builtin (b := .append) (xs := #[.tmp 29, .tmp 32]) rfl ?_); at_builtin; refine Kd.R_append (Kd.int .i64) (w0 := w2) w2.heap.size rfl (.tmp 29) (.tmp 32) 36 2 (.int .i64 0) 8 rfl Tryd.underlying36 infoI64 rfl (by decide) (by omega) (.slice A3 y.length c3) y x [.int .i64 x] (fun _ => True) (fun _ => False) rfl rfl ?aP (fun _ hk => hk.elim) ?aF ?aO ?aB ?aS ?aL ?_; (case aP => exact rfl); (case aB => exact HB3.out); (case aF => exact fun _ _ => trivial); (case aO => exact HA3.out); (case aS => exact HB3.out.size); (case aL => have := HYL.out; have := HN.out; omega); intro v4 w4 ho hb hg hat; obtain ⟨A4, c4, rfl, _, _⟩ := Kd.R_reads ho; have HA4 := Aside0.mk ho; have HB4 := Aside0.mk hb; clear ho hb hg hat))
 clear x1'
 have HC4 := Aside0.mk (show ∀ w', Below w4.heap.size w4 w' → w'.cell? ⟨gr, 2, none⟩ = some (.slice (some ⟨vb, 0, none⟩) vn vc) ∧ w'.cell? ⟨vb, hd * 2 + 1, none⟩ = some (.int .i64 (F y)) ∧ w'.cell? ⟨b, 1, none⟩ = some (.int .i64 x) from fun w' hb => by
  have hs := HB4.out.size
  have hq : ∀ b i, b < w2.heap.size → w'.cell? ⟨b, i, none⟩ = w2.cell? ⟨b, i, none⟩ := fun b i hlt => (hb.cell (p := ⟨b, i, none⟩) (Nat.lt_of_lt_of_le hlt hs)).trans (HB4.out.cell (p := ⟨b, i, none⟩) hlt)
  exact ⟨(hq _ _ HBlk.out.2.1).trans HC.out.1, (hq _ _ HBlk.out.1).trans HC.out.2.2.1, (hq _ _ HBlk.out.2.2).trans HC.out.2.2.2.2⟩)
 refine start_ (n := 13) (S := (fun w' => w'.cell? ⟨gr, 2, none⟩ = some (.slice (some ⟨vb, 0, none⟩) vn vc) ∧ w'.cell? ⟨vb, hd * 2 + 1, none⟩ = some (.int .i64 (F y)) ∧ w'.cell? ⟨b, 1, none⟩ = some (.int .i64 x))) (ds := [12]) (lb 13 0) (by kernel_rfl) rfl rfl (HC4.out w4 (Below.refl _ _)) (fun hHeld => ?_); refine with_tabW R40a_tab R40a_bits (fun HT_ HW_ => ?_)
 have HB4b := Aside0.mk (show Below w4.heap.size w4 w4.drew from Drawn0.below ⟨⟨1, rfl⟩⟩)
 generalize w4.drew = w4b at HB4b hHeld ⊢
 refine pS 0 34 1 13 HT_.out ?_
 refine pS 1 35 3 13 HT_.out ?_
 refine pS 2 36 7 13 HT_.out ?_
 refine pS 3 37 15 13 HT_.out ?_
 refine tS 4 38 31 13 HT_.out HW_.out hHeld ?_
 refine pS 5 39 63 13 HT_.out ?_
 refine pS 6 40 127 13 HT_.out ?_
 refine pS 7 41 255 13 HT_.out ?_
 refine tS 8 42 511 13 HT_.out HW_.out hHeld ?_
 refine pS 9 43 1023 13 HT_.out ?_
 refine tS 10 44 2047 13 HT_.out HW_.out hHeld ?_
 refine one_ (i := 11) (N := some 45) (lb 13 4095) rfl rfl (one_of HT_.out (by kernel_rfl)) (by decide) (fun K hK => ?_)
 refine goes_ Tryd.func66 (by kernel_rfl) rfl #[.pointer (some ⟨gr, 0, none⟩), .int .i64 (F y), .int .i64 x] (by rfl) rfl rfl (by (try simp only [List.map_toArray, List.map_cons, List.map_nil]); first | done | rfl) ?_
 with_reducible refine (HPut.out.at_ w4b g y x ((HRS2.out.below HB4.out).below HB4b.out) HOp.out HXY.out HXx.out).mono ?_
 rintro e w5 ⟨rfl, hd⟩
 have HB5 := Aside0.mk (below_step HB4b.out hd)
 clear hd
 refine ⟨_, rfl, ?_⟩
 refine hK.out _ _ (HC4.out w5 HB5.out) (fun hHeld => ?_)
 clear hK K
 refine norm_ (a' := ?_) ?_ ?_
 rotate_left
 ·show Act.put _ (some 45) _ = _
  simp only [Act.put, sI, sZ, sC, i64_w, i32_w]
  rfl
 refine pS 12 10 8191 13 HT_.out ?_
 refine done_ (done_of HT_.out (by kernel_rfl)) ?_
 clear HT_ HW_ hHeld

 have HRS5 := Aside0.mk ((HRS2.out.below HB4.out).below HB5.out)
 have HB25 := Aside0.mk (show Below w2.heap.size w2 w5 from below_step HB4.out HB5.out)
 have hA5 := Kd.R_below HA4.out HB5.out
 rw [List.length_append, List.length_singleton] at hA5
 have HA5 := Aside0.mk hA5
 clear hA5 HA4 HA3
 have x2 : w5.cell? ⟨gr, 2, none⟩ = some (.slice (some ⟨vb, 0, none⟩) vn vc) := (HC4.out w5 HB5.out).1
 have HZN := Aside0.mk (And.intro (show w5.cell? ⟨vb, hd * 2, none⟩ = some (.slice aA y.length ac) from (HB25.out.cell (p := ⟨vb, hd * 2, none⟩) HBlk.out.1).trans HC.out.2.1) (HC4.out w5 HB5.out).2.1)
 go_wp2_with (first | ((with_reducible refine gate_store (t := 66) (p := 54) (v := .tmp 53) rfl ?_); refine Kd.R_store k66 (w0 := w0) w0.heap.size rfl rfl 66 (.tmp 54) (.tmp 53) rfl 66 (g := vb) (n := vn) (cap := vc) (o' := hd * 2) (hd : Int) 0 g.vs (vS F (y ++ [x])) (.agg #[.slice A4 (y.length + 1) c4, .int .i64 (F (y ++ [x]))]) [.slice A4 (y.length + 1) c4, .int .i64 (F (y ++ [x]))] [.slice aA y.length ac, .int .i64 (F y)] (fun _ => True) (fun q => q ≠ vb) rfl ?hoff rfl rfl sizeView ?h1 ?HO ?h0 ?hi rfl (two_cells HZN.out.1 HZN.out.2) (show 2 ≤ 2 from Nat.le_refl 2) ?hM ?hokp ?HB ?_; (case hoff => rw [Int.toNat_natCast]; rfl); (case h1 => intro q hq; simp at hq; rcases hq with rfl | rfl <;> rfl); (case HO => have h := HRS5.out.rw.v; rw [HVO.out] at h; exact h); (case h0 => omega); (case hi => have := HLV.out; omega); (case hM => exact k66_mkM w5 w0.heap.size (fun q => q ≠ vb) (vS F (y ++ [x])) (Kd.R_mono (Kd.R_lower (Kd.R_bound HA5.out) (HRS2.out.hb.size)) (fun q hq e => by have := hq.2.1; have := HBlk.out.1; omega))); (case hokp => exact fun q hq => ⟨trivial, hq⟩); (case HB => exact HRS5.out.hb); intro w6 ho hb hg; have HG6 := Aside0.mk (And.intro ho (And.intro hb hg)); clear ho hb hg))
 go_end0
 obtain ⟨ho6, hb6, hg6⟩ := HG6.out
 rw [Int.toNat_natCast] at ho6
 have hrs6 := HRS5.out.view_put HVO.out ho6 hb6 hg6
 refine ⟨rfl, HI.out _ ⟨_, hrs6, ⟨HRep.out.op, HRep.out.un, HRep.out.pl, ?_, HRep.out.ls, HRep.out.ts, HRep.out.ps, HRep.out.nx, HRep.out.ms⟩, HSp.out.1, HSp.out.2⟩⟩
 show g.vs.set hd (vS F (y ++ [x])) = (s.views.set s.hand (red.put (s.views.getD s.hand red.fresh) x)).map (vS F)
 rw [List.map_set, HRep.out.vs, HH.out.1, ← HH.out.2.2]
 rfl
def R40b : Bool × List (List Nat × List Nat) := (true, [([], []), ([], []), ([1], [1]), ([2], [2]), ([3], [3]), ([4], [4]), ([], []), ([], []), ([7], [7]), ([8], [8]), ([9], [9]), ([], []), ([10, 11], [10, 11]), ([12], [12]), ([13], [13]), ([6, 14], [6, 14]), ([15], [15]), ([5, 16, 15], [5, 16]), ([0, 0, 1, 2, 3, 4, 5, 6, 7, 8, 9, 10, 11, 12, 13, 14, 15, 16, 17], [0]), ([18, 0, 1, 2, 3, 4, 5, 6, 7, 8, 9, 10, 11, 12, 13, 14, 15, 16, 17], [18]), ([19, 0, 1, 2, 3, 4, 5, 6, 7, 8, 9, 10, 11, 12, 13, 14, 15, 16, 17], [19]), ([20, 17, 17, 0, 1, 2, 3, 4, 5, 6, 7, 8, 9, 10, 11, 12, 13, 14, 15, 16, 17], [17, 20])])
def R40bB : List Nat := [0, 0, 2, 6, 14, 30, 0, 0, 128, 384, 896, 0, 3968, 8064, 16256, 32704, 65472, 131070, 262143, 524287, 1048575, 2097151]
theorem R40b_tab : rtab .any (opsOf Tryd.f49 9) = R40b := by kernel_rfl
theorem R40b_bits : waitsOk R40b.2 R40bB = true := by kernel_rfl

set_option maxHeartbeats 8000000 in
set_option maxRecDepth 100000 in
theorem deed_read {w0 w : World} {gr : Nat} {F : List Int → Int} {op un : Int} {ps : List Int} {s : St (List Int)} {L : List Int} {n : Nat} (h : RT w0 w gr F op un ps s) (hB : Bd n s L) (hn : n ≤ 100000) (x at_ : Int) (sl : Value) :
  Calls Tryd.prog 49 #[.pointer (some ⟨gr, 0, none⟩), .int .i64 at_, .agg #[.int .i64 3, .int .i64 x], sl] w fun e w' => e = .returned (.tuple #[]) ∧ RT w0 w' gr F op un ps (s.read red) := by
 obtain ⟨g, hrs, hrep, hsn, hsp⟩ := h
 obtain ⟨Pst, hI, hE⟩ : ∃ Pst : World → Prop, (∀ w', RT w0 w' gr F op un ps (s.read red) → Pst w') ∧ (∀ w', Pst w' → RT w0 w' gr F op un ps (s.read red)) := ⟨_, fun _ h => h, fun _ h => h⟩
 have HI := Aside0.mk hI
 refine Calls.mono (?_ : Calls Tryd.prog 49 #[.pointer (some ⟨gr, 0, none⟩), .int .i64 at_, .agg #[.int .i64 3, .int .i64 x], sl] w fun e w' => e = .returned (.tuple #[]) ∧ Pst w') (fun e w' ⟨h1, h2⟩ => ⟨h1, hE w' h2⟩)
 clear hI hE
 have hhl := hB.cur.2.2.1
 obtain ⟨hd, hhd⟩ : ∃ hd, s.hand = hd := ⟨_, rfl⟩
 have hvl := hrep.views_len
 obtain ⟨y, hy⟩ : ∃ y, s.views.getD hd [] = y := ⟨_, rfl⟩
 have hyl : y.length ≤ n := by
  have := hB.cur
  rw [← hy, ← hhd]
  exact this.2.2.2.1 _ this.2.2.1 this.2.2.2.2
 have hd2 : (hd : Int) ≤ 4194304 := by have := hB.views; omega
 obtain ⟨b, hb⟩ : ∃ b, w.heap.size = b := ⟨_, rfl⟩
 have HW1 := Aside0.mk (below_alloc (Below.refl w.heap.size w) (.cells #[.int .i64 3, .int .i64 x] 46))
 have HBk := Aside0.mk (show (w.alloc (.cells #[.int .i64 3, .int .i64 x] 46)).heap[b]? = some (.cells #[.int .i64 3, .int .i64 x] 46 (0, 0)) from hb ▸ heap_alloc_new _ _)
 have HRS := Aside0.mk hrs
 have HRep := Aside0.mk hrep
 have HB := Aside0.mk hB
 have HN := Aside0.mk hn
 have HH := Aside0.mk (And.intro hhd (And.intro hhl hy))
 have HYL := Aside0.mk hyl
 have HSp := Aside0.mk (And.intro hsn hsp)
 have HVL := Aside0.mk hvl
 have HOp := Aside0.mk hrep.op
 clear hrs hrep hB hn hhl hy hsn hsp hyl
 go_enter Tryd.func49, Tryd.ntmps49
 go_wp2_with fail
 refine (hand_at (HRS.out.below HW1.out) HRep.out HB.out HN.out).mono ?_
 rintro e w2 ⟨rfl, hdr⟩
 rw [HH.out.1]
 have HRS2 := Aside0.mk ((HRS.out.below HW1.out).below hdr.below)
 have HBk2 := Aside0.mk (blk_below HBk.out hdr.below)
 clear hdr HRS HW1 HBk hhd hvl
 obtain ⟨vb, vc, aA, ac, hvo, za, na, hRa⟩ := HRS2.out.view_R hd (by rw [HVL.out, ← HH.out.1]; exact HH.out.2.1)
 obtain ⟨vn, hvn⟩ : ∃ vn, g.vs.length = vn := ⟨_, rfl⟩
 have hga : g.vs.getD hd z66 = vS F y := by rw [HRep.out.view (by rw [← HH.out.1]; exact HH.out.2.1), HH.out.2.2]
 rw [hga] at za na hRa
 rw [hvn] at hvo
 replace za : w2.cell? ⟨vb, hd * 2, none⟩ = some (.slice aA y.length ac) := za
 replace na : w2.cell? ⟨vb, hd * 2 + 1, none⟩ = some (.int .i64 (F y)) := na
 have x2 : w2.cell? ⟨gr, 2, none⟩ = some (.slice (some ⟨vb, 0, none⟩) vn vc) := by rw [HRS2.out.cell.2.2.1, hvo]; rfl
 have HVn := Aside0.mk hvn
 have hlv : hd < vn := by rw [← hvn, HVL.out, ← HH.out.1]; exact HH.out.2.1
 have lv1 : ((hd : Int) < (vn : Int)) = True := eq_true (by omega)
 have HLV := Aside0.mk hlv
 have HCa := Aside0.mk (Kd.R_reads' hRa).2.2
 have HVO := Aside0.mk hvo
 obtain ⟨hb1, hb2, hb3⟩ : vb < w2.heap.size ∧ gr < w2.heap.size ∧ b < w2.heap.size := by
  obtain ⟨cells, hc⟩ := typed_of HRS2.out.rw.v vb (by rw [hvo]; rfl)
  exact ⟨blk_lt hc, blk_lt HRS2.out.bp, blk_lt HBk2.out⟩
 have HBlk := Aside0.mk (And.intro hb1 (And.intro hb2 hb3))
 have xk : w2.cell? ⟨b, 0, none⟩ = some (.int .i64 3) := (blk_cell HBk2.out 0).trans rfl
 have x1 : w2.cell? ⟨b, 1, none⟩ = some (.int .i64 x) := (blk_cell HBk2.out 1).trans rfl
 have HC := Aside0.mk (And.intro x2 (And.intro za (And.intro na (And.intro xk x1))))
 clear hRa hga hvo hvn hlv
 have HHb := Aside0.mk hb
 obtain ⟨⟨lA, ln, lc⟩, hlo⟩ : ∃ t : Sl, g.lo = t := ⟨_, rfl⟩
 have HLO := Aside0.mk (show slv g.lo = .slice lA ln lc by rw [hlo]; rfl)
 have HLL := Aside0.mk (show g.ls.length ≤ 100000 by rw [HRep.out.ls]; have := HB.out.looks; have := HN.out; omega)
 have HLB := Aside0.mk (show ∀ q, some q = (Value.slice lA ln lc).ownBlock → q < w2.heap.size from fun q hq => by
  obtain ⟨cells, hc⟩ := typed_of HRS2.out.rw.l q (by rw [HLO.out]; exact hq.symm)
  exact blk_lt hc)
 have HC9 := Aside0.mk (show ∀ w', Below w2.heap.size w2 w' → w'.cell? ⟨gr, 10, none⟩ = some (.slice lA ln lc) ∧ w'.cell? ⟨gr, 2, none⟩ = some (.slice (some ⟨vb, 0, none⟩) vn vc) ∧ w'.cell? ⟨vb, hd * 2, none⟩ = some (.slice aA y.length ac) from fun w' hb => by
  have hq : ∀ b i, b < w2.heap.size → w'.cell? ⟨b, i, none⟩ = w2.cell? ⟨b, i, none⟩ := fun b i hlt => hb.cell (p := ⟨b, i, none⟩) hlt
  exact ⟨(hq _ _ HBlk.out.2.1).trans (by rw [HRS2.out.cell.2.2.2.2.2.2.2.2, HLO.out]), (hq _ _ HBlk.out.2.1).trans HC.out.1, (hq _ _ HBlk.out.1).trans HC.out.2.1⟩)
 have HC9b := Aside0.mk (show ∀ w4 w5, Below w2.heap.size w2 w4 → Only 36 w4 w5 → w5.heap[gr]? = some (.cells (cells g) 70 (0, 0)) → w5.cell? ⟨gr, 10, none⟩ = some (.slice lA ln lc) ∧ w5.cell? ⟨gr, 2, none⟩ = some (.slice (some ⟨vb, 0, none⟩) vn vc) ∧ w5.cell? ⟨vb, hd * 2, none⟩ = some (.slice aA y.length ac) from fun w4 w5 hb ho hbp => by
  obtain ⟨cells, hc⟩ := typed_of HRS2.out.rw.v vb (by rw [HVO.out]; rfl)
  have h4 := HC9.out w4 hb
  have hv := ho vb _ _ (blk_below hc hb) (by decide)
  refine ⟨(blk_cell hbp 10).trans (by show some (slv g.lo) = _; rw [HLO.out]), (blk_cell hbp 2).trans (by show some (slv g.vo) = _; rw [HVO.out]; rfl), ?_⟩
  exact (World.cell?_of_block (hv.trans (blk_below hc hb).symm)).trans h4.2.2)
 clear hlo hb
 go_upto_region 9 with fail
 clear x2 za na xk x1 hb1 hb2 hb3
 refine start_ (n := 22) (S := (fun w' => w'.cell? ⟨gr, 10, none⟩ = some (.slice lA ln lc) ∧ w'.cell? ⟨gr, 2, none⟩ = some (.slice (some ⟨vb, 0, none⟩) vn vc) ∧ w'.cell? ⟨vb, hd * 2, none⟩ = some (.slice aA y.length ac))) (ds := [21]) (lb 22 0) (by kernel_rfl) rfl rfl (HC9.out w2 (Below.refl _ _)) (fun hHeld => ?_); refine with_tabW R40b_tab R40b_bits (fun HT_ HW_ => ?_)
 have HBb := Aside0.mk (show Below w2.heap.size w2 w2.drew from Drawn0.below ⟨⟨1, rfl⟩⟩)
 generalize w2.drew = w3 at HBb hHeld ⊢
 have HRS3 := Aside0.mk (HRS2.out.below HBb.out)
 refine pS 0 57 1 22 HT_.out ?_
 refine pS 1 58 3 22 HT_.out ?_
 refine pS 2 59 7 22 HT_.out ?_
 refine pS 3 60 15 22 HT_.out ?_
 refine pS 4 61 31 22 HT_.out ?_
 refine tS 5 62 63 22 HT_.out HW_.out hHeld ?_
 refine pS 7 64 191 22 HT_.out ?_
 refine pS 8 65 447 22 HT_.out ?_
 refine pS 9 66 959 22 HT_.out ?_
 refine tS 10 67 1983 22 HT_.out HW_.out hHeld ?_
 refine pS 11 68 4031 22 HT_.out ?_
 refine pS 12 69 8127 22 HT_.out ?_
 refine pS 13 70 16319 22 HT_.out ?_
 refine tS 14 71 32703 22 HT_.out HW_.out hHeld ?_
 refine one_ (i := 6) (N := some 63) (lb 22 32767) rfl rfl (one_of HT_.out (by kernel_rfl)) (by decide) (fun K hK => ?_)
 refine value_ (w1 := ?_) (v := ?_) (by rfl) rfl ?_ ?_
 rotate_left 2
 ·go_simp
  constructor
  ·rfl
  ·rfl
 refine hK.out _ _ (HC9.out _ (below_step HBb.out (below_alloc (Below.refl _ _) _))) (fun hHeld => ?_)
 clear hK K
 refine norm_ (a' := ?_) ?_ ?_
 rotate_left
 ·show Act.put _ (some 63) _ = _
  simp only [Act.put, sI, sZ, sC, i64_w, i32_w]
  rfl
 refine one_ (i := 15) (N := some 72) (lb 22 65535) rfl rfl (one_of HT_.out (by kernel_rfl)) (by decide) (fun K hK => ?_)
 refine Kd.R_append_rows_step (Kd.int .i64) (w0 := w3) w3.heap.size (by rfl) (.tmp 63) (.tmp 71) 36 2 (.int .i64 0) 8 rfl Tryd.underlying36 infoI64 rfl (by decide) (by omega) (.slice (some ⟨w3.heap.size, 0, none⟩) 0 0) [] y _ _ _ (fun _ => True) (fun _ => False) rfl rfl ?aO ?aR (fun _ _ h => h) (fun _ h => h.elim) ?aF ?aB ?aS ?aL ?_
 (case aO => exact R_lit0 _ _ _)
 (case aR => exact Kd.C_alloc (Kd.C_below HCa.out HBb.out) _)
 (case aF => exact fun _ _ => trivial)
 (case aB => exact below_alloc (Below.refl _ _) _)
 (case aS => exact by simp)
 (case aL => have := HYL.out; have := HN.out; simp only [List.length_nil]; omega)
 intro v4 w4 ho hb hg hat
 obtain ⟨A4, c4, rfl, _, _⟩ := Kd.R_reads ho
 have HA4 := Aside0.mk (show (Kd.int .i64).R 2 w4 w3.heap.size (fun _ => True) (.slice A4 y.length c4) y from ho)
 have HB4 := Aside0.mk hb
 clear ho hb hg hat
 refine hK.out _ _ (HC9.out _ (below_step HBb.out HB4.out)) (fun hHeld => ?_)
 clear hK K
 refine norm_ (a' := ?_) ?_ ?_
 rotate_left
 ·show Act.put _ (some 72) _ = _
  simp only [Act.put, sI, sZ, sC, i64_w, i32_w]
  rfl
 rw [List.nil_append]
 refine one_ (i := 16) (N := some 73) (lb 22 131071) rfl rfl (one_of HT_.out (by kernel_rfl)) (by decide) (fun K hK => ?_)
 refine value_ (w1 := ?_) (v := ?_) (by rfl) rfl ?_ ?_
 rotate_left 2
 ·go_simp
  constructor
  ·rfl
  ·rfl
 refine hK.out _ _ (HC9.out _ (below_step HBb.out (below_step HB4.out (below_alloc (Below.refl _ _) _)))) (fun hHeld => ?_)
 clear hK K
 refine norm_ (a' := ?_) ?_ ?_
 rotate_left
 ·show Act.put _ (some 73) _ = _
  simp only [Act.put, sI, sZ, sC, i64_w, i32_w]
  rfl
 refine one_ (i := 17) (N := some 74) (lb 22 262143) rfl rfl (one_of HT_.out (by kernel_rfl)) (by decide) (fun K hK => ?_)
 refine Kd.R_append_step kL (w0 := w0) w0.heap.size (by rfl) (.tmp 62) (.tmp 73) 39 36 (.slice none 0 0) 24 rfl Tryd.underlying39 infoI64s rfl (by decide) (by omega) (.slice lA ln lc) g.ls y [.slice A4 y.length c4] (fun _ => True) (fun q => some q ≠ (Value.slice lA ln lc).ownBlock) rfl rfl ?aP (fun _ hk => ⟨trivial, hk⟩) ?aF ?aO ?aB ?aS ?aL ?_
 (case aP => exact ⟨_, rfl, Kd.R_mono (Kd.R_lower (Kd.R_bound HA4.out) HRS3.out.hb.size) (fun q hq e => by have := hq.2.1; have := HLB.out q e; have := HBb.out.size; omega)⟩)
 (case aB => exact (HRS3.out.below HB4.out).hb)
 (case aF => exact fun _ _ => trivial)
 (case aO => have h := (HRS3.out.below HB4.out).rw.l; rw [HLO.out] at h; exact h)
 (case aS => exact below_size (HRS3.out.below HB4.out).hb)
 (case aL => have := HLL.out; omega)
 intro v5 w5 ho hb hg hat
 obtain ⟨A5, c5, rfl, _, _⟩ := Kd.R_reads ho
 have HG := Aside0.mk (And.intro ho (And.intro hb hg))
 clear ho hb hg hat
 have hon5 := (HRS3.out.below HB4.out).looks_only (by rw [HLO.out]; exact HG.out.2.2)
 have hbp5 := hon5 gr _ _ (HRS3.out.below HB4.out).bp (by decide)
 refine hK.out _ _ (HC9b.out w4 w5 (below_step HBb.out HB4.out) hon5 hbp5) (fun hHeld => ?_)
 clear hK K
 refine norm_ (a' := ?_) ?_ ?_
 rotate_left
 ·show Act.put _ (some 74) _ = _
  simp only [Act.put, sI, sZ, sC, i64_w, i32_w]
  rfl
 refine pS 18 75 524287 22 HT_.out ?_
 refine pS 19 76 1048575 22 HT_.out ?_
 refine pS 20 77 2097151 22 HT_.out ?_
 have hfz := blk_frozen hbp5 10
 have hfx : w5.cell? ⟨gr, 10, none⟩ = some (.slice lA ln lc) := (blk_cell hbp5 10).trans (by show some (slv g.lo) = _; rw [HLO.out])
 refine last_ (i := 21) (N := none) (lb 22 4194303) rfl rfl (one_of HT_.out (by kernel_rfl)) (by decide) (fun K hK => ?_)
 refine skip_ (w1 := ?_) (by rfl) rfl ?_ ?_
 rotate_left
 ·go_simp
  rfl
 refine hK.out _ _ ?_
 clear hK K
 refine done_ (done_of HT_.out (by kernel_rfl)) ?_
 clear HT_ HW_ hHeld

 have hl5 : (g.ls ++ [y]).length = g.ls.length + 1 := by simp
 have hv := (HRS3.out.below HB4.out).looked (t1 := (A5, (g.ls ++ [y]).length, c5)) HG.out.1 HG.out.2.1 (by rw [HLO.out]; exact HG.out.2.2)
 rw [hl5] at hv
 replace hv : RS w0 (w5.setCell ⟨gr, 10, none⟩ (.slice A5 (g.ls.length + 1) c5)) gr { g with lo := (A5, g.ls.length + 1, c5), ls := g.ls ++ [y] } := hv
 have HV := Aside0.mk hv
 clear hv hl5 hfz hfx hon5 hbp5
 go_wp2
 go_end0
 refine ⟨rfl, HI.out _ ⟨_, HV.out, ⟨HRep.out.op, HRep.out.un, HRep.out.pl, HRep.out.vs, ?_, HRep.out.ts, HRep.out.ps, HRep.out.nx, HRep.out.ms⟩, HSp.out.1, HSp.out.2⟩⟩
 show g.ls ++ [y] = s.looks ++ [s.views.getD s.hand red.fresh]
 rw [HRep.out.ls, HH.out.1, ← HH.out.2.2]
 rfl
def R40c : Bool × List (List Nat × List Nat) := (true, [([], []), ([], []), ([1], [1]), ([2], [2]), ([3], [3]), ([], []), ([5], [5]), ([6], [6]), ([7], [7]), ([], []), ([9], [9]), ([8, 10], [8, 10]), ([11], [11]), ([4, 12], [4, 12]), ([0, 0, 1, 2, 3, 4, 5, 6, 7, 8, 9, 10, 11, 12, 13], [0]), ([14, 0, 1, 2, 3, 4, 5, 6, 7, 8, 9, 10, 11, 12, 13], [14]), ([15, 13, 13, 0, 1, 2, 3, 4, 5, 6, 7, 8, 9, 10, 11, 12, 13], [13, 15])])
def R40cB : List Nat := [0, 0, 2, 6, 14, 0, 32, 96, 224, 0, 512, 2016, 4064, 8190, 16383, 32767, 65535]
theorem R40c_tab : rtab .any (opsOf Tryd.f49 11) = R40c := by kernel_rfl
theorem R40c_bits : waitsOk R40c.2 R40cB = true := by kernel_rfl

set_option maxHeartbeats 8000000 in
set_option maxRecDepth 100000 in
theorem deed_spawn {w0 w : World} {gr : Nat} {F : List Int → Int} {op un : Int} {ps : List Int} {s : St (List Int)} {L : List Int} {n : Nat} (h : RT w0 w gr F op un ps s) (hB : Bd n s L) (hn : n ≤ 100000) (x at_ : Int) (sl : Value) :
  Calls Tryd.prog 49 #[.pointer (some ⟨gr, 0, none⟩), .int .i64 at_, .agg #[.int .i64 0, .int .i64 x], sl] w fun e w' => e = .returned (.tuple #[]) ∧ RT w0 w' gr F op un ps s.spawn := by
 obtain ⟨g, hrs, hrep, hsn, hsp⟩ := h
 obtain ⟨Pst, hI, hE⟩ : ∃ Pst : World → Prop, (∀ w', RT w0 w' gr F op un ps s.spawn → Pst w') ∧ (∀ w', Pst w' → RT w0 w' gr F op un ps s.spawn) := ⟨_, fun _ h => h, fun _ h => h⟩
 have HI := Aside0.mk hI
 refine Calls.mono (?_ : Calls Tryd.prog 49 #[.pointer (some ⟨gr, 0, none⟩), .int .i64 at_, .agg #[.int .i64 0, .int .i64 x], sl] w fun e w' => e = .returned (.tuple #[]) ∧ Pst w') (fun e w' ⟨h1, h2⟩ => ⟨h1, hE w' h2⟩)
 clear hI hE
 have hhl := hB.cur.2.2.1
 obtain ⟨hd, hhd⟩ : ∃ hd, s.hand = hd := ⟨_, rfl⟩
 have hvl := hrep.views_len
 obtain ⟨y, hy⟩ : ∃ y, s.views.getD hd [] = y := ⟨_, rfl⟩
 have hyl : y.length ≤ n := by
  have := hB.cur
  rw [← hy, ← hhd]
  exact this.2.2.2.1 _ this.2.2.1 this.2.2.2.2
 have hd2 : (hd : Int) ≤ 4194304 := by have := hB.views; omega
 have hsc : s.count ≤ 100000 := by have := hB.count; omega
 have hsc2 : (g.sn : Int) ≤ 100000 := by rw [hsn]; omega
 have HSC := Aside0.mk hsc
 clear hsc
 obtain ⟨b, hb⟩ : ∃ b, w.heap.size = b := ⟨_, rfl⟩
 have HW1 := Aside0.mk (below_alloc (Below.refl w.heap.size w) (.cells #[.int .i64 0, .int .i64 x] 46))
 have HBk := Aside0.mk (show (w.alloc (.cells #[.int .i64 0, .int .i64 x] 46)).heap[b]? = some (.cells #[.int .i64 0, .int .i64 x] 46 (0, 0)) from hb ▸ heap_alloc_new _ _)
 have HRS := Aside0.mk hrs
 have HRep := Aside0.mk hrep
 have HB := Aside0.mk hB
 have HN := Aside0.mk hn
 have HH := Aside0.mk (And.intro hhd (And.intro hhl hy))
 have HYL := Aside0.mk hyl
 have HSp := Aside0.mk (And.intro hsn hsp)
 have HVL := Aside0.mk hvl
 have HOp := Aside0.mk hrep.op
 clear hrs hrep hB hn hhl hy hsn hsp hyl
 go_enter Tryd.func49, Tryd.ntmps49
 go_wp2_with fail
 refine (hand_at (HRS.out.below HW1.out) HRep.out HB.out HN.out).mono ?_
 rintro e w2 ⟨rfl, hdr⟩
 rw [HH.out.1]
 have HRS2 := Aside0.mk ((HRS.out.below HW1.out).below hdr.below)
 have HBk2 := Aside0.mk (blk_below HBk.out hdr.below)
 clear hdr HRS HW1 HBk hhd hvl
 have HHb := Aside0.mk hb
 have xk : w2.cell? ⟨b, 0, none⟩ = some (.int .i64 0) := (blk_cell HBk2.out 0).trans rfl
 obtain ⟨⟨kA, kn, kc⟩, htk⟩ : ∃ t : Sl, g.tk = t := ⟨_, rfl⟩
 have HTK := Aside0.mk (show slv g.tk = .slice kA kn kc by rw [htk]; rfl)
 have HTL := Aside0.mk (show g.ts.length ≤ 200000 by rw [HRep.out.tasks_len]; have := HB.out.up; have := HN.out; omega)
 have HKB := Aside0.mk (show ∀ q, some q = (Value.slice kA kn kc).ownBlock → q < w2.heap.size from fun q hq => by
  obtain ⟨cells, hc⟩ := typed_of HRS2.out.rw.t q (by rw [HTK.out]; exact hq.symm)
  exact blk_lt hc)
 have HC11 := Aside0.mk (show ∀ w', RS w0 w' gr g → w'.cell? ⟨gr, 3, none⟩ = some (.slice kA kn kc) ∧ w'.cell? ⟨gr, 6, none⟩ = some (.int .i64 (g.sn : Int)) from fun w' h => ⟨by rw [h.cell.2.2.2.1, HTK.out], h.cell.2.2.2.2.2.2.1⟩)
 clear htk hb
 go_upto_region 11 with fail
 clear xk
 refine start_ (n := 17) (S := (fun w' => w'.cell? ⟨gr, 3, none⟩ = some (.slice kA kn kc) ∧ w'.cell? ⟨gr, 6, none⟩ = some (.int .i64 (g.sn : Int)))) (ds := [16]) (lb 17 0) (by kernel_rfl) rfl rfl (HC11.out w2 HRS2.out) (fun hHeld => ?_); refine with_tabW R40c_tab R40c_bits (fun HT_ HW_ => ?_)
 have HBb := Aside0.mk (show Below w2.heap.size w2 w2.drew from Drawn0.below ⟨⟨1, rfl⟩⟩)
 generalize w2.drew = w3 at HBb hHeld ⊢
 have HRS3 := Aside0.mk (HRS2.out.below HBb.out)
 refine pS 0 80 1 17 HT_.out ?_
 refine pS 1 81 3 17 HT_.out ?_
 refine pS 2 82 7 17 HT_.out ?_
 refine pS 3 83 15 17 HT_.out ?_
 refine tS 4 84 31 17 HT_.out HW_.out hHeld ?_
 refine pS 5 85 63 17 HT_.out ?_
 refine pS 6 86 127 17 HT_.out ?_
 refine pS 7 87 255 17 HT_.out ?_
 refine tS 8 88 511 17 HT_.out HW_.out hHeld ?_
 refine pS 9 89 1023 17 HT_.out ?_
 refine one_ (i := 10) (N := some 90) (lb 17 2047) rfl rfl (one_of HT_.out (by kernel_rfl)) (by decide) (fun K hK => ?_)
 refine value_ (w1 := ?_) (v := ?_) (by rfl) rfl ?_ ?_
 rotate_left 2
 ·go_simp
  constructor
  ·rfl
  ·rfl
 refine hK.out _ _ (HC11.out _ (HRS3.out.below (below_alloc (Below.refl _ _) _))) (fun hHeld => ?_)
 clear hK K
 refine norm_ (a' := ?_) ?_ ?_
 rotate_left
 ·show Act.put _ (some 90) _ = _
  simp only [Act.put, sI, sZ, sC, i64_w, i32_w]
  rfl
 refine pS 11 91 4095 17 HT_.out ?_
 have HA3 := Aside0.mk (show (Kd.int .i64).R 3 (w3.alloc (.cells #[.int .i64 (hd : Int)] 3)) w3.heap.size (fun _ => True) (.slice (some ⟨w3.heap.size, 0, none⟩) 1 1) [(hd : Int)] from R_lit1 (enc := Value.int .i64) (h1 := fun _ => rfl) _ _ _)
 have HRS4 := Aside0.mk (HRS3.out.below (below_alloc (Below.refl _ _) (.cells #[.int .i64 (hd : Int)] 3)))
 generalize w3.alloc (.cells #[.int .i64 (hd : Int)] 3) = w4 at HA3 HRS4 hHeld ⊢
 refine one_ (i := 12) (N := some 92) (lb 17 8191) rfl rfl (one_of HT_.out (by kernel_rfl)) (by decide) (fun K hK => ?_)
 refine value_ (w1 := ?_) (v := ?_) (by rfl) rfl ?_ ?_
 rotate_left 2
 ·go_simp
  constructor
  ·rfl
  ·rfl
 refine hK.out _ _ (HC11.out _ (HRS4.out.below (below_alloc (Below.refl _ _) _))) (fun hHeld => ?_)
 clear hK K
 refine norm_ (a' := ?_) ?_ ?_
 rotate_left
 ·show Act.put _ (some 92) _ = _
  simp only [Act.put, sI, sZ, sC, i64_w, i32_w]
  rfl
 refine one_ (i := 13) (N := some 93) (lb 17 16383) rfl rfl (one_of HT_.out (by kernel_rfl)) (by decide) (fun K hK => ?_)
 refine Kd.R_append_step k96 (w0 := w0) w0.heap.size (by rfl) (.tmp 84) (.tmp 92) 68 96 (.agg #[.int .i64 0, .slice none 0 0]) 32 rfl Tryd.underlying68 infoTask rfl (by decide) (by omega) (.slice kA kn kc) g.ts ⟨(g.sn : Int), [(hd : Int)]⟩ [.int .i64 (g.sn : Int), .slice (some ⟨w3.heap.size, 0, none⟩) 1 1] (fun _ => True) (fun q => some q ≠ (Value.slice kA kn kc).ownBlock) rfl rfl ?aP (fun _ hk => ⟨trivial, hk⟩) ?aF ?aO ?aB ?aS ?aL ?_
 (case aP => exact k96_mkM _ _ _ ⟨(g.sn : Int), [(hd : Int)]⟩ (Kd.R_mono (Kd.R_lower (Kd.R_bound HA3.out) HRS3.out.hb.size) (fun q hq e => by have := hq.2.1; have := HKB.out q e; have := HBb.out.size; omega)))
 (case aB => exact HRS4.out.hb)
 (case aF => exact fun _ _ => trivial)
 (case aO => have h := HRS4.out.rw.t; rw [HTK.out] at h; exact h)
 (case aS => exact below_size HRS4.out.hb)
 (case aL => have := HTL.out; omega)
 intro v5 w5 ho hb hg hat
 obtain ⟨A5, c5, rfl, _, _⟩ := Kd.R_reads ho
 have HG := Aside0.mk (And.intro ho (And.intro hb hg))
 clear ho hb hg hat
 have hon5 := HRS4.out.tasks_only (by rw [HTK.out]; exact HG.out.2.2)
 have hbp5 := hon5 gr _ _ HRS4.out.bp (by decide)
 refine hK.out _ _ ⟨(blk_cell hbp5 3).trans (by show some (slv g.tk) = _; rw [HTK.out]), (blk_cell hbp5 6).trans rfl⟩ (fun hHeld => ?_)
 clear hK K
 refine norm_ (a' := ?_) ?_ ?_
 rotate_left
 ·show Act.put _ (some 93) _ = _
  simp only [Act.put, sI, sZ, sC, i64_w, i32_w]
  rfl
 refine pS 14 94 32767 17 HT_.out ?_
 refine pS 15 95 65535 17 HT_.out ?_
 have hfz := blk_frozen hbp5 3
 have hfx : w5.cell? ⟨gr, 3, none⟩ = some (.slice kA kn kc) := (blk_cell hbp5 3).trans (by show some (slv g.tk) = _; rw [HTK.out])
 refine last_ (i := 16) (N := none) (lb 17 131071) rfl rfl (one_of HT_.out (by kernel_rfl)) (by decide) (fun K hK => ?_)
 refine skip_ (w1 := ?_) (by rfl) rfl ?_ ?_
 rotate_left
 ·go_simp
  rfl
 refine hK.out _ _ ?_
 clear hK K
 refine done_ (done_of HT_.out (by kernel_rfl)) ?_
 clear HT_ HW_ hHeld

 have hl5 : (g.ts ++ [(⟨(g.sn : Int), [(hd : Int)]⟩ : S96)]).length = g.ts.length + 1 := by simp
 have hv := HRS4.out.task_made (t1 := (A5, (g.ts ++ [(⟨(g.sn : Int), [(hd : Int)]⟩ : S96)]).length, c5)) HG.out.1 HG.out.2.1 (by rw [HTK.out]; exact HG.out.2.2)
 rw [hl5] at hv
 replace hv : RS w0 (w5.setCell ⟨gr, 3, none⟩ (.slice A5 (g.ts.length + 1) c5)) gr { g with tk := (A5, g.ts.length + 1, c5), ts := g.ts ++ [⟨(g.sn : Int), [(hd : Int)]⟩] } := hv
 have HV := Aside0.mk hv
 generalize w5.setCell ⟨gr, 3, none⟩ (.slice A5 (g.ts.length + 1) c5) = w6 at HV ⊢
 clear hv hl5 hfz hfx hon5 hbp5
 have x6 : w6.cell? ⟨gr, 6, none⟩ = some (.int .i64 (g.sn : Int)) := HV.out.cell.2.2.2.2.2.2.1
 have f6 := blk_frozen HV.out.bp 6
 obtain ⟨W7, hW7⟩ : ∃ W7, w6.setCell ⟨gr, 6, none⟩ (.int .i64 ((g.sn : Int) + 1)) = W7 := ⟨_, rfl⟩
 have HV7 := Aside0.mk (show RS w0 W7 gr { g with tk := (A5, g.ts.length + 1, c5), ts := g.ts ++ [⟨(g.sn : Int), [(hd : Int)]⟩], sn := g.sn + 1 } from by
  rw [← hW7]
  refine HV.out.num 6 _ _ ?_ ⟨HV.out.rw.v, HV.out.rw.t, HV.out.rw.m, HV.out.rw.l⟩ ⟨rfl, rfl⟩
  simp [cells])
 go_wp2
 go_end0
 refine ⟨rfl, HI.out _ ⟨_, HV7.out, ⟨HRep.out.op, HRep.out.un, HRep.out.pl, HRep.out.vs, HRep.out.ls, ?_, HRep.out.ps, HRep.out.nx, HRep.out.ms⟩, ?_, ?_⟩⟩
 ·show (g.ts ++ [(⟨(g.sn : Int), [(hd : Int)]⟩ : S96)]).map (fun t : S96 => t.f1) = (s.cur :: s.up).reverse.map ints ++ [ints [s.hand]]
  rw [List.map_append, HRep.out.ts, HH.out.1]
  simp [ints]
 ·show g.sn + 1 = s.count + 1
  rw [HSp.out.1]
 ·show (g.ts ++ [(⟨(g.sn : Int), [(hd : Int)]⟩ : S96)]).map (fun t : S96 => t.f0) = (-1) :: ints (s.count :: s.spawns).reverse
  rw [List.map_append, HSp.out.2, HSp.out.1]
  simp [ints]

set_option maxHeartbeats 8000000 in
set_option maxRecDepth 100000 in
theorem deed_sync {w0 w : World} {gr : Nat} {F : List Int → Int} {op un : Int} {ps : List Int} {s : St (List Int)} {L : List Int} {n : Nat} (h : RT w0 w gr F op un ps s) (hB : Bd n s L) (hn : n ≤ 100000) (t : Nat) {X : Int → Prop} (hAp : JoinOk w0 gr op F X) (hX : ∀ y, y ∈ L → X y) (hps : ps.length ≤ 1048576) (x : Int) (sl : Value) :
  Calls Tryd.prog 49 #[.pointer (some ⟨gr, 0, none⟩), .int .i64 (t : Int), .agg #[.int .i64 2, .int .i64 x], sl] w fun e w' => e = .returned (.tuple #[]) ∧ RT w0 w' gr F op un ps (s.merge red t) := by
 obtain ⟨g, hrs, hrep, hsn, hsp⟩ := h
 obtain ⟨Pst, hI, hE⟩ : ∃ Pst : World → Prop, (∀ w', RT w0 w' gr F op un ps (s.merge red t) → Pst w') ∧ (∀ w', Pst w' → RT w0 w' gr F op un ps (s.merge red t)) := ⟨_, fun _ h => h, fun _ h => h⟩
 have HI := Aside0.mk hI
 refine Calls.mono (?_ : Calls Tryd.prog 49 #[.pointer (some ⟨gr, 0, none⟩), .int .i64 (t : Int), .agg #[.int .i64 2, .int .i64 x], sl] w fun e w' => e = .returned (.tuple #[]) ∧ Pst w') (fun e w' ⟨h1, h2⟩ => ⟨h1, hE w' h2⟩)
 clear hI hE
 have hhl := hB.cur.2.2.1
 obtain ⟨hd, hhd⟩ : ∃ hd, s.hand = hd := ⟨_, rfl⟩
 have hvl := hrep.views_len
 obtain ⟨y, hy⟩ : ∃ y, s.views.getD hd [] = y := ⟨_, rfl⟩
 have hyl : y.length ≤ n := by
  have := hB.cur
  rw [← hy, ← hhd]
  exact this.2.2.2.1 _ this.2.2.1 this.2.2.2.2
 have hd2 : (hd : Int) ≤ 4194304 := by have := hB.views; omega
 have HAp := Aside0.mk hAp
 have HX := Aside0.mk hX
 have HPs := Aside0.mk hps
 clear hAp hX hps
 obtain ⟨b, hb⟩ : ∃ b, w.heap.size = b := ⟨_, rfl⟩
 have HW1 := Aside0.mk (below_alloc (Below.refl w.heap.size w) (.cells #[.int .i64 2, .int .i64 x] 46))
 have HBk := Aside0.mk (show (w.alloc (.cells #[.int .i64 2, .int .i64 x] 46)).heap[b]? = some (.cells #[.int .i64 2, .int .i64 x] 46 (0, 0)) from hb ▸ heap_alloc_new _ _)
 have HRS := Aside0.mk hrs
 have HRep := Aside0.mk hrep
 have HB := Aside0.mk hB
 have HN := Aside0.mk hn
 have HH := Aside0.mk (And.intro hhd (And.intro hhl hy))
 have HYL := Aside0.mk hyl
 have HSp := Aside0.mk (And.intro hsn hsp)
 have HVL := Aside0.mk hvl
 have HOp := Aside0.mk hrep.op
 clear hrs hrep hB hn hhl hy hsn hsp hyl
 go_enter Tryd.func49, Tryd.ntmps49
 go_wp2_with fail
 refine (hand_at (HRS.out.below HW1.out) HRep.out HB.out HN.out).mono ?_
 rintro e w2 ⟨rfl, hdr⟩
 rw [HH.out.1]
 have HRS2 := Aside0.mk ((HRS.out.below HW1.out).below hdr.below)
 have HBk2 := Aside0.mk (blk_below HBk.out hdr.below)
 clear hdr HRS HW1 HBk hhd hvl
 have HHb := Aside0.mk hb
 have xk : w2.cell? ⟨b, 0, none⟩ = some (.int .i64 2) := (blk_cell HBk2.out 0).trans rfl
 clear hb
 go_wp2_with fail
 obtain ⟨pre, hmi, _⟩ := HB.out.inv.mi
 obtain ⟨hne, hl, _⟩ := HB.out.cur
 refine (merge_calls HRS2.out HRep.out t hmi HAp.out HX.out (by have := HB.out.len; have := HN.out; omega) (by have := HB.out.views; have := HN.out; omega) (by have := HN.out; omega) (by have := HB.out.up; have := HN.out; omega) HPs.out).mono ?_
 rintro e w3 ⟨rfl, g3, hrs3, hrep3, hsn3, hts3⟩
 have H3 := Aside0.mk (And.intro hrs3 (And.intro hrep3 (And.intro hsn3 hts3)))
 clear hrs3 hrep3 hsn3 hts3 hmi hne hl xk
 go_wp2
 go_end0
 exact ⟨rfl, HI.out _ ⟨g3, H3.out.1, H3.out.2.1, by rw [H3.out.2.2.1]; exact HSp.out.1, by rw [H3.out.2.2.2]; exact HSp.out.2⟩⟩
end Go.Proofs.YtamfkglnejhjdaaDoor.Ref
namespace Go.Proofs.YtamfkglnejhjdaaDoor.Ref
open Go.Proofs.YtamfkglnejhjdaaDoorW.PrintLast (pS tS lb sI sZ sC)
open Go.RowKit Go.Proofs.YtamfkglnejhjdaaDoorW.PrintWords Go.Proofs.YtamfkglnejhjdaaDoorW.PrintLast Go.Proofs.YtamfkglnejhjdaaDoorW.PrintMore Go.Proofs.YtamfkglnejhjdaaDoor.PHyperFold
set_option linter.unusedVariables false
set_option linter.unusedSimpArgs false

open Go.Proofs.YtamfkglnejhjdaaDoor.Play Go.Proofs.YtamfkglnejhjdaaDoor.QuietCall
open Go.Proofs.YtamfkglnejhjdaaDoor.PlayState (ints ints_length ints_getD ints_erase Bd)
def R40d : Bool × List (List Nat × List Nat) := (true, [([], []), ([0], [0]), ([1], [1]), ([2], [2]), ([], []), ([4], [4]), ([3, 5], [3, 5]), ([6], [6]), ([7], [7]), ([8, 5, 0, 1, 2, 3, 4, 5, 6, 7, 8], [8])])
def R40dB : List Nat := [0, 1, 3, 7, 0, 16, 63, 127, 255, 511]
theorem R40d_tab : rtab .any (opsOf Tryd.f49 17) = R40d := by kernel_rfl
theorem R40d_bits : waitsOk R40d.2 R40dB = true := by kernel_rfl
def R40e : Bool × List (List Nat × List Nat) := (true, [([], []), ([], []), ([], []), ([2], [2]), ([3], [3]), ([4], [4]), ([], []), ([6], [6]), ([5, 7], [5, 7]), ([1, 8, 7], [1, 8]), ([0, 0, 1, 2, 3, 4, 5, 6, 7, 8, 9], [0]), ([10, 0, 1, 2, 3, 4, 5, 6, 7, 8, 9], [10]), ([11, 9, 9, 0, 1, 2, 3, 4, 5, 6, 7, 8, 9], [9, 11])])
def R40eB : List Nat := [0, 0, 0, 4, 12, 28, 0, 64, 252, 510, 1023, 2047, 4095]
theorem R40e_tab : rtab .any (opsOf Tryd.f49 18) = R40e := by kernel_rfl
theorem R40e_bits : waitsOk R40e.2 R40eB = true := by kernel_rfl
def R40f : Bool × List (List Nat × List Nat) := (true, [([], []), ([0], [0]), ([1], [1]), ([2], [2]), ([], []), ([4], [4]), ([], []), ([], []), ([7], [7]), ([8], [8]), ([9], [9]), ([], []), ([11, 5], [11]), ([10, 12], [10, 12]), ([13], [13]), ([14], [14]), ([6, 15, 12], [6, 15]), ([], []), ([17], [17]), ([16, 18, 16], [16, 18]), ([3, 5, 0, 1, 2, 3, 4, 5, 6, 7, 8, 9, 10, 11, 12, 13, 14, 15, 16, 17, 18, 19], [3, 5]), ([20, 0, 1, 2, 3, 4, 5, 6, 7, 8, 9, 10, 11, 12, 13, 14, 15, 16, 17, 18, 19], [20]), ([21, 19, 19, 0, 1, 2, 3, 4, 5, 6, 7, 8, 9, 10, 11, 12, 13, 14, 15, 16, 17, 18, 19], [19, 21])])
def R40fB : List Nat := [0, 1, 3, 7, 0, 16, 0, 0, 128, 384, 896, 0, 2096, 8112, 16304, 32688, 65520, 0, 131072, 524272, 1048575, 2097151, 4194303]
theorem R40f_tab : rtab .any (opsOf Tryd.f49 21) = R40f := by kernel_rfl
theorem R40f_bits : waitsOk R40f.2 R40fB = true := by kernel_rfl

set_option maxHeartbeats 8000000 in
set_option maxRecDepth 100000 in
theorem deed_back {w0 w : World} {gr : Nat} {F : List Int → Int} {op un : Int} {ps : List Int} {s : St (List Int)} {L : List Int} {n : Nat} (h : RT w0 w gr F op un ps s) (hB : Bd n s L) (hn : n ≤ 100000) (t : Nat) {X : Int → Prop} (hAp : JoinOk w0 gr op F X) (hX : ∀ y, y ∈ L → X y) (hps : ps.length ≤ 1048576) (hF0 : F [] = un) (hup : s.up ≠ []) (st : List Bool) (sA : Option Addr) (sc : Nat) (hS : Kd.C Kd.bool w0 sA st.length st) (hsl : st.length ≤ 4096) (x : Int) :
  Calls Tryd.prog 49 #[.pointer (some ⟨gr, 0, none⟩), .int .i64 (t : Int), .agg #[.int .i64 1, .int .i64 x], .slice sA st.length sc] w fun e w' => e = .returned (.tuple #[]) ∧ RT w0 w' gr F op un ps ((s.merge red t).back red st) := by
 obtain ⟨g, hrs, hrep, hsn, hsp⟩ := h
 obtain ⟨Pst, hI, hE⟩ : ∃ Pst : World → Prop, (∀ w', RT w0 w' gr F op un ps ((s.merge red t).back red st) → Pst w') ∧ (∀ w', Pst w' → RT w0 w' gr F op un ps ((s.merge red t).back red st)) := ⟨_, fun _ h => h, fun _ h => h⟩
 have HI := Aside0.mk hI
 refine Calls.mono (?_ : Calls Tryd.prog 49 #[.pointer (some ⟨gr, 0, none⟩), .int .i64 (t : Int), .agg #[.int .i64 1, .int .i64 x], .slice sA st.length sc] w fun e w' => e = .returned (.tuple #[]) ∧ Pst w') (fun e w' ⟨h1, h2⟩ => ⟨h1, hE w' h2⟩)
 clear hI hE
 have hhl := hB.cur.2.2.1
 obtain ⟨hd, hhd⟩ : ∃ hd, s.hand = hd := ⟨_, rfl⟩
 have hvl := hrep.views_len
 obtain ⟨y, hy⟩ : ∃ y, s.views.getD hd [] = y := ⟨_, rfl⟩
 have hyl : y.length ≤ n := by
  have := hB.cur
  rw [← hy, ← hhd]
  exact this.2.2.2.1 _ this.2.2.1 this.2.2.2.2
 have hd2 : (hd : Int) ≤ 4194304 := by have := hB.views; omega
 have HAp := Aside0.mk hAp
 have HX := Aside0.mk hX
 have HPs := Aside0.mk hps
 have HF0 := Aside0.mk hF0
 have HUp := Aside0.mk hup
 have HS := Aside0.mk hS
 have hsl2 : (st.length : Int) ≤ 4096 := by omega
 clear hAp hX hps hF0 hup hS hsl
 obtain ⟨b, hb⟩ : ∃ b, w.heap.size = b := ⟨_, rfl⟩
 have HW1 := Aside0.mk (below_alloc (Below.refl w.heap.size w) (.cells #[.int .i64 1, .int .i64 x] 46))
 have HBk := Aside0.mk (show (w.alloc (.cells #[.int .i64 1, .int .i64 x] 46)).heap[b]? = some (.cells #[.int .i64 1, .int .i64 x] 46 (0, 0)) from hb ▸ heap_alloc_new _ _)
 have HRS := Aside0.mk hrs
 have HRep := Aside0.mk hrep
 have HB := Aside0.mk hB
 have HN := Aside0.mk hn
 have HH := Aside0.mk (And.intro hhd (And.intro hhl hy))
 have HYL := Aside0.mk hyl
 have HSp := Aside0.mk (And.intro hsn hsp)
 have HVL := Aside0.mk hvl
 have HOp := Aside0.mk hrep.op
 clear hrs hrep hB hn hhl hy hsn hsp hyl
 go_enter Tryd.func49, Tryd.ntmps49
 go_wp2_with fail
 refine (hand_at (HRS.out.below HW1.out) HRep.out HB.out HN.out).mono ?_
 rintro e w2 ⟨rfl, hdr⟩
 rw [HH.out.1]
 have HRS2 := Aside0.mk ((HRS.out.below HW1.out).below hdr.below)
 have HBk2 := Aside0.mk (blk_below HBk.out hdr.below)
 clear hdr HRS HW1 HBk hhd hvl
 have HHb := Aside0.mk hb
 have xk : w2.cell? ⟨b, 0, none⟩ = some (.int .i64 1) := (blk_cell HBk2.out 0).trans rfl
 clear hb
 go_wp2_with fail
 obtain ⟨pre, hmi, _⟩ := HB.out.inv.mi
 obtain ⟨hne, hl, _⟩ := HB.out.cur
 refine (merge_calls HRS2.out HRep.out t hmi HAp.out HX.out (by have := HB.out.len; have := HN.out; omega) (by have := HB.out.views; have := HN.out; omega) (by have := HN.out; omega) (by have := HB.out.up; have := HN.out; omega) HPs.out).mono ?_
 rintro e w3 ⟨rfl, g3, hrs3, hrep3, hsn3, hts3⟩
 have HB3 := Aside0.mk (HB.out.merge t)
 obtain ⟨cx, hcx⟩ : ∃ x, (s.merge red t).cur = [x] := by
  obtain ⟨_, x, _, h, _⟩ := HB.out.inv.merge t
  exact ⟨x, h⟩
 obtain ⟨s3, hs3⟩ : ∃ s3, s.merge red t = s3 := ⟨_, rfl⟩
 rw [hs3] at hcx
 have hup3 : s3.up = s.up := by rw [← hs3]; rfl
 have hsp3 : s3.spawns = s.spawns := by rw [← hs3]; rfl
 have hct3 : s3.count = s.count := by rw [← hs3]; rfl
 rw [hs3] at hrep3 HB3 HI
 obtain ⟨r, up, hupe⟩ : ∃ r up, s3.up = r :: up := by
  rw [hup3]
  cases hu : s.up with
  | nil => exact absurd hu HUp.out
  | cons r up => exact ⟨r, up, rfl⟩
 obtain ⟨sp0, sps, hspe⟩ : ∃ a l, s3.spawns = a :: l := by
  have h1 := HB3.out.inv.spawns
  rw [hupe] at h1
  cases hu : s3.spawns with
  | nil => rw [hu] at h1; simp at h1
  | cons a l => exact ⟨a, l, rfl⟩
 have HRlen := Aside0.mk (show r.length ≤ 100001 from by
  have h := (HB3.out.leave hcx hupe).cur.2.1
  rw [show s3.leave.cur = r by show s3.up.headD [] = r; rw [hupe]; rfl] at h
  have := HN.out
  omega)
 clear hcx
 obtain ⟨tl, sp1, hts, htl1, htl2⟩ := hrep3.last
 have hf0 : tl.map (fun t : S96 => t.f0) = (-1) :: ints sps.reverse ∧ sp1 = (sp0 : Int) := by
  have h1 := hts3
  rw [HSp.out.2, hts, List.map_append, ← hsp3, hspe] at h1
  have h2 : tl.map (fun t : S96 => t.f0) ++ [sp1] = ((-1) :: ints sps.reverse) ++ [(sp0 : Int)] := by rw [show [sp1] = [(⟨sp1, ints s3.cur⟩ : S96)].map (fun t : S96 => t.f0) from rfl, h1]; simp [ints]
  have h3 := List.append_inj' h2 rfl
  exact ⟨h3.1, by simpa using h3.2⟩
 obtain ⟨hf0, rfl⟩ := hf0
 obtain ⟨k, hk⟩ : ∃ k, tl.length = k := ⟨_, rfl⟩
 have HKL := Aside0.mk (show k ≤ 100000 by rw [← hk, htl2]; have := HB3.out.up; have := HN.out; omega)
 obtain ⟨tb, tc, A1, c1, htk, yk, _, _, hRl⟩ := hrs3.task_R k (by rw [hts, List.length_append, hk]; simp)
 have hgk : g3.ts.getD k z96 = ⟨(sp0 : Int), ints s3.cur⟩ := by rw [hts, ← hk]; simp
 rw [hgk] at yk
 replace yk : w3.cell? ⟨tb, k * 2, none⟩ = some (.int .i64 (sp0 : Int)) := yk
 have htk2 : g3.tk = (some ⟨tb, 0, none⟩, k + 1, tc) := by rw [htk, hts, List.length_append, hk]; rfl
 have HTK := Aside0.mk htk2
 have x3 : w3.cell? ⟨gr, 3, none⟩ = some (.slice (some ⟨tb, 0, none⟩) (k + 1) tc) := by rw [hrs3.cell.2.2.2.1, htk2]; rfl
 have hkc : k + 1 ≤ tc := by
  have h := (R_header hrs3.rw.t).2.1
  rw [hts, List.length_append, hk, htk2] at h
  exact h
 have HC17 := Aside0.mk (And.intro x3 yk)
 have HRS3 := Aside0.mk hrs3
 have HRep3 := Aside0.mk hrep3
 have HQ3 := Aside0.mk (And.intro hsn3 (And.intro hct3 (And.intro hupe (And.intro hspe (And.intro hts (And.intro hf0 (And.intro htl1 hk)))))))
 have hk2 : (k : Int) ≤ 100000 := by have := HKL.out; omega
 have l1 : ((k : Int) < (k : Int) + 1) = True := eq_true (by omega)
 obtain ⟨i0, hi0, hz1⟩ : ∃ i, Tryd.prog.info? 96 = some i ∧ i.size = 2 := by
  have h := infoTask
  cases e : Tryd.prog.info? 96 with
  | none => rw [e] at h; cases h
  | some i => rw [e] at h; injection h with h; injection h with _ h; injection h with h _; exact ⟨i, rfl, h⟩
 have hsl1 := cut_to (P := Tryd.prog) 68 96 .i64 Tryd.underlying68 hi0 (some ⟨tb, 0, none⟩) (k + 1) tc (k : Int) (by omega) (by omega) hkc
 rw [Int.toNat_natCast] at hsl1
 have HSL := Aside0.mk hsl1
 clear hrs3 hrep3 hsn3 hct3 hts3 hmi hne hl hs3 hup3 hsp3 hupe hspe hts htl1 htl2 hf0 hk htk hRl hgk htk2 hkc hi0 hz1 hsl1 x3 yk
 go_upto_region 17 with fail
 clear xk
 refine start_ (n := 10) (S := (fun w' => w'.cell? ⟨gr, 3, none⟩ = some (.slice (some ⟨tb, 0, none⟩) (k + 1) tc) ∧ w'.cell? ⟨tb, k * 2, none⟩ = some (.int .i64 (sp0 : Int)))) (ds := [9]) (lb 10 0) (by kernel_rfl) rfl rfl HC17.out (fun hHeld => ?_); refine with_tabW R40d_tab R40d_bits (fun HT_ HW_ => ?_)
 have HBd := Aside0.mk (show Below w3.heap.size w3 w3.drew from Drawn0.below ⟨⟨1, rfl⟩⟩)
 generalize w3.drew = w4 at HBd hHeld ⊢
 refine pS 0 113 1 10 HT_.out ?_
 refine pS 1 114 3 10 HT_.out ?_
 refine pS 2 115 7 10 HT_.out ?_
 refine pS 4 117 23 10 HT_.out ?_
 refine tS 3 116 31 10 HT_.out HW_.out hHeld ?_
 refine takeC_ (i := 5) (N := some 118) (v := .int .i64 (k : Int)) (a' := ?_) (lb 10 63) rfl rfl (take_ofW HT_.out HW_.out (by kernel_rfl)) (fun _ _ _ h => h) Tryd.func51 (by kernel_rfl) rfl #[.pointer (some ⟨gr, 0, none⟩)] (by rfl) rfl (by (try simp only [List.map_toArray, List.map_cons, List.map_nil]); first | done | rfl) hHeld (fun w' h => last_at w' gr (some ⟨tb, 0, none⟩) k tc h.1 HKL.out) ?_ ?_
 rotate_left
 ·simp only [Act.put, sI, sZ, sC, i64_w, i32_w]
  rfl
 refine pS 6 119 127 10 HT_.out ?_
 refine pS 7 120 255 10 HT_.out ?_
 refine tS 8 121 511 10 HT_.out HW_.out hHeld ?_
 refine pS 9 11 1023 10 HT_.out ?_
 refine done_ (done_of HT_.out (by kernel_rfl)) ?_
 clear HT_ HW_ hHeld

 have HRS4 := Aside0.mk (HRS3.out.below HBd.out)
 have HC18 := Aside0.mk (show w4.cell? ⟨gr, 3, none⟩ = some (.slice (some ⟨tb, 0, none⟩) (k + 1) tc) by rw [HRS4.out.cell.2.2.2.1, HTK.out]; rfl)
 go_upto_region 18 with fail
 have hsl1 := HSL.out
 refine start_ (n := 13) (S := (fun w' => w'.cell? ⟨gr, 3, none⟩ = some (.slice (some ⟨tb, 0, none⟩) (k + 1) tc))) (ds := [12]) (lb 13 0) (by kernel_rfl) rfl rfl HC18.out (fun hHeld => ?_); refine with_tabW R40e_tab R40e_bits (fun HT_ HW_ => ?_)
 have HBe := Aside0.mk (show Below w4.heap.size w4 w4.drew from Drawn0.below ⟨⟨1, rfl⟩⟩)
 generalize w4.drew = w5 at HBe hHeld ⊢
 have HRS5 := Aside0.mk (HRS4.out.below HBe.out)
 refine pS 0 122 1 13 HT_.out ?_
 refine pS 2 124 5 13 HT_.out ?_
 refine pS 3 125 13 13 HT_.out ?_
 refine pS 4 126 29 13 HT_.out ?_
 refine tS 5 127 61 13 HT_.out HW_.out hHeld ?_
 refine pS 6 128 125 13 HT_.out ?_
 refine takeC_ (i := 7) (N := some 129) (v := .int .i64 (k : Int)) (a' := ?_) (lb 13 253) rfl rfl (take_ofW HT_.out HW_.out (by kernel_rfl)) (fun _ _ _ h => h) Tryd.func51 (by kernel_rfl) rfl #[.pointer (some ⟨gr, 0, none⟩)] (by rfl) rfl (by (try simp only [List.map_toArray, List.map_cons, List.map_nil]); first | done | rfl) hHeld (fun w' h => last_at w' gr (some ⟨tb, 0, none⟩) k tc h HKL.out) ?_ ?_
 rotate_left
 ·simp only [Act.put, sI, sZ, sC, i64_w, i32_w]
  rfl
 refine pS 8 130 509 13 HT_.out ?_
 refine one_ (i := 1) (N := some 123) (lb 13 511) rfl rfl (one_of HT_.out (by kernel_rfl)) (by decide) (fun K hK => ?_)
 refine value_ (w1 := ?_) (v := ?_) (by rfl) rfl ?_ ?_
 rotate_left 2
 ·go_simp
  constructor
  ·rfl
  ·rfl
 refine hK.out _ _ ((Below.cell (p := ⟨gr, 3, none⟩) (below_alloc (Below.refl _ _) _) (blk_lt HRS5.out.bp)).trans hHeld) (fun hHeld => ?_)
 clear hK K
 refine norm_ (a' := ?_) ?_ ?_
 rotate_left
 ·show Act.put _ (some 123) _ = _
  simp only [Act.put, sI, sZ, sC, i64_w, i32_w]
  rfl
 refine one_ (i := 9) (N := some 131) (lb 13 1023) rfl rfl (one_of HT_.out (by kernel_rfl)) (by decide) (fun K hK => ?_)
 refine Kd.R_append_rows_step k96 (w0 := w0) w0.heap.size (by rfl) (.tmp 123) (.tmp 130) 68 96 (.agg #[.int .i64 0, .slice none 0 0]) 32 rfl Tryd.underlying68 infoTask rfl (by decide) (by omega) (.slice (some ⟨w5.heap.size, 0, none⟩) 0 0) [] tl _ _ _ (fun _ => True) (fun q => q < w5.heap.size) rfl rfl ?aO ?aR (fun _ _ h => h) (fun q h => ⟨trivial, fun e => by simp [Value.ownBlock] at e; omega⟩) ?aF ?aB ?aS ?aL ?_
 (case aO => exact Kd.R_lower (R_lit0 _ _ _) HRS5.out.hb.size)
 (case aR => exact (by have h := HRS5.out.rw.t; rw [show slv g3.tk = .slice (some ⟨tb, 0, none⟩) (k + 1) tc by rw [HTK.out]; rfl] at h; have h2 := reads_take (R_readsM z96 (Kd.R_alloc (Kd.R_bound h) (.cells #[] 96))) k (by omega); rw [HQ3.out.2.2.2.2.1, List.take_left' HQ3.out.2.2.2.2.2.2.2] at h2; exact ReadsRow.weaken h2 (fun x cs hm => k96.M_mono (fun q hq => hq.1.2.2.1) hm)))
 (case aF => exact fun _ _ => trivial)
 (case aB => exact below_alloc HRS5.out.hb _)
 (case aS => exact by have := HRS5.out.hb.size; simp; omega)
 (case aL => have := HKL.out; simp only [List.length_nil]; omega)
 intro v6 w6 ho hb hg hat
 obtain ⟨A6, c6, rfl, _, _⟩ := Kd.R_reads ho
 have HG := Aside0.mk (And.intro (show k96.R 96 w6 w0.heap.size (fun _ => True) (.slice A6 tl.length c6) tl from ho) (And.intro hb hg))
 clear ho hb hg hat
 have hon6 : Only 96 w5 w6 := (Only.below (below_alloc (Below.refl _ _) _)).trans (Only.grown HG.out.2.2 (fun q e => by injection e with e; subst e; exact ⟨_, heap_alloc_new _ _⟩))
 have hbp6 := hon6 gr _ _ HRS5.out.bp (by decide)
 refine hK.out _ _ ((blk_cell hbp6 3).trans (by show some (slv g3.tk) = _; rw [HTK.out]; rfl)) (fun hHeld => ?_)
 clear hK K
 refine norm_ (a' := ?_) ?_ ?_
 rotate_left
 ·show Act.put _ (some 131) _ = _
  simp only [Act.put, sI, sZ, sC, i64_w, i32_w]
  rfl
 rw [List.nil_append]
 refine pS 10 132 2047 13 HT_.out ?_
 refine pS 11 133 4095 13 HT_.out ?_
 have hfz := blk_frozen hbp6 3
 have hfx : w6.cell? ⟨gr, 3, none⟩ = some (.slice (some ⟨tb, 0, none⟩) (k + 1) tc) := (blk_cell hbp6 3).trans (by show some (slv g3.tk) = _; rw [HTK.out]; rfl)
 refine last_ (i := 12) (N := none) (lb 13 8191) rfl rfl (one_of HT_.out (by kernel_rfl)) (by decide) (fun K hK => ?_)
 refine skip_ (w1 := ?_) (by rfl) rfl ?_ ?_
 rotate_left
 ·go_simp
  rfl
 refine hK.out _ _ ?_
 clear hK K
 refine done_ (done_of HT_.out (by kernel_rfl)) ?_
 clear HT_ HW_ hHeld

 clear hsl1
 have hv := HRS5.out.put (T := 96) (by decide) hon6 HG.out.2.1 3 (.slice A6 tl.length c6) { g3 with tk := (A6, tl.length, c6), ts := tl } rfl (HRS5.out.rw.tasks (t1 := (A6, tl.length, c6)) hon6 HG.out.1) ⟨rfl, rfl⟩
 rw [HQ3.out.2.2.2.2.2.2.2] at hv ⊢
 have HV := Aside0.mk hv
 generalize w6.setCell ⟨gr, 3, none⟩ (.slice A6 k c6) = w7 at HV ⊢
 clear hv hfz hfx hon6 hbp6 HG
 obtain ⟨g7, hg7⟩ : ∃ g7 : Gr, g7 = { g3 with tk := (A6, k, c6), ts := tl } := ⟨_, rfl⟩
 rw [← hg7] at HV
 have HR7 := Aside0.mk (show RepR F op un ps { s3.leave with spawns := s3.spawns.tail } g7 ∧ g7.sn = ({ s3.leave with spawns := s3.spawns.tail } : St (List Int)).count ∧ g7.ts.map (fun t : S96 => t.f0) = (-1) :: ints ({ s3.leave with spawns := s3.spawns.tail } : St (List Int)).spawns.reverse from by
  obtain ⟨q1, q2, q3, q4, q5, q6, q7, q8⟩ := HQ3.out
  subst hg7
  refine ⟨⟨HRep3.out.op, HRep3.out.un, HRep3.out.pl, HRep3.out.vs, HRep3.out.ls, ?_, HRep3.out.ps, HRep3.out.nx, HRep3.out.ms⟩, ?_, ?_⟩
  ·show tl.map (fun t : S96 => t.f1) = s3.up.tail.reverse.map ints ++ [ints (s3.up.headD [])]
   rw [q7, q3]
   simp
  ·show g3.sn = s3.count
   rw [q1, HSp.out.1, q2]
  ·show tl.map (fun t : S96 => t.f0) = (-1) :: ints (s3.spawns.tail).reverse
   rw [q6, q4]
   rfl)
 have hgt : g7.ts = tl := by rw [hg7]
 have hgtk : g7.tk = (A6, k, c6) := by rw [hg7]
 have HG7 := Aside0.mk (And.intro hgt hgtk)
 clear hg7 hgt hgtk
 have hsc7 : Kd.C Kd.bool w7 sA st.length st := Kd.C_below HS.out HV.out.hb
 by_cases hst : st.getD sp0 false = true
 ·have hlt : sp0 < st.length := by
   rcases Nat.lt_or_ge sp0 st.length with h | h
   ·exact h
   ·rw [List.getD_eq_getElem?_getD, List.getElem?_eq_none h] at hst
    cases hst
  obtain ⟨ad, rfl, hx⟩ := (Kd.reads_of_C (d := false) hsc7).at_ (sp0 : Int) (by omega) (by omega)
  rw [Int.toNat_natCast, show rdOf false st (sp0 : Int) = true by unfold rdOf; rw [Int.toNat_natCast]; exact hst] at hx
  have e1 : decide (sp0 < st.length) = true := decide_eq_true hlt
  have e2 : decide ((sp0 : Int) < (st.length : Int)) = true := decide_eq_true (by omega)
  have hlt2 : (sp0 : Int) < (st.length : Int) := by omega
  clear hsc7
  go_wp2_with fail
  refine (made_calls HV.out (by rw [HR7.out.1.views_len]; show s3.views.length ≤ _; have := HB3.out.views; have := HN.out; omega)).mono ?_
  rintro e w8 ⟨rfl, vo8, hrs8⟩
  clear hx e1 e2 hlt2 hlt
  obtain ⟨nn, hnn⟩ : ∃ nn, g7.vs.length = nn := ⟨_, rfl⟩
  rw [hnn]
  have HNN := Aside0.mk hnn
  obtain ⟨g8, hg8⟩ : ∃ g8 : Gr, g8 = { g7 with vo := vo8, vs := g7.vs ++ [⟨[], g7.un⟩] } := ⟨_, rfl⟩
  rw [← hg8] at hrs8
  have HR8 := Aside0.mk (show RepR F op un ps { ({ s3.leave with spawns := s3.spawns.tail } : St (List Int)) with views := s3.views ++ [[]] } g8 ∧ g8.sn = s3.count ∧ g8.ts.map (fun t : S96 => t.f0) = (-1) :: ints s3.spawns.tail.reverse from by
   subst hg8
   refine ⟨⟨HR7.out.1.op, HR7.out.1.un, HR7.out.1.pl, ?_, HR7.out.1.ls, HR7.out.1.ts, HR7.out.1.ps, HR7.out.1.nx, HR7.out.1.ms⟩, HR7.out.2.1, HR7.out.2.2⟩
   show g7.vs ++ [⟨[], g7.un⟩] = (s3.views ++ [[]]).map (vS F)
   rw [List.map_append, HR7.out.1.vs, HR7.out.1.un, ← HF0.out]
   rfl)
  have hgt8 : g8.ts = tl := by rw [hg8]; exact HG7.out.1
  have HNV := Aside0.mk (show nn = s3.views.length by rw [← hnn, HR7.out.1.views_len]; rfl)
  clear hg8 hnn
  -- the last task now
  obtain ⟨k2, hk2⟩ : ∃ k2, k = k2 + 1 := by
   have h1 := HQ3.out.2.2.2.2.2.2.1
   have h2 := congrArg List.length h1
   rw [List.length_map, HQ3.out.2.2.2.2.2.2.2, HQ3.out.2.2.1] at h2
   exact ⟨up.length, by simpa using h2⟩
  obtain ⟨tl2, hlast8, htl8⟩ : ∃ tl2, g8.ts = tl2 ++ [⟨((-1) :: ints s3.spawns.tail.reverse).getLastD 0, ints r⟩] ∧ tl2.length = k2 := by
   have hne : g8.ts ≠ [] := fun e => by rw [hgt8] at e; have := HQ3.out.2.2.2.2.2.2.2; rw [e] at this; simp at this; omega
   have e0 := HR8.out.1.ts
   rw [show ({ ({ s3.leave with spawns := s3.spawns.tail } : St (List Int)) with views := s3.views ++ [[]] } : St (List Int)).cur = r from by show s3.up.headD [] = r; rw [HQ3.out.2.2.1]; rfl] at e0
   have e1 := HR8.out.2.2
   rw [← List.dropLast_concat_getLast hne, List.map_append] at e0 e1
   have e2 : (g8.ts.getLast hne).f1 = ints r := by simpa using (List.append_inj' e0 rfl).2
   have e3 : (g8.ts.getLast hne).f0 = ((-1) :: ints s3.spawns.tail.reverse).getLastD 0 := by rw [← e1]; simp
   refine ⟨g8.ts.dropLast, ?_, by rw [List.length_dropLast, hgt8, HQ3.out.2.2.2.2.2.2.2]; omega⟩
   rw [← e2, ← e3]
   exact (List.dropLast_concat_getLast hne).symm
  obtain ⟨sp9, hsp9⟩ : ∃ q, ((-1) :: ints s3.spawns.tail.reverse).getLastD 0 = q := ⟨_, rfl⟩
  rw [hsp9] at hlast8
  obtain ⟨tb8, tc8, A8, c8, htk8, yk8, y8, yf8, hR8⟩ := hrs8.task_R k2 (by rw [hlast8, List.length_append, htl8]; simp)
  have hg8k : g8.ts.getD k2 z96 = ⟨sp9, ints r⟩ := by rw [hlast8, ← htl8]; simp
  rw [hg8k] at yk8 y8 hR8
  replace yk8 : w8.cell? ⟨tb8, k2 * 2, none⟩ = some (.int .i64 sp9) := yk8
  replace y8 : w8.cell? ⟨tb8, k2 * 2 + 1, none⟩ = some (.slice A8 (ints r).length c8) := y8
  have htk8' : g8.tk = (some ⟨tb8, 0, none⟩, k2 + 1, tc8) := by rw [htk8, hlast8, List.length_append, htl8]; rfl
  have x8 : w8.cell? ⟨gr, 3, none⟩ = some (.slice (some ⟨tb8, 0, none⟩) (k2 + 1) tc8) := by rw [hrs8.cell.2.2.2.1, htk8']; rfl
  obtain ⟨rn, hrn⟩ : ∃ rn, (ints r).length = rn := ⟨_, rfl⟩
  rw [hrn] at y8 hR8
  have HRN := Aside0.mk hrn
  have HRS8 := Aside0.mk hrs8
  have HC21 := Aside0.mk (And.intro x8 y8)
  have HTK8 := Aside0.mk htk8'
  have HLast8 := Aside0.mk (And.intro hlast8 htl8)
  have HRB := Aside0.mk (show (ints r).length ≤ 100001 from by rw [ints_length]; exact HRlen.out)
  have HCr8 := Aside0.mk (Kd.R_reads' hR8).2.2
  have HK2 := Aside0.mk hk2
  have l8 : ((k2 : Int) < (k2 : Int) + 1) = True := eq_true (by omega)
  have hk2b : (k2 : Int) ≤ 100000 := by have := HKL.out; omega
  have HYK := Aside0.mk (And.intro yk8 y8)
  have HGB8 := Aside0.mk (show w0.heap.size ≤ tb8 ∧ tb8 < w8.heap.size from by
   obtain ⟨b', e1, h1, h2, _⟩ := R_head hrs8.rw.t (by rw [hlast8]; simp)
   rw [htk8'] at e1
   injection e1 with e1
   injection e1 with e1
   subst e1
   exact ⟨h1, h2⟩)
  have HGE8 := Aside0.mk HGB8.out.1
  have HBk8 := Aside0.mk HGB8.out.2
  clear hrs8 hgt8 hlast8 htl8 hsp9 htk8 hg8k hR8 yk8 y8 x8 htk8' hk2 yf8 hrn
  go_upto_region 21 with fail
  refine start_ (n := 23) (S := (fun w' => w'.cell? ⟨gr, 3, none⟩ = some (.slice (some ⟨tb8, 0, none⟩) (k2 + 1) tc8) ∧ w'.cell? ⟨tb8, k2 * 2 + 1, none⟩ = some (.slice A8 rn c8))) (ds := [22]) (lb 23 0) (by kernel_rfl) rfl rfl HC21.out (fun hHeld => ?_); refine with_tabW R40f_tab R40f_bits (fun HT_ HW_ => ?_)
  have HBf := Aside0.mk (show Below w8.heap.size w8 w8.drew from Drawn0.below ⟨⟨1, rfl⟩⟩)
  generalize w8.drew = w9 at HBf hHeld ⊢
  have HRS9 := Aside0.mk (HRS8.out.below HBf.out)
  refine pS 0 146 1 23 HT_.out ?_
  refine pS 1 147 3 23 HT_.out ?_
  refine pS 2 148 7 23 HT_.out ?_
  refine pS 4 150 23 23 HT_.out ?_
  refine pS 7 153 151 23 HT_.out ?_
  refine pS 8 154 407 23 HT_.out ?_
  refine pS 9 155 919 23 HT_.out ?_
  refine pS 11 157 2967 23 HT_.out ?_
  refine pS 17 163 134039 23 HT_.out ?_
  refine tS 3 149 134047 23 HT_.out HW_.out hHeld ?_
  refine tS 10 156 135071 23 HT_.out HW_.out hHeld ?_
  refine takeC_ (i := 5) (N := some 151) (v := .int .i64 (k2 : Int)) (a' := ?_) (lb 23 135103) rfl rfl (take_ofW HT_.out HW_.out (by kernel_rfl)) (fun _ _ _ h => h) Tryd.func51 (by kernel_rfl) rfl #[.pointer (some ⟨gr, 0, none⟩)] (by rfl) rfl (by (try simp only [List.map_toArray, List.map_cons, List.map_nil]); first | done | rfl) hHeld (fun w' h => last_at w' gr (some ⟨tb8, 0, none⟩) k2 tc8 h.1 (by have := HKL.out; omega)) ?_ ?_
  rotate_left
  ·simp only [Act.put, sI, sZ, sC, i64_w, i32_w]
   rfl
  refine takeC_ (i := 12) (N := some 158) (v := .int .i64 (k2 : Int)) (a' := ?_) (lb 23 139199) rfl rfl (take_ofW HT_.out HW_.out (by kernel_rfl)) (fun _ _ _ h => h) Tryd.func51 (by kernel_rfl) rfl #[.pointer (some ⟨gr, 0, none⟩)] (by rfl) rfl (by (try simp only [List.map_toArray, List.map_cons, List.map_nil]); first | done | rfl) hHeld (fun w' h => last_at w' gr (some ⟨tb8, 0, none⟩) k2 tc8 h.1 (by have := HKL.out; omega)) ?_ ?_
  rotate_left
  ·simp only [Act.put, sI, sZ, sC, i64_w, i32_w]
   rfl
  refine pS 13 159 147391 23 HT_.out ?_
  refine pS 14 160 163775 23 HT_.out ?_
  refine tS 15 161 196543 23 HT_.out HW_.out hHeld ?_
  have HS9 := Aside0.mk hHeld
  have HBk9 := Aside0.mk (show gr < w9.heap.size ∧ tb8 < w9.heap.size from by
   obtain ⟨cells, hc⟩ := typed_of HRS9.out.rw.t tb8 (by rw [HTK8.out]; rfl)
   exact ⟨blk_lt HRS9.out.bp, blk_lt hc⟩)
  have HF9 := Aside0.mk (show w9.frozen? ⟨tb8, k2 * 2 + 1, none⟩ = false from by
   obtain ⟨cells, hc⟩ := typed_of HRS9.out.rw.t tb8 (by rw [HTK8.out]; rfl)
   exact blk_frozen hc _)
  have HCr := Aside0.mk (Kd.C_below HCr8.out HBf.out)
  rw [HRN.out] at HCr
  refine join_ (σ := Nat × Option Addr × Nat × Nat) 4 (lb 23 524287) (fun s_ => [(152, .slice (some ⟨s_.1, 0, none⟩) 0 0), (162, .slice s_.2.1 rn s_.2.2.1), (164, .slice (some ⟨s_.2.2.2, 0, none⟩) 1 1)]) (fun s_ w' => Below w9.heap.size w9 w' ∧ (Kd.int .i64).R 3 w' w9.heap.size (fun _ => True) (.slice s_.2.1 rn s_.2.2.1) (ints r) ∧ w'.heap[s_.2.2.2]? = some (.cells #[.int .i64 (nn : Int)] 3 (0, 0))) ?_ ?_
  ·intro s_ w_j hF_
   rcases s_ with ⟨l0_, A_, c_, l1_⟩
   obtain ⟨hb_, hR_, hC_⟩ := hF_
   have HBj := Aside0.mk hb_
   have HRj := Aside0.mk hR_
   have HCj := Aside0.mk hC_
   clear hb_ hR_ hC_
   have hHeld : w_j.cell? ⟨gr, 3, none⟩ = some (.slice (some ⟨tb8, 0, none⟩) (k2 + 1) tc8) ∧ w_j.cell? ⟨tb8, k2 * 2 + 1, none⟩ = some (.slice A8 rn c8) := ⟨(Below.cell (p := ⟨gr, 3, none⟩) HBj.out HBk9.out.1).trans HS9.out.1, (Below.cell (p := ⟨tb8, k2 * 2 + 1, none⟩) HBj.out HBk9.out.2).trans HS9.out.2⟩
   refine norm_ (a' := ?_) ?_ ?_
   rotate_left
   ·simp only [putAll, Act.put, sI, sZ, sC]
    rfl
   refine one_ (i := 19) (N := some 165) (lb 23 1048575) rfl rfl (one_of HT_.out (by kernel_rfl)) (by decide) (fun K hK => ?_)
   refine Kd.R_append_rows_step (Kd.int .i64) (w0 := w9) w9.heap.size (by rfl) (.tmp 162) (.tmp 164) 24 3 (.int .i64 0) 8 rfl Tryd.underlying24 infoInt rfl (by decide) (by omega) (.slice A_ rn c_) (ints r) [(nn : Int)] _ _ _ (fun _ => True) (fun _ => False) rfl rfl ?aO ?aR (fun _ _ h => h) (fun _ h => h.elim) ?aF ?aB ?aS ?aL ?_
   (case aO => exact HRj.out)
   (case aR => exact C_lit1 HCj.out)
   (case aF => exact fun _ _ => trivial)
   (case aB => exact HBj.out)
   (case aS => exact HBj.out.size)
   (case aL => have := HRB.out; omega)
   intro v_ w10 ho hb hg hat
   obtain ⟨A10, c10, rfl, _, _⟩ := Kd.R_reads ho
   have HA10 := Aside0.mk ho
   have HB10 := Aside0.mk hb
   clear ho hb hg hat
   rw [show (ints r ++ [(nn : Int)]).length = rn + 1 by rw [List.length_append, HRN.out]; rfl]
   refine hK.out _ _ ⟨(Below.cell (p := ⟨gr, 3, none⟩) HB10.out HBk9.out.1).trans HS9.out.1, (Below.cell (p := ⟨tb8, k2 * 2 + 1, none⟩) HB10.out HBk9.out.2).trans HS9.out.2⟩ (fun hHeld => ?_)
   clear hK K
   refine norm_ (a' := ?_) ?_ ?_
   rotate_left
   ·show Act.put _ (some 165) _ = _
    simp only [Act.put, sI, sZ, sC, i64_w, i32_w]
    rfl
   refine pS 20 166 2097151 23 HT_.out ?_
   refine pS 21 167 4194303 23 HT_.out ?_
   have hHeld' := hHeld
   have hfz : w10.frozen? ⟨tb8, k2 * 2 + 1, none⟩ = false := (World.frozen?_of_block (HB10.out.block tb8 HBk9.out.2)).trans HF9.out
   have hfx := hHeld.2
   refine last_ (i := 22) (N := none) (lb 23 8388607) rfl rfl (one_of HT_.out (by kernel_rfl)) (by decide) (fun K hK => ?_)
   refine skip_ (w1 := ?_) (by rfl) rfl ?_ ?_
   rotate_left
   ·go_simp
    rfl
   refine hK.out _ _ ?_
   clear hK K
   refine done_ (done_of HT_.out (by kernel_rfl)) ?_
   clear HT_ HW_ hHeld
   have hA10 := HA10.out
   rw [show (ints r ++ [(nn : Int)]).length = rn + 1 by rw [List.length_append, HRN.out]; rfl] at hA10
   have HRS10 := Aside0.mk (HRS9.out.below HB10.out)
   obtain ⟨yk9, y9⟩ := HYK.out
   have yk10 : w10.cell? ⟨tb8, k2 * 2, none⟩ = some (.int .i64 sp9) := (HB10.out.cell (p := ⟨tb8, k2 * 2, none⟩) HBk9.out.2).trans (((HBf.out.cell (p := ⟨tb8, k2 * 2, none⟩) HBk8.out)).trans yk9)
   have htR := HRS10.out.rw.t
   rw [HTK8.out] at htR
   replace htR : k96.R 96 w10 w0.heap.size (fun _ => True) (.slice (some ⟨tb8, 0, none⟩) (k2 + 1) tc8) g8.ts := htR
   have hseg := Kd.R_seg htR (k2 : Int) (by omega) (by omega) (c := [.int .i64 sp9, .slice A8 rn c8]) (seg := [.slice A10 (rn + 1) c10]) (j := 1) (okp := fun q => q ≠ tb8) rfl (two_cells yk10 hHeld'.2) (show 2 ≤ 2 from Nat.le_refl 2) (x' := ⟨sp9, ints r ++ [(nn : Int)]⟩)
    (k96_mkM w10 w0.heap.size (fun q => q ≠ tb8) ⟨sp9, ints r ++ [(nn : Int)]⟩ (Kd.R_mono (Kd.R_lower (Kd.R_bound hA10) HRS9.out.hb.size) (fun q hq e => by have := hq.2.1; have := HBk9.out.2; omega))) (fun q hq => ⟨trivial, hq⟩)
   rw [Int.toNat_natCast] at hseg
   replace hseg : k96.R 96 (w10.setCell ⟨tb8, k2 * 2 + 1, none⟩ (.slice A10 (rn + 1) c10)) w0.heap.size (fun _ => True) (.slice (some ⟨tb8, 0, none⟩) (k2 + 1) tc8) (g8.ts.set k2 ⟨sp9, ints r ++ [(nn : Int)]⟩) ∧ w10.grownBy (w10.setCell ⟨tb8, k2 * 2 + 1, none⟩ (.slice A10 (rn + 1) c10)) (some tb8) := hseg
   have hv11 := HRS10.out.task_put HTK8.out hseg.1 (HRS10.out.hb.setCell (p := ⟨tb8, k2 * 2 + 1, none⟩) HGE8.out _) hseg.2
   have hset : g8.ts.set k2 ⟨sp9, ints r ++ [(nn : Int)]⟩ = tl2 ++ [⟨sp9, ints (r ++ [s3.views.length])⟩] := by
    rw [HLast8.out.1, List.set_append_right _ _ (by rw [HLast8.out.2]; omega), HLast8.out.2, Nat.sub_self]
    rw [HNV.out]
    simp [ints]
   rw [hset] at hv11
   have HV11 := Aside0.mk hv11
   clear hv11 hset hseg htR yk9 y9 yk10 hA10 hfz hfx hHeld'
   go_wp2
   go_end0
   refine ⟨rfl, HI.out _ ⟨_, HV11.out, ⟨HR8.out.1.op, HR8.out.1.un, HR8.out.1.pl, ?_, ?_, ?_, ?_, HR8.out.1.nx, ?_⟩, ?_, ?_⟩⟩
   all_goals rw [show s3.back red st = St.made red { s3.leave with spawns := s3.spawns.tail } from by unfold St.back; rw [show s3.spawns.headD 0 = sp0 by rw [HQ3.out.2.2.2.1]; rfl, if_pos hst]]
   ·exact HR8.out.1.vs
   ·exact HR8.out.1.ls
   ·have h1 := HR8.out.1.ts
    rw [HLast8.out.1, List.map_append] at h1
    have h2 := (List.append_inj' h1 rfl).1
    show (tl2 ++ [(⟨sp9, ints (r ++ [s3.views.length])⟩ : S96)]).map (fun t : S96 => t.f1) = s3.up.tail.reverse.map ints ++ [ints (s3.up.headD [] ++ [s3.views.length])]
    rw [List.map_append, h2]
    show List.map ints s3.up.tail.reverse ++ [ints (r ++ [s3.views.length])] = List.map ints s3.up.tail.reverse ++ [ints (s3.up.headD [] ++ [s3.views.length])]
    rw [HQ3.out.2.2.1]
    rfl
   ·exact HR8.out.1.ps
   ·exact HR8.out.1.ms
   ·exact HR8.out.2.1
   ·have h1 := HR8.out.2.2
    rw [HLast8.out.1, List.map_append] at h1
    show (tl2 ++ [(⟨sp9, ints (r ++ [s3.views.length])⟩ : S96)]).map (fun t : S96 => t.f0) = _
    rw [List.map_append]
    exact h1
  ·intro hcont
   refine two_ (i := 6) (j := 18) (Ni := some 152) (Nj := some 164) #[true, true, true, true, true, true, true, true, true, true, true, true, true, true, true, true, false, true, false, false, false, false, false] #[true, true, true, true, true, true, false, true, true, true, true, true, true, true, true, true, false, true, true, false, false, false, false] rfl rfl rfl rfl (two_of HT_.out (by kernel_rfl)) (by decide) (by decide) (fun K hK => ?_) (fun K hK => ?_)
   ·refine value_ (w1 := ?_) (v := ?_) (by rfl) rfl ?_ ?_
    rotate_left 2
    ·go_simp
     constructor
     ·rfl
     ·rfl
    refine hK.out _ _ ⟨(Below.cell (p := ⟨gr, 3, none⟩) (below_alloc (Below.refl _ _) _) HBk9.out.1).trans HS9.out.1, (Below.cell (p := ⟨tb8, k2 * 2 + 1, none⟩) (below_alloc (Below.refl _ _) _) HBk9.out.2).trans HS9.out.2⟩ (fun hHeld => ?_)
    clear hK K
    refine norm_ (a' := ?_) ?_ ?_
    rotate_left
    ·show Act.put _ (some 152) _ = _
     simp only [Act.put, sI, sZ, sC, i64_w, i32_w]
     rfl
    have HO_w_a := Aside0.mk (R_lit0 (Kd.int .i64) 3 w9)
    have HB_w_a := Aside0.mk (below_alloc (Below.refl w9.heap.size w9) (.cells #[] 3))
    have HN_a := Aside0.mk (show w9.heap.size < (w9.alloc (.cells #[] 3)).heap.size by simp)
    generalize w9.alloc (.cells #[] 3) = w_a at HO_w_a HB_w_a HN_a hHeld ⊢
    refine two_ (i := 16) (j := 18) (Ni := some 162) (Nj := some 164) #[true, true, true, true, true, true, true, true, true, true, true, true, true, true, true, true, true, true, false, false, false, false, false] #[true, true, true, true, true, true, true, true, true, true, true, true, true, true, true, true, false, true, true, false, false, false, false] rfl rfl rfl rfl (two_of HT_.out (by kernel_rfl)) (by decide) (by decide) (fun K hK => ?_) (fun K hK => ?_)
    ·refine Kd.R_append_rows_step (Kd.int .i64) (w0 := w9) w9.heap.size (by rfl) (.tmp 152) (.tmp 161) 24 3 (.int .i64 0) 8 rfl Tryd.underlying24 infoInt rfl (by decide) (by omega) (.slice (some ⟨w9.heap.size, 0, none⟩) 0 0) [] (ints r) _ _ _ (fun _ => True) (fun _ => False) rfl rfl ?aO ?aR (fun _ _ h => h) (fun _ h => h.elim) ?aF ?aB ?aS ?aL ?_
     (case aO => exact HO_w_a.out)
     (case aR => exact Kd.C_below HCr.out HB_w_a.out)
     (case aF => exact fun _ _ => trivial)
     (case aB => exact HB_w_a.out)
     (case aS => exact HB_w_a.out.size)
     (case aL => have := HRB.out; have := HRN.out; simp only [List.length_nil]; omega)
     intro v_ w_b ho hb hg hat
     obtain ⟨A_, c_, rfl, _, _⟩ := Kd.R_reads ho
     replace ho : (Kd.int .i64).R 3 w_b w9.heap.size (fun _ => True) (.slice A_ (ints r).length c_) (ints r) := ho
     rw [HRN.out] at ho
     have HA_ := Aside0.mk ho
     have HB_b := Aside0.mk hb
     have HG_b := Aside0.mk hg
     clear ho hb hg hat
     rw [show ([] ++ ints r : List Int).length = rn from HRN.out]
     refine hK.out _ _ ⟨(Below.cell (p := ⟨gr, 3, none⟩) HB_b.out HBk9.out.1).trans HS9.out.1, (Below.cell (p := ⟨tb8, k2 * 2 + 1, none⟩) HB_b.out HBk9.out.2).trans HS9.out.2⟩ (fun hHeld => ?_)
     clear hK K
     refine norm_ (a' := ?_) ?_ ?_
     rotate_left
     ·show Act.put _ (some 162) _ = _
      simp only [Act.put, sI, sZ, sC, i64_w, i32_w]
      rfl
     refine one_ (i := 18) (N := some 164) (lb 23 524287) rfl rfl (one_of HT_.out (by kernel_rfl)) (by decide) (fun K hK => ?_)
     refine value_ (w1 := ?_) (v := ?_) (by rfl) rfl ?_ ?_
     rotate_left 2
     ·go_simp
      constructor
      ·rfl
      ·rfl
     refine hK.out _ _ ⟨(Below.cell (p := ⟨gr, 3, none⟩) (below_alloc HB_b.out _) HBk9.out.1).trans HS9.out.1, (Below.cell (p := ⟨tb8, k2 * 2 + 1, none⟩) (below_alloc HB_b.out _) HBk9.out.2).trans HS9.out.2⟩ (fun hHeld => ?_)
     clear hK K
     exact hcont (w9.heap.size, A_, c_, w_b.heap.size) _ ⟨below_alloc HB_b.out _, Kd.R_alloc HA_.out _, heap_alloc_new _ _⟩
    ·refine value_ (w1 := ?_) (v := ?_) (by rfl) rfl ?_ ?_
     rotate_left 2
     ·go_simp
      constructor
      ·rfl
      ·rfl
     refine hK.out _ _ ⟨(Below.cell (p := ⟨gr, 3, none⟩) (below_alloc HB_w_a.out _) HBk9.out.1).trans HS9.out.1, (Below.cell (p := ⟨tb8, k2 * 2 + 1, none⟩) (below_alloc HB_w_a.out _) HBk9.out.2).trans HS9.out.2⟩ (fun hHeld => ?_)
     clear hK K
     refine norm_ (a' := ?_) ?_ ?_
     rotate_left
     ·show Act.put _ (some 164) _ = _
      simp only [Act.put, sI, sZ, sC, i64_w, i32_w]
      rfl
     have HC_c := Aside0.mk (heap_alloc_new w_a (.cells #[.int .i64 (nn : Int)] 3))
     have HO_c := Aside0.mk (Kd.R_alloc HO_w_a.out (.cells #[.int .i64 (nn : Int)] 3))
     have HB_c := Aside0.mk (below_alloc HB_w_a.out (.cells #[.int .i64 (nn : Int)] 3))
     have HN_c := Aside0.mk (show w9.heap.size < w_a.heap.size from HN_a.out)
     generalize w_a.alloc (.cells #[.int .i64 (nn : Int)] 3) = w_c at HC_c HO_c HB_c hHeld ⊢
     refine one_ (i := 16) (N := some 162) (lb 23 524287) rfl rfl (one_of HT_.out (by kernel_rfl)) (by decide) (fun K hK => ?_)
     refine Kd.R_append_rows_step (Kd.int .i64) (w0 := w9) w9.heap.size (by rfl) (.tmp 152) (.tmp 161) 24 3 (.int .i64 0) 8 rfl Tryd.underlying24 infoInt rfl (by decide) (by omega) (.slice (some ⟨w9.heap.size, 0, none⟩) 0 0) [] (ints r) _ _ _ (fun _ => True) (fun _ => False) rfl rfl ?aO ?aR (fun _ _ h => h) (fun _ h => h.elim) ?aF ?aB ?aS ?aL ?_
     (case aO => exact HO_c.out)
     (case aR => exact Kd.C_below HCr.out HB_c.out)
     (case aF => exact fun _ _ => trivial)
     (case aB => exact HB_c.out)
     (case aS => exact HB_c.out.size)
     (case aL => have := HRB.out; have := HRN.out; simp only [List.length_nil]; omega)
     intro v_ w_d ho hb hg hat
     obtain ⟨A_, c_, rfl, _, _⟩ := Kd.R_reads ho
     replace ho : (Kd.int .i64).R 3 w_d w9.heap.size (fun _ => True) (.slice A_ (ints r).length c_) (ints r) := ho
     rw [HRN.out] at ho
     have HA_ := Aside0.mk ho
     have HB_d := Aside0.mk hb
     have HG_d := Aside0.mk hg
     clear ho hb hg hat
     rw [show ([] ++ ints r : List Int).length = rn from HRN.out]
     refine hK.out _ _ ⟨(Below.cell (p := ⟨gr, 3, none⟩) HB_d.out HBk9.out.1).trans HS9.out.1, (Below.cell (p := ⟨tb8, k2 * 2 + 1, none⟩) HB_d.out HBk9.out.2).trans HS9.out.2⟩ (fun hHeld => ?_)
     clear hK K
     exact hcont (w9.heap.size, A_, c_, w_a.heap.size) _ ⟨HB_d.out, HA_.out, blk_grown HC_c.out HG_d.out (fun e => by simp [Value.ownBlock] at e; have := HN_c.out; omega)⟩
   ·refine value_ (w1 := ?_) (v := ?_) (by rfl) rfl ?_ ?_
    rotate_left 2
    ·go_simp
     constructor
     ·rfl
     ·rfl
    refine hK.out _ _ ⟨(Below.cell (p := ⟨gr, 3, none⟩) (below_alloc (Below.refl _ _) _) HBk9.out.1).trans HS9.out.1, (Below.cell (p := ⟨tb8, k2 * 2 + 1, none⟩) (below_alloc (Below.refl _ _) _) HBk9.out.2).trans HS9.out.2⟩ (fun hHeld => ?_)
    clear hK K
    refine norm_ (a' := ?_) ?_ ?_
    rotate_left
    ·show Act.put _ (some 164) _ = _
     simp only [Act.put, sI, sZ, sC, i64_w, i32_w]
     rfl
    have HC_e := Aside0.mk (heap_alloc_new w9 (.cells #[.int .i64 (nn : Int)] 3))
    have HB_e := Aside0.mk (below_alloc (Below.refl w9.heap.size w9) (.cells #[.int .i64 (nn : Int)] 3))
    have HN_e := Aside0.mk (show w9.heap.size < (w9.alloc (.cells #[.int .i64 (nn : Int)] 3)).heap.size by simp)
    generalize w9.alloc (.cells #[.int .i64 (nn : Int)] 3) = w_e at HC_e HB_e HN_e hHeld ⊢
    refine one_ (i := 6) (N := some 152) (lb 23 458751) rfl rfl (one_of HT_.out (by kernel_rfl)) (by decide) (fun K hK => ?_)
    refine value_ (w1 := ?_) (v := ?_) (by rfl) rfl ?_ ?_
    rotate_left 2
    ·go_simp
     constructor
     ·rfl
     ·rfl
    refine hK.out _ _ ⟨(Below.cell (p := ⟨gr, 3, none⟩) (below_alloc HB_e.out _) HBk9.out.1).trans HS9.out.1, (Below.cell (p := ⟨tb8, k2 * 2 + 1, none⟩) (below_alloc HB_e.out _) HBk9.out.2).trans HS9.out.2⟩ (fun hHeld => ?_)
    clear hK K
    refine norm_ (a' := ?_) ?_ ?_
    rotate_left
    ·show Act.put _ (some 152) _ = _
     simp only [Act.put, sI, sZ, sC, i64_w, i32_w]
     rfl
    have HO_f := Aside0.mk (Kd.R_lower (R_lit0 (Kd.int .i64) 3 w_e) HB_e.out.size)
    have HB_f := Aside0.mk (below_alloc HB_e.out (.cells #[] 3))
    have HC_f := Aside0.mk (blk_alloc HC_e.out (.cells #[] 3))
    generalize w_e.alloc (.cells #[] 3) = w_f at HO_f HB_f HC_f hHeld ⊢
    refine one_ (i := 16) (N := some 162) (lb 23 524287) rfl rfl (one_of HT_.out (by kernel_rfl)) (by decide) (fun K hK => ?_)
    refine Kd.R_append_rows_step (Kd.int .i64) (w0 := w9) w9.heap.size (by rfl) (.tmp 152) (.tmp 161) 24 3 (.int .i64 0) 8 rfl Tryd.underlying24 infoInt rfl (by decide) (by omega) (.slice (some ⟨w_e.heap.size, 0, none⟩) 0 0) [] (ints r) _ _ _ (fun _ => True) (fun _ => False) rfl rfl ?aO ?aR (fun _ _ h => h) (fun _ h => h.elim) ?aF ?aB ?aS ?aL ?_
    (case aO => exact HO_f.out)
    (case aR => exact Kd.C_below HCr.out HB_f.out)
    (case aF => exact fun _ _ => trivial)
    (case aB => exact HB_f.out)
    (case aS => exact HB_f.out.size)
    (case aL => have := HRB.out; have := HRN.out; simp only [List.length_nil]; omega)
    intro v_ w_g ho hb hg hat
    obtain ⟨A_, c_, rfl, _, _⟩ := Kd.R_reads ho
    replace ho : (Kd.int .i64).R 3 w_g w9.heap.size (fun _ => True) (.slice A_ (ints r).length c_) (ints r) := ho
    rw [HRN.out] at ho
    have HA_ := Aside0.mk ho
    have HB_g := Aside0.mk hb
    have HG_g := Aside0.mk hg
    clear ho hb hg hat
    rw [show ([] ++ ints r : List Int).length = rn from HRN.out]
    refine hK.out _ _ ⟨(Below.cell (p := ⟨gr, 3, none⟩) HB_g.out HBk9.out.1).trans HS9.out.1, (Below.cell (p := ⟨tb8, k2 * 2 + 1, none⟩) HB_g.out HBk9.out.2).trans HS9.out.2⟩ (fun hHeld => ?_)
    clear hK K
    exact hcont (w_e.heap.size, A_, c_, w9.heap.size) _ ⟨HB_g.out, HA_.out, blk_grown HC_f.out HG_g.out (fun e => by simp [Value.ownBlock] at e; have := HN_e.out; omega)⟩
 ·have hlt : ¬ (sp0 < st.length ∧ st.getD sp0 false = true) := fun h => hst h.2
  have hfin : s3.back red st = { s3.leave with spawns := s3.spawns.tail } := by
   unfold St.back
   rw [show s3.spawns.headD 0 = sp0 by rw [HQ3.out.2.2.2.1]; rfl, if_neg hst]
  have HFin := Aside0.mk (show RT w0 w7 gr F op un ps (s3.back red st) from by rw [hfin]; exact ⟨g7, HV.out, HR7.out.1, HR7.out.2.1, HR7.out.2.2⟩)
  clear hfin hlt
  by_cases hlt : sp0 < st.length
  ·obtain ⟨ad, rfl, hx⟩ := (Kd.reads_of_C (d := false) hsc7).at_ (sp0 : Int) (by omega) (by omega)
   rw [Int.toNat_natCast, show rdOf false st (sp0 : Int) = false by unfold rdOf; rw [Int.toNat_natCast]; simpa using hst] at hx
   have e1 : decide (sp0 < st.length) = true := decide_eq_true hlt
   have e2 : decide ((sp0 : Int) < (st.length : Int)) = true := decide_eq_true (by omega)
   have hlt2 : (sp0 : Int) < (st.length : Int) := by omega
   clear hsc7
   go_wp2
   go_end0
   exact ⟨rfl, HI.out _ HFin.out⟩
  ·have e1 : decide (sp0 < st.length) = false := decide_eq_false hlt
   have e2 : decide ((sp0 : Int) < (st.length : Int)) = false := decide_eq_false (by omega)
   clear hsc7
   go_wp2
   go_end0
   exact ⟨rfl, HI.out _ HFin.out⟩
end Go.Proofs.YtamfkglnejhjdaaDoor.Ref
namespace Go.Proofs.YtamfkglnejhjdaaDoor.Ref
open Go.Proofs.YtamfkglnejhjdaaDoorW.PrintLast (pA pS tS lb sI sZ sC)
open Go.RowKit Go.Proofs.YtamfkglnejhjdaaDoorW.PrintWords Go.Proofs.YtamfkglnejhjdaaDoorW.PrintLast Go.Proofs.YtamfkglnejhjdaaDoorW.PrintMore Go.Proofs.YtamfkglnejhjdaaDoor.PHyperFold
set_option linter.unusedVariables false
set_option linter.unusedSimpArgs false

open Go.Proofs.YtamfkglnejhjdaaDoor.Play Go.Proofs.YtamfkglnejhjdaaDoor.QuietCall Go.Proofs.YtamfkglnejhjdaaDoor.Base
open Go.Proofs.YtamfkglnejhjdaaDoor.PlayState (ints ints_length ints_getD ints_erase Bd right_at)
section
variable {w0 w w1 : World} {gr : Nat} {F : List Int → Int} {op un : Int} {ps : List Int} {s : St (List Int)} {g : Gr} {L : List Int} {n : Nat} {X : Int → Prop}
theorem deed_calls (h : RT w0 w gr F op un ps s) (hB : Bd n s L) (hn : n ≤ 100000) (hJ : JoinOk w0 gr op F X) (hP : PutOk w0 gr op F X) (hX : ∀ y, y ∈ L → X y) (hps : ps.length ≤ 1048576) (hF0 : F [] = un) (t : Nat) (x0 x : Int) (hk : x0 = 0 ∨ x0 = 1 ∨ x0 = 2 ∨ x0 = 3 ∨ x0 = 4) (hx : X x) (hup : x0 = 1 → s.up ≠ [])
  (st : List Bool) (sA : Option Addr) (sc : Nat) (hS : Kd.C Kd.bool w0 sA st.length st) (hsl : st.length ≤ 4096) :
  Calls Tryd.prog 49 #[.pointer (some ⟨gr, 0, none⟩), .int .i64 (t : Int), .agg #[.int .i64 x0, .int .i64 x], .slice sA st.length sc] w fun e w' => e = .returned (.tuple #[]) ∧ RT w0 w' gr F op un ps (Play.step red st t (x0, x) s) := by
 rcases hk with rfl | rfl | rfl | rfl | rfl
 ·exact deed_spawn h hB hn x (t : Int) _
 ·exact deed_back h hB hn t hJ hX hps hF0 (hup rfl) st sA sc hS hsl x
 ·exact deed_sync h hB hn t hJ hX hps x _
 ·exact deed_read h hB hn x (t : Int) _
 ·exact deed_write h hB hn hP hX x (t : Int) hx _
def RE (w0 w : World) (gr : Nat) (F : List Int → Int) (op un : Int) (ps : List Int) (s : St (List Int)) : Prop := ∃ g, RS w0 w gr g ∧ RepR F op un ps s g
def RL (w0 : World) (gr : Nat) (F : List Int → Int) (op un : Int) (X : Int → Prop) (l : List S46) (st : List Bool) (ps : List Int) (i : Nat) (w : World) : Prop :=
 ∃ s L, RT w0 w gr F op un ps s ∧ Bd i s L ∧ (∀ y, y ∈ L → X y) ∧ right s.up.length ((l.map dd).drop i) = true ∧ run red st i ((l.map dd).drop i) s = run red st 0 (l.map dd) (Play.start red ps)
theorem puts_X {l : List S46} (hX : ∀ d, d ∈ l → X d.f1) {d : S46} (hd : d ∈ l) : ∀ y, y ∈ puts [dd d] → X y := by
 intro y hy
 unfold puts at hy
 rw [List.mem_map] at hy
 obtain ⟨a, ha, rfl⟩ := hy
 rw [List.mem_filter, List.mem_singleton] at ha
 obtain ⟨rfl, _⟩ := ha
 exact hX d hd
end

def R32 : Bool × List (List Nat × List Nat) := (true, [([], []), ([], []), ([], []), ([2], [2]), ([3], [3]), ([4], [4]), ([], []), ([6], [6]), ([5, 7], [5, 7]), ([1, 8, 7], [1, 8]), ([0, 0, 1, 2, 3, 4, 5, 6, 7, 8, 9], [0]), ([10, 0, 1, 2, 3, 4, 5, 6, 7, 8, 9], [10]), ([11, 9, 9, 0, 1, 2, 3, 4, 5, 6, 7, 8, 9], [9, 11])])
def R32B : List Nat := [0, 0, 0, 4, 12, 28, 0, 64, 252, 510, 1023, 2047, 4095]
theorem R32_tab : rtab .any (opsOf Tryd.f28 10) = R32 := by kernel_rfl
theorem R32_bits : waitsOk R32.2 R32B = true := by kernel_rfl

set_option maxHeartbeats 16000000 in
set_option maxRecDepth 100000 in
theorem whole_calls (Ad : Option Addr) (c0 : Nat) (l : List S46) (sA : Option Addr) (sc : Nat) (st : List Bool) (pA : Option Addr) (pc : Nat) (ps : List Int) (w : World) (F : List Int → Int) (op un : Int) (X : Int → Prop)
  (hC : Kd.C k46 w Ad l.length l) (hc : l.length ≤ c0) (hS : Kd.C Kd.bool w sA st.length st) (hPi : Kd.C (Kd.int .i64) w pA ps.length ps) (hpc : ps.length ≤ pc) (hl : l.length ≤ 4096) (hst : st.length ≤ 4096) (hps : ps.length ≤ 1048576) (hr : right 0 (l.map dd) = true)
  (hJ : ∀ gr, JoinOk w gr op F X) (hPu : ∀ gr, PutOk w gr op F X) (hX : ∀ d, d ∈ l → X d.f1) (hF0 : F [] = un) :
  Calls Tryd.prog 28 #[.int .i64 op, .int .i64 un, .slice Ad l.length c0, .slice sA st.length sc, .slice pA ps.length pc] w fun e w' => ∃ gr g, e = .returned (.pointer (some ⟨gr, 0, none⟩)) ∧ RS w w' gr g ∧ RepR F op un ps (play red st ps (l.map dd)) g ∧
   g.md = ((play red st ps (l.map dd)).views.length : Int) ∧ (Kd.int .i64).R 2 w' w.heap.size (fun _ => True) (slv g.fo) ((play red st ps (l.map dd)).views.getD 0 []) := by
 have hlen : (l.map dd).length = l.length := by simp
 obtain ⟨n, hn⟩ : ∃ n, l.length = n := ⟨_, rfl⟩
 have hn4 : (n : Int) ≤ 4096 := by omega
 have HC := Aside0.mk hC
 have HS := Aside0.mk hS
 have HPi := Aside0.mk (And.intro hPi hpc)
 have HLim := Aside0.mk (And.intro hl (And.intro hst hps))
 have HR := Aside0.mk hr
 have HJ := Aside0.mk hJ
 have HPu := Aside0.mk hPu
 have HX := Aside0.mk hX
 have HF0 := Aside0.mk hF0
 have HN := Aside0.mk (And.intro hn hlen)
 obtain ⟨gr, hgr⟩ : ∃ gr, w.heap.size = gr := ⟨_, rfl⟩
 obtain ⟨g0, hg0⟩ : ∃ g0 : Gr, g0 = { op := op, un := un, vo := (none, 0, 0), tk := (none, 0, 0), po := (pA, ps.length, pc), nx := 0, sn := 0, fo := (none, 0, 0), md := 0, mo := (none, 0, 0), lo := (none, 0, 0), vs := [], ts := [], ps := ps, ms := [], ls := [] } := ⟨_, rfl⟩
 have HRS0 := Aside0.mk (show RS w (w.alloc (.cells #[.int .i64 op, .int .i64 un, .slice none 0 0, .slice none 0 0, .slice pA ps.length pc, .int .i64 0, .int .i64 0, .slice none 0 0, .int .i64 0, .slice none 0 0, .slice none 0 0] 70)) gr g0 from by
  subst hg0
  refine ⟨below_alloc (Below.refl _ _) _, ?_, by omega, ⟨Kd.R_nil _ _ _ _ _, Kd.R_nil _ _ _ _ _, Kd.R_nil _ _ _ _ _, Kd.R_nil _ _ _ _ _⟩, hPi, rfl, hpc⟩
  rw [← hgr]
  exact heap_alloc_new _ _)
 rw [hn]
 clear hC hc hS hPi hpc hl hst hps hr hJ hPu hX hF0 hlen hn
 go_enter Tryd.func28, Tryd.ntmps28
 go_wp2_with fail
 refine (made_calls HRS0.out (by rw [hg0]; show (0 : Nat) ≤ _; omega)).mono ?_
 rintro e w2 ⟨rfl, vo2, hrs2⟩
 obtain ⟨g2, hg2⟩ : ∃ g2 : Gr, g2 = { g0 with vo := vo2, vs := g0.vs ++ [⟨[], g0.un⟩] } := ⟨_, rfl⟩
 rw [← hg2] at hrs2
 rw [show (g0.vs.length : Int) = 0 by rw [hg0]; rfl]
 have HRS2 := Aside0.mk hrs2
 have HG2 := Aside0.mk (And.intro hg0 hg2)
 have x3 : w2.cell? ⟨gr, 3, none⟩ = some (.slice none 0 0) := by rw [hrs2.cell.2.2.2.1, hg2, hg0]; rfl
 have HGr := Aside0.mk hgr
 have hbl := blk_lt hrs2.bp
 clear hg0 hg2 hgr hrs2 HRS0
 go_upto_region 4 with (first | ((with_reducible refine gate_dst (N := 27) rfl ?_); refine Kd.R_lit (Kd.int .i64) (w0 := w2) w2.heap.size 3 rfl (N := 27) rfl (xs := [(0 : Int)]) (inner := [.int .i64 0]) (ok := fun _ => True) (okp := fun _ => True) ?hr ?hp (fun _ hk => hk) trivial (Below.refl _ _) (Nat.le_refl _) (by simp) ?_; (case hr => first | (go_simp; done) | (go_simp; rfl)); (case hp => exact Kd.reps_scalar (enc := Value.int .i64) [(0 : Int)]); intro v3 w3 ho hb hg hat; obtain ⟨A3, c3, rfl, _, _⟩ := Kd.R_reads ho; have HA3 := Aside0.mk ho; have HB3 := Aside0.mk hb; clear ho hb hg hat) | ((with_reducible refine gate_builtin (b := .append) (xs := #[.tmp 25, .tmp 29]) rfl ?_); at_builtin; refine Kd.R_append k96 (w0 := w) w.heap.size rfl (.tmp 25) (.tmp 29) 68 96 (.agg #[.int .i64 0, .slice none 0 0]) 32 rfl Tryd.underlying68 infoTask rfl (by decide) (by omega) (.slice none 0 0) [] ⟨-1, [0]⟩ [.int .i64 (-1), .slice A3 1 c3] (fun _ => True) (fun _ => True) rfl rfl ?aP ?aK ?aF ?aO ?aB ?aS ?aL ?_; (case aP => exact k96_mkM _ _ _ ⟨-1, [0]⟩ (Kd.R_lower (Kd.R_mono HA3.out (fun _ _ => trivial)) HRS2.out.hb.size)); (case aK => exact fun _ _ => ⟨trivial, by simp [Value.ownBlock]⟩); (case aB => exact (HRS2.out.below HB3.out).hb); (case aF => exact fun _ _ => trivial); (case aO => exact Kd.R_nil _ _ _ _ _); (case aS => exact below_size (HRS2.out.below HB3.out).hb); (case aL => simp only [List.length_nil]; omega); intro v4 w4 ho hb hg hat; obtain ⟨A4, c4, rfl, _, _⟩ := Kd.R_reads ho; have HA4 := Aside0.mk (And.intro ho (And.intro hb hg)); have hon4 : Only 96 w3 w4 := Only.grown hg (fun q e => by cases e); have hbp4 := hon4 gr _ _ (HRS2.out.below HB3.out).bp (by decide); have hfz := blk_frozen hbp4 3; have hfx : w4.cell? ⟨gr, 3, none⟩ = some (.slice none 0 0) := (blk_cell hbp4 3).trans (by show some (slv g2.tk) = _; rw [HG2.out.2, HG2.out.1]; rfl); clear ho hb hg hat))
 have hg2ts : g2.ts = [] := by rw [HG2.out.2, HG2.out.1]
 have hrs4 := (HRS2.out.below HB3.out).task_made (t1 := (A4, 1, c4)) (m := ⟨-1, [0]⟩) (by rw [hg2ts]; exact HA4.out.1) HA4.out.2.1 (by rw [show (slv g2.tk).ownBlock = (Value.slice none 0 0).ownBlock by rw [HG2.out.2, HG2.out.1]; rfl]; exact HA4.out.2.2)
 obtain ⟨g4, hg4⟩ : ∃ g4 : Gr, g4 = { g2 with tk := (A4, 1, c4), ts := g2.ts ++ [⟨-1, [0]⟩] } := ⟨_, rfl⟩
 rw [← hg4] at hrs4
 have hrt : RT w (w4.setCell ⟨gr, 3, none⟩ (.slice A4 1 c4)) gr F op un ps (Play.start red ps) := by
  refine ⟨g4, hrs4, ?_, ?_, ?_⟩
  ·have h1 := HG2.out.1
   have h2 := HG2.out.2
   have h3 := HF0.out
   subst h1 h2 hg4
   exact ⟨rfl, rfl, rfl, by show [(⟨[], un⟩ : S66)] = [vS F []]; rw [vS, h3], rfl, rfl, rfl, Nat.zero_le _, rfl⟩
  ·rw [hg4, HG2.out.2, HG2.out.1]; rfl
  ·rw [hg4, HG2.out.2, HG2.out.1]; rfl
 have HRT := Aside0.mk hrt
 clear hrt hrs4 hg4 hg2ts hfx hfz hon4 hbp4 HA4 HG2 HB3 HRS2 HA3 x3 hbl
 generalize w4.setCell ⟨gr, 3, none⟩ (.slice A4 1 c4) = w5 at HRT ⊢
 go_wp2
 go_loopw [13] (fun v13 w' => ∃ i : Nat, i ≤ n ∧ v13 = .int .i64 (i : Int) ∧ Aside0 (RL w gr F op un X l st ps i w')) (fun v13 _ => n - (intOf v13).toNat)
 case atStart => exact ⟨0, Nat.zero_le _, rfl, ⟨⟨_, [], HRT.out, Bd.start ps, fun y hy => absurd hy List.not_mem_nil, HR.out, rfl⟩⟩⟩
 case round =>
  clear HRT
  obtain ⟨i, hi, rfl, HRL⟩ := hrel
  by_cases hlt : i < n
  ·obtain ⟨s, L, hrt, hB, hXL, hrr, hrun⟩ := HRL.out
   clear HRL
   obtain ⟨d, hd⟩ : ∃ d, d = rd_T46 l (i : Int) := ⟨_, rfl⟩
   have hil : i < l.length := by rw [HN.out.1]; exact hlt
   have hdl : l.getD i z46 = d := by rw [hd]; simp [rd_T46]
   have hdm : d ∈ l := by rw [← hdl, List.getD_eq_getElem?_getD, List.getElem?_eq_getElem hil]; exact List.getElem_mem hil
   have hdi : (l.map dd)[i]? = some (dd d) := by
    rw [List.getElem?_map, List.getElem?_eq_getElem hil, ← hdl]
    simp [List.getD_eq_getElem?_getD, hil]
   obtain ⟨hkind, hup, hrr2⟩ := right_at hdi hrr
   have hcw : Kd.C k46 wr Ad l.length l := by
    obtain ⟨g, hp, _⟩ := hrt
    exact Kd.C_below HC.out hp.hb
   obtain ⟨ad, e0, hx0, hx1⟩ := at_T46 hcw (i : Int) (by omega) (by rw [HN.out.1]; omega)
   cases e0
   rw [Int.toNat_natCast, ← hd] at hx0 hx1
   have HXd := Aside0.mk (HX.out d hdm)
   have HPutsX := Aside0.mk (fun y hy => puts_X HX.out hdm y hy)
   obtain ⟨x0, hxx0⟩ : ∃ x, x = d.f0 := ⟨_, rfl⟩
   obtain ⟨x, hxx1⟩ : ∃ x, x = d.f1 := ⟨_, rfl⟩
   rw [← hxx0] at hx0
   rw [← hxx1] at hx1 HXd
   have hdd : dd d = (x0, x) := by rw [hxx0, hxx1]; rfl
   rw [hdd] at hdi hkind hup hrr2 HPutsX
   have HRT := Aside0.mk hrt
   have HBd := Aside0.mk hB
   have HXL := Aside0.mk hXL
   have HRun := Aside0.mk hrun
   have HDi := Aside0.mk hdi
   have HUp := Aside0.mk hup
   have HRR := Aside0.mk hrr2
   have HKind := Aside0.mk hkind
   have hu46 := Tryd.underlying46
   have hdl2 : decide ((i : Int) < (n : Int)) = true := decide_eq_true (by omega)
   have hlb : ((i : Int) < (n : Int)) = True := eq_true (by omega)
   have hi4 : (i : Int) ≤ 4096 := by omega
   clear hrt hB hXL hrr hrun hd hil hdl hdm hdi hkind hup hrr2 hcw hxx0 hxx1 hdd
   go_wp2_with fail
   refine (deed_calls HRT.out HBd.out (by omega) (HJ.out gr) (HPu.out gr) HXL.out HLim.out.2.2 HF0.out i x0 x HKind.out HXd.out (fun e => List.ne_nil_of_length_pos (HUp.out e)) st sA sc HS.out HLim.out.2.1).mono ?_
   rintro e w6 ⟨rfl, hrt6⟩
   have HRL := Aside0.mk (show RL w gr F op un X l st ps (i + 1) w6 from by
    refine ⟨_, _, hrt6, HBd.out.step st i (x0, x) (fun e => List.ne_nil_of_length_pos (HUp.out e)), fun y hy => ?_, ?_, ?_⟩
    ·rcases List.mem_append.1 hy with h | h
     ·exact HXL.out y h
     ·exact HPutsX.out y h
    ·rw [step_up]; exact HRR.out
    ·obtain ⟨hl, he⟩ := List.getElem?_eq_some_iff.1 HDi.out
     rw [← HRun.out, List.drop_eq_getElem_cons hl, he]
     rfl)
   clear hrt6 HRT HBd HXL HRun HDi HUp HRR HKind HXd HPutsX hx0 hx1
   go_wp2
   go_roundw
   case measure => simp [intOf]; omega
   case rel => exact ⟨i + 1, by omega, by go_num, HRL⟩
  ·obtain rfl : i = n := by omega
   obtain ⟨s, L, hrt, hB, hXL, hrr, hrun⟩ := HRL.out
   have hdl : decide ((i : Int) < (i : Int)) = false := decide_eq_false (by omega)
   rw [List.drop_eq_nil_of_le (by rw [HN.out.2, HN.out.1]; omega)] at hrun
   replace hrun : s = run red st 0 (l.map dd) (Play.start red ps) := hrun
   have HE := Aside0.mk (show ∃ s' L', s'.up.length = s.up.length ∧ RE w wr gr F op un ps s' ∧ Bd i s' L' ∧ (∀ y, y ∈ L' → X y) ∧ finish red i s'.up.length s' = play red st ps (l.map dd) from by
    obtain ⟨g, h1, h2, _⟩ := hrt
    exact ⟨s, L, rfl, ⟨g, h1, h2⟩, hB, hXL, by unfold play; rw [← hrun, HN.out.2, HN.out.1]⟩)
   clear hB hrun hrt hrr hXL HRL hlt hi
   obtain ⟨K0, hK0⟩ : ∃ K0, K0 = s.up.length := ⟨_, rfl⟩
   rw [← hK0] at HE
   clear hK0
   go_wp2
   go_loopg [47] K0 (fun kq v47 w' => Aside0 (∃ s' L', s'.up.length = kq ∧ RE w w' gr F op un ps s' ∧ Bd i s' L' ∧ (∀ y, y ∈ L' → X y) ∧ finish red i s'.up.length s' = play red st ps (l.map dd)))
   case atStart => exact HE
   case round =>
    clear HE
    have HE := hrel
    clear hrel
    obtain ⟨s', L', hk, ⟨g, hrs, hrep⟩, hB, hXL, hfin⟩ := HE.out
    clear HE
    obtain ⟨m, hm⟩ : ∃ m, m = s'.up.length := ⟨_, rfl⟩
    have hm4 : (m : Int) ≤ 4096 := by have := hB.up; omega
    obtain ⟨tn, htn⟩ : ∃ tn, g.tk.2.1 = tn := ⟨_, rfl⟩
    have htn2 : tn = m + 1 := by rw [← htn, (R_header hrs.rw.t).1, hrep.tasks_len, hm]
    have x3 : wr.cell? ⟨gr, 3, none⟩ = some (.slice g.tk.1 (m + 1) g.tk.2.2) := by rw [hrs.cell.2.2.2.1, ← htn2, ← htn]; rfl
    obtain ⟨qA, hqA⟩ : ∃ q, g.tk.1 = q := ⟨_, rfl⟩
    obtain ⟨qc, hqc⟩ : ∃ q, g.tk.2.2 = q := ⟨_, rfl⟩
    rw [hqA, hqc] at x3
    clear htn htn2 hqA hqc
    have HRSa := Aside0.mk hrs
    have HRepa := Aside0.mk hrep
    have HBa := Aside0.mk hB
    have HXa := Aside0.mk hXL
    have HFin := Aside0.mk hfin
    have HMM := Aside0.mk (And.intro hm hk)
    clear hrs hrep hB hXL hfin hm hk
    by_cases hm0 : m = 0
    ·subst hm0
     go_wp2_with fail
     obtain ⟨pre, hmi, _⟩ := HBa.out.inv.mi
     obtain ⟨hne, hcl, _⟩ := HBa.out.cur
     refine (merge_calls HRSa.out HRepa.out i hmi (HJ.out gr) HXa.out (by have := HBa.out.len; omega) (by have := HBa.out.views; omega) (by omega) (by have := HBa.out.up; omega) HLim.out.2.2).mono ?_
     rintro e w4 ⟨rfl, g4, hrs4, hrep4, _, _⟩
     have hfin4 : s'.merge red i = play red st ps (l.map dd) := by rw [← HFin.out, ← HMM.out.1]; rfl
     rw [hfin4] at hrep4
     have hB4 : Bd i (play red st ps (l.map dd)) L' := by rw [← hfin4]; exact HBa.out.merge i
     obtain ⟨s4, hs4⟩ : ∃ s4, play red st ps (l.map dd) = s4 := ⟨_, rfl⟩
     rw [hs4] at hrep4 hB4
     have HS4 := Aside0.mk hs4
     have hvl : 0 < s4.views.length := by have := hB4.cur.2.2.1; omega
     obtain ⟨vb, vc, A1, c1, hvo, y0, _, hRl⟩ := hrs4.view_R 0 (by rw [hrep4.views_len]; exact hvl)
     rw [hrep4.view hvl] at y0 hRl
     obtain ⟨y, hy⟩ : ∃ y, s4.views.getD 0 [] = y := ⟨_, rfl⟩
     rw [hy] at y0 hRl
     have HY := Aside0.mk hy
     replace y0 : w4.cell? ⟨vb, 0, none⟩ = some (.slice A1 y.length c1) := y0
     rw [show (vS F y).f0 = y from rfl] at hRl
     have hRy : (Kd.int .i64).R 2 w4 w.heap.size (fun _ => True) (.slice A1 y.length c1) y := Kd.R_mono hRl (fun _ _ => trivial)
     obtain ⟨vn, hvn⟩ : ∃ vn, s4.views.length = vn := ⟨_, rfl⟩
     have HVN := Aside0.mk hvn
     have hvo2 : g4.vo = (some ⟨vb, 0, none⟩, vn, vc) := by rw [hvo, hrep4.views_len, hvn]
     have x2 : w4.cell? ⟨gr, 2, none⟩ = some (.slice (some ⟨vb, 0, none⟩) vn vc) := by rw [hrs4.cell.2.2.1, hvo2]; rfl
     have vn1 : ((0 : Int) < (vn : Int)) = True := eq_true (by omega)
     have vn3 : (vn : Int) ≤ 100000 := by have := hB4.views; omega
     have vn2 : (0 < vn) = True := eq_true (by omega)
     have hf7 := blk_frozen hrs4.bp 7
     have hx7 := blk_cell hrs4.bp 7
     have hx7' : w4.cell? ⟨gr, 7, none⟩ = some (slv g4.fo) := hx7
     have hrs5 := hrs4.num 7 (.slice A1 y.length c1) { g4 with fo := (A1, y.length, c1) } rfl ⟨hrs4.rw.v, hrs4.rw.t, hrs4.rw.m, hrs4.rw.l⟩ ⟨rfl, rfl⟩
     have hx8 : (w4.setCell ⟨gr, 7, none⟩ (.slice A1 y.length c1)).cell? ⟨gr, 8, none⟩ = some (.int .i64 g4.md) := blk_cell hrs5.bp 8
     have hx2b : (w4.setCell ⟨gr, 7, none⟩ (.slice A1 y.length c1)).cell? ⟨gr, 2, none⟩ = some (.slice (some ⟨vb, 0, none⟩) vn vc) := by rw [hrs5.cell.2.2.1]; show some (slv g4.vo) = _; rw [hvo2]; rfl
     have hf8 := blk_frozen hrs5.bp 8
     have hrs6 := hrs5.num 8 (.int .i64 (vn : Int)) { g4 with fo := (A1, y.length, c1), md := (vn : Int) } rfl ⟨hrs5.rw.v, hrs5.rw.t, hrs5.rw.m, hrs5.rw.l⟩ ⟨rfl, rfl⟩
     have hRy6 := R_only (R_only hRy (by intro q hq; simp [Kd.int, Kd.scalar] at hq; omega) (Only.set (i := 7) (u := .slice A1 y.length c1) hrs4.bp)) (by intro q hq; simp [Kd.int, Kd.scalar] at hq; omega) (Only.set (i := 8) (u := .int .i64 (vn : Int)) hrs5.bp)
     have HEnd := Aside0.mk (And.intro hrs6 (And.intro hRy6 (show RepR F op un ps s4 { g4 with fo := (A1, y.length, c1), md := (vn : Int) } from ⟨hrep4.op, hrep4.un, hrep4.pl, hrep4.vs, hrep4.ls, hrep4.ts, hrep4.ps, hrep4.nx, hrep4.ms⟩)))
     clear hrs4 hrs5 hrs6 hRy hRy6 hRl hvo hvo2 hrep4 hB4 hmi hne hcl hfin4 hs4 hx7 x3 hvl hy
     go_upto_region 13 with fail
     clear y0 x2 hx7' hf7
     generalize w4.setCell ⟨gr, 7, none⟩ (.slice A1 y.length c1) = w5 at hx8 hx2b hf8 HEnd ⊢
     go_wp2
     go_ret
     refine ⟨gr, _, rfl, HEnd.out.1, ?_, ?_, ?_⟩
     ·rw [HS4.out]; exact HEnd.out.2.2
     ·rw [HS4.out]; show (vn : Int) = _; rw [← HVN.out]
     ·rw [HS4.out, HY.out]; exact HEnd.out.2.1
    ·have d1 : decide (1 < m + 1) = true := decide_eq_true (by omega)
     have d2 : decide ((1 : Int) < (m : Int) + 1) = true := decide_eq_true (by omega)
     go_wp2_with fail
     obtain ⟨pre, hmi, _⟩ := HBa.out.inv.mi
     obtain ⟨hne, hcl, _⟩ := HBa.out.cur
     refine (merge_calls HRSa.out HRepa.out i hmi (HJ.out gr) HXa.out (by have := HBa.out.len; omega) (by have := HBa.out.views; omega) (by omega) (by have := HBa.out.up; omega) HLim.out.2.2).mono ?_
     rintro e w4 ⟨rfl, g3, hrs3, hrep3, _, _⟩
     have HB3 := Aside0.mk (HBa.out.merge i)
     obtain ⟨cx, hcx⟩ : ∃ x, (s'.merge red i).cur = [x] := by
      obtain ⟨_, x, _, h, _⟩ := HBa.out.inv.merge i
      exact ⟨x, h⟩
     have hfin3 : ∀ k, m = k + 1 → finish red i k (s'.merge red i).leave = play red st ps (l.map dd) := fun k e => by
      rw [← HFin.out, ← HMM.out.1, e]; rfl
     obtain ⟨s3, hs3⟩ : ∃ s3, s'.merge red i = s3 := ⟨_, rfl⟩
     have hup3 : s3.up = s'.up := by rw [← hs3]; rfl
     rw [hs3] at hcx hrep3 HB3 hfin3
     obtain ⟨r, up, hupe⟩ : ∃ r up, s3.up = r :: up := by
      cases hu : s3.up with
      | nil => rw [hup3] at hu; have := HMM.out.1; rw [hu] at this; exact absurd this hm0
      | cons r up => exact ⟨r, up, rfl⟩
     have HBL := Aside0.mk (HB3.out.leave hcx hupe)
     obtain ⟨tl, sp1, hts, htl1, htl2⟩ := hrep3.last
     obtain ⟨k, hk⟩ : ∃ k, tl.length = k := ⟨_, rfl⟩
     have hkm : k = m := by rw [← hk, htl2, hup3, ← HMM.out.1]
     have hul : up.length + 1 = k := by rw [hkm, HMM.out.1, ← hup3, hupe]; rfl
     have HFin3 := Aside0.mk (hfin3 up.length (by omega))
     have HKL := Aside0.mk (show k ≤ 100000 by omega)
     obtain ⟨tb, tc, A1, c1, htk, yk, _, _, hRl⟩ := hrs3.task_R k (by rw [hts, List.length_append, hk]; simp)
     have htk2 : g3.tk = (some ⟨tb, 0, none⟩, k + 1, tc) := by rw [htk, hts, List.length_append, hk]; rfl
     have HTK := Aside0.mk htk2
     have hkc : k + 1 ≤ tc := by
      have h := (R_header hrs3.rw.t).2.1
      rw [hts, List.length_append, hk, htk2] at h
      exact h
     have HC10 := Aside0.mk (show w4.cell? ⟨gr, 3, none⟩ = some (.slice (some ⟨tb, 0, none⟩) (k + 1) tc) by rw [hrs3.cell.2.2.2.1, htk2]; rfl)
     have HRS4 := Aside0.mk hrs3
     have HRep3 := Aside0.mk hrep3
     have HQ3 := Aside0.mk (And.intro hts (And.intro htl1 hk))
     have HQU := Aside0.mk (And.intro hupe (And.intro hul hkm))
     have hk2 : (k : Int) ≤ 100000 := by have := HKL.out; omega
     obtain ⟨i0, hi0, hz1⟩ : ∃ i, Tryd.prog.info? 96 = some i ∧ i.size = 2 := by
      have h := infoTask
      cases e : Tryd.prog.info? 96 with
      | none => rw [e] at h; cases h
      | some i => rw [e] at h; injection h with h; injection h with _ h; injection h with h _; exact ⟨i, rfl, h⟩
     have hsl1 := cut_to (P := Tryd.prog) 68 96 .i64 Tryd.underlying68 hi0 (some ⟨tb, 0, none⟩) (k + 1) tc (k : Int) (by omega) (by omega) hkc
     rw [Int.toNat_natCast] at hsl1
     clear hrs3 hrep3 hmi hne hcl hs3 hup3 hupe hts htl1 htl2 hk htk hRl yk htk2 hkc hi0 hz1 hfin3 hcx hkm hul x3
     go_upto_region 10 with fail
     refine start_ (n := 13) (S := (fun w' => w'.cell? ⟨gr, 3, none⟩ = some (.slice (some ⟨tb, 0, none⟩) (k + 1) tc))) (ds := [12]) (lb 13 0) (by kernel_rfl) rfl rfl HC10.out (fun hHeld => ?_); refine with_tabW R32_tab R32_bits (fun HT_ HW_ => ?_)
     have HBe := Aside0.mk (show Below w4.heap.size w4 w4.drew from Drawn0.below ⟨⟨1, rfl⟩⟩)
     generalize w4.drew = w5 at HBe hHeld ⊢
     have HRS5 := Aside0.mk (HRS4.out.below HBe.out)
     refine pS 0 57 1 13 HT_.out ?_
     refine pS 2 59 5 13 HT_.out ?_
     refine pS 3 60 13 13 HT_.out ?_
     refine pS 4 61 29 13 HT_.out ?_
     refine tS 5 62 61 13 HT_.out HW_.out hHeld ?_
     refine pS 6 63 125 13 HT_.out ?_
     refine takeC_ (i := 7) (N := some 64) (v := .int .i64 (k : Int)) (a' := ?_) (lb 13 253) rfl rfl (take_ofW HT_.out HW_.out (by kernel_rfl)) (fun _ _ _ h => h) Tryd.func51 (by kernel_rfl) rfl #[.pointer (some ⟨gr, 0, none⟩)] (by rfl) rfl (by (try simp only [List.map_toArray, List.map_cons, List.map_nil]); first | done | rfl) hHeld (fun w' h => last_at w' gr (some ⟨tb, 0, none⟩) k tc h HKL.out) ?_ ?_
     rotate_left
     ·simp only [Act.put, sI, sZ, sC, i64_w, i32_w]
      rfl
     refine pS 8 65 509 13 HT_.out ?_
     refine one_ (i := 1) (N := some 58) (lb 13 511) rfl rfl (one_of HT_.out (by kernel_rfl)) (by decide) (fun K hK => ?_)
     refine value_ (w1 := ?_) (v := ?_) (by rfl) rfl ?_ ?_
     rotate_left 2
     ·go_simp
      constructor
      ·rfl
      ·rfl
     refine hK.out _ _ ((Below.cell (p := ⟨gr, 3, none⟩) (below_alloc (Below.refl _ _) _) (blk_lt HRS5.out.bp)).trans hHeld) (fun hHeld => ?_)
     clear hK K
     refine norm_ (a' := ?_) ?_ ?_
     rotate_left
     ·show Act.put _ (some 58) _ = _
      simp only [Act.put, sI, sZ, sC, i64_w, i32_w]
      rfl
     refine one_ (i := 9) (N := some 66) (lb 13 1023) rfl rfl (one_of HT_.out (by kernel_rfl)) (by decide) (fun K hK => ?_)
     refine Kd.R_append_rows_step k96 (w0 := w) w.heap.size (by rfl) (.tmp 58) (.tmp 65) 68 96 (.agg #[.int .i64 0, .slice none 0 0]) 32 rfl Tryd.underlying68 infoTask rfl (by decide) (by omega) (.slice (some ⟨w5.heap.size, 0, none⟩) 0 0) [] tl _ _ _ (fun _ => True) (fun q => q < w5.heap.size) rfl rfl ?aO ?aR (fun _ _ h => h) (fun q h => ⟨trivial, fun e => by simp [Value.ownBlock] at e; omega⟩) ?aF ?aB ?aS ?aL ?_
     (case aO => exact Kd.R_lower (R_lit0 _ _ _) HRS5.out.hb.size)
     (case aR => exact (by have h := HRS5.out.rw.t; rw [show slv g3.tk = .slice (some ⟨tb, 0, none⟩) (k + 1) tc by rw [HTK.out]; rfl] at h; have h2 := reads_take (R_readsM z96 (Kd.R_alloc (Kd.R_bound h) (.cells #[] 96))) k (by omega); rw [HQ3.out.1, List.take_left' HQ3.out.2.2] at h2; exact ReadsRow.weaken h2 (fun x cs hm => k96.M_mono (fun q hq => hq.1.2.2.1) hm)))
     (case aF => exact fun _ _ => trivial)
     (case aB => exact below_alloc HRS5.out.hb _)
     (case aS => exact by have := HRS5.out.hb.size; simp; omega)
     (case aL => have := HKL.out; simp only [List.length_nil]; omega)
     intro v6 w6 ho hb hg hat
     obtain ⟨A6, c6, rfl, _, _⟩ := Kd.R_reads ho
     have HG := Aside0.mk (And.intro (show k96.R 96 w6 w.heap.size (fun _ => True) (.slice A6 tl.length c6) tl from ho) (And.intro hb hg))
     clear ho hb hg hat
     have hon6 : Only 96 w5 w6 := (Only.below (below_alloc (Below.refl _ _) _)).trans (Only.grown HG.out.2.2 (fun q e => by injection e with e; subst e; exact ⟨_, heap_alloc_new _ _⟩))
     have hbp6 := hon6 gr _ _ HRS5.out.bp (by decide)
     refine hK.out _ _ ((blk_cell hbp6 3).trans (by show some (slv g3.tk) = _; rw [HTK.out]; rfl)) (fun hHeld => ?_)
     clear hK K
     refine norm_ (a' := ?_) ?_ ?_
     rotate_left
     ·show Act.put _ (some 66) _ = _
      simp only [Act.put, sI, sZ, sC, i64_w, i32_w]
      rfl
     rw [List.nil_append]
     refine pS 10 67 2047 13 HT_.out ?_
     refine pS 11 68 4095 13 HT_.out ?_
     have hfz := blk_frozen hbp6 3
     have hfx : w6.cell? ⟨gr, 3, none⟩ = some (.slice (some ⟨tb, 0, none⟩) (k + 1) tc) := (blk_cell hbp6 3).trans (by show some (slv g3.tk) = _; rw [HTK.out]; rfl)
     refine last_ (i := 12) (N := none) (lb 13 8191) rfl rfl (one_of HT_.out (by kernel_rfl)) (by decide) (fun K hK => ?_)
     refine skip_ (w1 := ?_) (by rfl) rfl ?_ ?_
     rotate_left
     ·go_simp
      rfl
     refine hK.out _ _ ?_
     clear hK K
     refine done_ (done_of HT_.out (by kernel_rfl)) ?_
     clear HT_ HW_ hHeld

     clear hsl1
     have hv := HRS5.out.put (T := 96) (by decide) hon6 HG.out.2.1 3 (.slice A6 tl.length c6) { g3 with tk := (A6, tl.length, c6), ts := tl } rfl (HRS5.out.rw.tasks (t1 := (A6, tl.length, c6)) hon6 HG.out.1) ⟨rfl, rfl⟩
     have HRE := Aside0.mk (show RE w (w6.setCell ⟨gr, 3, none⟩ (.slice A6 tl.length c6)) gr F op un ps s3.leave from by
      refine ⟨_, hv, ⟨HRep3.out.op, HRep3.out.un, HRep3.out.pl, HRep3.out.vs, HRep3.out.ls, ?_, HRep3.out.ps, HRep3.out.nx, HRep3.out.ms⟩⟩
      show tl.map (fun t : S96 => t.f1) = s3.up.tail.reverse.map ints ++ [ints (s3.up.headD [])]
      rw [HQ3.out.2.1, HQU.out.1]
      simp)
     clear hv hfz hfx hon6 hbp6 HG
     generalize w6.setCell ⟨gr, 3, none⟩ (.slice A6 tl.length c6) = w7 at HRE ⊢
     have HE := Aside0.mk (show ∃ s' L', s'.up.length = up.length ∧ RE w w7 gr F op un ps s' ∧ Bd i s' L' ∧ (∀ y, y ∈ L' → X y) ∧ finish red i s'.up.length s' = play red st ps (l.map dd) from by
      have e : s3.leave.up.length = up.length := by show s3.up.tail.length = _; rw [HQU.out.1]; rfl
      exact ⟨s3.leave, L', e, HRE.out, HBL.out, HXa.out, by rw [e]; exact HFin3.out⟩)
     clear HRE
     go_wp2
     go_roundg up.length
     case measure => have := HMM.out; have := HQU.out; omega
     case rel => exact HE
end Go.Proofs.YtamfkglnejhjdaaDoor.Ref
