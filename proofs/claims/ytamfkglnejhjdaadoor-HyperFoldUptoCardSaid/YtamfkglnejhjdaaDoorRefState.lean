/- The document's run in memory: its object, its rows: how each step moves them. -/
import Derived.Test.YtamfkglnejhjdaaDoorPHyperFoldx0
import Derived.Test.YtamfkglnejhjdaaDoorPlayPure
namespace Go.Proofs.YtamfkglnejhjdaaDoor.Ref
open Go.RowKit Go.Proofs.YtamfkglnejhjdaaDoorW.PrintWords Go.Proofs.YtamfkglnejhjdaaDoorW.PrintLast Go.Proofs.YtamfkglnejhjdaaDoorW.PrintMore Go.Proofs.YtamfkglnejhjdaaDoor.PHyperFold
set_option linter.unusedVariables false
set_option linter.unusedSimpArgs false

def Only (T : Nat) (w w1 : World) : Prop := ∀ (k : Nat) (cs : Array Value) (t : Nat), w.heap[k]? = some (Obj.cells cs t (0, 0)) → t ≠ T → w1.heap[k]? = some (Obj.cells cs t (0, 0))
theorem Only.refl (T : Nat) (w : World) : Only T w w := fun _ _ _ h _ => h
theorem Only.trans {T : Nat} {a b c : World} (h : Only T a b) (k : Only T b c) : Only T a c := fun _ _ _ h1 h2 => k _ _ _ (h _ _ _ h1 h2) h2
theorem Only.below {T : Nat} {w w1 : World} (h : Below w.heap.size w w1) : Only T w w1 := fun _ _ _ h1 _ => blk_below h1 h
theorem Only.grown {T : Nat} {w w1 : World} {row : Option Nat} (hg : w.grownBy w1 row) (hty : ∀ b, row = some b → ∃ cells, w.heap[b]? = some (.cells cells T (0, 0))) : Only T w w1 := fun k cs t h1 h2 => by
  refine (hg.block k (blk_lt h1) (fun e => ?_)).trans h1
  obtain ⟨cells, h3⟩ := hty k e.symm
  rw [h1] at h3
  injection h3 with h3
  injection h3 with _ h3
  exact h2 h3
theorem Only.set {w : World} {T b i : Nat} {u : Value} {cells : Array Value} (h : w.heap[b]? = some (.cells cells T (0, 0))) : Only T w (w.setCell ⟨b, i, none⟩ u) := fun k cs t h1 h2 => by
  refine (Below.heap_setCell w ⟨b, i, none⟩ u k (fun e => ?_)).trans h1
  subst e
  rw [h] at h1
  injection h1 with h1
  injection h1 with _ h1
  exact h2 h1.symm
theorem R_only {α : Type} {d : Kd α} {e base T : Nat} {ok : Nat → Prop} {w w1 : World} {v : Value} {xs : List α} (h : d.R e w base ok v xs) (hT : ∀ q, q ∈ e :: d.E → q ≠ T) (ho : Only T w w1) : d.R e w1 base ok v xs :=
  Kd.R_mono (Kd.R_step (Kd.R_bound h) (fun k hk _ => by
    obtain ⟨_, _, _, q, hq, cells, hc⟩ := hk
    rw [hc]
    exact ho k cells q hc (hT q hq))) (fun _ hk => hk.1)
theorem typed_of {α : Type} {d : Kd α} {e base : Nat} {ok : Nat → Prop} {w : World} {v : Value} {xs : List α} (h : d.R e w base ok v xs) : ∀ b, v.ownBlock = some b → ∃ cells, w.heap[b]? = some (.cells cells e (0, 0)) := Kd.R_typed h

abbrev Sl := Option Addr × Nat × Nat
def slv (t : Sl) : Value := .slice t.1 t.2.1 t.2.2
abbrev kL : Kd (List Int) := Kd.slice 2 (Kd.int .i64)
structure Gr where
  op : Int
  un : Int
  vo : Sl
  tk : Sl
  po : Sl
  nx : Nat
  sn : Nat
  fo : Sl
  md : Int
  mo : Sl
  lo : Sl
  vs : List S66
  ts : List S96
  ps : List Int
  ms : List S103
  ls : List (List Int)
def cells (g : Gr) : Array Value := #[.int .i64 g.op, .int .i64 g.un, slv g.vo, slv g.tk, slv g.po, .int .i64 g.nx, .int .i64 g.sn, slv g.fo, .int .i64 g.md, slv g.mo, slv g.lo]
structure Rows (w : World) (base : Nat) (g : Gr) : Prop where
  v : k66.R 66 w base (fun _ => True) (slv g.vo) g.vs
  t : k96.R 96 w base (fun _ => True) (slv g.tk) g.ts
  m : k103.R 103 w base (fun _ => True) (slv g.mo) g.ms
  l : kL.R 36 w base (fun _ => True) (slv g.lo) g.ls
structure RS (w0 w : World) (gr : Nat) (g : Gr) : Prop where
  hb : Below w0.heap.size w0 w
  bp : w.heap[gr]? = some (.cells (cells g) 70 (0, 0))
  ge : w0.heap.size ≤ gr
  rw : Rows w w0.heap.size g
  pk : (Kd.int .i64).C w0 g.po.1 g.ps.length g.ps ∧ g.po.2.1 = g.ps.length ∧ g.ps.length ≤ g.po.2.2
theorem E_v : ∀ q, q ∈ (66 : Nat) :: k66.E → q = 66 ∨ q = 2 := fun q hq => by simpa [k66, Kd.iso, Kd.pair, Kd.slice, Kd.int, Kd.scalar] using hq
theorem E_t : ∀ q, q ∈ (96 : Nat) :: k96.E → q = 96 ∨ q = 3 := fun q hq => by simpa [k96, Kd.iso, Kd.pair, Kd.slice, Kd.int, Kd.scalar] using hq
theorem E_m : ∀ q, q ∈ (103 : Nat) :: k103.E → q = 103 := fun q hq => by simpa [k103, Kd.iso, Kd.pair, Kd.slice, Kd.int, Kd.scalar] using hq
theorem E_l : ∀ q, q ∈ (36 : Nat) :: kL.E → q = 36 ∨ q = 2 := fun q hq => by simpa [kL, Kd.iso, Kd.pair, Kd.slice, Kd.int, Kd.scalar] using hq
section
variable {w0 w w1 : World} {gr base T : Nat} {g g2 : Gr}
theorem v_only (h : k66.R 66 w base (fun _ => True) (slv g.vo) g.vs) (hT : T ≠ 66 ∧ T ≠ 2) (ho : Only T w w1) : k66.R 66 w1 base (fun _ => True) (slv g.vo) g.vs := R_only h (fun q hq => by rcases E_v q hq with rfl | rfl <;> first | exact hT.1.symm | exact hT.2.symm) ho
theorem t_only (h : k96.R 96 w base (fun _ => True) (slv g.tk) g.ts) (hT : T ≠ 96 ∧ T ≠ 3) (ho : Only T w w1) : k96.R 96 w1 base (fun _ => True) (slv g.tk) g.ts := R_only h (fun q hq => by rcases E_t q hq with rfl | rfl <;> first | exact hT.1.symm | exact hT.2.symm) ho
theorem m_only (h : k103.R 103 w base (fun _ => True) (slv g.mo) g.ms) (hT : T ≠ 103) (ho : Only T w w1) : k103.R 103 w1 base (fun _ => True) (slv g.mo) g.ms := R_only h (fun q hq => by rw [E_m q hq]; exact hT.symm) ho
theorem l_only (h : kL.R 36 w base (fun _ => True) (slv g.lo) g.ls) (hT : T ≠ 36 ∧ T ≠ 2) (ho : Only T w w1) : kL.R 36 w1 base (fun _ => True) (slv g.lo) g.ls := R_only h (fun q hq => by rcases E_l q hq with rfl | rfl <;> first | exact hT.1.symm | exact hT.2.symm) ho
theorem Rows.run (h : Rows w base g) (ho : Only 70 w w1) : Rows w1 base g := ⟨v_only h.v (by decide) ho, t_only h.t (by decide) ho, m_only h.m (by decide) ho, l_only h.l (by decide) ho⟩
theorem Rows.below (h : Rows w base g) (hb : Below w.heap.size w w1) : Rows w1 base g := h.run (Only.below hb)
theorem RS.below (h : RS w0 w gr g) (hb : Below w.heap.size w w1) : RS w0 w1 gr g := ⟨below_step h.hb hb, blk_below h.bp hb, h.ge, h.rw.below hb, h.pk⟩
/-- A header, or a number, is written into the run's object, its rows having been moved. -/
theorem RS.put (h : RS w0 w gr g) (hT : 70 ≠ T) (ho : Only T w w1) (hb : Below w0.heap.size w0 w1) (i : Nat) (u : Value) (g2 : Gr) (hc : (cells g).setIfInBounds i u = cells g2) (hr : Rows w1 w0.heap.size g2) (hp : g2.po = g.po ∧ g2.ps = g.ps) : RS w0 (w1.setCell ⟨gr, i, none⟩ u) gr g2 := by
  have bp1 := ho gr _ _ h.bp hT
  exact ⟨hb.setCell (p := ⟨gr, i, none⟩) h.ge _, blk_put bp1 i u hc, h.ge, hr.run (Only.set bp1), by rw [hp.1, hp.2]; exact h.pk⟩
/-- The same where nothing else is written. -/
theorem RS.num (h : RS w0 w gr g) (i : Nat) (u : Value) (g2 : Gr) (hc : (cells g).setIfInBounds i u = cells g2) (hr : Rows w w0.heap.size g2) (hp : g2.po = g.po ∧ g2.ps = g.ps) : RS w0 (w.setCell ⟨gr, i, none⟩ u) gr g2 :=
  h.put (T := 0) (by decide) (Only.refl 0 w) h.hb i u g2 hc hr hp
/-- A row has been written where it lies. -/
theorem RS.stay (h : RS w0 w gr g) (hT : 70 ≠ T) (ho : Only T w w1) (hb : Below w0.heap.size w0 w1) (g2 : Gr) (hc : cells g = cells g2) (hr : Rows w1 w0.heap.size g2) (hp : g2.po = g.po ∧ g2.ps = g.ps) : RS w0 w1 gr g2 :=
  ⟨hb, by rw [← hc]; exact ho gr _ _ h.bp hT, h.ge, hr, by rw [hp.1, hp.2]; exact h.pk⟩
theorem Rows.views (h : Rows w base g) (ho : Only 66 w w1) {t1 : Sl} {vs : List S66} (hv : k66.R 66 w1 base (fun _ => True) (slv t1) vs) : Rows w1 base { g with vo := t1, vs := vs } := ⟨hv, t_only h.t (by decide) ho, m_only h.m (by decide) ho, l_only h.l (by decide) ho⟩
theorem Rows.tasks (h : Rows w base g) (ho : Only 96 w w1) {t1 : Sl} {ts : List S96} (hv : k96.R 96 w1 base (fun _ => True) (slv t1) ts) : Rows w1 base { g with tk := t1, ts := ts } := ⟨v_only h.v (by decide) ho, hv, m_only h.m (by decide) ho, l_only h.l (by decide) ho⟩
theorem Rows.merges (h : Rows w base g) (ho : Only 103 w w1) {t1 : Sl} {ms : List S103} (hv : k103.R 103 w1 base (fun _ => True) (slv t1) ms) : Rows w1 base { g with mo := t1, ms := ms } := ⟨v_only h.v (by decide) ho, t_only h.t (by decide) ho, hv, l_only h.l (by decide) ho⟩
theorem Rows.looks (h : Rows w base g) (ho : Only 36 w w1) {t1 : Sl} {ls : List (List Int)} (hv : kL.R 36 w1 base (fun _ => True) (slv t1) ls) : Rows w1 base { g with lo := t1, ls := ls } := ⟨v_only h.v (by decide) ho, t_only h.t (by decide) ho, m_only h.m (by decide) ho, hv⟩
theorem RS.cell (h : RS w0 w gr g) : w.cell? ⟨gr, 0, none⟩ = some (.int .i64 g.op) ∧ w.cell? ⟨gr, 1, none⟩ = some (.int .i64 g.un) ∧ w.cell? ⟨gr, 2, none⟩ = some (slv g.vo) ∧ w.cell? ⟨gr, 3, none⟩ = some (slv g.tk) ∧ w.cell? ⟨gr, 4, none⟩ = some (slv g.po) ∧
    w.cell? ⟨gr, 5, none⟩ = some (.int .i64 g.nx) ∧ w.cell? ⟨gr, 6, none⟩ = some (.int .i64 g.sn) ∧ w.cell? ⟨gr, 9, none⟩ = some (slv g.mo) ∧ w.cell? ⟨gr, 10, none⟩ = some (slv g.lo) :=
  ⟨(blk_cell h.bp 0).trans rfl, (blk_cell h.bp 1).trans rfl, (blk_cell h.bp 2).trans rfl, (blk_cell h.bp 3).trans rfl, (blk_cell h.bp 4).trans rfl, (blk_cell h.bp 5).trans rfl, (blk_cell h.bp 6).trans rfl, (blk_cell h.bp 9).trans rfl, (blk_cell h.bp 10).trans rfl⟩
/-- The headers, as the rows have them. -/
theorem R_header {α : Type} {d : Kd α} {e : Nat} {ok : Nat → Prop} {t : Sl} {xs : List α} (h : d.R e w base ok (slv t) xs) : t.2.1 = xs.length ∧ xs.length ≤ t.2.2 ∧ d.C w t.1 xs.length xs := by
  obtain ⟨A, c, e1, h1, h2⟩ := Kd.R_reads h
  obtain ⟨a, b, d'⟩ := t
  injection e1 with e1 e2 e3
  subst e1 e2 e3
  exact ⟨rfl, h1, h2⟩
/-- A row that is not empty begins at the head of a block. -/
theorem R_head {α : Type} {d : Kd α} {e : Nat} {ok : Nat → Prop} {t : Sl} {xs : List α} (h : d.R e w base ok (slv t) xs) (hx : 0 < xs.length) : ∃ b, t.1 = some ⟨b, 0, none⟩ ∧ base ≤ b ∧ b < w.heap.size ∧ ∃ cells, w.heap[b]? = some (.cells cells e (0, 0)) := by
  obtain ⟨b, c, e1, _, _, _, _⟩ := Kd.R_form h hx
  obtain ⟨a, n, d'⟩ := t
  injection e1 with e1 e2 e3
  subst e1
  obtain ⟨cells, hc⟩ := Kd.R_typed h b rfl
  exact ⟨b, rfl, Kd.R_base h b rfl, blk_lt hc, cells, hc⟩
end
end Go.Proofs.YtamfkglnejhjdaaDoor.Ref
