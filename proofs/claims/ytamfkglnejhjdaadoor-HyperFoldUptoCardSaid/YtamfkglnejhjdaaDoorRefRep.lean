/- The document's run in memory stands for a play as plain Lean tells it. -/
import Derived.Test.YtamfkglnejhjdaaDoorRefMade
import Derived.Test.YtamfkglnejhjdaaDoorPlayB
namespace Go.Proofs.YtamfkglnejhjdaaDoor.Ref
open Go.RowKit Go.Proofs.YtamfkglnejhjdaaDoorW.PrintWords Go.Proofs.YtamfkglnejhjdaaDoorW.PrintLast Go.Proofs.YtamfkglnejhjdaaDoorW.PrintMore Go.Proofs.YtamfkglnejhjdaaDoor.PHyperFold
set_option linter.unusedVariables false
set_option linter.unusedSimpArgs false

open Go.Proofs.YtamfkglnejhjdaaDoor.Play
open Go.Proofs.YtamfkglnejhjdaaDoor.PlayState (ints ints_length ints_getD ints_erase mstep mstep_len mstep_merge merge_done)
section
variable {w0 w w1 : World} {gr base T : Nat} {g g2 : Gr}
/-- A task, with what is known of its row's block. -/
theorem RS.task_R (h : RS w0 w gr g) (k : Nat) (hk : k < g.ts.length) : ∃ b c A1 c1, g.tk = (some ⟨b, 0, none⟩, g.ts.length, c) ∧ w.cell? ⟨b, k * 2, none⟩ = some (.int .i64 (g.ts.getD k z96).f0) ∧
    w.cell? ⟨b, k * 2 + 1, none⟩ = some (.slice A1 (g.ts.getD k z96).f1.length c1) ∧ w.frozen? ⟨b, k * 2 + 1, none⟩ = false ∧ (Kd.int .i64).R 3 w w0.heap.size (fun q => q ≠ b) (.slice A1 (g.ts.getD k z96).f1.length c1) (g.ts.getD k z96).f1 := by
  obtain ⟨e1, e2, e3⟩ := R_header h.rw.t
  obtain ⟨b, e4, _, _, cells, hc⟩ := R_head h.rw.t (by omega)
  have hs : g.tk = (some ⟨b, 0, none⟩, g.ts.length, g.tk.2.2) := by rw [← e4, ← e1]
  have hR := h.rw.t
  rw [show slv g.tk = .slice (some ⟨b, 0, none⟩) g.ts.length g.tk.2.2 from by show Value.slice g.tk.1 g.tk.2.1 g.tk.2.2 = _; rw [e4, e1]] at hR
  obtain ⟨c, hcl, hM, hcc, _⟩ := Kd.R_elem hR z96 (k : Int) (by omega) (by omega)
  rw [Int.toNat_natCast] at hM
  simp only [Int.toNat_natCast] at hcc
  obtain ⟨v1, rfl, hr⟩ := k96_openM hM
  obtain ⟨A1, c1, rfl, _, _⟩ := Kd.R_reads hr
  exact ⟨b, g.tk.2.2, A1, c1, hs, hcc 0 _ rfl, hcc 1 _ rfl, blk_frozen hc _, Kd.R_mono hr (fun q hq => hq.2)⟩
theorem RS.view_R (h : RS w0 w gr g) (k : Nat) (hk : k < g.vs.length) : ∃ b c A1 c1, g.vo = (some ⟨b, 0, none⟩, g.vs.length, c) ∧ w.cell? ⟨b, k * 2, none⟩ = some (.slice A1 (g.vs.getD k z66).f0.length c1) ∧
    w.cell? ⟨b, k * 2 + 1, none⟩ = some (.int .i64 (g.vs.getD k z66).f1) ∧ (Kd.int .i64).R 2 w w0.heap.size (fun q => q ≠ b) (.slice A1 (g.vs.getD k z66).f0.length c1) (g.vs.getD k z66).f0 := by
  obtain ⟨e1, e2, e3⟩ := R_header h.rw.v
  obtain ⟨b, e4, _, _, cells, hc⟩ := R_head h.rw.v (by omega)
  have hs : g.vo = (some ⟨b, 0, none⟩, g.vs.length, g.vo.2.2) := by rw [← e4, ← e1]
  have hR := h.rw.v
  rw [show slv g.vo = .slice (some ⟨b, 0, none⟩) g.vs.length g.vo.2.2 from by show Value.slice g.vo.1 g.vo.2.1 g.vo.2.2 = _; rw [e4, e1]] at hR
  obtain ⟨c, hcl, hM, hcc, _⟩ := Kd.R_elem hR z66 (k : Int) (by omega) (by omega)
  rw [Int.toNat_natCast] at hM
  simp only [Int.toNat_natCast] at hcc
  obtain ⟨v0, rfl, hr⟩ := k66_openM hM
  obtain ⟨A1, c1, rfl, _, _⟩ := Kd.R_reads hr
  exact ⟨b, g.vo.2.2, A1, c1, hs, hcc 0 _ rfl, hcc 1 _ rfl, Kd.R_mono hr (fun q hq => hq.2)⟩
end
/-- A literal row of nothing. -/
theorem R_lit0 {α : Type} (d : Kd α) (e : Nat) (W : World) : d.R e (W.alloc (.cells #[] e)) W.heap.size (fun _ => True) (.slice (some ⟨W.heap.size, 0, none⟩) 0 0) [] := by
  refine ⟨fun _ _ => trivial, [], ?_, Reps.none _ _⟩
  have h2 := World.ownsRow_lit (base := W.heap.size) (e := e) (size := d.sz) W #[] 0 (Nat.le_refl _) (by simp [maxLen]) (by simp)
  simpa using h2
def mS (m : Mg) : S103 := ⟨m.1, m.2.1, m.2.2⟩
def vS (F : List Int → Int) (l : List Int) : S66 := ⟨l, F l⟩
structure RepR (F : List Int → Int) (op un : Int) (ps : List Int) (s : St (List Int)) (g : Gr) : Prop where
  op : g.op = op
  un : g.un = un
  pl : g.ps = ps
  vs : g.vs = s.views.map (vS F)
  ls : g.ls = s.looks
  ts : g.ts.map (fun t : S96 => t.f1) = s.up.reverse.map ints ++ [ints s.cur]
  ps : g.ps.drop g.nx = s.picks
  nx : g.nx ≤ g.ps.length
  ms : g.ms = s.merges.map mS
section
variable {F : List Int → Int} {op un : Int} {ps : List Int} {s : St (List Int)} {g : Gr}
theorem RepR.views_len (h : RepR F op un ps s g) : g.vs.length = s.views.length := by rw [h.vs, List.length_map]
theorem RepR.tasks_len (h : RepR F op un ps s g) : g.ts.length = s.up.length + 1 := by
  have := congrArg List.length h.ts
  simpa using this
theorem RepR.view (h : RepR F op un ps s g) {i : Nat} (hi : i < s.views.length) : g.vs.getD i z66 = vS F (s.views.getD i []) := by
  rw [h.vs]; simp [List.getD_eq_getElem?_getD, hi]
/-- The last task. -/
theorem RepR.last (h : RepR F op un ps s g) : ∃ (tl : List S96) (sp : Int), g.ts = tl ++ [⟨sp, ints s.cur⟩] ∧ tl.map (fun t : S96 => t.f1) = s.up.reverse.map ints ∧ tl.length = s.up.length := by
  have hl := h.tasks_len
  have hne : g.ts ≠ [] := fun e => by rw [e] at hl; simp at hl
  have e := h.ts
  rw [← List.dropLast_concat_getLast hne, List.map_append] at e
  have e2 := List.append_inj' e rfl
  have e3 : (g.ts.getLast hne).f1 = ints s.cur := by simpa using e2.2
  refine ⟨g.ts.dropLast, (g.ts.getLast hne).f0, ?_, e2.1, by rw [List.length_dropLast]; omega⟩
  rw [← e3]
  exact (List.dropLast_concat_getLast hne).symm
end
/-- What holds at the head of a merge's round: s0 as the merge began, s as it stands. -/
structure RM (w0 w : World) (gr : Nat) (F : List Int → Int) (op un : Int) (ps : List Int) (t : Nat) (pre : List Nat) (L : List Int) (s0 s : St (List Int)) (g : Gr) (tl : List S96) (sp : Int) (sn : Nat) (V M : Nat) : Prop where
  rs : RS w0 w gr g
  rep : RepR F op un ps s g
  ts : g.ts = tl ++ [⟨sp, ints s.cur⟩]
  sn : g.sn = sn
  mi : MI pre s.cur s.views L
  go : s.merge red t = s0.merge red t
  hV : s.views.length ≤ V
  hM : s.merges.length + s.cur.length ≤ M
theorem picked_drop (g : Gr) : (picked g).ps.drop (picked g).nx = (g.ps.drop g.nx).tail := by
  unfold picked
  by_cases h : g.nx < g.ps.length
  · simp only [if_pos h]
    rw [List.tail_drop]
  · simp only [if_neg h]
    rw [List.drop_eq_nil_of_le (by omega)]
    rfl
theorem picked_le (g : Gr) (h : g.nx ≤ g.ps.length) : (picked g).nx ≤ (picked g).ps.length := by
  unfold picked
  by_cases h : g.nx < g.ps.length
  · simp only [if_pos h]; omega
  · simp only [if_neg h]; assumption
/-- A round of a merge, told in the run's numbers. -/
theorem RM.step {w0 w wn : World} {gr : Nat} {F : List Int → Int} {op un : Int} {ps : List Int} {t : Nat} {pre : List Nat} {L : List Int} {s0 s : St (List Int)} {g : Gr} {tl : List S96} {sp : Int} {sn V M : Nat} (h : RM w0 w gr F op un ps t pre L s0 s g tl sp sn V M)
    {n j xa xb : Nat} {ya yb : List Int} (hn : s.cur.length = n) (h1n : 1 < n) (hj : j = pickOf s.picks (n - 1)) (hxa : xa = s.cur.getD j 0) (hxb : xb = s.cur.getD (j + 1) 0) (hya : ya = s.views.getD xa []) (hyb : yb = s.views.getD xb []) (hjl : j + 1 < n) {vo tk mo : Sl}
    (hps : RS w0 wn gr { picked g with vo := vo, vs := g.vs.set xa (vS F (ya ++ yb)), tk := tk, ts := tl ++ [⟨sp, (ints s.cur).eraseIdx (j + 1)⟩], mo := mo, ms := g.ms ++ [⟨(t : Int), (xa : Int), (xb : Int)⟩] }) :
    RM w0 wn gr F op un ps t pre L s0 (mstep t s) { picked g with vo := vo, vs := g.vs.set xa (vS F (ya ++ yb)), tk := tk, ts := tl ++ [⟨sp, (ints s.cur).eraseIdx (j + 1)⟩], mo := mo, ms := g.ms ++ [⟨(t : Int), (xa : Int), (xb : Int)⟩] } tl sp sn V M := by
  have e1 : (mstep t s).cur = s.cur.eraseIdx (j + 1) := by show s.cur.eraseIdx _ = _; rw [hn, ← hj]
  have e2 : (mstep t s).views = s.views.set xa (red.join (s.views.getD xa red.fresh) (s.views.getD xb red.fresh)) := by show s.views.set _ _ = _; rw [hn, ← hj, ← hxa, ← hxb]
  have e3 : (mstep t s).merges = s.merges ++ [(t, xa, xb)] := by show s.merges ++ _ = _; rw [hn, ← hj, ← hxa, ← hxb]
  have hr := h.rep.ts
  rw [h.ts, List.map_append] at hr
  have hr2 := (List.append_inj' hr rfl).1
  refine ⟨hps, ⟨h.rep.op, h.rep.un, h.rep.pl, ?_, h.rep.ls, ?_, ?_, picked_le g h.rep.nx, ?_⟩, ?_, h.sn, ?_, ?_, ?_, ?_⟩
  · show g.vs.set xa (vS F (ya ++ yb)) = _
    rw [e2, List.map_set, h.rep.vs, hya, hyb]
    rfl
  · show (tl ++ [(⟨sp, (ints s.cur).eraseIdx (j + 1)⟩ : S96)]).map (fun t : S96 => t.f1) = _
    rw [List.map_append, hr2, e1, ints_erase]
    rfl
  · show (picked g).ps.drop (picked g).nx = s.picks.tail
    rw [picked_drop, h.rep.ps]
  · show g.ms ++ _ = _
    rw [e3, h.rep.ms, List.map_append]
    rfl
  · rw [e1, ints_erase]
  · rw [e1, e2, hxa, hxb]
    exact h.mi.step (by omega)
  · rw [mstep_merge t s (by omega)]
    exact h.go
  · rw [e2, List.length_set]
    exact h.hV
  · have := h.hM
    rw [e1, e3, List.length_append, List.length_eraseIdx_of_lt (by omega)]
    simp only [List.length_singleton]
    omega
end Go.Proofs.YtamfkglnejhjdaaDoor.Ref
